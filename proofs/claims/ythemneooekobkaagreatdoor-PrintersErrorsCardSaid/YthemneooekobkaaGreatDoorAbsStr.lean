
/- Functions of two texts that are met by a contract of the kit's shelf: TrimRight, ContainsAny.
   Conditions: none; generic over the program. -/
import Derived.Test.YthemneooekobkaaGreatDoorAbsT
import Derived.Shelf.Strings.SlTrimAscii
import Derived.Shelf.Strings.IndexAnyAll
import Derived.Lib.MapU
set_option linter.unusedSimpArgs false
set_option linter.unusedVariables false
namespace Go.Abs
open Go.RowKit
variable {P:Program}
def Me (l:aa):Bool:=l.all λb=>Nat.blt b.toNat 128
theorem zf {l:aa} (h:Me l=true):∀(j:Nat) b,l[j]?=some b->b.toNat<128:=
 λ_ b a=>aD ((cr.1 h) b (dT a))
def L8 (f:Nat) (ok:aa->aa->Bool) (g:aa->aa->V):Ent:=⟨f,λ_ args _ _ k=>match args with
 | [.s l,.s c]=>cond (ok l c) (k { val:=g l c }) none
 | _=>none⟩
theorem C9 {f:Nat} {ok:aa->aa->Bool} {g:aa->aa->V} (a:jD P f)
  (h:∀(s c:ByteArray) (w:World),ok s.data.toList c.data.toList=true->Calls P f #[.string s,.string c] w λe w'=>∃x,e=.returned x/\(∀ι,VR ι (g s.data.toList c.data.toList) x)/\Below w.heap.size w w'):ek P (L8 f ok g):=by
 intro α args H fr k z b;simp only [L8] at b;split at b
 case h_2=>cases b
 rename_i l c;obtain ⟨o,i⟩:=dk b;refine ⟨_,i,λq _=>.inl ⟨a,eS λι nb w j r _ hx=>?_⟩⟩;simp only [VRs,VR] at hx;obtain ⟨_,_,n,rfl,_,_,rfl,rfl,rfl⟩:=hx;have:j=#[.string ⟨l.toArray⟩,.string ⟨c.toArray⟩]:=by apply jZ;simpa using n
 subst this;refine (h ⟨l.toArray⟩ ⟨c.toArray⟩ w (by simpa using o)).mono λe w' ⟨x,m,p,d⟩=>⟨x,m,by simpa using p ι,d⟩
def BL (l c:aa):Bool:=Nat.ble l.length 9223372036854775807&&(Nat.ble c.length 4294967280&&Me c)
def A6 (l c:aa):Bool:=Nat.ble l.length 4294967280&&(Nat.ble c.length 4294967280&&(Me l&&Me c))
def MJ (f:Nat):Ent:=L8 f BL λl c=>.s (Lib.trimRightS l c)
def Nc (f:Nat):Ent:=L8 f A6 λl c=>.b (Lib.containsAny l c)
theorem Hg {f:Nat} (hent:jD P f) (h:∀(s c:ByteArray) (w:World) (_:s.size<=9223372036854775807) (_:c.size<4294967281) (_:∀(j:Nat) b,c.data.toList[j]?=some b->b.toNat<128),
    Calls P f #[.string s,.string c] w λe w'=>e=.returned (.string ⟨(Lib.trimRightS s.data.toList c.data.toList).toArray⟩)/\Below w.heap.size w w'):ek P (MJ f):=
  C9 hent λs c w hk=>by
    simp only [BL,ay] at hk;obtain ⟨h1,h2,h3⟩:=hk;have h1:=aD h1;have h2:=aD h2
    exact (h s c w (by simpa using h1) (by have:c.size<=4294967280:=by simpa using h2
                                           omega) (zf h3)).mono λe w' ⟨q1,q2⟩=>⟨_,q1,λι=>by simp [VR],q2⟩
theorem Hv {f:Nat} (a:jD P f) (h:∀(s c:ByteArray) (w:World) (_:s.size<4294967281) (_:c.size<4294967281) (_:∀(j:Nat) b,s.data.toList[j]?=some b->b.toNat<128) (_:∀(j:Nat) b,c.data.toList[j]?=some b->b.toNat<128),
  Calls P f #[.string s,.string c] w λe w'=>e=.returned (.bool (Lib.containsAny s.data.toList c.data.toList))/\Below w.heap.size w w'):ek P (Nc f):=
 C9 a λs c w i=>by
  simp only [A6,ay] at i;obtain ⟨g,d,k,m⟩:=i;have g:s.size<=4294967280:=by simpa using Nat.le_of_ble_eq_true g
  have d:c.size<=4294967280:=by simpa using Nat.le_of_ble_eq_true d
  exact (h s c w (by omega) (by omega) (zf k) (zf m)).mono λe w' ⟨l,n⟩=>⟨_,l,λι=>by simp [VR],n⟩
def tf (r:Int):Int:=cond (decide (48<=r)&&decide (r<=57)) 100 r
def B6 (l:aa):Bool:=Nat.ble l.length 1000000
def zC (l:aa):aa:=Lib.mapD tf l
def IS (f:Nat):Ent:=⟨f,λ_ args _ _ k=>match args with
 | [.s l]=>cond (B6 l) (k { val:=.s (zC l) }) none
 | _=>none⟩
theorem JR {f:Nat} (a:jD P f) (h:∀(s:ByteArray) (w:World),s.size<=1000000->GL fm w->
  Calls P f #[.string s] w λe w'=>e=.returned (.string ⟨(zC s.data.toList).toArray⟩)/\Below w.heap.size w w'):ek P (IS f):=by
 intro α args H fr k z b;simp only [IS] at b;split at b
 case h_2=>cases b
 rename_i l;obtain ⟨c,d⟩:=dk b;refine ⟨_,d,λo _=>.inl ⟨a,eS λι nb w i p g hx=>?_⟩⟩;simp only [VRs,VR] at hx;obtain ⟨_,_,m,rfl,rfl⟩:=hx;have:i=#[.string ⟨l.toArray⟩]:=by apply jZ;simpa using m
 subst this;have c:l.length<=1000000:=by unfold B6 at c;exact aD c
 exact (h ⟨l.toArray⟩ w (by show l.toArray.size<=_;simpa using c) g).mono λe w' ⟨j,n⟩=>⟨_,j,by simp [VR],n⟩
end Go.Abs
