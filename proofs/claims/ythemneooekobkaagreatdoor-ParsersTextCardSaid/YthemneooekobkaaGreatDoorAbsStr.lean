
/- Functions of two texts that are met by a contract of the kit's shelf: TrimRight, ContainsAny.
   Conditions: none; generic over the program. -/
import Derived.Test.YthemneooekobkaaGreatDoorAbsT
import Derived.Shelf.Strings.SlTrimAscii
import Derived.Shelf.Strings.IndexAnyAll
import Derived.Lib.MapU
set_option linter.unusedSimpArgs false
set_option linter.unusedVariables false
namespace Go.Abs
open Go.RowKit
variable {P:Program}
def Nh (l:aa):Bool:=l.all λb=>Nat.blt b.toNat 128
theorem Bo {l:aa} (h:Nh l=true):∀(j:Nat) b,l[j]?=some b->b.toNat<128:=
 λ_ b a=>aN ((bW.1 h) b (eW a))
def Qh (f:Nat) (ok:aa->aa->Bool) (g:aa->aa->V):Ent:=⟨f,λ_ args _ _ k=>match args with
 | [.s l,.s c]=>cond (ok l c) (k { val:=g l c }) none
 | _=>none⟩
theorem IR {f:Nat} {ok:aa->aa->Bool} {g:aa->aa->V} (a:me P f)
  (h:∀(s c:ByteArray) (w:World),ok s.data.toList c.data.toList=true->Calls P f #[.string s,.string c] w λe w'=>∃x,e=.returned x/\(∀ι,VR ι (g s.data.toList c.data.toList) x)/\Below w.heap.size w w'):ge P (Qh f ok g):=by
 intro α args H fr k z b;simp only [Qh] at b;split at b
 case h_2=>cases b
 rename_i l c;obtain ⟨j,i⟩:=fb b;refine ⟨_,i,λr _=>.inl ⟨a,mH λι nb w m q _ hx=>?_⟩⟩;simp only [VRs,VR] at hx;obtain ⟨_,_,p,rfl,_,_,rfl,rfl,rfl⟩:=hx;have:m=#[.string ⟨l.toArray⟩,.string ⟨c.toArray⟩]:=by apply m6;simpa using p
 subst this;refine (h ⟨l.toArray⟩ ⟨c.toArray⟩ w (by simpa using j)).mono λe w' ⟨x,n,d,o⟩=>⟨x,n,by simpa using d ι,o⟩
def yN (l c:aa):Bool:=Nat.ble l.length 9223372036854775807&&(Nat.ble c.length 4294967280&&Nh c)
def xC (l c:aa):Bool:=Nat.ble l.length 4294967280&&(Nat.ble c.length 4294967280&&(Nh l&&Nh c))
def RF (f:Nat):Ent:=Qh f yN λl c=>.s (Lib.trimRightS l c)
def RZ (f:Nat):Ent:=Qh f xC λl c=>.b (Lib.containsAny l c)
theorem K9 {f:Nat} (hent:me P f) (h:∀(s c:ByteArray) (w:World) (_:s.size<=9223372036854775807) (_:c.size<4294967281) (_:∀(j:Nat) b,c.data.toList[j]?=some b->b.toNat<128),
    Calls P f #[.string s,.string c] w λe w'=>e=.returned (.string ⟨(Lib.trimRightS s.data.toList c.data.toList).toArray⟩)/\Below w.heap.size w w'):ge P (RF f):=
  IR hent λs c w hk=>by
    simp only [yN,aD] at hk;obtain ⟨h1,h2,h3⟩:=hk;have h1:=aN h1;have h2:=aN h2
    exact (h s c w (by simpa using h1) (by have:c.size<=4294967280:=by simpa using h2
                                           omega) (Bo h3)).mono λe w' ⟨q1,q2⟩=>⟨_,q1,λι=>by simp [VR],q2⟩
theorem La {f:Nat} (a:me P f) (h:∀(s c:ByteArray) (w:World) (_:s.size<4294967281) (_:c.size<4294967281) (_:∀(j:Nat) b,s.data.toList[j]?=some b->b.toNat<128) (_:∀(j:Nat) b,c.data.toList[j]?=some b->b.toNat<128),
  Calls P f #[.string s,.string c] w λe w'=>e=.returned (.bool (Lib.containsAny s.data.toList c.data.toList))/\Below w.heap.size w w'):ge P (RZ f):=
 IR a λs c w i=>by
  simp only [xC,aD] at i;obtain ⟨g,d,l,m⟩:=i;have g:s.size<=4294967280:=by simpa using Nat.le_of_ble_eq_true g
  have d:c.size<=4294967280:=by simpa using Nat.le_of_ble_eq_true d
  exact (h s c w (by omega) (by omega) (Bo l) (Bo m)).mono λe w' ⟨n,k⟩=>⟨_,n,λι=>by simp [VR],k⟩
def pB (r:Int):Int:=cond (decide (48<=r)&&decide (r<=57)) 100 r
def A7 (l:aa):Bool:=Nat.ble l.length 1000000
def zu (l:aa):aa:=Lib.mapD pB l
def Lj (f:Nat):Ent:=⟨f,λ_ args _ _ k=>match args with
 | [.s l]=>cond (A7 l) (k { val:=.s (zu l) }) none
 | _=>none⟩
theorem Kp {f:Nat} (a:me P f) (h:∀(s:ByteArray) (w:World),s.size<=1000000->GL jI w->
  Calls P f #[.string s] w λe w'=>e=.returned (.string ⟨(zu s.data.toList).toArray⟩)/\Below w.heap.size w w'):ge P (Lj f):=by
 intro α args H fr k z c;simp only [Lj] at c;split at c
 case h_2=>cases c
 rename_i l;obtain ⟨b,g⟩:=fb c;refine ⟨_,g,λp _=>.inl ⟨a,mH λι nb w j o i hx=>?_⟩⟩;simp only [VRs,VR] at hx;obtain ⟨_,_,n,rfl,rfl⟩:=hx;have:j=#[.string ⟨l.toArray⟩]:=by apply m6;simpa using n
 subst this;have b:l.length<=1000000:=by unfold A7 at b;exact aN b
 exact (h ⟨l.toArray⟩ w (by show l.toArray.size<=_;simpa using b) i).mono λe w' ⟨m,d⟩=>⟨_,m,by simp [VR],d⟩
end Go.Abs
