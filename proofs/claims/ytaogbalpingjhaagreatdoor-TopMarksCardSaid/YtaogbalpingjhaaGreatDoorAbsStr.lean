
/- Functions of two texts that are met by a contract of the kit's shelf: TrimRight, ContainsAny.
   Conditions: none; generic over the program. -/
import Derived.Test.YtaogbalpingjhaaGreatDoorAbsT
import Derived.Shelf.Strings.SlTrimAscii
import Derived.Shelf.Strings.IndexAnyAll
import Derived.Lib.MapU
set_option linter.unusedSimpArgs false
set_option linter.unusedVariables false
namespace Go.Abs
open Go.RowKit
variable {P:Program}
def I1 (l:aa):Bool:=l.all λb=>Nat.blt b.toNat 128
theorem yC {l:aa} (h:I1 l=true):∀(j:Nat) b,l[j]?=some b->b.toNat<128:=
 λ_ b a=>aD ((bL.1 h) b (fY a))
def KY (f:Nat) (ok:aa->aa->Bool) (g:aa->aa->V):Ent:=⟨f,λ_ args _ _ k=>match args with
 | [.s l,.s c]=>cond (ok l c) (k { val:=g l c }) none
 | _=>none⟩
theorem CZ {f:Nat} {ok:aa->aa->Bool} {g:aa->aa->V} (a:jc P f)
  (h:∀(s c:ByteArray) (w:World),ok s.data.toList c.data.toList=true->Calls P f #[.string s,.string c] w λe w'=>∃x,e=.returned x/\(∀ι,VR ι (g s.data.toList c.data.toList) x)/\Below w.heap.size w w'):dT P (KY f ok g):=by
 intro α args H fr k z b;simp only [KY] at b;split at b
 case h_2=>cases b
 rename_i l c;obtain ⟨m,n⟩:=dh b;refine ⟨_,n,λq _=>.inl ⟨a,eU λι nb w i r _ hx=>?_⟩⟩;simp only [VRs,VR] at hx;obtain ⟨_,_,p,rfl,_,_,rfl,rfl,rfl⟩:=hx;have:i=#[.string ⟨l.toArray⟩,.string ⟨c.toArray⟩]:=by apply jv;simpa using p
 subst this;refine (h ⟨l.toArray⟩ ⟨c.toArray⟩ w (by simpa using m)).mono λe w' ⟨x,d,o,j⟩=>⟨x,d,by simpa using o ι,j⟩
def vc (l c:aa):Bool:=Nat.ble l.length 9223372036854775807&&(Nat.ble c.length 4294967280&&I1 c)
def uk (l c:aa):Bool:=Nat.ble l.length 4294967280&&(Nat.ble c.length 4294967280&&(I1 l&&I1 c))
def Ns (f:Nat):Ent:=KY f vc λl c=>.s (Lib.trimRightS l c)
def Ny (f:Nat):Ent:=KY f uk λl c=>.b (Lib.containsAny l c)
theorem Hv {f:Nat} (hent:jc P f) (h:∀(s c:ByteArray) (w:World) (_:s.size<=9223372036854775807) (_:c.size<4294967281) (_:∀(j:Nat) b,c.data.toList[j]?=some b->b.toNat<128),
    Calls P f #[.string s,.string c] w λe w'=>e=.returned (.string ⟨(Lib.trimRightS s.data.toList c.data.toList).toArray⟩)/\Below w.heap.size w w'):dT P (Ns f):=
  CZ hent λs c w hk=>by
    simp only [vc,az] at hk;obtain ⟨h1,h2,h3⟩:=hk;have h1:=aD h1;have h2:=aD h2
    exact (h s c w (by simpa using h1) (by have:c.size<=4294967280:=by simpa using h2
                                           omega) (yC h3)).mono λe w' ⟨q1,q2⟩=>⟨_,q1,λι=>by simp [VR],q2⟩
theorem Ho {f:Nat} (a:jc P f) (h:∀(s c:ByteArray) (w:World) (_:s.size<4294967281) (_:c.size<4294967281) (_:∀(j:Nat) b,s.data.toList[j]?=some b->b.toNat<128) (_:∀(j:Nat) b,c.data.toList[j]?=some b->b.toNat<128),
  Calls P f #[.string s,.string c] w λe w'=>e=.returned (.bool (Lib.containsAny s.data.toList c.data.toList))/\Below w.heap.size w w'):dT P (Ny f):=
 CZ a λs c w i=>by
  simp only [uk,az] at i;obtain ⟨d,g,m,l⟩:=i;have d:s.size<=4294967280:=by simpa using Nat.le_of_ble_eq_true d
  have g:c.size<=4294967280:=by simpa using Nat.le_of_ble_eq_true g
  exact (h s c w (by omega) (by omega) (yC m) (yC l)).mono λe w' ⟨k,n⟩=>⟨_,k,λι=>by simp [VR],n⟩
def mM (r:Int):Int:=cond (decide (48<=r)&&decide (r<=57)) 100 r
def yY (l:aa):Bool:=Nat.ble l.length 1000000
def wT (l:aa):aa:=Lib.mapD mM l
def GV (f:Nat):Ent:=⟨f,λ_ args _ _ k=>match args with
 | [.s l]=>cond (yY l) (k { val:=.s (wT l) }) none
 | _=>none⟩
theorem Hu {f:Nat} (a:jc P f) (h:∀(s:ByteArray) (w:World),s.size<=1000000->GL fP w->
  Calls P f #[.string s] w λe w'=>e=.returned (.string ⟨(wT s.data.toList).toArray⟩)/\Below w.heap.size w w'):dT P (GV f):=by
 intro α args H fr k z c;simp only [GV] at c;split at c
 case h_2=>cases c
 rename_i l;obtain ⟨b,i⟩:=dh c;refine ⟨_,i,λo _=>.inl ⟨a,eU λι nb w g p j hx=>?_⟩⟩;simp only [VRs,VR] at hx;obtain ⟨_,_,n,rfl,rfl⟩:=hx;have:g=#[.string ⟨l.toArray⟩]:=by apply jv;simpa using n
 subst this;have b:l.length<=1000000:=by unfold yY at b;exact aD b
 exact (h ⟨l.toArray⟩ w (by show l.toArray.size<=_;simpa using b) j).mono λe w' ⟨d,m⟩=>⟨_,d,by simp [VR],m⟩
end Go.Abs
