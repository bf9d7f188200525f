
import Derived.Test.YtibehcmomiplnabGreatDoorAbsT
import Derived.Shelf.Strings.SlTrimAscii
import Derived.Shelf.Strings.IndexAnyAll
import Derived.Lib.MapU
set_option linter.unusedSimpArgs false
set_option linter.unusedVariables false
set_option linter.defProp false
namespace Go.Abs
open Go.RowKit
variable {P:Program}
def QH(l:aa):Bool:=l.all λb=>Nat.blt b.toNat 128
def DZ{l:aa}(h:QH l=true):∀(j:Nat) b,l[j]?=some b->b.toNat<128:=
 λ_ b a=>aR ((cb.1 h) b (fR a))
def S8(f:Nat)(ok:aa->aa->Bool)(g:aa->aa->V):Ent:=⟨f,λ_ args _ _ k=>match args with
 | [.s l,.s c]=>cond (ok l c) (k { val:=g l c }) none
 | _=>none⟩
def JH{f:Nat}{ok:aa->aa->Bool}{g:aa->aa->V}(a:mA P f)
  (h:∀(s c:ByteArray) (w:World),ok s.data.toList c.data.toList=true->Calls P f #[.string s,.string c] w λe w'=>∃x,e=.returned x/\(∀ι,VR ι (g s.data.toList c.data.toList) x)/\Below w.heap.size w w'):gV P (S8 f ok g):=by
 intro α args H fr k z b;simp only[S8]at b;split at b
 case h_2=>cases b
 rename_i l c;obtain⟨d,p⟩:=eV b;refine⟨_,p,λq _=>.inl ⟨a,ib λι nb w n r _ hx=>?_⟩⟩;simp only[VRs,VR]at hx;obtain⟨_,_,o,rfl,_,_,rfl,rfl,rfl⟩:=hx;have:n=#[.string ⟨l.toArray⟩,.string ⟨c.toArray⟩]:=by apply mO;simpa using o
 subst this;refine(h ⟨l.toArray⟩ ⟨c.toArray⟩ w (by simpa using d)).mono λe w' ⟨x,i,j,m⟩=>⟨x,i,by simpa using j ι,m⟩
def Ai(l c:aa):Bool:=Nat.ble l.length 9223372036854775807&&(Nat.ble c.length 4294967280&&QH c)
def zW(l c:aa):Bool:=Nat.ble l.length 4294967280&&(Nat.ble c.length 4294967280&&(QH l&&QH c))
def VB(f:Nat):Ent:=S8 f Ai λl c=>.s (Lib.trimRightS l c)
def Vq(f:Nat):Ent:=S8 f zW λl c=>.b (Lib.containsAny l c)
def QQ {f:Nat} (hent:mA P f) (h:∀(s c:ByteArray) (w:World) (_:s.size<=9223372036854775807) (_:c.size<4294967281) (_:∀(j:Nat) b,c.data.toList[j]?=some b->b.toNat<128),
    Calls P f #[.string s,.string c] w λe w'=>e=.returned (.string ⟨(Lib.trimRightS s.data.toList c.data.toList).toArray⟩)/\Below w.heap.size w w'):gV P (VB f):=
  JH hent λs c w hk=>by
    simp only [Ai,aD] at hk;obtain ⟨h1,h2,h3⟩:=hk;have h1:=aR h1;have h2:=aR h2
    exact (h s c w (by simpa using h1) (by have:c.size<=4294967280:=by simpa using h2
                                           omega) (DZ h3)).mono λe w' ⟨q1,q2⟩=>⟨_,q1,λι=>by simp [VR],q2⟩
def Rr{f:Nat}(a:mA P f)(h:∀(s c:ByteArray) (w:World) (_:s.size<4294967281) (_:c.size<4294967281) (_:∀(j:Nat) b,s.data.toList[j]?=some b->b.toNat<128) (_:∀(j:Nat) b,c.data.toList[j]?=some b->b.toNat<128),
  Calls P f #[.string s,.string c] w λe w'=>e=.returned (.bool (Lib.containsAny s.data.toList c.data.toList))/\Below w.heap.size w w'):gV P (Vq f):=
 JH a λs c w i=>by
  simp only[zW,aD]at i;obtain⟨d,g,m,k⟩:=i;have d:s.size<=4294967280:=by simpa using Nat.le_of_ble_eq_true d
  have g:c.size<=4294967280:=by simpa using Nat.le_of_ble_eq_true g
  exact(h s c w (by omega) (by omega) (DZ m) (DZ k)).mono λe w' ⟨l,n⟩=>⟨_,l,λι=>by simp[VR],n⟩
def rD(r:Int):Int:=cond (decide (48<=r)&&decide (r<=57)) 100 r
def D6(l:aa):Bool:=Nat.ble l.length 1000000
def BM(l:aa):aa:=Lib.mapD rD l
def QY(f:Nat):Ent:=⟨f,λ_ args _ _ k=>match args with
 | [.s l]=>cond (D6 l) (k { val:=.s (BM l) }) none
 | _=>none⟩
def QF{f:Nat}(a:mA P f)(h:∀(s:ByteArray) (w:World),s.size<=1000000->GL iI w->
  Calls P f #[.string s] w λe w'=>e=.returned (.string ⟨(BM s.data.toList).toArray⟩)/\Below w.heap.size w w'):gV P (QY f):=by
 intro α args H fr k z b;simp only[QY]at b;split at b
 case h_2=>cases b
 rename_i l;obtain⟨c,n⟩:=eV b;refine⟨_,n,λo _=>.inl ⟨a,ib λι nb w j p g hx=>?_⟩⟩;simp only[VRs,VR]at hx;obtain⟨_,_,m,rfl,rfl⟩:=hx;have:j=#[.string ⟨l.toArray⟩]:=by apply mO;simpa using m
 subst this;have c:l.length<=1000000:=by unfold D6 at c;exact aR c
 exact(h ⟨l.toArray⟩ w (by show l.toArray.size<=_;simpa using c) g).mono λe w' ⟨d,i⟩=>⟨_,d,by simp[VR],i⟩
end Go.Abs
