
import Derived.Test.YtjkmipianfkncaaGreatDoorAbsT
import Derived.Shelf.Strings.SlTrimAscii
import Derived.Shelf.Strings.IndexAnyAll
import Derived.Lib.MapU
set_option linter.unusedSimpArgs false
set_option linter.unusedVariables false
set_option linter.defProp false
namespace Go.Abs
open Go.RowKit
variable {P:Program}
def Ks(l:aa):Bool:=l.all λb=>Nat.blt b.toNat 128
def zy{l:aa}(h:Ks l=true):∀(j:Nat) b,l[j]?=some b->b.toNat<128:=
 λ_ b a=>aG ((cq.1 h) b (fE a))
def Nq(f:Nat)(ok:aa->aa->Bool)(g:aa->aa->V):Ent:=⟨f,λ_ args _ _ k=>match args with
 | [.s l,.s c]=>cond (ok l c) (k { val:=g l c }) none
 | _=>none⟩
def Ft{f:Nat}{ok:aa->aa->Bool}{g:aa->aa->V}(a:lR P f)
  (h:∀(s c:ByteArray) (w:World),ok s.data.toList c.data.toList=true->Calls P f #[.string s,.string c] w λe w'=>∃x,e=.returned x/\(∀ι,VR ι (g s.data.toList c.data.toList) x)/\Below w.heap.size w w'):fK P (Nq f ok g):=by
 intro α args H fr k z b;simp only[Nq]at b;split at b
 case h_2=>cases b
 rename_i l c;obtain⟨o,d⟩:=eH b;refine⟨_,d,λq _=>.inl ⟨a,lx λι nb w p r _ hx=>?_⟩⟩;simp only[VRs,VR]at hx;obtain⟨_,_,m,rfl,_,_,rfl,rfl,rfl⟩:=hx;have:p=#[.string ⟨l.toArray⟩,.string ⟨c.toArray⟩]:=by apply mg;simpa using m
 subst this;refine(h ⟨l.toArray⟩ ⟨c.toArray⟩ w (by simpa using o)).mono λe w' ⟨x,i,j,n⟩=>⟨x,i,by simpa using j ι,n⟩
def vu(l c:aa):Bool:=Nat.ble l.length 9223372036854775807&&(Nat.ble c.length 4294967280&&Ks c)
def xm(l c:aa):Bool:=Nat.ble l.length 4294967280&&(Nat.ble c.length 4294967280&&(Ks l&&Ks c))
def OZ(f:Nat):Ent:=Nq f vu λl c=>.s (Lib.trimRightS l c)
def O5(f:Nat):Ent:=Nq f xm λl c=>.b (Lib.containsAny l c)
def ID {f:Nat} (hent:lR P f) (h:∀(s c:ByteArray) (w:World) (_:s.size<=9223372036854775807) (_:c.size<4294967281) (_:∀(j:Nat) b,c.data.toList[j]?=some b->b.toNat<128),
    Calls P f #[.string s,.string c] w λe w'=>e=.returned (.string ⟨(Lib.trimRightS s.data.toList c.data.toList).toArray⟩)/\Below w.heap.size w w'):fK P (OZ f):=
  Ft hent λs c w hk=>by
    simp only [vu,aB] at hk;obtain ⟨h1,h2,h3⟩:=hk;have h1:=aG h1;have h2:=aG h2
    exact (h s c w (by simpa using h1) (by have:c.size<=4294967280:=by simpa using h2
                                           omega) (zy h3)).mono λe w' ⟨q1,q2⟩=>⟨_,q1,λι=>by simp [VR],q2⟩
def IZ{f:Nat}(a:lR P f)(h:∀(s c:ByteArray) (w:World) (_:s.size<4294967281) (_:c.size<4294967281) (_:∀(j:Nat) b,s.data.toList[j]?=some b->b.toNat<128) (_:∀(j:Nat) b,c.data.toList[j]?=some b->b.toNat<128),
  Calls P f #[.string s,.string c] w λe w'=>e=.returned (.bool (Lib.containsAny s.data.toList c.data.toList))/\Below w.heap.size w w'):fK P (O5 f):=
 Ft a λs c w g=>by
  simp only[xm,aB]at g;obtain⟨i,d,n,m⟩:=g;have i:s.size<=4294967280:=by simpa using Nat.le_of_ble_eq_true i
  have d:c.size<=4294967280:=by simpa using Nat.le_of_ble_eq_true d
  exact(h s c w (by omega) (by omega) (zy n) (zy m)).mono λe w' ⟨k,l⟩=>⟨_,k,λι=>by simp[VR],l⟩
def nS(r:Int):Int:=cond (decide (48<=r)&&decide (r<=57)) 100 r
def zL(l:aa):Bool:=Nat.ble l.length 1000000
def yq(l:aa):aa:=Lib.mapD nS l
def Kx(f:Nat):Ent:=⟨f,λ_ args _ _ k=>match args with
 | [.s l]=>cond (zL l) (k { val:=.s (yq l) }) none
 | _=>none⟩
def Jo{f:Nat}(a:lR P f)(h:∀(s:ByteArray) (w:World),s.size<=1000000->GL jo w->
  Calls P f #[.string s] w λe w'=>e=.returned (.string ⟨(yq s.data.toList).toArray⟩)/\Below w.heap.size w w'):fK P (Kx f):=by
 intro α args H fr k z b;simp only[Kx]at b;split at b
 case h_2=>cases b
 rename_i l;obtain⟨c,d⟩:=eH b;refine⟨_,d,λo _=>.inl ⟨a,lx λι nb w n p j hx=>?_⟩⟩;simp only[VRs,VR]at hx;obtain⟨_,_,m,rfl,rfl⟩:=hx;have:n=#[.string ⟨l.toArray⟩]:=by apply mg;simpa using m
 subst this;have c:l.length<=1000000:=by unfold zL at c;exact aG c
 exact(h ⟨l.toArray⟩ w (by show l.toArray.size<=_;simpa using c) j).mono λe w' ⟨g,i⟩=>⟨_,g,by simp[VR],i⟩
end Go.Abs
