
import Derived.Test.YtjkmipianfkncaaGreatDoorAbsT
import Derived.Shelf.Strings.SlTrimAscii
import Derived.Shelf.Strings.IndexAnyAll
import Derived.Lib.MapU
set_option linter.unusedSimpArgs false
set_option linter.unusedVariables false
set_option linter.defProp false
namespace Go.Abs
open Go.RowKit
variable {P:Program}
def LI(l:aa):Bool:=l.all λb=>Nat.blt b.toNat 128
def Bn{l:aa}(h:LI l=true):∀(j:Nat) b,l[j]?=some b->b.toNat<128:=
 λ_ b a=>aH ((cE.1 h) b (fG a))
def ON(f:Nat)(ok:aa->aa->Bool)(g:aa->aa->V):Ent:=⟨f,λ_ args _ _ k=>match args with
 | [.s l,.s c]=>cond (ok l c) (k { val:=g l c }) none
 | _=>none⟩
def GY{f:Nat}{ok:aa->aa->Bool}{g:aa->aa->V}(a:l9 P f)
  (h:∀(s c:ByteArray) (w:World),ok s.data.toList c.data.toList=true->Calls P f #[.string s,.string c] w λe w'=>∃x,e=.returned x/\(∀ι,VR ι (g s.data.toList c.data.toList) x)/\Below w.heap.size w w'):gg P (ON f ok g):=by
 intro α args H fr k z b;simp only[ON]at b;split at b
 case h_2=>cases b
 rename_i l c;obtain⟨j,o⟩:=eZ b;refine⟨_,o,λq _=>.inl ⟨a,mg λι nb w i r _ hx=>?_⟩⟩;simp only[VRs,VR]at hx;obtain⟨_,_,d,rfl,_,_,rfl,rfl,rfl⟩:=hx;have:i=#[.string ⟨l.toArray⟩,.string ⟨c.toArray⟩]:=by apply mS;simpa using d
 subst this;refine(h ⟨l.toArray⟩ ⟨c.toArray⟩ w (by simpa using j)).mono λe w' ⟨x,p,n,m⟩=>⟨x,p,by simpa using n ι,m⟩
def wg(l c:aa):Bool:=Nat.ble l.length 9223372036854775807&&(Nat.ble c.length 4294967280&&LI c)
def wl(l c:aa):Bool:=Nat.ble l.length 4294967280&&(Nat.ble c.length 4294967280&&(LI l&&LI c))
def Qm(f:Nat):Ent:=ON f wg λl c=>.s (Lib.trimRightS l c)
def P2(f:Nat):Ent:=ON f wl λl c=>.b (Lib.containsAny l c)
def JV {f:Nat} (hent:l9 P f) (h:∀(s c:ByteArray) (w:World) (_:s.size<=9223372036854775807) (_:c.size<4294967281) (_:∀(j:Nat) b,c.data.toList[j]?=some b->b.toNat<128),
    Calls P f #[.string s,.string c] w λe w'=>e=.returned (.string ⟨(Lib.trimRightS s.data.toList c.data.toList).toArray⟩)/\Below w.heap.size w w'):gg P (Qm f):=
  GY hent λs c w hk=>by
    simp only [wg,aC] at hk;obtain ⟨h1,h2,h3⟩:=hk;have h1:=aH h1;have h2:=aH h2
    exact (h s c w (by simpa using h1) (by have:c.size<=4294967280:=by simpa using h2
                                           omega) (Bn h3)).mono λe w' ⟨q1,q2⟩=>⟨_,q1,λι=>by simp [VR],q2⟩
def LG{f:Nat}(a:l9 P f)(h:∀(s c:ByteArray) (w:World) (_:s.size<4294967281) (_:c.size<4294967281) (_:∀(j:Nat) b,s.data.toList[j]?=some b->b.toNat<128) (_:∀(j:Nat) b,c.data.toList[j]?=some b->b.toNat<128),
  Calls P f #[.string s,.string c] w λe w'=>e=.returned (.bool (Lib.containsAny s.data.toList c.data.toList))/\Below w.heap.size w w'):gg P (P2 f):=
 GY a λs c w d=>by
  simp only[wl,aC]at d;obtain⟨g,i,l,k⟩:=d;have g:s.size<=4294967280:=by simpa using Nat.le_of_ble_eq_true g
  have i:c.size<=4294967280:=by simpa using Nat.le_of_ble_eq_true i
  exact(h s c w (by omega) (by omega) (Bn l) (Bn k)).mono λe w' ⟨n,m⟩=>⟨_,n,λι=>by simp[VR],m⟩
def ow(r:Int):Int:=cond (decide (48<=r)&&decide (r<=57)) 100 r
def Ae(l:aa):Bool:=Nat.ble l.length 1000000
def yQ(l:aa):aa:=Lib.mapD ow l
def JO(f:Nat):Ent:=⟨f,λ_ args _ _ k=>match args with
 | [.s l]=>cond (Ae l) (k { val:=.s (yQ l) }) none
 | _=>none⟩
def KJ{f:Nat}(a:l9 P f)(h:∀(s:ByteArray) (w:World),s.size<=1000000->GL jG w->
  Calls P f #[.string s] w λe w'=>e=.returned (.string ⟨(yQ s.data.toList).toArray⟩)/\Below w.heap.size w w'):gg P (JO f):=by
 intro α args H fr k z b;simp only[JO]at b;split at b
 case h_2=>cases b
 rename_i l;obtain⟨c,m⟩:=eZ b;refine⟨_,m,λo _=>.inl ⟨a,mg λι nb w i p g hx=>?_⟩⟩;simp only[VRs,VR]at hx;obtain⟨_,_,d,rfl,rfl⟩:=hx;have:i=#[.string ⟨l.toArray⟩]:=by apply mS;simpa using d
 subst this;have c:l.length<=1000000:=by unfold Ae at c;exact aH c
 exact(h ⟨l.toArray⟩ w (by show l.toArray.size<=_;simpa using c) g).mono λe w' ⟨n,j⟩=>⟨_,n,by simp[VR],j⟩
end Go.Abs
