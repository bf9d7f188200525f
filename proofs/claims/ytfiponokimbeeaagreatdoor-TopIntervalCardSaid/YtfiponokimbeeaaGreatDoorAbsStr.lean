
/- Functions of two texts that are met by a contract of the kit's shelf: TrimRight, ContainsAny.
   Conditions: none; generic over the program. -/
import Derived.Test.YtfiponokimbeeaaGreatDoorAbsT
import Derived.Shelf.Strings.SlTrimAscii
import Derived.Shelf.Strings.IndexAnyAll
import Derived.Lib.MapU
set_option linter.unusedSimpArgs false
set_option linter.unusedVariables false
namespace Go.Abs
open Go.RowKit
variable {P:Program}
def JP (l:aa):Bool:=l.all λb=>Nat.blt b.toNat 128
theorem yi {l:aa} (h:JP l=true):∀(j:Nat) b,l[j]?=some b->b.toNat<128:=
 λ_ b a=>aG ((bG.1 h) b (fH a))
def NH (f:Nat) (ok:aa->aa->Bool) (g:aa->aa->V):Ent:=⟨f,λ_ args _ _ k=>match args with
 | [.s l,.s c]=>cond (ok l c) (k { val:=g l c }) none
 | _=>none⟩
theorem Ey {f:Nat} {ok:aa->aa->Bool} {g:aa->aa->V} (a:jA P f)
  (h:∀(s c:ByteArray) (w:World),ok s.data.toList c.data.toList=true->Calls P f #[.string s,.string c] w λe w'=>∃x,e=.returned x/\(∀ι,VR ι (g s.data.toList c.data.toList) x)/\Below w.heap.size w w'):ep P (NH f ok g):=by
 intro α args H fr k z b;simp only [NH] at b;split at b
 case h_2=>cases b
 rename_i l c;obtain ⟨m,o⟩:=dr b;refine ⟨_,o,λr _=>.inl ⟨a,fi λι nb w p q _ hx=>?_⟩⟩;simp only [VRs,VR] at hx;obtain ⟨_,_,n,rfl,_,_,rfl,rfl,rfl⟩:=hx;have:p=#[.string ⟨l.toArray⟩,.string ⟨c.toArray⟩]:=by apply jK;simpa using n
 subst this;refine (h ⟨l.toArray⟩ ⟨c.toArray⟩ w (by simpa using m)).mono λe w' ⟨x,d,i,j⟩=>⟨x,d,by simpa using i ι,j⟩
def wi (l c:aa):Bool:=Nat.ble l.length 9223372036854775807&&(Nat.ble c.length 4294967280&&JP c)
def vn (l c:aa):Bool:=Nat.ble l.length 4294967280&&(Nat.ble c.length 4294967280&&(JP l&&JP c))
def Of (f:Nat):Ent:=NH f wi λl c=>.s (Lib.trimRightS l c)
def Oz (f:Nat):Ent:=NH f vn λl c=>.b (Lib.containsAny l c)
theorem JX {f:Nat} (hent:jA P f) (h:∀(s c:ByteArray) (w:World) (_:s.size<=9223372036854775807) (_:c.size<4294967281) (_:∀(j:Nat) b,c.data.toList[j]?=some b->b.toNat<128),
    Calls P f #[.string s,.string c] w λe w'=>e=.returned (.string ⟨(Lib.trimRightS s.data.toList c.data.toList).toArray⟩)/\Below w.heap.size w w'):ep P (Of f):=
  Ey hent λs c w hk=>by
    simp only [wi,aB] at hk;obtain ⟨h1,h2,h3⟩:=hk;have h1:=aG h1;have h2:=aG h2
    exact (h s c w (by simpa using h1) (by have:c.size<=4294967280:=by simpa using h2
                                           omega) (yi h3)).mono λe w' ⟨q1,q2⟩=>⟨_,q1,λι=>by simp [VR],q2⟩
theorem KJ {f:Nat} (a:jA P f) (h:∀(s c:ByteArray) (w:World) (_:s.size<4294967281) (_:c.size<4294967281) (_:∀(j:Nat) b,s.data.toList[j]?=some b->b.toNat<128) (_:∀(j:Nat) b,c.data.toList[j]?=some b->b.toNat<128),
  Calls P f #[.string s,.string c] w λe w'=>e=.returned (.bool (Lib.containsAny s.data.toList c.data.toList))/\Below w.heap.size w w'):ep P (Oz f):=
 Ey a λs c w d=>by
  simp only [vn,aB] at d;obtain ⟨g,i,n,k⟩:=d;have g:s.size<=4294967280:=by simpa using Nat.le_of_ble_eq_true g
  have i:c.size<=4294967280:=by simpa using Nat.le_of_ble_eq_true i
  exact (h s c w (by omega) (by omega) (yi n) (yi k)).mono λe w' ⟨l,m⟩=>⟨_,l,λι=>by simp [VR],m⟩
def m6 (r:Int):Int:=cond (decide (48<=r)&&decide (r<=57)) 100 r
def yw (l:aa):Bool:=Nat.ble l.length 1000000
def xA (l:aa):aa:=Lib.mapD m6 l
def Jf (f:Nat):Ent:=⟨f,λ_ args _ _ k=>match args with
 | [.s l]=>cond (yw l) (k { val:=.s (xA l) }) none
 | _=>none⟩
theorem HO {f:Nat} (a:jA P f) (h:∀(s:ByteArray) (w:World),s.size<=1000000->GL f7 w->
  Calls P f #[.string s] w λe w'=>e=.returned (.string ⟨(xA s.data.toList).toArray⟩)/\Below w.heap.size w w'):ep P (Jf f):=by
 intro α args H fr k z b;simp only [Jf] at b;split at b
 case h_2=>cases b
 rename_i l;obtain ⟨c,m⟩:=dr b;refine ⟨_,m,λp _=>.inl ⟨a,fi λι nb w n o g hx=>?_⟩⟩;simp only [VRs,VR] at hx;obtain ⟨_,_,j,rfl,rfl⟩:=hx;have:n=#[.string ⟨l.toArray⟩]:=by apply jK;simpa using j
 subst this;have c:l.length<=1000000:=by unfold yw at c;exact aG c
 exact (h ⟨l.toArray⟩ w (by show l.toArray.size<=_;simpa using c) g).mono λe w' ⟨d,i⟩=>⟨_,d,by simp [VR],i⟩
end Go.Abs
