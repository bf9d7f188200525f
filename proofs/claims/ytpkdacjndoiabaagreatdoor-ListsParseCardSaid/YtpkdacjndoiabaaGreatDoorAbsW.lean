/- More functions that are met by a contract: numbers read off texts; the text of a year.
   Conditions: none; generic over the program. -/
import Derived.Test.YtpkdacjndoiabaaGreatDoorAbsT
import Derived.Lib.Atoi
import Derived.Lib.ParseIntB
import Derived.Lib.ItoaNum
set_option linter.unusedSimpArgs false
namespace Go.Abs
open Go.RowKit
variable {P:Program}
@[reducible] def d4 {A B C D E:Type} (x:A×B×C×D×E):E:=x.2.2.2.2
@[reducible] def d8 {A B C D E F G H I:Type} (x:A×B×C×D×E×F×G×H×I):I:=x.2.2.2.2.2.2.2.2
@[reducible] def d16 {A B C D E F G H I J K L M N O P Q:Type} (x:A×B×C×D×E×F×G×H×I×J×K×L×M×N×O×P×Q):Q:=x.2.2.2.2.2.2.2.2.2.2.2.2.2.2.2.2
abbrev TD:=Bool×Bool×aa×Int×Int×aa×aa×Int×Int×Int
abbrev TI:=Bool×Bool×aa×Int×Int×aa×aa×Int×Int×Int×Bool×TD
abbrev iF {α:Type} (x:Bool×Bool×aa×Int×Int×aa×aa×Int×Int×Int×α):TD:=(x.1,x.2.1,x.2.2.1,x.2.2.2.1,x.2.2.2.2.1,x.2.2.2.2.2.1,x.2.2.2.2.2.2.1,x.2.2.2.2.2.2.2.1,x.2.2.2.2.2.2.2.2.1,x.2.2.2.2.2.2.2.2.2.1)
abbrev mkI (x:TD) (b:Bool) (y:TD):TI:=(x.1,x.2.1,x.2.2.1,x.2.2.2.1,x.2.2.2.2.1,x.2.2.2.2.2.1,x.2.2.2.2.2.2.1,x.2.2.2.2.2.2.2.1,x.2.2.2.2.2.2.2.2.1,x.2.2.2.2.2.2.2.2.2,b,y)
abbrev d0:TD:=(false,false,[],0,0,[],[],0,0,0)
abbrev eqD (x y:TD):Bool:=(((x.1==y.1)&&((x.2.1==y.2.1)&&((x.2.2.1==y.2.2.1)&&((x.2.2.2.1==y.2.2.2.1)&&((x.2.2.2.2.1==y.2.2.2.2.1)&&true)))))&&((x.2.2.2.2.2.1==y.2.2.2.2.2.1)&&((x.2.2.2.2.2.2.1==y.2.2.2.2.2.2.1)&&(((x.2.2.2.2.2.2.2.1==y.2.2.2.2.2.2.2.1)&&((x.2.2.2.2.2.2.2.2.1==y.2.2.2.2.2.2.2.2.1)&&((x.2.2.2.2.2.2.2.2.2==y.2.2.2.2.2.2.2.2.2)&&true)))&&true))))
abbrev ap10 {α:Type} (f:Bool->Bool->aa->Int->Int->aa->aa->Int->Int->Int->α) (x:TD):α:=f x.1 x.2.1 x.2.2.1 x.2.2.2.1 x.2.2.2.2.1 x.2.2.2.2.2.1 x.2.2.2.2.2.2.1 x.2.2.2.2.2.2.2.1 x.2.2.2.2.2.2.2.2.1 x.2.2.2.2.2.2.2.2.2
abbrev sm {α β γ:Type} (y:α⊕β) (f:α->Option γ) (g:β->Option γ):Option γ:=Sum.casesOn (motive:=λ_=>Option γ) y f g
abbrev obs {α β γ:Type} (o:Option (α⊕β)) (f:α->Option γ) (g:β->Option γ):Option γ:=ob o λy=>sm y f g
abbrev len {α:Type} (l:List α):Int:=((List.length l:Nat):Int)
abbrev w64 (x:Int):Int:=IntKind.wrap .i64 x
abbrev w8 (x:Int):Int:=IntKind.wrap .u8 x
def mD:List (Int×Int):=[(3,3),(6,3),(9,3),(12,3),(3,3),(6,3),(9,3),(12,3),(9,3),(12,3),(3,3),(6,3),(1,3),(4,3),(7,3),(10,3),(1,4),(5,4),(9,4),(1,6),(7,6)]
def ut:List Int:=[31,28,31,30,31,30,31,31,30,31,30,31]
def vo (l:aa):Option Int:=match Lib.parseIntB 64 l with | .ok v=>some v | _=>none
def FA (f:Nat):Ent:=⟨f,λ_ args _ _ k=>match args with
 | [.s l,.i .i64 10,.i .i64 64]=>cond (Nat.ble l.length 9223372036854775806) (ob (vo l) λv=>k { val:=.tp [.i .i64 v,.ni] }) none
 | _=>none⟩
def Q0 (f:Nat):Ent:=⟨f,λ_ args _ _ k=>match args with
 | [.s l]=>cond (Nat.ble l.length 18) (ob (Lib.atoi l) λv=>k { val:=.tp [.i .i64 v,.ni] }) none
 | _=>none⟩
def opt {α β:Type} (o:Option α) (f:α->β) (g:β):β:=match o with | some x=>f x | none=>g
def LQ (f:Nat) (T:TypeId):Ent:=⟨f,λ_ args _ _ k=>match args with
 | [.s l]=>cond (Nat.ble l.length 18) (opt (Lib.atoi l) (λv=>k { val:=.tp [.i .i64 v,.ni] }) (k { val:=.tp [.i .i64 0,.it T .unk] })) none
 | _=>none⟩
theorem Fz {f:Nat} (hent:mU P f)
  (h:∀(s:ByteArray) (_:s.size<=9223372036854775806) (v:Int) (_:Lib.parseIntB 64 s.data.toList=.ok v) (w:World),Calls P f #[.string s,.int .i64 10,.int .i64 64] w λe w'=>e=.returned (.tuple #[.int .i64 v,.nilIface])/\Below w.heap.size w w'):gC P (FA f):=by
 intro α args H fr k z hk
 simp only [FA] at hk
 split at hk
 case h_2=>cases hk
 rename_i l
 obtain ⟨h1,h2⟩:=eH hk
 obtain ⟨v,h3,h4⟩:=av h2
 have hl:=aH h1
 have hv:Lib.parseIntB 64 l=.ok v:=by
  unfold vo at h3
  split at h3
  ·rename_i u hu;cases h3;exact hu
  ·cases h3
 refine ⟨_,h4,λH' _=>.inl ⟨hent,iy λι nb w xs hW _ hx=>?_⟩⟩
 simp only [VRs,VR] at hx
 obtain ⟨_,_,e1,rfl,_,_,rfl,rfl,_,_,rfl,rfl,rfl⟩:=hx
 have:xs=#[.string ⟨l.toArray⟩,.int .i64 10,.int .i64 64]:=by apply lh;simpa using e1
 subst this
 refine (h ⟨l.toArray⟩ hl v (by simpa using hv) w).mono λe w' ⟨q1,q2⟩=>⟨_,q1,?_,q2⟩
 simp only [VR]
 exact ⟨_,rfl,by simp [VRs,VR]⟩
theorem IG {f:Nat} {T:TypeId} (hent:mU P f)
  (h:∀(s:ByteArray) (n:Int) (_:s.size<=18) (_:Lib.atoi s.data.toList=some n) (w:World),Calls P f #[.string s] w λe w'=>e=.returned (.tuple #[.int .i64 n,.nilIface])/\Below w.heap.size w w')
  (h':∀(s:ByteArray) (_:s.size<=18) (_:Lib.atoi s.data.toList=none) (w:World) (_:GL io w),Calls P f #[.string s] w λe w'=>∃a,e=.returned (.tuple #[.int .i64 0,.iface T (.pointer a)])/\Below w.heap.size w w'):gC P (LQ f T):=by
 intro α args H fr k z hk
 simp only [LQ] at hk
 split at hk
 case h_2=>cases hk
 rename_i l
 obtain ⟨h1,h2⟩:=eH hk
 have hl:=aH h1
 have one:∀{ι:Inj} {xs:Array Value},VRs ι [.s l] xs.toList->xs=#[.string ⟨l.toArray⟩]:=by
  intro ι xs hx
  simp only [VRs,VR] at hx
  obtain ⟨_,_,e1,rfl,rfl⟩:=hx
  apply lh;simpa using e1
 cases hv:Lib.atoi l with
 | some v=>
  rw [hv] at h2
  refine ⟨_,h2,λH' _=>.inl ⟨hent,iy λι nb w xs hW _ hx=>?_⟩⟩
  rw [one hx]
  refine (h ⟨l.toArray⟩ v hl (by simpa using hv) w).mono λe w' ⟨q1,q2⟩=>⟨_,q1,?_,q2⟩
  simp only [VR]
  exact ⟨_,rfl,by simp [VRs,VR]⟩
 | none=>
  rw [hv] at h2
  refine ⟨_,h2,λH' _=>.inl ⟨hent,iy λι nb w xs hW hg hx=>?_⟩⟩
  rw [one hx]
  refine (h' ⟨l.toArray⟩ hl (by simpa using hv) w hg).mono λe w' ⟨a,q1,q2⟩=>⟨_,q1,?_,q2⟩
  simp only [VR]
  refine ⟨_,rfl,?_⟩
  simp only [VRs,VR]
  exact ⟨_,_,rfl,rfl,_,_,rfl,⟨_,rfl,rfl,rfl⟩,rfl⟩
def iJ (g l:Bool) (d:aa) (x s:Int):aa:=
 (if l then [89] else [])++(if g then [45] else [])++d++(if 0<x then 69::Lib.decDigits x.toNat else [])++(if 0<s then 83::Lib.decDigits s.toNat else [])
def tA (d:aa) (x s:Int):Bool:=decide (0<=x/\x<100/\0<=s/\s<100)&&Nat.ble d.length 1000
def HI (f:Nat) (chk:Bool->Bool->aa->Int->Int->Option Int):Ent:=⟨f,λ_ args _ _ k=>match args with
 | [.ag [.b g,.b l,.s d,.i .i64 x,.i .i64 s]]=>ob (chk g l d x s) λr=>cond (r != 0) (k { val:=.tp [.s [],.i .i64 r] }) (cond (tA d x s) (k { val:=.tp [.s (iJ g l d x s),.i .i64 0] }) none)
 | _=>none⟩
theorem fS9 {f:Nat} {chk:Bool->Bool->aa->Int->Int->Option Int} (hent:mU P f)
  (h0:∀(g l:Bool) (d:aa) (x s r:Int) (w:World) (_:chk g l d x s=some r) (_:r≠0) (_:GL io w),Calls P f #[.agg #[.bool g,.bool l,.string ⟨d.toArray⟩,.int .i64 x,.int .i64 s]] w λe w'=>e=.returned (.tuple #[.string ⟨#[]⟩,.int .i64 r])/\Below w.heap.size w w')
  (h1:∀(g l:Bool) (d:aa) (x s:Int) (w:World) (_:chk g l d x s=some 0) (_:tA d x s=true) (_:GL io w),Calls P f #[.agg #[.bool g,.bool l,.string ⟨d.toArray⟩,.int .i64 x,.int .i64 s]] w λe w'=>e=.returned (.tuple #[.string ⟨(iJ g l d x s).toArray⟩,.int .i64 0])/\Below w.heap.size w w'):
  gC P (HI f chk):=by
 intro α args H fr k z hk
 simp only [HI] at hk
 split at hk
 case h_2=>cases hk
 rename_i g l d x s
 obtain ⟨r,h2,h3⟩:=av hk
 have open_:∀{ι:Inj} {xs:Array Value},VRs ι [.ag [.b g,.b l,.s d,.i .i64 x,.i .i64 s]] xs.toList->xs=#[.agg #[.bool g,.bool l,.string ⟨d.toArray⟩,.int .i64 x,.int .i64 s]]:=by
  intro ι xs hx
  simp only [VRs,VR] at hx
  obtain ⟨_,_,e1,⟨cs,rfl,_,_,e2,rfl,_,_,rfl,rfl,_,_,rfl,rfl,_,_,rfl,rfl,_,_,rfl,rfl,rfl⟩,rfl⟩:=hx
  have hcs:cs=#[.bool g,.bool l,.string ⟨d.toArray⟩,.int .i64 x,.int .i64 s]:=by apply lh;simpa using e2
  subst hcs
  apply lh;simpa using e1
 cases hr:(r != 0) with
 | true=>
  rw [hr] at h3
  refine ⟨_,h3,λH' _=>.inl ⟨hent,iy λι nb w xs hW hg hx=>?_⟩⟩
  rw [open_ hx]
  refine (h0 g l d x s r w h2 (by simpa using hr) hg).mono λe w' ⟨q1,q2⟩=>⟨_,q1,?_,q2⟩
  simp only [VR]
  exact ⟨_,rfl,by simp [VRs,VR]⟩
 | false=>
  rw [hr] at h3
  have hr0:r=0:=by simpa using hr
  subst hr0
  obtain ⟨h4,h5⟩:=eH (show cond (tA d x s) _ none=some z from h3)
  refine ⟨_,h5,λH' _=>.inl ⟨hent,iy λι nb w xs hW hg hx=>?_⟩⟩
  rw [open_ hx]
  refine (h1 g l d x s w h2 h4 hg).mono λe w' ⟨q1,q2⟩=>⟨_,q1,?_,q2⟩
  simp only [VR]
  exact ⟨_,rfl,by simp [VRs,VR]⟩
theorem o9 (w:World) (e:TypeId) (s:ByteArray):Below w.heap.size w (Lib.bytesWorld w e s):=by
 have hb:Below w.heap.size w (w.drew.alloc (.cells (Lib.bytesCells w e s) e)):=by
  refine ⟨rfl,rfl,rfl,?_,λk hk=>jf w.drew _ (show k≠w.heap.size by omega)⟩
  show w.heap.size<=(w.heap.push _).size
  simp
 refine hb.trans ?_
 unfold Lib.bytesWorld World.freeze
 rw [ab (by decide)]
 refine ⟨rfl,rfl,rfl,?_,λk hk=>?_⟩
 ·show _<=(Array.modify _ _ _).size
  rw [Array.size_modify]
  exact aV _
 ·show (Array.modify _ _ _)[k]?=_
  rw [Array.getElem?_modify,ab (show ¬w.heap.size=k by omega)]
end Go.Abs
