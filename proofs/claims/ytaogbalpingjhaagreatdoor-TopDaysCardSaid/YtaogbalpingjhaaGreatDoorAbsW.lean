
/- More functions that are met by a contract: numbers read off texts; the text of a year.
   Conditions: none; generic over the program. -/
import Derived.Test.YtaogbalpingjhaaGreatDoorAbsT
import Derived.Lib.Atoi
import Derived.Lib.ParseIntB
import Derived.Lib.ItoaNum
set_option linter.unusedSimpArgs false
set_option linter.unusedVariables false
namespace Go.Abs
open Go.RowKit
variable {P:Program}
@[reducible] def d4 {A B C D E:Type} (x:A×B×C×D×E):E:=x.2.2.2.2
@[reducible] def d8 {A B C D E F G H I:Type} (x:A×B×C×D×E×F×G×H×I):I:=x.2.2.2.2.2.2.2.2
@[reducible] def d16 {A B C D E F G H I J K L M N O P Q:Type} (x:A×B×C×D×E×F×G×H×I×J×K×L×M×N×O×P×Q):Q:=x.2.2.2.2.2.2.2.2.2.2.2.2.2.2.2.2
abbrev TD:=Bool×Bool×aa×Int×Int×aa×aa×Int×Int×Int
abbrev TI:=Bool×Bool×aa×Int×Int×aa×aa×Int×Int×Int×Bool×TD
abbrev iF {α:Type} (x:Bool×Bool×aa×Int×Int×aa×aa×Int×Int×Int×α):TD:=(x.1,x.2.1,x.2.2.1,x.2.2.2.1,x.2.2.2.2.1,x.2.2.2.2.2.1,x.2.2.2.2.2.2.1,x.2.2.2.2.2.2.2.1,x.2.2.2.2.2.2.2.2.1,x.2.2.2.2.2.2.2.2.2.1)
abbrev mkI (x:TD) (b:Bool) (y:TD):TI:=(x.1,x.2.1,x.2.2.1,x.2.2.2.1,x.2.2.2.2.1,x.2.2.2.2.2.1,x.2.2.2.2.2.2.1,x.2.2.2.2.2.2.2.1,x.2.2.2.2.2.2.2.2.1,x.2.2.2.2.2.2.2.2.2,b,y)
abbrev d0:TD:=(false,false,[],0,0,[],[],0,0,0)
abbrev eqD (x y:TD):Bool:=(((x.1==y.1)&&((x.2.1==y.2.1)&&((x.2.2.1==y.2.2.1)&&((x.2.2.2.1==y.2.2.2.1)&&((x.2.2.2.2.1==y.2.2.2.2.1)&&true)))))&&((x.2.2.2.2.2.1==y.2.2.2.2.2.1)&&((x.2.2.2.2.2.2.1==y.2.2.2.2.2.2.1)&&(((x.2.2.2.2.2.2.2.1==y.2.2.2.2.2.2.2.1)&&((x.2.2.2.2.2.2.2.2.1==y.2.2.2.2.2.2.2.2.1)&&((x.2.2.2.2.2.2.2.2.2==y.2.2.2.2.2.2.2.2.2)&&true)))&&true))))
abbrev ap10 {α:Type} (f:Bool->Bool->aa->Int->Int->aa->aa->Int->Int->Int->α) (x:TD):α:=f x.1 x.2.1 x.2.2.1 x.2.2.2.1 x.2.2.2.2.1 x.2.2.2.2.2.1 x.2.2.2.2.2.2.1 x.2.2.2.2.2.2.2.1 x.2.2.2.2.2.2.2.2.1 x.2.2.2.2.2.2.2.2.2
abbrev sm {α β a:Type} (y:α⊕β) (f:α->Option a) (g:β->Option a):Option a:=Sum.casesOn (motive:=λ_=>Option a) y f g
abbrev obs {α β a:Type} (o:Option (α⊕β)) (f:α->Option a) (g:β->Option a):Option a:=ob o λy=>sm y f g
abbrev len {α:Type} (l:List α):Int:=((List.length l:Nat):Int)
abbrev w64 (x:Int):Int:=IntKind.wrap .i64 x
abbrev w8 (x:Int):Int:=IntKind.wrap .u8 x
def jL:List (Int×Int):=[(3,3),(6,3),(9,3),(12,3),(3,3),(6,3),(9,3),(12,3),(9,3),(12,3),(3,3),(6,3),(1,3),(4,3),(7,3),(10,3),(1,4),(5,4),(9,4),(1,6),(7,6)]
def pT:List Int:=[31,28,31,30,31,30,31,31,30,31,30,31]
def rF (l:aa):Option Int:=match Lib.parseIntB 64 l with | .ok v=>some v | _=>none
def BD (f:Nat):Ent:=⟨f,λ_ args _ _ k=>match args with
 | [.s l,.i .i64 10,.i .i64 64]=>cond (Nat.ble l.length 9223372036854775806) (ob (rF l) λv=>k { val:=.tp [.i .i64 v,.ni] }) none
 | _=>none⟩
def opt {α β:Type} (o:Option α) (f:α->β) (g:β):β:=match o with | some x=>f x | none=>g
def GZ (f:Nat) (T:TypeId):Ent:=⟨f,λ_ args _ _ k=>match args with
 | [.s l]=>cond (Nat.ble l.length 18) (opt (Lib.atoi l) (λv=>k { val:=.tp [.i .i64 v,.ni] }) (k { val:=.tp [.i .i64 0,.it T .unk] })) none
 | _=>none⟩
theorem Dy {f:Nat} (a:gx P f)
  (h:∀(s:ByteArray) (_:s.size<=9223372036854775806) (v:Int) (_:Lib.parseIntB 64 s.data.toList=.ok v) (w:World),Calls P f #[.string s,.int .i64 10,.int .i64 64] w λe w'=>e=.returned (.tuple #[.int .i64 v,.nilIface])/\Below w.heap.size w w'):cD P (BD f):=by
 intro α args H fr k z c;simp only [BD] at c;split at c
 case h_2=>cases c
 rename_i l;obtain ⟨j,o⟩:=ca c;obtain ⟨v,b,n⟩:=ah o;have p:=ax j;have m:Lib.parseIntB 64 l=.ok v:=by
  unfold rF at b;split at b
  ·rename_i u q;cases b;exact q
  ·cases b
 refine ⟨_,n,λy _=>.inl ⟨a,di λι nb w i x _ d=>?_⟩⟩;simp only [VRs,VR] at d;obtain ⟨_,_,r,rfl,_,_,rfl,rfl,_,_,rfl,rfl,rfl⟩:=d;have:i=#[.string ⟨l.toArray⟩,.int .i64 10,.int .i64 64]:=by apply gz;simpa using r
 subst this;refine (h ⟨l.toArray⟩ p v (by simpa using m) w).mono λe w' ⟨t,g⟩=>⟨_,t,?_,g⟩;simp only [VR];exact ⟨_,rfl,by simp [VRs,VR]⟩
theorem EA {f:Nat} {T:TypeId} (b:gx P f)
  (h:∀(s:ByteArray) (n:Int) (_:s.size<=18) (_:Lib.atoi s.data.toList=some n) (w:World),Calls P f #[.string s] w λe w'=>e=.returned (.tuple #[.int .i64 n,.nilIface])/\Below w.heap.size w w')
  (q:∀(s:ByteArray) (_:s.size<=18) (_:Lib.atoi s.data.toList=none) (w:World) (_:GL dH w),Calls P f #[.string s] w λe w'=>∃a,e=.returned (.tuple #[.int .i64 0,.iface T (.pointer a)])/\Below w.heap.size w w'):cD P (GZ f T):=by
 intro α args H fr k z i;simp only [GZ] at i;split at i
 case h_2=>cases i
 rename_i l;obtain ⟨r,j⟩:=ca i;have p:=ax r;have one:∀{ι:Inj} {d:Array Value},VRs ι [.s l] d.toList->d=#[.string ⟨l.toArray⟩]:=by
  intro ι d c;simp only [VRs,VR] at c;obtain ⟨_,_,y,rfl,rfl⟩:=c;apply gz;simpa using y
 cases g:Lib.atoi l with
 | some v=>
  rw [g] at j;refine ⟨_,j,λx _=>.inl ⟨b,di λι nb w d u _ c=>?_⟩⟩;rw [one c];refine (h ⟨l.toArray⟩ v p (by simpa using g) w).mono λe w' ⟨o,m⟩=>⟨_,o,?_,m⟩;simp only [VR];exact ⟨_,rfl,by simp [VRs,VR]⟩
 | none=>
  rw [g] at j;refine ⟨_,j,λx _=>.inl ⟨b,di λι nb w d u t c=>?_⟩⟩;rw [one c];refine (q ⟨l.toArray⟩ p (by simpa using g) w t).mono λe w' ⟨a,o,m⟩=>⟨_,o,?_,m⟩;simp only [VR];refine ⟨_,rfl,?_⟩;simp only [VRs,VR];exact ⟨_,_,rfl,rfl,_,_,rfl,⟨_,rfl,rfl,rfl⟩,rfl⟩
def pa (g l:Bool) (d:aa) (x s:Int):aa:=
 (if l then [89] else [])++(if g then [45] else [])++d++(if 0<x then 69::Lib.decDigits x.toNat else [])++(if 0<s then 83::Lib.decDigits s.toNat else [])
def tl (d:aa) (x s:Int):Bool:=decide (0<=x/\x<100/\0<=s/\s<100)&&Nat.ble d.length 1000
def BK (f:Nat) (chk:Bool->Bool->aa->Int->Int->Option Int):Ent:=⟨f,λ_ args _ _ k=>match args with
 | [.ag [.b g,.b l,.s d,.i .i64 x,.i .i64 s]]=>ob (chk g l d x s) λr=>cond (r != 0) (k { val:=.tp [.s [],.i .i64 r] }) (cond (tl d x s) (k { val:=.tp [.s (pa g l d x s),.i .i64 0] }) none)
 | _=>none⟩
theorem Do {f:Nat} {chk:Bool->Bool->aa->Int->Int->Option Int} (c:gx P f)
  (I:∀(g l:Bool) (d:aa) (x s r:Int) (w:World) (_:chk g l d x s=some r) (_:r≠0) (_:GL dH w),Calls P f #[.agg #[.bool g,.bool l,.string ⟨d.toArray⟩,.int .i64 x,.int .i64 s]] w λe w'=>e=.returned (.tuple #[.string ⟨#[]⟩,.int .i64 r])/\Below w.heap.size w w')
  (F:∀(g l:Bool) (d:aa) (x s:Int) (w:World) (_:chk g l d x s=some 0) (_:tl d x s=true) (_:GL dH w),Calls P f #[.agg #[.bool g,.bool l,.string ⟨d.toArray⟩,.int .i64 x,.int .i64 s]] w λe w'=>e=.returned (.tuple #[.string ⟨(pa g l d x s).toArray⟩,.int .i64 0])/\Below w.heap.size w w'):
  cD P (BK f chk):=by
 intro α args H fr k z n;simp only [BK] at n;split at n
 case h_2=>cases n
 rename_i g l d x s;obtain ⟨r,y,o⟩:=ah n;have a:∀{ι:Inj} {j:Array Value},VRs ι [.ag [.b g,.b l,.s d,.i .i64 x,.i .i64 s]] j.toList->j=#[.agg #[.bool g,.bool l,.string ⟨d.toArray⟩,.int .i64 x,.int .i64 s]]:=by
  intro ι j h;simp only [VRs,VR] at h;obtain ⟨_,_,J,⟨A,rfl,_,_,B,rfl,_,_,rfl,rfl,_,_,rfl,rfl,_,_,rfl,rfl,_,_,rfl,rfl,rfl⟩,rfl⟩:=h;have q:A=#[.bool g,.bool l,.string ⟨d.toArray⟩,.int .i64 x,.int .i64 s]:=by apply gz;simpa using B
  subst q;apply gz;simpa using J
 cases m:(r != 0) with
 | true=>
  rw [m] at o;refine ⟨_,o,λE _=>.inl ⟨c,di λι nb w j C p h=>?_⟩⟩;rw [a h];refine (I g l d x s r w y (by simpa using m) p).mono λe w' ⟨v,t⟩=>⟨_,v,?_,t⟩;simp only [VR];exact ⟨_,rfl,by simp [VRs,VR]⟩
 | false=>
  rw [m] at o;have u:r=0:=by simpa using m
  subst u;obtain ⟨D,G⟩:=ca (show cond (tl d x s) _ none=some z from o);refine ⟨_,G,λE _=>.inl ⟨c,di λι nb w j C p h=>?_⟩⟩;rw [a h];refine (F g l d x s w y D p).mono λe w' ⟨v,t⟩=>⟨_,v,?_,t⟩;simp only [VR];exact ⟨_,rfl,by simp [VRs,VR]⟩
theorem lc (w:World) (e:TypeId) (s:ByteArray):Below w.heap.size w (Lib.bytesWorld w e s):=by
 have b:Below w.heap.size w (w.drew.alloc (.cells (Lib.bytesCells w e s) e)):=by
  refine ⟨rfl,rfl,rfl,?_,λk a=>fB w.drew _ (show k≠w.heap.size by omega)⟩;show w.heap.size<=(w.heap.push _).size;simp
 refine b.trans ?_;unfold Lib.bytesWorld World.freeze;rw [ab (by decide)];refine ⟨rfl,rfl,rfl,?_,λk a=>?_⟩
 ·show _<=(Array.modify _ _ _).size;rw [Array.size_modify];exact aL _
 ·show (Array.modify _ _ _)[k]?=_;rw [Array.getElem?_modify,ab (show ¬w.heap.size=k by omega)]
end Go.Abs
