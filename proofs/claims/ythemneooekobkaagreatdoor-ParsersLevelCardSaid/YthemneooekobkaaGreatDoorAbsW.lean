
/- More functions that are met by a contract: numbers read off texts; the text of a year.
   Conditions: none; generic over the program. -/
import Derived.Test.YthemneooekobkaaGreatDoorAbsT
import Derived.Lib.Atoi
import Derived.Lib.ParseIntB
import Derived.Lib.ItoaNum
set_option linter.unusedSimpArgs false
set_option linter.unusedVariables false
namespace Go.Abs
open Go.RowKit
variable {P:Program}
@[reducible] def d4 {A B C D E:Type} (x:A×B×C×D×E):E:=x.2.2.2.2
@[reducible] def d8 {A B C D E F G H I:Type} (x:A×B×C×D×E×F×G×H×I):I:=x.2.2.2.2.2.2.2.2
@[reducible] def d16 {A B C D E F G H I J K L M N O P Q:Type} (x:A×B×C×D×E×F×G×H×I×J×K×L×M×N×O×P×Q):Q:=x.2.2.2.2.2.2.2.2.2.2.2.2.2.2.2.2
abbrev TD:=Bool×Bool×aa×Int×Int×aa×aa×Int×Int×Int
abbrev TI:=Bool×Bool×aa×Int×Int×aa×aa×Int×Int×Int×Bool×TD
abbrev iF {α:Type} (x:Bool×Bool×aa×Int×Int×aa×aa×Int×Int×Int×α):TD:=(x.1,x.2.1,x.2.2.1,x.2.2.2.1,x.2.2.2.2.1,x.2.2.2.2.2.1,x.2.2.2.2.2.2.1,x.2.2.2.2.2.2.2.1,x.2.2.2.2.2.2.2.2.1,x.2.2.2.2.2.2.2.2.2.1)
abbrev mkI (x:TD) (b:Bool) (y:TD):TI:=(x.1,x.2.1,x.2.2.1,x.2.2.2.1,x.2.2.2.2.1,x.2.2.2.2.2.1,x.2.2.2.2.2.2.1,x.2.2.2.2.2.2.2.1,x.2.2.2.2.2.2.2.2.1,x.2.2.2.2.2.2.2.2.2,b,y)
abbrev d0:TD:=(false,false,[],0,0,[],[],0,0,0)
abbrev eqD (x y:TD):Bool:=(((x.1==y.1)&&((x.2.1==y.2.1)&&((x.2.2.1==y.2.2.1)&&((x.2.2.2.1==y.2.2.2.1)&&((x.2.2.2.2.1==y.2.2.2.2.1)&&true)))))&&((x.2.2.2.2.2.1==y.2.2.2.2.2.1)&&((x.2.2.2.2.2.2.1==y.2.2.2.2.2.2.1)&&(((x.2.2.2.2.2.2.2.1==y.2.2.2.2.2.2.2.1)&&((x.2.2.2.2.2.2.2.2.1==y.2.2.2.2.2.2.2.2.1)&&((x.2.2.2.2.2.2.2.2.2==y.2.2.2.2.2.2.2.2.2)&&true)))&&true))))
abbrev ap10 {α:Type} (f:Bool->Bool->aa->Int->Int->aa->aa->Int->Int->Int->α) (x:TD):α:=f x.1 x.2.1 x.2.2.1 x.2.2.2.1 x.2.2.2.2.1 x.2.2.2.2.2.1 x.2.2.2.2.2.2.1 x.2.2.2.2.2.2.2.1 x.2.2.2.2.2.2.2.2.1 x.2.2.2.2.2.2.2.2.2
abbrev sm {α β a:Type} (y:α⊕β) (f:α->Option a) (g:β->Option a):Option a:=Sum.casesOn (motive:=λ_=>Option a) y f g
abbrev obs {α β a:Type} (o:Option (α⊕β)) (f:α->Option a) (g:β->Option a):Option a:=ob o λy=>sm y f g
abbrev len {α:Type} (l:List α):Int:=((List.length l:Nat):Int)
abbrev w64 (x:Int):Int:=IntKind.wrap .i64 x
abbrev w8 (x:Int):Int:=IntKind.wrap .u8 x
def lV:List (Int×Int):=[(3,3),(6,3),(9,3),(12,3),(3,3),(6,3),(9,3),(12,3),(9,3),(12,3),(3,3),(6,3),(1,3),(4,3),(7,3),(10,3),(1,4),(5,4),(9,4),(1,6),(7,6)]
def sZ:List Int:=[31,28,31,30,31,30,31,31,30,31,30,31]
def ub (l:aa):Option Int:=match Lib.parseIntB 64 l with | .ok v=>some v | _=>none
def Ig (f:Nat):Ent:=⟨f,λ_ args _ _ k=>match args with
 | [.s l,.i .i64 10,.i .i64 64]=>cond (Nat.ble l.length 9223372036854775806) (ob (ub l) λv=>k { val:=.tp [.i .i64 v,.ni] }) none
 | _=>none⟩
def opt {α β:Type} (o:Option α) (f:α->β) (g:β):β:=match o with | some x=>f x | none=>g
def NV (f:Nat) (T:TypeId):Ent:=⟨f,λ_ args _ _ k=>match args with
 | [.s l]=>cond (Nat.ble l.length 18) (opt (Lib.atoi l) (λv=>k { val:=.tp [.i .i64 v,.ni] }) (k { val:=.tp [.i .i64 0,.it T .unk] })) none
 | _=>none⟩
theorem GI {f:Nat} (a:kG P f)
  (h:∀(s:ByteArray) (_:s.size<=9223372036854775806) (v:Int) (_:Lib.parseIntB 64 s.data.toList=.ok v) (w:World),Calls P f #[.string s,.int .i64 10,.int .i64 64] w λe w'=>e=.returned (.tuple #[.int .i64 v,.nilIface])/\Below w.heap.size w w'):fO P (Ig f):=by
 intro α args H fr k z c;simp only [Ig] at c;split at c
 case h_2=>cases c
 rename_i l;obtain ⟨p,i⟩:=dX c;obtain ⟨v,b,g⟩:=av i;have q:=aH p;have t:Lib.parseIntB 64 l=.ok v:=by
  unfold ub at b;split at b
  ·rename_i u o;cases b;exact o
  ·cases b
 refine ⟨_,g,λy _=>.inl ⟨a,kF λι nb w m x _ d=>?_⟩⟩;simp only [VRs,VR] at d;obtain ⟨_,_,r,rfl,_,_,rfl,rfl,_,_,rfl,rfl,rfl⟩:=d;have:m=#[.string ⟨l.toArray⟩,.int .i64 10,.int .i64 64]:=by apply kY;simpa using r
 subst this;refine (h ⟨l.toArray⟩ q v (by simpa using t) w).mono λe w' ⟨j,n⟩=>⟨_,j,?_,n⟩;simp only [VR];exact ⟨_,rfl,by simp [VRs,VR]⟩
theorem MY {f:Nat} {T:TypeId} (b:kG P f)
  (h:∀(s:ByteArray) (n:Int) (_:s.size<=18) (_:Lib.atoi s.data.toList=some n) (w:World),Calls P f #[.string s] w λe w'=>e=.returned (.tuple #[.int .i64 n,.nilIface])/\Below w.heap.size w w')
  (q:∀(s:ByteArray) (_:s.size<=18) (_:Lib.atoi s.data.toList=none) (w:World) (_:GL iM w),Calls P f #[.string s] w λe w'=>∃a,e=.returned (.tuple #[.int .i64 0,.iface T (.pointer a)])/\Below w.heap.size w w'):fO P (NV f T):=by
 intro α args H fr k z i;simp only [NV] at i;split at i
 case h_2=>cases i
 rename_i l;obtain ⟨x,g⟩:=dX i;have p:=aH x;have one:∀{ι:Inj} {d:Array Value},VRs ι [.s l] d.toList->d=#[.string ⟨l.toArray⟩]:=by
  intro ι d c;simp only [VRs,VR] at c;obtain ⟨_,_,y,rfl,rfl⟩:=c;apply kY;simpa using y
 cases j:Lib.atoi l with
 | some v=>
  rw [j] at g;refine ⟨_,g,λu _=>.inl ⟨b,kF λι nb w d t _ c=>?_⟩⟩;rw [one c];refine (h ⟨l.toArray⟩ v p (by simpa using j) w).mono λe w' ⟨m,o⟩=>⟨_,m,?_,o⟩;simp only [VR];exact ⟨_,rfl,by simp [VRs,VR]⟩
 | none=>
  rw [j] at g;refine ⟨_,g,λu _=>.inl ⟨b,kF λι nb w d t r c=>?_⟩⟩;rw [one c];refine (q ⟨l.toArray⟩ p (by simpa using j) w r).mono λe w' ⟨a,m,o⟩=>⟨_,m,?_,o⟩;simp only [VR];refine ⟨_,rfl,?_⟩;simp only [VRs,VR];exact ⟨_,_,rfl,rfl,_,_,rfl,⟨_,rfl,rfl,rfl⟩,rfl⟩
def jH (g l:Bool) (d:aa) (x s:Int):aa:=
 (if l then [89] else [])++(if g then [45] else [])++d++(if 0<x then 69::Lib.decDigits x.toNat else [])++(if 0<s then 83::Lib.decDigits s.toNat else [])
theorem nO (w:World) (e:TypeId) (s:ByteArray):Below w.heap.size w (Lib.bytesWorld w e s):=by
 have a:Below w.heap.size w (w.drew.alloc (.cells (Lib.bytesCells w e s) e)):=by
  refine ⟨rfl,rfl,rfl,?_,λk b=>iP w.drew _ (show k≠w.heap.size by omega)⟩;show w.heap.size<=(w.heap.push _).size;simp
 refine a.trans ?_;unfold Lib.bytesWorld World.freeze;rw [ab (by decide)];refine ⟨rfl,rfl,rfl,?_,λk b=>?_⟩
 ·show _<=(Array.modify _ _ _).size;rw [Array.size_modify];exact aU _
 ·show (Array.modify _ _ _)[k]?=_;rw [Array.getElem?_modify,ab (show ¬w.heap.size=k by omega)]
end Go.Abs
