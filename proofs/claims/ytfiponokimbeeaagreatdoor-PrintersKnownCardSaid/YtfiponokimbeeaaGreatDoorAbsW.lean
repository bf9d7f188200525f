
/- More functions that are met by a contract: numbers read off texts; the text of a year.
   Conditions: none; generic over the program. -/
import Derived.Test.YtfiponokimbeeaaGreatDoorAbsT
import Derived.Lib.Atoi
import Derived.Lib.ParseIntB
import Derived.Lib.ItoaNum
set_option linter.unusedSimpArgs false
set_option linter.unusedVariables false
namespace Go.Abs
open Go.RowKit
variable {P:Program}
@[reducible] def d4 {A B C D E:Type} (x:A×B×C×D×E):E:=x.2.2.2.2
@[reducible] def d8 {A B C D E F G H I:Type} (x:A×B×C×D×E×F×G×H×I):I:=x.2.2.2.2.2.2.2.2
@[reducible] def d16 {A B C D E F G H I J K L M N O P Q:Type} (x:A×B×C×D×E×F×G×H×I×J×K×L×M×N×O×P×Q):Q:=x.2.2.2.2.2.2.2.2.2.2.2.2.2.2.2.2
abbrev TD:=Bool×Bool×aa×Int×Int×aa×aa×Int×Int×Int
abbrev TI:=Bool×Bool×aa×Int×Int×aa×aa×Int×Int×Int×Bool×TD
abbrev iF {α:Type} (x:Bool×Bool×aa×Int×Int×aa×aa×Int×Int×Int×α):TD:=(x.1,x.2.1,x.2.2.1,x.2.2.2.1,x.2.2.2.2.1,x.2.2.2.2.2.1,x.2.2.2.2.2.2.1,x.2.2.2.2.2.2.2.1,x.2.2.2.2.2.2.2.2.1,x.2.2.2.2.2.2.2.2.2.1)
abbrev mkI (x:TD) (b:Bool) (y:TD):TI:=(x.1,x.2.1,x.2.2.1,x.2.2.2.1,x.2.2.2.2.1,x.2.2.2.2.2.1,x.2.2.2.2.2.2.1,x.2.2.2.2.2.2.2.1,x.2.2.2.2.2.2.2.2.1,x.2.2.2.2.2.2.2.2.2,b,y)
abbrev d0:TD:=(false,false,[],0,0,[],[],0,0,0)
abbrev eqD (x y:TD):Bool:=(((x.1==y.1)&&((x.2.1==y.2.1)&&((x.2.2.1==y.2.2.1)&&((x.2.2.2.1==y.2.2.2.1)&&((x.2.2.2.2.1==y.2.2.2.2.1)&&true)))))&&((x.2.2.2.2.2.1==y.2.2.2.2.2.1)&&((x.2.2.2.2.2.2.1==y.2.2.2.2.2.2.1)&&(((x.2.2.2.2.2.2.2.1==y.2.2.2.2.2.2.2.1)&&((x.2.2.2.2.2.2.2.2.1==y.2.2.2.2.2.2.2.2.1)&&((x.2.2.2.2.2.2.2.2.2==y.2.2.2.2.2.2.2.2.2)&&true)))&&true))))
abbrev ap10 {α:Type} (f:Bool->Bool->aa->Int->Int->aa->aa->Int->Int->Int->α) (x:TD):α:=f x.1 x.2.1 x.2.2.1 x.2.2.2.1 x.2.2.2.2.1 x.2.2.2.2.2.1 x.2.2.2.2.2.2.1 x.2.2.2.2.2.2.2.1 x.2.2.2.2.2.2.2.2.1 x.2.2.2.2.2.2.2.2.2
abbrev sm {α b a:Type} (y:α⊕b) (f:α->Option a) (g:b->Option a):Option a:=Sum.casesOn (motive:=λ_=>Option a) y f g
abbrev obs {α b a:Type} (o:Option (α⊕b)) (f:α->Option a) (g:b->Option a):Option a:=ob o λy=>sm y f g
abbrev len {α:Type} (l:List α):Int:=((List.length l:Nat):Int)
abbrev w64 (x:Int):Int:=IntKind.wrap .i64 x
abbrev w8 (x:Int):Int:=IntKind.wrap .u8 x
def nB:List (Int×Int):=[(3,3),(6,3),(9,3),(12,3),(3,3),(6,3),(9,3),(12,3),(9,3),(12,3),(3,3),(6,3),(1,3),(4,3),(7,3),(10,3),(1,4),(5,4),(9,4),(1,6),(7,6)]
def vH:List Int:=[31,28,31,30,31,30,31,31,30,31,30,31]
def xf (l:aa):Option Int:=match Lib.parseIntB 64 l with | .ok v=>some v | _=>none
def J9 (f:Nat):Ent:=⟨f,λ_ args _ _ k=>match args with
 | [.s l,.i .i64 10,.i .i64 64]=>cond (Nat.ble l.length 9223372036854775806) (ob (xf l) λv=>k { val:=.tp [.i .i64 v,.ni] }) none
 | _=>none⟩
def opt {α a:Type} (o:Option α) (f:α->a) (g:a):a:=match o with | some x=>f x | none=>g
def RA (f:Nat) (T:TypeId):Ent:=⟨f,λ_ args _ _ k=>match args with
 | [.s l]=>cond (Nat.ble l.length 18) (opt (Lib.atoi l) (λv=>k { val:=.tp [.i .i64 v,.ni] }) (k { val:=.tp [.i .i64 0,.it T .unk] })) none
 | _=>none⟩
theorem MJ {f:Nat} (a:kT P f)
  (h:∀(s:ByteArray) (_:s.size<=9223372036854775806) (v:Int) (_:Lib.parseIntB 64 s.data.toList=.ok v) (w:World),Calls P f #[.string s,.int .i64 10,.int .i64 64] w λe w'=>e=.returned (.tuple #[.int .i64 v,.nilIface])/\Below w.heap.size w w'):fF P (J9 f):=by
 intro α args H fr k z c;simp only [J9] at c;split at c
 case h_2=>cases c
 rename_i l;obtain ⟨d,q⟩:=dZ c;obtain ⟨v,b,r⟩:=av q;have i:=aI d;have o:Lib.parseIntB 64 l=.ok v:=by
  unfold xf at b;split at b
  ·rename_i u j;cases b;exact j
  ·cases b
 refine ⟨_,r,λt _=>.inl ⟨a,gi λι nb w n x _ hx=>?_⟩⟩;simp only [VRs,VR] at hx;obtain ⟨_,_,p,rfl,_,_,rfl,rfl,_,_,rfl,rfl,rfl⟩:=hx;have:n=#[.string ⟨l.toArray⟩,.int .i64 10,.int .i64 64]:=by apply ll;simpa using p
 subst this;refine (h ⟨l.toArray⟩ i v (by simpa using o) w).mono λe w' ⟨m,g⟩=>⟨_,m,?_,g⟩;simp only [VR];exact ⟨_,rfl,by simp [VRs,VR]⟩
theorem Pg {f:Nat} {T:TypeId} (b:kT P f)
  (h:∀(s:ByteArray) (n:Int) (_:s.size<=18) (_:Lib.atoi s.data.toList=some n) (w:World),Calls P f #[.string s] w λe w'=>e=.returned (.tuple #[.int .i64 n,.nilIface])/\Below w.heap.size w w')
  (u:∀(s:ByteArray) (_:s.size<=18) (_:Lib.atoi s.data.toList=none) (w:World) (_:GL ie w),Calls P f #[.string s] w λe w'=>∃a,e=.returned (.tuple #[.int .i64 0,.iface T (.pointer a)])/\Below w.heap.size w w'):fF P (RA f T):=by
 intro α args H fr k z d;simp only [RA] at d;split at d
 case h_2=>cases d
 rename_i l;obtain ⟨p,i⟩:=dZ d;have o:=aI p;have one:∀{ι:Inj} {c:Array Value},VRs ι [.s l] c.toList->c=#[.string ⟨l.toArray⟩]:=by
  intro ι c hx;simp only [VRs,VR] at hx;obtain ⟨_,_,x,rfl,rfl⟩:=hx;apply ll;simpa using x
 cases g:Lib.atoi l with
 | some v=>
  rw [g] at i;refine ⟨_,i,λr _=>.inl ⟨b,gi λι nb w c t _ hx=>?_⟩⟩;rw [one hx];refine (h ⟨l.toArray⟩ v o (by simpa using g) w).mono λe w' ⟨m,j⟩=>⟨_,m,?_,j⟩;simp only [VR];exact ⟨_,rfl,by simp [VRs,VR]⟩
 | none=>
  rw [g] at i;refine ⟨_,i,λr _=>.inl ⟨b,gi λι nb w c t q hx=>?_⟩⟩;rw [one hx];refine (u ⟨l.toArray⟩ o (by simpa using g) w q).mono λe w' ⟨a,m,j⟩=>⟨_,m,?_,j⟩;simp only [VR];refine ⟨_,rfl,?_⟩;simp only [VRs,VR];exact ⟨_,_,rfl,rfl,_,_,rfl,⟨_,rfl,rfl,rfl⟩,rfl⟩
def gk (g l:Bool) (d:aa) (x s:Int):aa:=
 (if l then [89] else [])++(if g then [45] else [])++d++(if 0<x then 69::Lib.decDigits x.toNat else [])++(if 0<s then 83::Lib.decDigits s.toNat else [])
def vh (d:aa) (x s:Int):Bool:=decide (0<=x/\x<100/\0<=s/\s<100)&&Nat.ble d.length 1000
def Lx (f:Nat) (chk:Bool->Bool->aa->Int->Int->Option Int):Ent:=⟨f,λ_ args _ _ k=>match args with
 | [.ag [.b g,.b l,.s d,.i .i64 x,.i .i64 s]]=>ob (chk g l d x s) λr=>cond (r != 0) (k { val:=.tp [.s [],.i .i64 r] }) (cond (vh d x s) (k { val:=.tp [.s (gk g l d x s),.i .i64 0] }) none)
 | _=>none⟩
theorem Lr {f:Nat} {chk:Bool->Bool->aa->Int->Int->Option Int} (c:kT P f)
  (G:∀(g l:Bool) (d:aa) (x s r:Int) (w:World) (_:chk g l d x s=some r) (_:r≠0) (_:GL ie w),Calls P f #[.agg #[.bool g,.bool l,.string ⟨d.toArray⟩,.int .i64 x,.int .i64 s]] w λe w'=>e=.returned (.tuple #[.string ⟨#[]⟩,.int .i64 r])/\Below w.heap.size w w')
  (y:∀(g l:Bool) (d:aa) (x s:Int) (w:World) (_:chk g l d x s=some 0) (_:vh d x s=true) (_:GL ie w),Calls P f #[.agg #[.bool g,.bool l,.string ⟨d.toArray⟩,.int .i64 x,.int .i64 s]] w λe w'=>e=.returned (.tuple #[.string ⟨(gk g l d x s).toArray⟩,.int .i64 0])/\Below w.heap.size w w'):
  fF P (Lx f chk):=by
 intro α args H fr k z j;simp only [Lx] at j;split at j
 case h_2=>cases j
 rename_i g l d x s;obtain ⟨r,v,m⟩:=av j;have a:∀{ι:Inj} {h:Array Value},VRs ι [.ag [.b g,.b l,.s d,.i .i64 x,.i .i64 s]] h.toList->h=#[.agg #[.bool g,.bool l,.string ⟨d.toArray⟩,.int .i64 x,.int .i64 s]]:=by
  intro ι h hx;simp only [VRs,VR] at hx;obtain ⟨_,_,E,⟨C,rfl,_,_,D,rfl,_,_,rfl,rfl,_,_,rfl,rfl,_,_,rfl,rfl,_,_,rfl,rfl,rfl⟩,rfl⟩:=hx;have t:C=#[.bool g,.bool l,.string ⟨d.toArray⟩,.int .i64 x,.int .i64 s]:=by apply ll;simpa using D
  subst t;apply ll;simpa using E
 cases n:(r != 0) with
 | true=>
  rw [n] at m;refine ⟨_,m,λA _=>.inl ⟨c,gi λι nb w h I u hx=>?_⟩⟩;rw [a hx];refine (G g l d x s r w v (by simpa using n) u).mono λe w' ⟨q,o⟩=>⟨_,q,?_,o⟩;simp only [VR];exact ⟨_,rfl,by simp [VRs,VR]⟩
 | false=>
  rw [n] at m;have p:r=0:=by simpa using n
  subst p;obtain ⟨F,B⟩:=dZ (show cond (vh d x s) _ none=some z from m);refine ⟨_,B,λA _=>.inl ⟨c,gi λι nb w h I u hx=>?_⟩⟩;rw [a hx];refine (y g l d x s w v F u).mono λe w' ⟨q,o⟩=>⟨_,q,?_,o⟩;simp only [VR];exact ⟨_,rfl,by simp [VRs,VR]⟩
theorem qj (w:World) (e:TypeId) (s:ByteArray):Below w.heap.size w (Lib.bytesWorld w e s):=by
 have a:Below w.heap.size w (w.drew.alloc (.cells (Lib.bytesCells w e s) e)):=by
  refine ⟨rfl,rfl,rfl,?_,λk b=>jO w.drew _ (show k≠w.heap.size by omega)⟩;show w.heap.size<=(w.heap.push _).size;simp
 refine a.trans ?_;unfold Lib.bytesWorld World.freeze;rw [ab (by decide)];refine ⟨rfl,rfl,rfl,?_,λk b=>?_⟩
 ·show _<=(Array.modify _ _ _).size;rw [Array.size_modify];exact aY _
 ·show (Array.modify _ _ _)[k]?=_;rw [Array.getElem?_modify,ab (show ¬w.heap.size=k by omega)]
end Go.Abs
