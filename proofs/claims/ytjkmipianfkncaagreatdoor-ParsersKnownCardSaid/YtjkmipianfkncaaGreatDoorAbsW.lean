
import Derived.Test.YtjkmipianfkncaaGreatDoorAbsT
import Derived.Lib.Atoi
import Derived.Lib.ParseIntB
import Derived.Lib.ItoaNum
set_option linter.unusedSimpArgs false
set_option linter.unusedVariables false
set_option linter.defProp false
namespace Go.Abs
open Go.RowKit
variable {P:Program}
@[reducible] def d4{A B C D E:Type}(x:A×B×C×D×E):E:=x.2.2.2.2
@[reducible] def d8{A B C D E F G H I:Type}(x:A×B×C×D×E×F×G×H×I):I:=x.2.2.2.2.2.2.2.2
@[reducible] def d16{A B C D E F G H I J K L M N O P Q:Type}(x:A×B×C×D×E×F×G×H×I×J×K×L×M×N×O×P×Q):Q:=x.2.2.2.2.2.2.2.2.2.2.2.2.2.2.2.2
abbrev TD:=Bool×Bool×aa×Int×Int×aa×aa×Int×Int×Int
abbrev TI:=Bool×Bool×aa×Int×Int×aa×aa×Int×Int×Int×Bool×TD
abbrev iF{α:Type}(x:Bool×Bool×aa×Int×Int×aa×aa×Int×Int×Int×α):TD:=(x.1,x.2.1,x.2.2.1,x.2.2.2.1,x.2.2.2.2.1,x.2.2.2.2.2.1,x.2.2.2.2.2.2.1,x.2.2.2.2.2.2.2.1,x.2.2.2.2.2.2.2.2.1,x.2.2.2.2.2.2.2.2.2.1)
abbrev mkI(x:TD)(b:Bool)(y:TD):TI:=(x.1,x.2.1,x.2.2.1,x.2.2.2.1,x.2.2.2.2.1,x.2.2.2.2.2.1,x.2.2.2.2.2.2.1,x.2.2.2.2.2.2.2.1,x.2.2.2.2.2.2.2.2.1,x.2.2.2.2.2.2.2.2.2,b,y)
abbrev d0:TD:=(false,false,[],0,0,[],[],0,0,0)
abbrev eqD(x y:TD):Bool:=(((x.1==y.1)&&((x.2.1==y.2.1)&&((x.2.2.1==y.2.2.1)&&((x.2.2.2.1==y.2.2.2.1)&&((x.2.2.2.2.1==y.2.2.2.2.1)&&true)))))&&((x.2.2.2.2.2.1==y.2.2.2.2.2.1)&&((x.2.2.2.2.2.2.1==y.2.2.2.2.2.2.1)&&(((x.2.2.2.2.2.2.2.1==y.2.2.2.2.2.2.2.1)&&((x.2.2.2.2.2.2.2.2.1==y.2.2.2.2.2.2.2.2.1)&&((x.2.2.2.2.2.2.2.2.2==y.2.2.2.2.2.2.2.2.2)&&true)))&&true))))
abbrev ap10{α:Type}(f:Bool->Bool->aa->Int->Int->aa->aa->Int->Int->Int->α)(x:TD):α:=f x.1 x.2.1 x.2.2.1 x.2.2.2.1 x.2.2.2.2.1 x.2.2.2.2.2.1 x.2.2.2.2.2.2.1 x.2.2.2.2.2.2.2.1 x.2.2.2.2.2.2.2.2.1 x.2.2.2.2.2.2.2.2.2
abbrev sm{α b a:Type}(y:α⊕b)(f:α->Option a)(g:b->Option a):Option a:=Sum.casesOn (motive:=λ_=>Option a) y f g
abbrev obs{α b a:Type}(o:Option (α⊕b))(f:α->Option a)(g:b->Option a):Option a:=ob o λy=>sm y f g
abbrev len{α:Type}(l:List α):Int:=((List.length l:Nat):Int)
abbrev w64(x:Int):Int:=IntKind.wrap .i64 x
abbrev w8(x:Int):Int:=IntKind.wrap .u8 x
def nD:List (Int×Int):=[(3,3),(6,3),(9,3),(12,3),(3,3),(6,3),(9,3),(12,3),(9,3),(12,3),(3,3),(6,3),(1,3),(4,3),(7,3),(10,3),(1,4),(5,4),(9,4),(1,6),(7,6)]
def vQ:List Int:=[31,28,31,30,31,30,31,31,30,31,30,31]
def wa(l:aa):Option Int:=match Lib.parseIntB 64 l with | .ok v=>some v | _=>none
def L8(f:Nat):Ent:=⟨f,λ_ args _ _ k=>match args with
 | [.s l,.i .i64 10,.i .i64 64]=>cond (Nat.ble l.length 9223372036854775806) (ob (wa l) λv=>k { val:=.tp [.i .i64 v,.ni] }) none
 | _=>none⟩
def opt{α a:Type}(o:Option α)(f:α->a)(g:a):a:=match o with | some x=>f x | none=>g
def Q3(f:Nat)(T:TypeId):Ent:=⟨f,λ_ args _ _ k=>match args with
 | [.s l]=>cond (Nat.ble l.length 18) (opt (Lib.atoi l) (λv=>k { val:=.tp [.i .i64 v,.ni] }) (k { val:=.tp [.i .i64 0,.it T .unk] })) none
 | _=>none⟩
def Jp{f:Nat}(a:l9 P f)
  (h:∀(s:ByteArray) (_:s.size<=9223372036854775806) (v:Int) (_:Lib.parseIntB 64 s.data.toList=.ok v) (w:World),Calls P f #[.string s,.int .i64 10,.int .i64 64] w λe w'=>e=.returned (.tuple #[.int .i64 v,.nilIface])/\Below w.heap.size w w'):gg P (L8 f):=by
 intro α args H fr k z b;simp only[L8]at b;split at b
 case h_2=>cases b
 rename_i l;obtain⟨j,o⟩:=eZ b;obtain⟨v,c,d⟩:=av o;have m:=aH j;have p:Lib.parseIntB 64 l=.ok v:=by
  unfold wa at c;split at c
  ·rename_i u r;cases c;exact r
  ·cases c
 refine⟨_,d,λt _=>.inl ⟨a,mg λι nb w i x _ hx=>?_⟩⟩;simp only[VRs,VR]at hx;obtain⟨_,_,g,rfl,_,_,rfl,rfl,_,_,rfl,rfl,rfl⟩:=hx;have:i=#[.string ⟨l.toArray⟩,.int .i64 10,.int .i64 64]:=by apply mS;simpa using g
 subst this;refine(h ⟨l.toArray⟩ m v (by simpa using p) w).mono λe w' ⟨q,n⟩=>⟨_,q,?_,n⟩;simp only[VR];exact⟨_,rfl,by simp[VRs,VR]⟩
def Ou{f:Nat}{T:TypeId}(b:l9 P f)
  (h:∀(s:ByteArray) (n:Int) (_:s.size<=18) (_:Lib.atoi s.data.toList=some n) (w:World),Calls P f #[.string s] w λe w'=>e=.returned (.tuple #[.int .i64 n,.nilIface])/\Below w.heap.size w w')
  (x:∀(s:ByteArray) (_:s.size<=18) (_:Lib.atoi s.data.toList=none) (w:World) (_:GL jG w),Calls P f #[.string s] w λe w'=>∃a,e=.returned (.tuple #[.int .i64 0,.iface T (.pointer a)])/\Below w.heap.size w w'):gg P (Q3 f T):=by
 intro α args H fr k z d;simp only[Q3]at d;split at d
 case h_2=>cases d
 rename_i l;obtain⟨t,g⟩:=eZ d;have o:=aH t;have one:∀{ι:Inj} {c:Array Value},VRs ι [.s l] c.toList->c=#[.string ⟨l.toArray⟩]:=by
  intro ι c hx;simp only[VRs,VR]at hx;obtain⟨_,_,p,rfl,rfl⟩:=hx;apply mS;simpa using p
 cases i:Lib.atoi l with
 | some v=>
  rw[i]at g;refine⟨_,g,λr _=>.inl ⟨b,mg λι nb w c u _ hx=>?_⟩⟩;rw[one hx];refine(h ⟨l.toArray⟩ v o (by simpa using i) w).mono λe w' ⟨m,j⟩=>⟨_,m,?_,j⟩;simp only[VR];exact⟨_,rfl,by simp[VRs,VR]⟩
 | none=>
  rw[i]at g;refine⟨_,g,λr _=>.inl ⟨b,mg λι nb w c u q hx=>?_⟩⟩;rw[one hx];refine(x ⟨l.toArray⟩ o (by simpa using i) w q).mono λe w' ⟨a,m,j⟩=>⟨_,m,?_,j⟩;simp only[VR];refine⟨_,rfl,?_⟩;simp only[VRs,VR];exact⟨_,_,rfl,rfl,_,_,rfl,⟨_,rfl,rfl,rfl⟩,rfl⟩
def mL(g l:Bool)(d:aa)(x s:Int):aa:=
 (if l then[89]else[])++(if g then[45]else[])++d++(if 0<x then 69::Lib.decDigits x.toNat else[])++(if 0<s then 83::Lib.decDigits s.toNat else[])
def pS(w:World)(e:TypeId)(s:ByteArray):Below w.heap.size w (Lib.bytesWorld w e s):=by
 have a:Below w.heap.size w (w.drew.alloc (.cells (Lib.bytesCells w e s) e)):=by
  refine⟨rfl,rfl,rfl,?_,λk b=>jI w.drew _ (show k≠w.heap.size by omega)⟩;show w.heap.size<=(w.heap.push _).size;simp
 refine a.trans ?_;unfold Lib.bytesWorld World.freeze;rw[ab (by decide)];refine⟨rfl,rfl,rfl,?_,λk b=>?_⟩
 ·show _<=(Array.modify _ _ _).size;rw[Array.size_modify];exact aQ _
 ·show(Array.modify _ _ _)[k]?=_;rw[Array.getElem?_modify,ab (show¬w.heap.size=k by omega)]
end Go.Abs
