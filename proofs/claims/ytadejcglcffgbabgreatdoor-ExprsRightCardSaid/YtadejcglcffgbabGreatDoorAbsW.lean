
import Derived.Test.YtadejcglcffgbabGreatDoorAbsT
import Derived.Lib.Atoi
import Derived.Lib.ParseIntB
import Derived.Lib.ItoaNum
set_option linter.unusedSimpArgs false
set_option linter.unusedVariables false
set_option linter.defProp false
namespace Go.Abs
open Go.RowKit
variable {P:Program}
@[reducible] def d4{A B C D E:Type}(x:A×B×C×D×E):E:=x.2.2.2.2
@[reducible] def d8{A B C D E F G H I:Type}(x:A×B×C×D×E×F×G×H×I):I:=x.2.2.2.2.2.2.2.2
@[reducible] def d16{A B C D E F G H I J K L M N O P Q:Type}(x:A×B×C×D×E×F×G×H×I×J×K×L×M×N×O×P×Q):Q:=x.2.2.2.2.2.2.2.2.2.2.2.2.2.2.2.2
abbrev TD:=Bool×Bool×aa×Int×Int×aa×aa×Int×Int×Int
abbrev TI:=Bool×Bool×aa×Int×Int×aa×aa×Int×Int×Int×Bool×TD
abbrev iF{α:Type}(x:Bool×Bool×aa×Int×Int×aa×aa×Int×Int×Int×α):TD:=(x.1,x.2.1,x.2.2.1,x.2.2.2.1,x.2.2.2.2.1,x.2.2.2.2.2.1,x.2.2.2.2.2.2.1,x.2.2.2.2.2.2.2.1,x.2.2.2.2.2.2.2.2.1,x.2.2.2.2.2.2.2.2.2.1)
abbrev mkI(x:TD)(b:Bool)(y:TD):TI:=(x.1,x.2.1,x.2.2.1,x.2.2.2.1,x.2.2.2.2.1,x.2.2.2.2.2.1,x.2.2.2.2.2.2.1,x.2.2.2.2.2.2.2.1,x.2.2.2.2.2.2.2.2.1,x.2.2.2.2.2.2.2.2.2,b,y)
abbrev d0:TD:=(false,false,[],0,0,[],[],0,0,0)
abbrev eqD(x y:TD):Bool:=(((x.1==y.1)&&((x.2.1==y.2.1)&&((x.2.2.1==y.2.2.1)&&((x.2.2.2.1==y.2.2.2.1)&&((x.2.2.2.2.1==y.2.2.2.2.1)&&true)))))&&((x.2.2.2.2.2.1==y.2.2.2.2.2.1)&&((x.2.2.2.2.2.2.1==y.2.2.2.2.2.2.1)&&(((x.2.2.2.2.2.2.2.1==y.2.2.2.2.2.2.2.1)&&((x.2.2.2.2.2.2.2.2.1==y.2.2.2.2.2.2.2.2.1)&&((x.2.2.2.2.2.2.2.2.2==y.2.2.2.2.2.2.2.2.2)&&true)))&&true))))
abbrev ap10{α:Type}(f:Bool->Bool->aa->Int->Int->aa->aa->Int->Int->Int->α)(x:TD):α:=f x.1 x.2.1 x.2.2.1 x.2.2.2.1 x.2.2.2.2.1 x.2.2.2.2.2.1 x.2.2.2.2.2.2.1 x.2.2.2.2.2.2.2.1 x.2.2.2.2.2.2.2.2.1 x.2.2.2.2.2.2.2.2.2
abbrev sm{α β a:Type}(y:α⊕β)(f:α->Option a)(g:β->Option a):Option a:=Sum.casesOn (motive:=λ_=>Option a) y f g
abbrev obs{α β a:Type}(o:Option (α⊕β))(f:α->Option a)(g:β->Option a):Option a:=ob o λy=>sm y f g
abbrev len{α:Type}(l:List α):Int:=((List.length l:Nat):Int)
abbrev w64(x:Int):Int:=IntKind.wrap .i64 x
abbrev w8(x:Int):Int:=IntKind.wrap .u8 x
def kQ:List (Int×Int):=[(3,3),(6,3),(9,3),(12,3),(3,3),(6,3),(9,3),(12,3),(9,3),(12,3),(3,3),(6,3),(1,3),(4,3),(7,3),(10,3),(1,4),(5,4),(9,4),(1,6),(7,6)]
def rD:List Int:=[31,28,31,30,31,30,31,31,30,31,30,31]
def ub(l:aa):Option Int:=match Lib.parseIntB 64 l with | .ok v=>some v | _=>none
def FL(f:Nat):Ent:=⟨f,λ_ args _ _ k=>match args with
 | [.s l,.i .i64 10,.i .i64 64]=>cond (Nat.ble l.length 9223372036854775806) (ob (ub l) λv=>k { val:=.tp [.i .i64 v,.ni] }) none
 | _=>none⟩
def opt{α β:Type}(o:Option α)(f:α->β)(g:β):β:=match o with | some x=>f x | none=>g
def Ks(f:Nat)(T:TypeId):Ent:=⟨f,λ_ args _ _ k=>match args with
 | [.s l]=>cond (Nat.ble l.length 18) (opt (Lib.atoi l) (λv=>k { val:=.tp [.i .i64 v,.ni] }) (k { val:=.tp [.i .i64 0,.it T .unk] })) none
 | _=>none⟩
def GE{f:Nat}(a:pg P f)
  (h:∀(s:ByteArray) (_:s.size<=9223372036854775806) (v:Int) (_:Lib.parseIntB 64 s.data.toList=.ok v) (w:World),Calls P f #[.string s,.int .i64 10,.int .i64 64] w λe w'=>e=.returned (.tuple #[.int .i64 v,.nilIface])/\Below w.heap.size w w'):ib P (FL f):=by
 intro α args H fr k z c;simp only[FL]at c;split at c
 case h_2=>cases c
 rename_i l;obtain⟨p,i⟩:=dU c;obtain⟨v,b,j⟩:=av i;have g:=aJ p;have r:Lib.parseIntB 64 l=.ok v:=by
  unfold ub at b;split at b
  ·rename_i u o;cases b;exact o
  ·cases b
 refine⟨_,j,λt _=>.inl ⟨a,nA λι nb w d x _ hx=>?_⟩⟩;simp only[VRs,VR]at hx;obtain⟨_,_,q,rfl,_,_,rfl,rfl,_,_,rfl,rfl,rfl⟩:=hx;have:d=#[.string ⟨l.toArray⟩,.int .i64 10,.int .i64 64]:=by apply kH;simpa using q
 subst this;refine(h ⟨l.toArray⟩ g v (by simpa using r) w).mono λe w' ⟨n,m⟩=>⟨_,n,?_,m⟩;simp only[VR];exact⟨_,rfl,by simp[VRs,VR]⟩
def Ic{f:Nat}{T:TypeId}(b:pg P f)
  (h:∀(s:ByteArray) (n:Int) (_:s.size<=18) (_:Lib.atoi s.data.toList=some n) (w:World),Calls P f #[.string s] w λe w'=>e=.returned (.tuple #[.int .i64 n,.nilIface])/\Below w.heap.size w w')
  (t:∀(s:ByteArray) (_:s.size<=18) (_:Lib.atoi s.data.toList=none) (w:World) (_:GL ii w),Calls P f #[.string s] w λe w'=>∃a,e=.returned (.tuple #[.int .i64 0,.iface T (.pointer a)])/\Below w.heap.size w w'):ib P (Ks f T):=by
 intro α args H fr k z d;simp only[Ks]at d;split at d
 case h_2=>cases d
 rename_i l;obtain⟨u,g⟩:=dU d;have o:=aJ u;have one:∀{ι:Inj} {c:Array Value},VRs ι [.s l] c.toList->c=#[.string ⟨l.toArray⟩]:=by
  intro ι c hx;simp only[VRs,VR]at hx;obtain⟨_,_,x,rfl,rfl⟩:=hx;apply kH;simpa using x
 cases i:Lib.atoi l with
 | some v=>
  rw[i]at g;refine⟨_,g,λp _=>.inl ⟨b,nA λι nb w c q _ hx=>?_⟩⟩;rw[one hx];refine(h ⟨l.toArray⟩ v o (by simpa using i) w).mono λe w' ⟨m,j⟩=>⟨_,m,?_,j⟩;simp only[VR];exact⟨_,rfl,by simp[VRs,VR]⟩
 | none=>
  rw[i]at g;refine⟨_,g,λp _=>.inl ⟨b,nA λι nb w c q r hx=>?_⟩⟩;rw[one hx];refine(t ⟨l.toArray⟩ o (by simpa using i) w r).mono λe w' ⟨a,m,j⟩=>⟨_,m,?_,j⟩;simp only[VR];refine⟨_,rfl,?_⟩;simp only[VRs,VR];exact⟨_,_,rfl,rfl,_,_,rfl,⟨_,rfl,rfl,rfl⟩,rfl⟩
def mN(w:World)(e:TypeId)(s:ByteArray):Below w.heap.size w (Lib.bytesWorld w e s):=by
 have b:Below w.heap.size w (w.drew.alloc (.cells (Lib.bytesCells w e s) e)):=by
  refine⟨rfl,rfl,rfl,?_,λk a=>gY w.drew _ (show k≠w.heap.size by omega)⟩;show w.heap.size<=(w.heap.push _).size;simp
 refine b.trans ?_;unfold Lib.bytesWorld World.freeze;rw[ab (by decide)];refine⟨rfl,rfl,rfl,?_,λk a=>?_⟩
 ·show _<=(Array.modify _ _ _).size;rw[Array.size_modify];exact aV _
 ·show(Array.modify _ _ _)[k]?=_;rw[Array.getElem?_modify,ab (show¬w.heap.size=k by omega)]
end Go.Abs
