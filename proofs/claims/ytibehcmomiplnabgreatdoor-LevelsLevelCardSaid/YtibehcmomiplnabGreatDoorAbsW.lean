
import Derived.Test.YtibehcmomiplnabGreatDoorAbsT
import Derived.Lib.Atoi
import Derived.Lib.ParseIntB
import Derived.Lib.ItoaNum
set_option linter.unusedSimpArgs false
set_option linter.unusedVariables false
set_option linter.defProp false
namespace Go.Abs
open Go.RowKit
variable {P:Program}
@[reducible] def d4{A B C D E:Type}(x:A×B×C×D×E):E:=x.2.2.2.2
@[reducible] def d8{A B C D E F G H I:Type}(x:A×B×C×D×E×F×G×H×I):I:=x.2.2.2.2.2.2.2.2
@[reducible] def d16{A B C D E F G H I J K L M N O P Q:Type}(x:A×B×C×D×E×F×G×H×I×J×K×L×M×N×O×P×Q):Q:=x.2.2.2.2.2.2.2.2.2.2.2.2.2.2.2.2
abbrev TD:=Bool×Bool×aa×Int×Int×aa×aa×Int×Int×Int
abbrev TI:=Bool×Bool×aa×Int×Int×aa×aa×Int×Int×Int×Bool×TD
abbrev iF{α:Type}(x:Bool×Bool×aa×Int×Int×aa×aa×Int×Int×Int×α):TD:=(x.1,x.2.1,x.2.2.1,x.2.2.2.1,x.2.2.2.2.1,x.2.2.2.2.2.1,x.2.2.2.2.2.2.1,x.2.2.2.2.2.2.2.1,x.2.2.2.2.2.2.2.2.1,x.2.2.2.2.2.2.2.2.2.1)
abbrev mkI(x:TD)(b:Bool)(y:TD):TI:=(x.1,x.2.1,x.2.2.1,x.2.2.2.1,x.2.2.2.2.1,x.2.2.2.2.2.1,x.2.2.2.2.2.2.1,x.2.2.2.2.2.2.2.1,x.2.2.2.2.2.2.2.2.1,x.2.2.2.2.2.2.2.2.2,b,y)
abbrev d0:TD:=(false,false,[],0,0,[],[],0,0,0)
abbrev eqD(x y:TD):Bool:=(((x.1==y.1)&&((x.2.1==y.2.1)&&((x.2.2.1==y.2.2.1)&&((x.2.2.2.1==y.2.2.2.1)&&((x.2.2.2.2.1==y.2.2.2.2.1)&&true)))))&&((x.2.2.2.2.2.1==y.2.2.2.2.2.1)&&((x.2.2.2.2.2.2.1==y.2.2.2.2.2.2.1)&&(((x.2.2.2.2.2.2.2.1==y.2.2.2.2.2.2.2.1)&&((x.2.2.2.2.2.2.2.2.1==y.2.2.2.2.2.2.2.2.1)&&((x.2.2.2.2.2.2.2.2.2==y.2.2.2.2.2.2.2.2.2)&&true)))&&true))))
abbrev ap10{α:Type}(f:Bool->Bool->aa->Int->Int->aa->aa->Int->Int->Int->α)(x:TD):α:=f x.1 x.2.1 x.2.2.1 x.2.2.2.1 x.2.2.2.2.1 x.2.2.2.2.2.1 x.2.2.2.2.2.2.1 x.2.2.2.2.2.2.2.1 x.2.2.2.2.2.2.2.2.1 x.2.2.2.2.2.2.2.2.2
abbrev sm{α β a:Type}(y:α⊕β)(f:α->Option a)(g:β->Option a):Option a:=Sum.casesOn (motive:=λ_=>Option a) y f g
abbrev obs{α β a:Type}(o:Option (α⊕β))(f:α->Option a)(g:β->Option a):Option a:=ob o λy=>sm y f g
abbrev len{α:Type}(l:List α):Int:=(l.length:Int)
abbrev w64(x:Int):Int:=IntKind.wrap .i64 x
abbrev w8(x:Int):Int:=IntKind.wrap .u8 x
def pR:List (Int×Int):=[(3,3),(6,3),(9,3),(12,3),(3,3),(6,3),(9,3),(12,3),(9,3),(12,3),(3,3),(6,3),(1,3),(4,3),(7,3),(10,3),(1,4),(5,4),(9,4),(1,6),(7,6)]
def yY:List Int:=[31,28,31,30,31,30,31,31,30,31,30,31]
def zG(l:aa):Option Int:=match Lib.parseIntB 64 l with | .ok v=>some v | _=>none
def NP(f:Nat):Ent:=⟨f,λ_ args _ _ k=>match args with
 | [.s l,.i .i64 10,.i .i64 64]=>cond (Nat.ble l.length 9223372036854775806) (ob (zG l) λv=>k { val:=.tp [.i .i64 v,.ni] }) none
 | _=>none⟩
def opt{α β:Type}(o:Option α)(f:α->β)(g:β):β:=match o with | some x=>f x | none=>g
def Yh(f:Nat)(T:TypeId):Ent:=⟨f,λ_ args _ _ k=>match args with
 | [.s l]=>cond (Nat.ble l.length 18) (opt (Lib.atoi l) (λv=>k { val:=.tp [.i .i64 v,.ni] }) (k { val:=.tp [.i .i64 0,.it T .unk] })) none
 | _=>none⟩
def OJ{f:Nat}(a:mA P f)
  (h:∀(s:ByteArray) (_:s.size<=9223372036854775806) (v:Int) (_:Lib.parseIntB 64 s.data.toList=.ok v) (w:World),Calls P f #[.string s,.int .i64 10,.int .i64 64] w λe w'=>e=.returned (.tuple #[.int .i64 v,.nilIface])/\Below w.heap.size w w'):gV P (NP f):=by
 intro α args H fr k z b;simp only[NP]at b;split at b
 case h_2=>cases b
 rename_i l;obtain⟨g,q⟩:=eV b;obtain⟨v,c,d⟩:=ax q;have i:=aR g;have m:Lib.parseIntB 64 l=.ok v:=by
  unfold zG at c;split at c
  ·rename_i u p;cases c;exact p
  ·cases c
 refine⟨_,d,λt _=>.inl ⟨a,ib λι nb w o x _ hx=>?_⟩⟩;simp only[VRs,VR]at hx;obtain⟨_,_,r,rfl,_,_,rfl,rfl,_,_,rfl,rfl,rfl⟩:=hx;have:o=#[.string ⟨l.toArray⟩,.int .i64 10,.int .i64 64]:=by apply mO;simpa using r
 subst this;refine(h ⟨l.toArray⟩ i v (by simpa using m) w).mono λe w' ⟨j,n⟩=>⟨_,j,?_,n⟩;simp only[VR];exact⟨_,rfl,by simp[VRs,VR]⟩
def UG{f:Nat}{T:TypeId}(b:mA P f)
  (h:∀(s:ByteArray) (n:Int) (_:s.size<=18) (_:Lib.atoi s.data.toList=some n) (w:World),Calls P f #[.string s] w λe w'=>e=.returned (.tuple #[.int .i64 n,.nilIface])/\Below w.heap.size w w')
  (q:∀(s:ByteArray) (_:s.size<=18) (_:Lib.atoi s.data.toList=none) (w:World) (_:GL iI w),Calls P f #[.string s] w λe w'=>∃a,e=.returned (.tuple #[.int .i64 0,.iface T (.pointer a)])/\Below w.heap.size w w'):gV P (Yh f T):=by
 intro α args H fr k z d;simp only[Yh]at d;split at d
 case h_2=>cases d
 rename_i l;obtain⟨p,i⟩:=eV d;have o:=aR p;have one:∀{ι:Inj} {c:Array Value},VRs ι [.s l] c.toList->c=#[.string ⟨l.toArray⟩]:=by
  intro ι c hx;simp only[VRs,VR]at hx;obtain⟨_,_,x,rfl,rfl⟩:=hx;apply mO;simpa using x
 cases g:Lib.atoi l with
 | some v=>
  rw[g]at i;refine⟨_,i,λt _=>.inl ⟨b,ib λι nb w c u _ hx=>?_⟩⟩;rw[one hx];refine(h ⟨l.toArray⟩ v o (by simpa using g) w).mono λe w' ⟨j,m⟩=>⟨_,j,?_,m⟩;simp only[VR];exact⟨_,rfl,by simp[VRs,VR]⟩
 | none=>
  rw[g]at i;refine⟨_,i,λt _=>.inl ⟨b,ib λι nb w c u r hx=>?_⟩⟩;rw[one hx];refine(q ⟨l.toArray⟩ o (by simpa using g) w r).mono λe w' ⟨a,j,m⟩=>⟨_,j,?_,m⟩;simp only[VR];refine⟨_,rfl,?_⟩;simp only[VRs,VR];exact⟨_,_,rfl,rfl,_,_,rfl,⟨_,rfl,rfl,rfl⟩,rfl⟩
def fZ(g l:Bool)(d:aa)(x s:Int):aa:=
 (if l then[89]else[])++(if g then[45]else[])++d++(if 0<x then 69::Lib.decDigits x.toNat else[])++(if 0<s then 83::Lib.decDigits s.toNat else[])
def xZ(d:aa)(x s:Int):Bool:=decide (0<=x/\x<100/\0<=s/\s<100)&&Nat.ble d.length 1000
def QT(f:Nat)(chk:Bool->Bool->aa->Int->Int->Option Int):Ent:=⟨f,λ_ args _ _ k=>match args with
 | [.ag [.b g,.b l,.s d,.i .i64 x,.i .i64 s]]=>ob (chk g l d x s) λr=>cond (r != 0) (k { val:=.tp [.s [],.i .i64 r] }) (cond (xZ d x s) (k { val:=.tp [.s (fZ g l d x s),.i .i64 0] }) none)
 | _=>none⟩
def OV{f:Nat}{chk:Bool->Bool->aa->Int->Int->Option Int}(c:mA P f)
  (D:∀(g l:Bool) (d:aa) (x s r:Int) (w:World) (_:chk g l d x s=some r) (_:r≠0) (_:GL iI w),Calls P f #[.agg #[.bool g,.bool l,.string ⟨d.toArray⟩,.int .i64 x,.int .i64 s]] w λe w'=>e=.returned (.tuple #[.string ⟨#[]⟩,.int .i64 r])/\Below w.heap.size w w')
  (F:∀(g l:Bool) (d:aa) (x s:Int) (w:World) (_:chk g l d x s=some 0) (_:xZ d x s=true) (_:GL iI w),Calls P f #[.agg #[.bool g,.bool l,.string ⟨d.toArray⟩,.int .i64 x,.int .i64 s]] w λe w'=>e=.returned (.tuple #[.string ⟨(fZ g l d x s).toArray⟩,.int .i64 0])/\Below w.heap.size w w'):
  gV P (QT f chk):=by
 intro α args H fr k z n;simp only[QT]at n;split at n
 case h_2=>cases n
 rename_i g l d x s;obtain⟨r,v,j⟩:=ax n;have a:∀{ι:Inj} {h:Array Value},VRs ι [.ag [.b g,.b l,.s d,.i .i64 x,.i .i64 s]] h.toList->h=#[.agg #[.bool g,.bool l,.string ⟨d.toArray⟩,.int .i64 x,.int .i64 s]]:=by
  intro ι h hx;simp only[VRs,VR]at hx;obtain⟨_,_,I,⟨C,rfl,_,_,A,rfl,_,_,rfl,rfl,_,_,rfl,rfl,_,_,rfl,rfl,_,_,rfl,rfl,rfl⟩,rfl⟩:=hx;have u:C=#[.bool g,.bool l,.string ⟨d.toArray⟩,.int .i64 x,.int .i64 s]:=by apply mO;simpa using A
  subst u;apply mO;simpa using I
 cases m:(r != 0)with
 | true=>
  rw[m]at j;refine⟨_,j,λB _=>.inl ⟨c,ib λι nb w h G p hx=>?_⟩⟩;rw[a hx];refine(D g l d x s r w v (by simpa using m) p).mono λe w' ⟨t,q⟩=>⟨_,t,?_,q⟩;simp only[VR];exact⟨_,rfl,by simp[VRs,VR]⟩
 | false=>
  rw[m]at j;have o:r=0:=by simpa using m
  subst o;obtain⟨y,E⟩:=eV (show cond (xZ d x s) _ none=some z from j);refine⟨_,E,λB _=>.inl ⟨c,ib λι nb w h G p hx=>?_⟩⟩;rw[a hx];refine(F g l d x s w v y p).mono λe w' ⟨t,q⟩=>⟨_,t,?_,q⟩;simp only[VR];exact⟨_,rfl,by simp[VRs,VR]⟩
def tj(w:World)(e:TypeId)(s:ByteArray):Below w.heap.size w (Lib.bytesWorld w e s):=by
 have b:Below w.heap.size w (w.drew.alloc (.cells (Lib.bytesCells w e s) e)):=by
  refine⟨rfl,rfl,rfl,?_,λk a=>lq w.drew _ (show k≠w.heap.size by omega)⟩;show w.heap.size<=(w.heap.push _).size;simp
 refine b.trans ?_;unfold Lib.bytesWorld World.freeze;rw[ab (by decide)];refine⟨rfl,rfl,rfl,?_,λk a=>?_⟩
 ·show _<=(Array.modify _ _ _).size;rw[Array.size_modify];exact bi _
 ·show(Array.modify _ _ _)[k]?=_;rw[Array.getElem?_modify,ab (show¬w.heap.size=k by omega)]
end Go.Abs
