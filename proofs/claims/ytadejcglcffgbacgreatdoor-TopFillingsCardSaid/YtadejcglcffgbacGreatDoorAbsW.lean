
import Derived.Test.YtadejcglcffgbacGreatDoorAbsT
import Derived.Lib.Atoi
import Derived.Lib.ParseIntB
set_option linter.unusedSimpArgs false
set_option linter.unusedVariables false
set_option linter.defProp false
namespace Go.Abs
open Go.RowKit
variable {P:Program}
@[reducible] def d4{A B C D E:Type}(x:A×B×C×D×E):E:=x.2.2.2.2
@[reducible] def d8{A B C D E F G H I:Type}(x:A×B×C×D×E×F×G×H×I):I:=x.2.2.2.2.2.2.2.2
@[reducible] def d16{A B C D E F G H I J K L M N O P Q:Type}(x:A×B×C×D×E×F×G×H×I×J×K×L×M×N×O×P×Q):Q:=x.2.2.2.2.2.2.2.2.2.2.2.2.2.2.2.2
abbrev TD:=Bool×Bool×aa×Int×Int×aa×aa×Int×Int×Int
abbrev TI:=Bool×Bool×aa×Int×Int×aa×aa×Int×Int×Int×Bool×TD
abbrev iF{α:Type}(x:Bool×Bool×aa×Int×Int×aa×aa×Int×Int×Int×α):TD:=(x.1,x.2.1,x.2.2.1,x.2.2.2.1,x.2.2.2.2.1,x.2.2.2.2.2.1,x.2.2.2.2.2.2.1,x.2.2.2.2.2.2.2.1,x.2.2.2.2.2.2.2.2.1,x.2.2.2.2.2.2.2.2.2.1)
abbrev mkI(x:TD)(b:Bool)(y:TD):TI:=(x.1,x.2.1,x.2.2.1,x.2.2.2.1,x.2.2.2.2.1,x.2.2.2.2.2.1,x.2.2.2.2.2.2.1,x.2.2.2.2.2.2.2.1,x.2.2.2.2.2.2.2.2.1,x.2.2.2.2.2.2.2.2.2,b,y)
abbrev d0:TD:=(false,false,[],0,0,[],[],0,0,0)
abbrev eqD(x y:TD):Bool:=(((x.1==y.1)&&((x.2.1==y.2.1)&&((x.2.2.1==y.2.2.1)&&((x.2.2.2.1==y.2.2.2.1)&&((x.2.2.2.2.1==y.2.2.2.2.1)&&true)))))&&((x.2.2.2.2.2.1==y.2.2.2.2.2.1)&&((x.2.2.2.2.2.2.1==y.2.2.2.2.2.2.1)&&(((x.2.2.2.2.2.2.2.1==y.2.2.2.2.2.2.2.1)&&((x.2.2.2.2.2.2.2.2.1==y.2.2.2.2.2.2.2.2.1)&&((x.2.2.2.2.2.2.2.2.2==y.2.2.2.2.2.2.2.2.2)&&true)))&&true))))
abbrev ap10{α:Type}(f:Bool->Bool->aa->Int->Int->aa->aa->Int->Int->Int->α)(x:TD):α:=f x.1 x.2.1 x.2.2.1 x.2.2.2.1 x.2.2.2.2.1 x.2.2.2.2.2.1 x.2.2.2.2.2.2.1 x.2.2.2.2.2.2.2.1 x.2.2.2.2.2.2.2.2.1 x.2.2.2.2.2.2.2.2.2
abbrev sm{α β a:Type}(y:α⊕β)(f:α->Option a)(g:β->Option a):Option a:=Sum.casesOn (motive:=λ_=>Option a) y f g
abbrev obs{α β a:Type}(o:Option (α⊕β))(f:α->Option a)(g:β->Option a):Option a:=ob o λy=>sm y f g
abbrev len{α:Type}(l:List α):Int:=((List.length l:Nat):Int)
abbrev w64(x:Int):Int:=IntKind.wrap .i64 x
abbrev w8(x:Int):Int:=IntKind.wrap .u8 x
def qQ:List (Int×Int):=[(3,3),(6,3),(9,3),(12,3),(3,3),(6,3),(9,3),(12,3),(9,3),(12,3),(3,3),(6,3),(1,3),(4,3),(7,3),(10,3),(1,4),(5,4),(9,4),(1,6),(7,6)]
def rk:List Int:=[31,28,31,30,31,30,31,31,30,31,30,31]
def tZ(l:aa):Option Int:=match Lib.parseIntB 64 l with | .ok v=>some v | _=>none
def EW(f:Nat):Ent:=⟨f,λ_ args _ _ k=>match args with
 | [.s l,.i .i64 10,.i .i64 64]=>cond (Nat.ble l.length 9223372036854775806) (ob (tZ l) λv=>k { val:=.tp [.i .i64 v,.ni] }) none
 | _=>none⟩
def opt{α β:Type}(o:Option α)(f:α->β)(g:β):β:=match o with | some x=>f x | none=>g
def JJ(f:Nat)(T:TypeId):Ent:=⟨f,λ_ args _ _ k=>match args with
 | [.s l]=>cond (Nat.ble l.length 18) (opt (Lib.atoi l) (λv=>k { val:=.tp [.i .i64 v,.ni] }) (k { val:=.tp [.i .i64 0,.it T .unk] })) none
 | _=>none⟩
def E2{f:Nat}(a:gj P f)
  (h:∀(s:ByteArray) (_:s.size<=9223372036854775806) (v:Int) (_:Lib.parseIntB 64 s.data.toList=.ok v) (w:World),Calls P f #[.string s,.int .i64 10,.int .i64 64] w λe w'=>e=.returned (.tuple #[.int .i64 v,.nilIface])/\Below w.heap.size w w'):cN P (EW f):=by
 intro α args H fr k z b;simp only[EW]at b;split at b
 case h_2=>cases b
 rename_i l;obtain⟨h1,h2⟩:=bR b;obtain⟨v,c,p⟩:=ah h2;have m:=az h1;have i:Lib.parseIntB 64 l=.ok v:=by
  unfold tZ at c;split at c
  ·rename_i u g;cases c;exact g
  ·cases c
 refine⟨_,p,λr _=>.inl ⟨a,cK λι nb w q t _ d=>?_⟩⟩;simp only[VRs,VR]at d;obtain⟨_,_,j,rfl,_,_,rfl,rfl,_,_,rfl,rfl,rfl⟩:=d;have:q=#[.string ⟨l.toArray⟩,.int .i64 10,.int .i64 64]:=by apply gQ;simpa using j
 subst this;refine(h ⟨l.toArray⟩ m v (by simpa using i) w).mono λe w' ⟨o,n⟩=>⟨_,o,?_,n⟩;simp only[VR];exact⟨_,rfl,by simp[VRs,VR]⟩
def Hv{f:Nat}{T:TypeId}(b:gj P f)
  (h:∀(s:ByteArray) (n:Int) (_:s.size<=18) (_:Lib.atoi s.data.toList=some n) (w:World),Calls P f #[.string s] w λe w'=>e=.returned (.tuple #[.int .i64 n,.nilIface])/\Below w.heap.size w w')
  (q:∀(s:ByteArray) (_:s.size<=18) (_:Lib.atoi s.data.toList=none) (w:World) (_:GL dY w),Calls P f #[.string s] w λe w'=>∃a,e=.returned (.tuple #[.int .i64 0,.iface T (.pointer a)])/\Below w.heap.size w w'):cN P (JJ f T):=by
 intro α args H fr k z i;simp only[JJ]at i;split at i
 case h_2=>cases i
 rename_i l;obtain⟨h1,h2⟩:=bR i;have o:=az h1;have one:∀{ι:Inj} {d:Array Value},VRs ι [.s l] d.toList->d=#[.string ⟨l.toArray⟩]:=by
  intro ι d c;simp only[VRs,VR]at c;obtain⟨_,_,p,rfl,rfl⟩:=c;apply gQ;simpa using p
 cases g:Lib.atoi l with
 | some v=>
  rw[g]at h2;refine⟨_,h2,λu _=>.inl ⟨b,cK λι nb w d t _ c=>?_⟩⟩;rw[one c];refine(h ⟨l.toArray⟩ v o (by simpa using g) w).mono λe w' ⟨m,j⟩=>⟨_,m,?_,j⟩;simp only[VR];exact⟨_,rfl,by simp[VRs,VR]⟩
 | none=>
  rw[g]at h2;refine⟨_,h2,λu _=>.inl ⟨b,cK λι nb w d t r c=>?_⟩⟩;rw[one c];refine(q ⟨l.toArray⟩ o (by simpa using g) w r).mono λe w' ⟨a,m,j⟩=>⟨_,m,?_,j⟩;simp only[VR];refine⟨_,rfl,?_⟩;simp only[VRs,VR];exact⟨_,_,rfl,rfl,_,_,rfl,⟨_,rfl,rfl,rfl⟩,rfl⟩
def qT(g l:Bool)(d:aa)(x s:Int):aa:=
 (if l then[89]else[])++(if g then[45]else[])++d++(if 0<x then 69::Lib.decDigits x.toNat else[])++(if 0<s then 83::Lib.decDigits s.toNat else[])
def uI(d:aa)(x s:Int):Bool:=decide (0<=x/\x<100/\0<=s/\s<100)&&Nat.ble d.length 1000
def Et(f:Nat)(chk:Bool->Bool->aa->Int->Int->Option Int):Ent:=⟨f,λ_ args _ _ k=>match args with
 | [.ag [.b g,.b l,.s d,.i .i64 x,.i .i64 s]]=>ob (chk g l d x s) λr=>cond (r != 0) (k { val:=.tp [.s [],.i .i64 r] }) (cond (uI d x s) (k { val:=.tp [.s (qT g l d x s),.i .i64 0] }) none)
 | _=>none⟩
def C0{f:Nat}{chk:Bool->Bool->aa->Int->Int->Option Int}(c:gj P f)
  (h0:∀(g l:Bool) (d:aa) (x s r:Int) (w:World) (_:chk g l d x s=some r) (_:r≠0) (_:GL dY w),Calls P f #[.agg #[.bool g,.bool l,.string ⟨d.toArray⟩,.int .i64 x,.int .i64 s]] w λe w'=>e=.returned (.tuple #[.string ⟨#[]⟩,.int .i64 r])/\Below w.heap.size w w')
  (h1:∀(g l:Bool) (d:aa) (x s:Int) (w:World) (_:chk g l d x s=some 0) (_:uI d x s=true) (_:GL dY w),Calls P f #[.agg #[.bool g,.bool l,.string ⟨d.toArray⟩,.int .i64 x,.int .i64 s]] w λe w'=>e=.returned (.tuple #[.string ⟨(qT g l d x s).toArray⟩,.int .i64 0])/\Below w.heap.size w w'):
  cN P (Et f chk):=by
 intro α args H fr k z o;simp only[Et]at o;split at o
 case h_2=>cases o
 rename_i g l d x s;obtain⟨r,h2,n⟩:=ah o;have a:∀{ι:Inj} {j:Array Value},VRs ι [.ag [.b g,.b l,.s d,.i .i64 x,.i .i64 s]] j.toList->j=#[.agg #[.bool g,.bool l,.string ⟨d.toArray⟩,.int .i64 x,.int .i64 s]]:=by
  intro ι j h;simp only[VRs,VR]at h;obtain⟨_,_,C,⟨B,rfl,_,_,y,rfl,_,_,rfl,rfl,_,_,rfl,rfl,_,_,rfl,rfl,_,_,rfl,rfl,rfl⟩,rfl⟩:=h;have u:B=#[.bool g,.bool l,.string ⟨d.toArray⟩,.int .i64 x,.int .i64 s]:=by apply gQ;simpa using y
  subst u;apply gQ;simpa using C
 cases m:(r != 0)with
 | true=>
  rw[m]at n;refine⟨_,n,λA _=>.inl ⟨c,cK λι nb w j F v h=>?_⟩⟩;rw[a h];refine(h0 g l d x s r w h2 (by simpa using m) v).mono λe w' ⟨t,q⟩=>⟨_,t,?_,q⟩;simp only[VR];exact⟨_,rfl,by simp[VRs,VR]⟩
 | false=>
  rw[m]at n;have p:r=0:=by simpa using m
  subst p;obtain⟨D,E⟩:=bR (show cond (uI d x s) _ none=some z from n);refine⟨_,E,λA _=>.inl ⟨c,cK λι nb w j F v h=>?_⟩⟩;rw[a h];refine(h1 g l d x s w h2 D v).mono λe w' ⟨t,q⟩=>⟨_,t,?_,q⟩;simp only[VR];exact⟨_,rfl,by simp[VRs,VR]⟩
def mb(w:World)(e:TypeId)(s:ByteArray):Below w.heap.size w (Lib.bytesWorld w e s):=by
 have b:Below w.heap.size w (w.drew.alloc (.cells (Lib.bytesCells w e s) e)):=by
  refine⟨rfl,rfl,rfl,?_,λk a=>gq w.drew _ (show k≠w.heap.size by omega)⟩;show w.heap.size<=(w.heap.push _).size;simp
 refine b.trans ?_;unfold Lib.bytesWorld World.freeze;rw[ab (by decide)];refine⟨rfl,rfl,rfl,?_,λk a=>?_⟩
 ·show _<=(Array.modify _ _ _).size;rw[Array.size_modify];exact aI _
 ·show(Array.modify _ _ _)[k]?=_;rw[Array.getElem?_modify,ab (show¬w.heap.size=k by omega)]
end Go.Abs
