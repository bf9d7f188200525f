
/- What one operation does to the abstract state, in continuation style, so that the kernel can carry it out on terms with variables.
   Conditions: none; generic over the program. -/
import Derived.Test.YtibehcmomiplnabGreatDoorAbsA
set_option linter.unusedSimpArgs false
set_option linter.unusedVariables false
set_option linter.defProp false
namespace Go.Abs
def ob{α β:Type}(o:Option α)(f:α->Option β):Option β:=match o with | some a=>f a | none=>none
def ax{α β:Type}{o:Option α}{f:α->Option β}{r:β}(h:ob o f=some r):∃a,o=some a/\f a=some r:=by
 cases o with
 | none=>simp[ob]at h
 | some a=>exact⟨a,rfl,h⟩
def eV{β:Type}{c:Bool}{x:Option β}{r:β}(h:cond c x none=some r):c=true/\x=some r:=by
 cases c<;>simp_all
def keq:IntKind->IntKind->Bool
 | .i8,.i8 | .i16,.i16 | .i32,.i32 | .i64,.i64 | .u8,.u8 | .u16,.u16 | .u32,.u32 | .u64,.u64=>true
 | _,_=>false
def mh{a b:IntKind}(h:keq a b=true):a=b:=by cases a<;>cases b<;>simp_all[keq]
def K7:Value->Option V
 | .bool b=>some (.b b)
 | .int k n=>some (.i k n)
 | .string s=>some (.s s.data.toList)
 | .pointer none=>some .pn
 | .slice none 0 0=>some .sn
 | .nilFunc=>some .nf
 | .nilIface=>some .ni
 | .map none=>some .unk
 | _=>none
def ze:List Value->Option (List V)
 | []=>some []
 | x::l=>match K7 x with
  | some v=>match ze l with
   | some m=>some (v::m)
   | none=>none
  | none=>none
def Sl:Value->Option V
 | .agg a=>match ze a.toList with
  | some l=>some (.ag l)
  | none=>none
 | v=>K7 v
def BK(k:IntKind):List V->Option (List Int)
 | []=>some []
 | .i k' n::l=>match keq k' k with
  | true=>match BK k l with
   | some m=>some (n::m)
   | none=>none
  | false=>none
 | _::_=>none
def B5:List V->Option (List aa)
 | []=>some []
 | .s x::l=>match B5 l with
  | some m=>some (x::m)
  | none=>none
 | _::_=>none
def YK(P:Program)(t:TypeId):Option IntKind:=
 match P.underlying t with
 | some (.array _ e)=>match P.underlying e with
  | some (.int k)=>some k
  | _=>none
 | _=>none
def cD(P:Program)(t:TypeId):Bool:=
 match P.underlying t with
 | some (.struct _) | some (.array _ _)=>true
 | _=>false
def Hy(P:Program)(t:TypeId)(l:List V):V:=
 match YK P t with
 | some k=>match BK k l with
  | some a=>.ai k a.length a
  | none=>.ag l
 | none=>.ag l
def norm(P:Program)(t:TypeId):V->V
 | .ag l=>Hy P t l
 | v=>v
def TA:V->Blk
 | .ai k n l=>.ints k n l
 | .ag l=>.cells l
 | v=>.cells [v]
def wk(k:IntKind)(l:List Int):Nat->Nat->List V
 | 0,_=>[]
 | n+1,j=>.i k (l.getD j 0)::wk k l n (j+1)
def cellsOf:V->List V
 | .ag l=>l
 | .ai k n l=>wk k l n 0
 | v=>[v]
def oneV:V->Bool
 | .ag _ | .ai _ _ _ | .tp _=>false
 | _=>true
def Lf.inV:(a:Lf)->V->Option a.den
 | .i k,.i k' n=>match keq k k' with
  | true=>some n
  | false=>none
 | .bo,.b x=>some x
 | .s,.s l=>some l
 | _,_=>none
def zk:(t:List Lf)->List V->Option (den t)
 | [],[]=>some ()
 | [a],[v]=>a.inV v
 | a::b::l,v::vs=>match a.inV v with
  | some x=>match zk (b::l) vs with
   | some y=>some (x,y)
   | none=>none
  | none=>none
 | _,_=>none
def GY(t:List Lf)(z:Nat):Nat->List V->Option (List (den t))
 | 0,_=>some []
 | n+1,l=>match zk t (l.take z)with
  | some x=>match GY t z n (l.drop z)with
   | some m=>some (x::m)
   | none=>none
  | none=>none
def repL:Nat->List Lf->List Lf
 | 0,_=>[]
 | n+1,l=>l++repL n l
def QB(c:TypeId->Option (List Lf)):List Field->Option (List Lf)
 | []=>some []
 | f::fs=>match c f.type with
  | some a=>match QB c fs with
   | some b=>some (a++b)
   | none=>none
  | none=>none
def wZ(P:Program):Nat->TypeId->Option (List Lf)
 | 0,_=>none
 | d+1,t=>match P.underlying t with
  | some (.int k)=>some [.i k]
  | some .bool=>some [.bo]
  | some .string=>some [.s]
  | some (.array n e)=>match Nat.ble n 64,wZ P d e with
   | true,some l=>some (repL n l)
   | _,_=>none
  | some (.struct a)=>QB (wZ P d) a.toList
  | _=>none
def opd(T:List (Nat×Option V)):Operand->Option V
 | .tmp t=>match look T t with
  | some (some v)=>some v
  | _=>none
 | .const v=>Sl v
 | .func f=>match Nat.blt f 1000000 with | true=>some (.fn f []) | false=>none
 | .global _=>none
def opds(ρ:Operand->Option V):List Operand->Option (List V)
 | []=>some []
 | x::l=>match ρ x with
  | some v=>match opds ρ l with
   | some m=>some (v::m)
   | none=>none
  | none=>none
structure Eff where
  /-- What the operation leaves in its temporary. -/
 val:Option V
  /-- The blocks that it looks at. -/
 rd:List Nat:=[]
  /-- The block that it writes or makes. -/
 wr:Option (Nat×Blk):=none
  /-- Is that a new block? -/
 new:Bool:=false
def ix(n:Nat)(i:Int):Option Nat:=if 0<=i/\i<n then some i.toNat else none
def bx(n:Nat)(i:Int):Option Nat:=if 0<=i/\i<=n then some i.toNat else none
def sx(l:aa)(i:Int):Option UInt8:=if 0<=i then l[i.toNat]? else none
def padd(o j:Nat):Nat:=cond (Nat.beq o 0) j (o+j)
def pmul(j s:Nat):Nat:=cond (Nat.beq s 1) j (j*s)
def bits(op:BinOp)(k:IntKind)(x y:Int):Int:=
 let a:=BitVec.ofInt k.bits x;let b:=BitVec.ofInt k.bits y
 match op with
 | .and=>k.wrap (a &&& b).toNat
 | .or=>k.wrap (a ||| b).toNat
 | .xor=>k.wrap (a ^^^ b).toNat
 | _=>k.wrap (a &&& ~~~b).toNat
def intK{α:Type}(op:BinOp)(k:IntKind)(x y:Int)(c:V->Option α):Option α:=
 match op with
 | .add=>c (.i k (k.wrap (x+y)))
 | .sub=>c (.i k (k.wrap (x - y)))
 | .mul=>c (.i k (k.wrap (x*y)))
 | .quo=>cond (y==0) none (c (.i k (k.wrap (x.tdiv y))))
 | .rem=>cond (y==0) none (c (.i k (x.tmod y)))
 | .and=>c (.i k (bits .and k x y))
 | .or=>c (.i k (bits .or k x y))
 | .xor=>c (.i k (bits .xor k x y))
 | .andNot=>c (.i k (bits .andNot k x y))
 | .eql=>c (.b (x==y))
 | .neq=>c (.b (x != y))
 | .lss=>c (.b (decide (x<y)))
 | .leq=>c (.b (decide (x<=y)))
 | .gtr=>c (.b (decide (x>y)))
 | .geq=>c (.b (decide (x>=y)))
 | .shl=>cond (decide (y<0)) none (c (.i k (k.wrap (x*2 ^ (min y.toNat k.bits)))))
 | .shr=>cond (decide (y<0)) none (c (.i k (x.fdiv (2 ^ (min y.toNat k.bits)))))
def cat(x y:aa):Option (aa):=if x.length+y.length<=9223372036854775807 then some (x++y)else none
def strK{α:Type}(op:BinOp)(x y:aa)(c:V->Option α):Option α:=
 match op with
 | .add=>ob (cat x y) λz=>c (.s z)
 | .eql=>c (.b (x==y))
 | .neq=>c (.b (!(x==y)))
 | .lss=>c (.b (Op.bytesLess x y))
 | .leq=>c (.b (Op.bytesLess x y||x==y))
 | .gtr=>c (.b (!(Op.bytesLess x y||x==y)))
 | .geq=>c (.b (!Op.bytesLess x y))
 | _=>none
def eqFs (rec:TypeId->List V->List V->Option Bool) (size:TypeId->Nat) (xs ys:List V):List Field->Option Bool
 | []=>some true
 | f::fs=>match f.name == "_" with
  | true=>none
  | false=>match rec f.type ((xs.drop f.offset).take (size f.type)) ((ys.drop f.offset).take (size f.type)) with
   | some b=>match eqFs rec size xs ys fs with
    | some c=>some (b&&c)
    | none=>none
   | none=>none
def eqAr(a:List V->List V->Option Bool)(size:Nat)(d e:List V):Nat->Nat->Option Bool
 | 0,_=>some true
 | n+1,i=>match a ((d.drop (i*size)).take size) ((e.drop (i*size)).take size)with
  | some b=>match eqAr a size d e n (i+1)with
   | some c=>some (b&&c)
   | none=>none
  | none=>none
def eqC(P:Program):Nat->TypeId->List V->List V->Option Bool
 | 0,_,_,_=>none
 | d+1,t,f,g=>
  match P.underlying t with
  | some (.int _)=>match f,g with
   | [.i k a],[.i k' b]=>match keq k k' with | true=>some (a==b) | false=>none
   | _,_=>none
  | some .bool=>match f,g with
   | [.b a],[.b b]=>some (a==b)
   | _,_=>none
  | some .string=>match f,g with
   | [.s a],[.s b]=>some (a==b)
   | _,_=>none
  | some (.struct c)=>match P.stoodInHeld t with
   | true=>none
   | false=>eqFs (eqC P d) P.cellsOf f g c.toList
  | some (.array n e)=>match Nat.blt 0 (P.cellsOf e)with
   | true=>eqAr (eqC P d e) (P.cellsOf e) f g n 0
   | false=>none
  | _=>none
def eqlV(P:Program)(t:TypeId)(x y:V):Option Bool:=
 match P.underlying t with
 | some .bool=>match x,y with
  | .b a,.b b=>some (a==b)
  | _,_=>none
 | some (.pointer _)=>match x,y with
  | .pn,.pn=>some true
  | .pn,.p _ _=>some false
  | .p _ _,.pn=>some false
  | _,_=>none
 | some (.func _ _ _)=>match x,y with
  | .nf,.nf=>some true
  | .nf,.fn _ _=>some false
  | .fn _ _,.nf=>some false
  | _,_=>none
 | some (.slice _)=>match x,y with
  | .sn,.sn=>some true
  | .sn,.sl _ _ _ _=>some false
  | .sl _ _ _ _,.sn=>some false
  | _,_=>none
 | some (.interface _)=>match x,y with
  | .ni,.it _ _=>some false
  | .it _ _,.ni=>some false
  | _,_=>none
 | some (.array m e)=>match x,y with
  | .ai k n a,.ai k' c b=>match keq k k'&&Nat.beq n c with
   | true=>match P.underlying e with
    | some (.int _)=>match Nat.beq m n&&Nat.beq (P.cellsOf e) 1 with
     | true=>match P.eqGuardType P.depth t with
      | true=>none
      | false=>some (a==b)
     | false=>none
    | _=>none
   | false=>none
  | .ag a,.ag b=>match P.eqGuardType P.depth t with
   | true=>none
   | false=>eqC P 6 t a b
  | _,_=>none
 | some (.struct _)=>match x,y with
  | .ag a,.ag b=>match P.eqGuardType P.depth t with
   | true=>none
   | false=>eqC P 6 t a b
  | _,_=>none
 | _=>none
def binK{α:Type}(P:Program)(op:BinOp)(t:TypeId)(x y:V)(c:V->Option α):Option α:=
 match x,y with
 | .i k a,.i k' b=>match op with
  | .shl=>intK .shl k a b c
  | .shr=>intK .shr k a b c
  | op=>match keq k k' with
   | true=>intK op k a b c
   | false=>none
 | .s a,.s b=>strK op a b c
 | x,y=>match op with
  | .eql=>match eqlV P t x y with
   | some r=>c (.b r)
   | none=>none
  | .neq=>match eqlV P t x y with
   | some r=>c (.b (!r))
   | none=>none
  | _=>none
def unK{α:Type}(op:UnOp)(x:V)(c:V->Option α):Option α:=
 match op,x with
 | .neg,.i k n=>c (.i k (k.wrap (0 - n)))
 | .not,.b b=>c (.b (!b))
 | _,_=>none
def spl(l:List V)(o:Nat)(m:List V):List V:=l.take o++(m++l.drop (o+m.length))
def HU(a:Nat->Option (Nat×Nat))(cells:List V):List (Nat×V)->Option (List V)
 | []=>some cells
 | (i,v)::rest=>
  match a i with
  | none=>none
  | some (off,size)=>
   match Nat.beq (cellsOf v).length size&&Nat.ble (off+(cellsOf v).length) cells.length with
   | true=>HU a (spl cells off (cellsOf v)) rest
   | false=>none
def sM(ρ:Operand->Option V):List (Nat×Operand)->Option (List (Nat×V))
 | []=>some []
 | (i,x)::l=>match ρ x with
  | some v=>match sM ρ l with
   | some m=>some ((i,v)::m)
   | none=>none
  | none=>none
def Nb(P:Program)(t:TypeId):Option V:=
 match P.info? t with
 | some i=>match i.zero with
  | some z=>Sl z
  | none=>none
 | none=>none
def GA(P:Program)(a:List Field):List (Nat×Nat):=a.map λf=>(f.offset,P.cellsOf f.type)
def E3(z:List V):Nat->List V
 | 0=>[]
 | n+1=>z++E3 z n
def sg{α:Type}(P:Program)(t:TypeId)(blk:Blk)(o:Nat)(c:V->Option α):Option α:=
 match blk with
 | .cells l=>match Nat.ble (o+P.cellsOf t) l.length with
  | true=>c (Hy P t ((l.drop o).take (P.cellsOf t)))
  | false=>none
 | .ints k n l=>match Nat.beq o 0&&Nat.beq n (P.cellsOf t)with
  | true=>c (.ai k n l)
  | false=>none
 | _=>none
def tI(k:IntKind):V->Option Int
 | .i k' n=>match keq k' k with
  | true=>some n
  | false=>none
 | _=>none
def BC{α:Type}(P:Program)(t:TypeId)(blk:Blk)(o:Nat)(c:V->Option α):Option α:=
 match P.underlying t with
 | some (.struct _)=>sg P t blk o c
 | some (.array _ _)=>sg P t blk o c
 | some (.int k)=>match blk with
  | .cells l=>match BK k l with
   | some a=>ob a[o]? λn=>c (.i k n)
   | none=>ob (l.map (tI k))[o]? λq=>ob q λn=>c (.i k n)
  | .ints k' _ l=>ob l[o]? λn=>c (.i k' n)
  | _=>none
 | some .string=>match blk with
  | .cells l=>match B5 l with
   | some a=>ob a[o]? λn=>c (.s n)
   | none=>ob l[o]? c
  | _=>none
 | some _=>match blk with
  | .cells l=>ob l[o]? c
  | _=>none
 | none=>none
def tW{α:Type}(P:Program)(t:TypeId)(blk:Blk)(o:Nat)(v:V)(c:Blk->Option α):Option α:=
 match blk with
 | .cells l=>
  match Nat.blt 0 (P.cellsOf t)&&(Nat.beq (cellsOf v).length (P.cellsOf t)&&(Nat.ble (o+(cellsOf v).length) l.length&&(cellsOf v).all oneV))with
  | true=>c (.cells (spl l o (cellsOf v)))
  | false=>none
 | .ints k n l=>match v with
  | .i k' x=>match keq k k'&&Nat.beq (P.cellsOf t) 1 with
   | true=>cond (Nat.blt o n) (c (.ints k n (l.set o x))) none
   | false=>none
  | .ai k' a b=>match keq k k'&&(Nat.beq n a&&(Nat.beq o 0&&(Nat.blt 0 n&&Nat.beq (P.cellsOf t) n)))with
   | true=>c (.ints k n b)
   | false=>none
  | _=>none
 | _=>none
def tZ(ρ:Operand->Option V):Option Operand->Option (Option Int)
 | none=>some none
 | some x=>match ρ x with
  | some (.i _ n)=>some (some n)
  | _=>none
def hiK{α:Type}(n:Nat)(len:Nat)(h:Option Int)(c:Nat->Option α):Option α:=
 match h with
 | none=>c len
 | some i=>ob (bx n i) c
def loK{α:Type}(h:Nat)(l:Option Int)(c:Nat->Option α):Option α:=
 match l with
 | none=>c 0
 | some i=>ob (bx h i) c
def dec(l:aa)(i:Nat):Nat×Nat:=Utf8.decode ⟨l.toArray⟩ i
def jy(l:List Int):aa:=l.map λn=>UInt8.ofNat n.toNat
def Jy:Operand->Bool
 | .const _=>true
 | _=>false
def niK(P:Program)(o:BinOp)(t:TypeId)(x y:Operand)(a b:V):Option Bool:=
 match a,b with
 | .ni,.ni=>match Jy x||Jy y with
  | true=>match P.underlying t with
   | some (.interface _)=>match o with
    | .eql=>some true
    | .neq=>some false
    | _=>none
   | _=>none
  | false=>none
 | _,_=>none
def slT(P:Program)(o:BinOp)(t:TypeId):Option Bool:=
 match P.underlying t with
 | some (.slice _)=>match o with
  | .eql=>some false
  | .neq=>some true
  | _=>none
 | _=>none
def slN(P:Program)(o:BinOp)(t:TypeId)(a b:V):Option Bool:=
 match b with
 | .sn=>match a with
  | .ws _=>slT P o t
  | .rs _ _ _ _ _=>slT P o t
  | _=>none
 | _=>none
def slL(H:List (Nat×Blk))(a:V):Option (Nat×List Nat):=
 match a with
 | .ws c=>match look H c with
  | some (.rows _ l)=>some (l.length,[c])
  | _=>none
 | .rs _ _ _ n _=>some (n,[])
 | _=>none
def xN{α:Type}(P:Program)(ρ:Operand->Option V)(H:List (Nat×Blk))(t:TypeId)(x:Operand)(lo hi:Option Operand)(mx:Operand)(c:Eff->Option α):Option α:=
 match lo,hi with
 | none,some d=>ob (ρ x) λa=>match ρ d,ρ mx with
  | some (.i _ h),some (.i _ m)=>match P.underlying t with
   | some (.slice e)=>match Nat.blt 0 (P.cellsOf e)with
    | true=>match a with
     | .ws b=>match look H b with
      | some (.rows tr l)=>match Nat.beq tr.length (P.cellsOf e)with
       | true=>ob (bx l.length m) λM=>ob (bx M h) λh=>c { val:=some (.rs (P.cellsOf e) b 0 h (some M)),rd:=[b] }
       | false=>none
      | _=>none
     | .rs z b j n _=>ob (bx n m) λM=>ob (bx M h) λh=>c { val:=some (.rs z b j h (some M)) }
     | .sn=>ob (bx 0 m) λM=>ob (bx M h) λ_=>c { val:=some .sn }
     | _=>none
    | false=>none
   | _=>none
  | _,_=>none
 | _,_=>none
def mapK{α:Type}:List (Int×Nat)->Int->(Nat->Option α)->Option α
 | [],_,_=>none
 | (m,g)::l,n,c=>cond (n==m) (c g) (mapK l n c)
def effK{α:Type}(P:Program)(ρ:Operand->Option V)(H:List (Nat×Blk))(f:Nat)(op:Op)(c:Eff->Option α):Option α:=
  match op with
  | .move x=>ob (ρ x) λv=>c { val:=some v }
  | .assign x=>ob (ρ x) λv=>c { val:=some v }
  | .pick q x y=>match ρ q with
    | some (.b t)=>cond t (ob (ρ x) λv=>c { val:=some v }) (ob (ρ y) λv=>c { val:=some v })
    | _=>none
  | .alloc t=>ob (Nb P t) λz=>c { val:=some (.p f 0),wr:=some (f,TA (norm P t z)),new:=true }
  | .box _ x=>ob (ρ x) λv=>c { val:=some (.p f 0),wr:=some (f,TA v),new:=true }
  | .build t F=>ob (Nb P t) λz=>ob (sM ρ F.toList) λu=>
    match P.underlying t with
    | some (.struct B)=>match B.toList.all λfd=>Nat.blt 0 (P.cellsOf fd.type)with
      | true=>ob (HU (λi=>(GA P B.toList)[i]?) (cellsOf z) u) λl=>c { val:=some (.ag l) }
      | false=>none
    | some (.array _ e)=>
      match Nat.blt 0 (P.cellsOf e)with
      | true=>ob (HU (λi=>some (i*P.cellsOf e,P.cellsOf e)) (cellsOf z) u) λl=>c { val:=some (Hy P t l) }
      | false=>none
    | _=>none
  | .buildSlice t n F=>
    match P.underlying t with
    | some (.slice e)=>
      match Nat.ble (n*P.cellsOf e) 1000&&Nat.blt 0 (P.cellsOf e)with
      | true=>ob (Nb P e) λz=>ob (sM ρ F.toList) λu=>
        match Nat.beq (cellsOf z).length (P.cellsOf e)with
        | true=>ob (HU (λi=>some (i*P.cellsOf e,P.cellsOf e)) (E3 (cellsOf z) n) u) λl=>
          match wZ P 12 e with
          | some t=>match Nat.beq t.length (P.cellsOf e)&&Nat.beq l.length (n*P.cellsOf e)with
            | true=>ob (GY t t.length n l) λm=>c { val:=some (.ws f),wr:=some (f,.rows t m),new:=true }
            | false=>none
          | none=>c { val:=some (.sl f 0 n (some n)),wr:=some (f,.cells l),new:=true }
        | false=>none
      | false=>none
    | _=>none
  | .makeSlice t x y=>ob (ρ x) λa=>ob (ρ y) λb=>match P.underlying t with
    | some (.slice e)=>match a,b with
      | .i _ n,.i _ m=>ob (Nb P e) λz=>match wZ P 12 e,P.info? e with
        | some t,some I=>match Nat.beq t.length (P.cellsOf e)&&(Nat.beq (cellsOf z).length (P.cellsOf e)&&(Nat.blt 0 (P.cellsOf e)&&Nat.ble I.bytes 1048576))with
          | true=>ob (zk t (cellsOf z)) λG=>cond (decide (0<=n)&&(decide (n<=m)&&decide (m<=67108864)))
            (c { val:=some (.ws f),wr:=some (f,.rows t (List.replicate n.toNat G)),new:=true }) none
          | false=>none
        | _,_=>none
      | _,_=>none
    | _=>none
  | .load t x=>match ρ x with
    | some (.p b o)=>match look H b with
      | some blk=>BC P t blk o λv=>c { val:=some v,rd:=[b] }
      | none=>none
    | some (.pr z b j o)=>match look H b with
      | some (.rows tr l)=>match Nat.beq z tr.length with
        | true=>ob l[j]? λx=>BC P t (.cells (cells tr x)) o λv=>c { val:=some v,rd:=[b] }
        | false=>none
      | _=>none
    | _=>none
  | .store t x y=>match ρ x with
    | some (.p b o)=>ob (ρ y) λv=>match look H b with
      | some blk=>tW P t blk o v λA=>c { val:=none,rd:=[b],wr:=some (b,A) }
      | none=>none
    | some (.pr z b j o)=>ob (ρ y) λv=>match look H b with
      | some (.rows tr l)=>match Nat.beq z tr.length with
        | true=>ob l[j]? λx=>tW P t (.cells (cells tr x)) o v λA=>match A with
          | .cells m=>ob (zk tr m) λJ=>c { val:=none,rd:=[b],wr:=some (b,.rows tr (l.set j J)) }
          | _=>none
        | false=>none
      | _=>none
    | _=>none
  | .nilCheck x=>match ρ x with
    | some (.p b o)=>c { val:=some (.p b o) }
    | some (.pr z b j o)=>c { val:=some (.pr z b j o) }
    | some (.fn g l)=>c { val:=some (.fn g l) }
    | some (.sl b o n m)=>c { val:=some (.sl b o n m) }
    | some (.it t v)=>c { val:=some (.it t v) }
    | _=>none
  | .binOp o t x y _=>ob (ρ x) λa=>ob (ρ y) λb=>match niK P o t x y a b with
    | some r=>c { val:=some (.b r) }
    | none=>match slN P o t a b with
      | some r=>match slL H a with
        | some (n,rd)=>cond (Nat.blt 0 n) (c { val:=some (.b r),rd:=rd }) none
        | none=>none
      | none=>binK P o t a b λv=>c { val:=some v }
  | .unOp o _ x=>ob (ρ x) λa=>unK o a λv=>c { val:=some v }
  | .convert s d x=>ob (ρ x) λa=>
    match P.underlying s with
    | some C=>match P.underlying d with
      | some (.int k)=>match a with
        | .i _ n=>c { val:=some (.i k (k.wrap n)) }
        | _=>none
      | some .string=>match a with
        | .i _ n=>match C with
          | .int _=>c { val:=some (.s (Utf8.encode n).data.toList) }
          | _=>none
        | .s l=>match C with
          | .string=>c { val:=some (.s l) }
          | _=>none
        | .sl b o m _=>match C with
          | .slice e=>match P.underlying e with
            | some (.int .u8)=>match look H b with
              | some (.ints .u8 q l)=>cond (Nat.ble (o+m) q) (c { val:=some (.s (jy ((l.drop o).take m))),rd:=[b] }) none
              | _=>none
            | _=>none
          | _=>none
        | .ws b=>match C with
          | .slice e=>match P.underlying e with
            | some (.int .u8)=>match look H b with
              | some (.rows [.i .u8] l)=>c { val:=some (.s (jy l)),rd:=[b] }
              | _=>none
            | _=>none
          | _=>none
        | .rs z b j n _=>match C with
          | .slice e=>match P.underlying e with
            | some (.int .u8)=>match look H b with
              | some (.rows [.i .u8] l)=>match Nat.beq z 1 with
                | true=>cond (Nat.ble (j+n) l.length) (c { val:=some (.s (jy ((l.drop j).take n))),rd:=[b] }) none
                | false=>none
              | _=>none
            | _=>none
          | _=>none
        | .sn=>match C with
          | .slice e=>match P.underlying e with
            | some (.int .u8)=>c { val:=some (.s []) }
            | _=>none
          | _=>none
        | _=>none
      | some (.slice e)=>match P.underlying e with
        | some (.int .u8)=>match a with
          | .s l=>match C with
            | .string=>c { val:=some (.ws f),wr:=some (f,.rows [.i .u8] (l.map λb=>(b.toNat:Int))),new:=true }
            | _=>none
          | _=>none
        | _=>none
      | _=>none
    | _=>none
  | .makeInterface t x=>ob (ρ x) λv=>match P.underlying t with
    | some (.interface _)=>none
    | some _=>c { val:=some (.it t v) }
    | none=>none
  | .makeFunc fn first cap=>match fn,first.toList with
    | .func g,[]=>match Nat.blt g 1000000 with
      | true=>ob (opds ρ cap.toList) λl=>c { val:=some (.fn g l) }
      | false=>none
    | .func g,_::_=>match cap.toList with
      | []=>ob (opds ρ first.toList) λl=>c { val:=some (.fn (g+1000000) l) }
      | _=>none
    | _,_=>none
  | .slice t x lo hi mx=>match mx with
    | some m=>xN P ρ H t x lo hi m c
    | none=>ob (ρ x) λa=>ob (tZ ρ lo) λl=>ob (tZ ρ hi) λh=>
      match P.underlying t with
      | some .string=>match a with
        | .s s=>hiK s.length s.length h λh=>loK h l λl=>c { val:=some (.s ((s.take h).drop l)) }
        | _=>none
      | some (.array n e)=>match Nat.blt 0 (P.cellsOf e)with
       | true=>match a with
        | .p b o=>hiK n n h λh=>loK h l λl=>
          c { val:=some (.sl b (cond (Nat.beq n l) o (padd o (pmul l (P.cellsOf e)))) (h - l) (some (n - l))) }
        | _=>none
       | false=>none
      | some (.slice e)=>match Nat.blt 0 (P.cellsOf e)with
       | true=>match a with
        | .sl b o n (some m)=>hiK m n h λh=>loK h l λl=>
          c { val:=some (.sl b (cond (Nat.beq m l) o (padd o (pmul l (P.cellsOf e)))) (h - l) (some (m - l))) }
        | .sl b o n none=>hiK n n h λh=>match l with
          | none=>c { val:=some (.sl b o h none) }
          | some _=>none
        | .ws b=>match look H b with
          | some (.rows tr m)=>match Nat.beq tr.length (P.cellsOf e)with
            | true=>hiK m.length m.length h λh=>loK h l λl=>c { val:=some (.rs (P.cellsOf e) b l (h - l) none),rd:=[b] }
            | false=>none
          | _=>none
        | .rs z b j n _=>match Nat.beq z (P.cellsOf e)with
          | true=>hiK n n h λh=>loK h l λl=>c { val:=some (.rs z b (padd j l) (h - l) none) }
          | false=>none
        | _=>none
       | false=>none
      | _=>none
  | .fieldAddr t x i=>match ρ x with
    | some (.p b o)=>match P.underlying t with
      | some (.struct B)=>match B.toList[i]? with
        | some fd=>match Nat.blt 0 (P.cellsOf fd.type)with
          | true=>c { val:=some (.p b (padd o fd.offset)) }
          | false=>none
        | none=>none
      | _=>none
    | some (.pr z b j o)=>match P.underlying t with
      | some (.struct B)=>match B.toList[i]? with
        | some fd=>match Nat.blt 0 (P.cellsOf fd.type)with
          | true=>c { val:=some (.pr z b j (padd o fd.offset)) }
          | false=>none
        | none=>none
      | _=>none
    | _=>none
  | .field t x i=>match ρ x with
    | some (.ag l)=>match P.underlying t with
      | some (.struct B)=>match B.toList[i]? with
        | some fd=>match cD P fd.type with
          | true=>match Nat.ble (fd.offset+P.cellsOf fd.type) l.length with
            | true=>c { val:=some (Hy P fd.type ((l.drop fd.offset).take (P.cellsOf fd.type))) }
            | false=>none
          | false=>match P.underlying fd.type with
            | some _=>ob l[fd.offset]? λv=>c { val:=some v }
            | none=>none
        | none=>none
      | _=>none
    | _=>none
  | .indexAddr t x i=>match ρ i with
    | some (.i _ n)=>match P.underlying t with
      | some (.array m e)=>match ρ x with
        | some (.p b o)=>match Nat.blt 0 (P.cellsOf e)with
          | true=>ob (ix m n) λj=>c { val:=some (.p b (padd o (pmul j (P.cellsOf e)))) }
          | false=>none
        | some (.pr z b s o)=>match Nat.blt 0 (P.cellsOf e)with
          | true=>ob (ix m n) λj=>c { val:=some (.pr z b s (padd o (pmul j (P.cellsOf e)))) }
          | false=>none
        | _=>none
      | some (.slice e)=>match ρ x with
        | some (.sl b o m _)=>match Nat.blt 0 (P.cellsOf e)with
          | true=>ob (ix m n) λj=>c { val:=some (.p b (padd o (pmul j (P.cellsOf e)))) }
          | false=>none
        | some (.ws b)=>match look H b with
          | some (.rows tr l)=>match Nat.beq tr.length (P.cellsOf e)&&Nat.blt 0 (P.cellsOf e)with
            | true=>ob (ix l.length n) λj=>c { val:=some (.pr (P.cellsOf e) b j 0),rd:=[b] }
            | false=>none
          | _=>none
        | some (.rs z b s m _)=>match Nat.beq z (P.cellsOf e)&&Nat.blt 0 (P.cellsOf e)with
          | true=>ob (ix m n) λj=>c { val:=some (.pr z b (padd s j) 0) }
          | false=>none
        | _=>none
      | _=>none
    | _=>none
  | .index t x i=>match ρ i with
    | some (.i _ n)=>match P.underlying t with
      | some (.array m e)=>match Nat.blt 0 (P.cellsOf e)with
        | false=>none
        | true=>match ρ x with
          | some (.ai k _ l)=>match P.underlying e with
            | some (.int _)=>match Nat.beq (P.cellsOf e) 1 with
              | true=>ob (ix m n) λj=>ob l[j]? λv=>c { val:=some (.i k v) }
              | false=>none
            | _=>none
          | some (.ag l)=>match P.underlying e with
            | some (.struct _)=>ob (ix m n) λj=>c { val:=some (Hy P e ((l.drop (j*P.cellsOf e)).take (P.cellsOf e))) }
            | some (.array _ _)=>ob (ix m n) λj=>c { val:=some (Hy P e ((l.drop (j*P.cellsOf e)).take (P.cellsOf e))) }
            | some .string=>match Nat.beq (P.cellsOf e) 1 with
              | true=>match B5 l with
                | some K=>ob (ix m n) λj=>ob K[j]? λv=>c { val:=some (.s v) }
                | none=>none
              | false=>none
            | some _=>match Nat.beq (P.cellsOf e) 1 with
              | true=>ob (ix m n) λj=>ob l[j]? λv=>c { val:=some v }
              | false=>none
            | none=>none
          | _=>none
      | some .string=>match ρ x with
        | some (.s l)=>ob (sx l n) λb=>c { val:=some (.i .u8 b.toNat) }
        | _=>none
      | _=>none
    | _=>none
  | .makeMap t x=>match x,P.underlying t with
    | none,some (.map kt _)=>match P.underlying kt with
      | some (.int k)=>c { val:=some (.mp f),wr:=some (f,.mp k []),new:=true }
      | _=>none
    | _,_=>none
  | .insert t m x y=>match ρ m with
    | some (.mp b)=>match ρ x,ρ y with
      | some (.i k n),some (.fn g [])=>match P.underlying t with
        | some (.map kt _)=>match P.underlying kt with
          | some (.int k2)=>match look H b with
            | some (.mp k1 l)=>match keq k k1&&(keq k2 k1&&l.all λp=>!(p.1==n))with
              | true=>c { val:=none,rd:=[b],wr:=some (b,.mp k1 (l++[(n,g)])) }
              | false=>none
            | _=>none
          | _=>none
        | _=>none
      | _,_=>none
    | _=>none
  | .lookup t m x ok=>match ok,ρ m with
    | false,some (.mp b)=>match ρ x with
      | some (.i k n)=>match P.underlying t with
        | some (.map kt _)=>match P.underlying kt with
          | some (.int k2)=>match look H b with
            | some (.mp k1 l)=>match keq k k1&&keq k2 k1 with
              | true=>mapK l n λg=>c { val:=some (.fn g []),rd:=[b] }
              | false=>none
            | _=>none
          | _=>none
        | _=>none
      | _=>none
    | _,_=>none
  | .range t x=>match P.underlying t with
    | some .string=>match ρ x with
      | some (.s l)=>c { val:=some (.p f 0),wr:=some (f,.iter l 0),new:=true }
      | _=>none
    | _=>none
  | .next x E=>match E,ρ x with
    | true,some (.p b 0)=>match look H b with
      | some (.iter l pos)=>cond (Nat.blt pos l.length)
        (c { val:=some (.tp [.b true,.i .i64 pos,.i .i32 (dec l pos).1]),rd:=[b],wr:=some (b,.iter l (pos+(dec l pos).2)) })
        (c { val:=some (.tp [.b false]),rd:=[b] })
      | _=>none
    | _,_=>none
  | .extract x i=>match ρ x with
    | some (.tp l)=>ob l[i]? λv=>c { val:=some v }
    | _=>none
  | .typeAssert x _ D ok=>match ρ x with
    | some (.it t v)=>match P.underlying D with
      | some (.interface _)=>none
      | some _=>match Nat.beq t D with
        | true=>match ok with
          | true=>c { val:=some (.tp [v,.b true]) }
          | false=>c { val:=some v }
        | false=>none
      | none=>none
    | _=>none
  | .call w=>match w.callee with
    | .builtin b=>ob (opds ρ w.args.toList) λargs=>match b with
      | .len=>match args with
        | [.s l]=>match w.argTypes.toList with
          | t::_=>match P.underlying t with
            | some .string=>c { val:=some (.i .i64 l.length) }
            | _=>none
          | []=>none
        | [.sl _ _ n _]=>match w.argTypes.toList with
          | t::_=>match P.underlying t with
            | some (.slice _)=>c { val:=some (.i .i64 n) }
            | _=>none
          | []=>none
        | [.sn]=>match w.argTypes.toList with
          | t::_=>match P.underlying t with
            | some (.slice _)=>c { val:=some (.i .i64 0) }
            | _=>none
          | []=>none
        | [.ws b]=>match w.argTypes.toList with
          | t::_=>match P.underlying t with
            | some (.slice _)=>match look H b with
              | some (.rows _ l)=>c { val:=some (.i .i64 l.length),rd:=[b] }
              | _=>none
            | _=>none
          | []=>none
        | [.rs _ _ _ n _]=>match w.argTypes.toList with
          | t::_=>match P.underlying t with
            | some (.slice _)=>c { val:=some (.i .i64 n) }
            | _=>none
          | []=>none
        | [_]=>match w.argTypes.toList with
          | t::_=>match P.underlying t with
            | some (.array n _)=>c { val:=some (.i .i64 n) }
            | _=>none
          | []=>none
        | _=>none
      | .cap=>match args with
        | [.rs _ _ _ _ (some m)]=>match w.argTypes.toList with
          | t::_=>match P.underlying t with
            | some (.slice _)=>c { val:=some (.i .i64 m) }
            | _=>none
          | []=>none
        | [.sl _ _ _ (some m)]=>match w.argTypes.toList with
          | t::_=>match P.underlying t with
            | some (.slice _)=>c { val:=some (.i .i64 m) }
            | _=>none
          | []=>none
        | [.sn]=>match w.argTypes.toList with
          | t::_=>match P.underlying t with
            | some (.slice _)=>c { val:=some (.i .i64 0) }
            | _=>none
          | []=>none
        | _=>none
      | .min=>match args with
        | [.i k x,.i k' y]=>match keq k k' with
          | true=>c { val:=some (.i k (cond (decide (y<x)) y x)) }
          | false=>none
        | _=>none
      | .max=>match args with
        | [.i k x,.i k' y]=>match keq k k' with
          | true=>c { val:=some (.i k (cond (decide (y>x)) y x)) }
          | false=>none
        | _=>none
      | _=>none
    | _=>none
  | _=>none
end Go.Abs
