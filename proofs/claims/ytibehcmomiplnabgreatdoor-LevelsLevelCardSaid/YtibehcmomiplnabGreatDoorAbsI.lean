
import Derived.Test.YtibehcmomiplnabGreatDoorAbsH
set_option linter.unusedSimpArgs false
set_option linter.unusedVariables false
set_option linter.defProp false
namespace Go.Abs
inductive Ex where
 | normal
 | exit (id:Nat)
 | ret
 | pan (v:V)
structure CR where
 val:V
 pan:Bool:=false
 rd:List Nat:=[]
 wr:List (Nat×Blk):=[]
 grow:Nat:=0
 kill:List Nat:=[]
structure Ent where
 f:Nat
 e:(α:Type)->List V->List (Nat×Blk)->Nat->(CR->Option α)->Option α
def ML(α:Type)(f:Nat)(args:List V)(H:List (Nat×Blk))(fr:Nat)(k:CR->Option α):List Ent->Option α
 | []=>none
 | x::l=>cond (Nat.beq x.f f) (x.e α args H fr k) (ML α f args H fr k l)
structure Sub where
 m:Nat
 e:(α:Type)->St->(Ex->St->Option α)->Option α
def MG(α:Type)(m:Nat)(s:St)(k:Ex->St->Option α):List Sub->Option α
 | []=>none
 | x::l=>cond (Nat.beq x.m m) (x.e α s k) (MG α m s k l)
def isIn(K:List Nat)(b:Nat):Bool:=K.any (Nat.beq b)
mutual
def V.kill(K:List Nat):V->V
 | .p d o=>cond (isIn K d) .unk (.p d o)
 | .mp d=>cond (isIn K d) .unk (.mp d)
 | .sl d o n c=>cond (isIn K d) .unk (.sl d o n c)
 | .pr z d j o=>cond (isIn K d) .unk (.pr z d j o)
 | .ws d=>cond (isIn K d) .unk (.ws d)
 | .rs z d j n m=>cond (isIn K d) .unk (.rs z d j n m)
 | .fn f l=>.fn f (V.kills K l)
 | .ag l=>.ag (V.kills K l)
 | .tp l=>.tp (V.kills K l)
 | .it t v=>.it t (V.kill K v)
 | .unk=>.unk
 | .b x=>.b x
 | .i k n=>.i k n
 | .s l=>.s l
 | .pn=>.pn
 | .sn=>.sn
 | .nf=>.nf
 | .ni=>.ni
 | .ai k n l=>.ai k n l
def V.kills(K:List Nat):List V->List V
 | []=>[]
 | v::l=>V.kill K v::V.kills K l
end
def Blk.kill(K:List Nat):Blk->Blk
 | .dead=>.dead
 | .rows t l=>.rows t l
 | .cells l=>.cells (V.kills K l)
 | .ints k n l=>.ints k n l
 | .iter s pos=>.iter s pos
 | .mp k l=>.mp k l
def yp(K:List Nat):List (Nat×Option V)->List (Nat×Option V)
 | []=>[]
 | (t,none)::l=>(t,none)::yp K l
 | (t,some v)::l=>(t,some (V.kill K v))::yp K l
def Ds(K:List Nat):List (Nat×Blk)->List (Nat×Blk)
 | []=>[]
 | (b,x)::l=>(b,Blk.kill K x)::Ds K l
def St.kill:List Nat->St->St
 | [],s=>s
 | b::K,s=>{ T:=yp (b::K) s.T,H:=Ds (b::K) s.H,nb:=s.nb,lo:=s.lo,ro:=s.ro,rb:=s.rb }
def St.app(s:St)(dst:Option Nat)(v:Option V)(wr:List (Nat×Blk))(nb:Nat):St:=
 { T:=match dst with | some d=>(d,v)::s.T | none=>s.T,H:=wr++s.H,nb:=nb,lo:=s.lo,ro:=s.ro,rb:=s.rb }
def xn(n:Nat):Option Nat->Bool
 | some d=>Nat.blt d n
 | none=>true
def Xe(P:Program)(e:TypeId):Option (List Lf):=match wZ P 12 e with
 | some tr=>cond (Nat.ble 10 tr.length) (some tr) none
 | none=>none
def aaO(a:TypeId->List (Nat×List Lf)):List Field->List (Nat×List Lf)
 | []=>[]
 | f::fs=>(a f.type).map (λx=>(f.offset+x.1,x.2))++aaO a fs
def K8(P:Program):Nat->TypeId->List (Nat×List Lf)
 | 0,_=>[]
 | d+1,t=>match P.underlying t with
  | some (.slice e)=>match Xe P e with
   | some tr=>[(0,tr)]
   | none=>[]
  | some (.struct a)=>aaO (K8 P d) a.toList
  | _=>[]
def nilL(g:Nat):List (Nat×List Lf)->List V->List (Nat×Blk)->List V×List (Nat×Blk)
 | [],l,acc=>(l,acc)
 | (i,tr)::r,l,acc=>match l[i]? with
  | some .sn=>nilL (g+1) r (l.set i (.ws g)) ((g,.rows tr [])::acc)
  | _=>nilL g r l acc
def nilV(P:Program)(t:TypeId)(g:Nat):V->V×List (Nat×Blk)
 | .sn=>match K8 P 3 t with
  | (_,tr)::_=>(.ws g,[(g,.rows tr [])])
  | []=>(.sn,[])
 | .ag l=>match nilL g (K8 P 3 t) l []with
  | (a,H)=>(.ag a,H)
 | v=>(v,[])
def abx(o:Oper):Option TypeId:=match o.op with
 | .build t _=>some t
 | .move (.const _)=>some o.type
 | .assign (.const _)=>some o.type
 | _=>none
def Dh(P:Program)(fr:Nat)(o:Oper)(e:Eff):Option V×List (Nat×Blk)×Nat:=
 match e.wr with
 | none=>match abx o,e.val with
  | some t,some v=>match nilV P t fr v with
   | (b,H)=>(some b,H,H.length)
  | _,_=>(e.val,[],0)
 | some a=>match e.new with
  | false=>(e.val,[a],0)
  | true=>match o.op,a.2 with
   | .alloc t,.cells l=>match nilL (fr+1) (K8 P 3 t) l []with
    | (c,H)=>(e.val,H++[(a.1,.cells c)],1+H.length)
   | _,_=>(e.val,[a],1)
def Wn(e:Eff):Nat:=match e.wr with
 | none=>0
 | some _=>cond e.new 1 0
def xB(a:Bool)(P:Program)(fr:Nat)(o:Oper)(e:Eff):Option V×List (Nat×Blk)×Nat:=
 match Dh P fr o e with
 | (v,wr,g)=>match Nat.beq wr.length e.wr.toList.length with
  | true=>(v,wr,g)
  | false=>match a with
   | true=>(e.val,e.wr.toList,Wn e)
   | false=>(v,wr,g)
def Dv:List Ent->Bool
 | []=>false
 | x::_=>Nat.beq x.f 999999999
def roOK(ro:Nat)(e:Eff):Bool:=match e.wr with
 | some a=>match e.new with
  | false=>Nat.ble ro a.1
  | true=>true
 | none=>true
def nbOf(nb fr:Nat):Nat->Nat
 | 0=>nb
 | g+1=>max nb (fr+(g+1))
def xF{α:Type}(P:Program)(a:Bool)(fr:Nat)(o:Oper)(s:St)(k:St->List Nat->List (Nat×Blk)->Nat->Option α):Option α:=
 effK P (opd s.T) s.H fr o.op λe=>match xB a P fr o e with
  | (v,wr,g)=>match roOK s.ro e&&Nat.ble g 8 with
   | true=>k (s.app o.dst v wr (nbOf s.nb fr g)) e.rd wr g
   | false=>none
def FU{α:Type}(P:Program)(E:List Ent)(n fr:Nat)(o:Oper)(s:St)(k:St->List Nat->List (Nat×Blk)->Nat->Option α)(a:V->St->Option α):Option α:=
 match xn n o.dst with
 | false=>none
 | true=>
  match o.op with
  | .call b=>match b.callee with
   | .value g=>match opd s.T g with
    | some (.fn f cap)=>ob (opds (opd s.T) b.args.toList) λargs=>
     ML α (fnF f) (fnA f args cap) s.H fr (λr=>match Nat.ble r.grow 8&&(r.wr.all (λx=>Nat.ble s.ro x.1)&&r.kill.isEmpty)with
      | false=>none
      | true=>match r.pan with
       | true=>a r.val (s.app none none r.wr (max s.nb (fr+r.grow)))
       | false=>k (s.app o.dst (some r.val) r.wr (max s.nb (fr+r.grow))) r.rd r.wr r.grow) E
    | _=>none
   | _=>xF P (Dv E) fr o s k
  | .panic x=>match opd s.T x with
   | some (.it t v)=>a (.it t v) s
   | _=>none
  | _=>xF P (Dv E) fr o s k
def nK(t a:List Lf)(l:List (den t)):Option (List (den a)):=if h:t=a then some (h▸l)else none
def srcK(P:Program)(H:List (Nat×Blk))(tr:List Lf)(t:TypeId)(y:V):Option (List (den tr)):=
 match P.underlying t with
 | some (.slice _)=>match y with
  | .sn=>some []
  | .ws b=>match look H b with
   | some (.rows t l)=>nK t tr l
   | _=>none
  | .rs z b j n _=>match look H b with
   | some (.rows t l)=>match Nat.beq z t.length with
    | true=>cond (Nat.ble (j+n) l.length) (nK t tr ((l.drop j).take n)) none
    | false=>none
   | _=>none
  | _=>none
 | some .string=>match y with
  | .s l=>nK [.i .u8] tr (l.map λb=>(b.toNat:Int))
  | _=>none
 | _=>none
def cS:Nat:=67108864
def TX(P:Program)(tr:List Lf)(e:TypeId):Bool:=
 match P.info? e with
 | some a=>match a.zero with
  | some z=>Nat.beq z.cells.size (P.cellsOf e)&&(Nat.beq tr.length (P.cellsOf e)&&(Nat.blt 0 (P.cellsOf e)&&Nat.ble a.bytes 1048576))
  | none=>false
 | none=>false
def Jr{α:Type}(P:Program)(n fr:Nat)(dst:Option Nat)(args:List Operand)(d:List TypeId)(s:St)(k:St->Option α):Option α:=
 match xn n dst,args,d with
 | true,[x,y],[t,f]=>match P.underlying t with
  | some (.slice e)=>ob (opd s.T x) λa=>ob (opd s.T y) λb=>match a with
   | .sn=>match wZ P 12 e with
    | some tr=>match TX P tr e with
     | true=>ob (srcK P s.H tr f b) λm=>cond (Nat.ble m.length cS) (k (s.app dst (some (.ws fr)) [(fr,.rows tr m)] (max s.nb (fr+1)))) none
     | false=>none
    | none=>none
   | .ws c=>match look s.H c with
    | some (.rows tr l)=>match TX P tr e&&(Nat.ble s.ro c&&Nat.ble s.rb c)with
     | true=>ob (srcK P s.H tr f b) λm=>cond (Nat.ble (l.length+m.length) cS) (k ((s.kill [c]).app dst (some (.ws c)) [(c,.rows tr (l++m))] s.nb)) none
     | false=>none
    | _=>none
   | _=>none
  | _=>none
 | _,_,_=>none
def On{α:Type}(P:Program)(E:List Ent)(n fr:Nat)(o:Oper)(s:St)(k:St->Option α)(c:V->St->Option α):Option α:=
 match o.op with
 | .call a=>match a.callee with
  | .value g=>match xn n o.dst,opd s.T g with
   | true,some (.fn f cap)=>ob (opds (opd s.T) a.args.toList) λargs=>
    ML α (fnF f) (fnA f args cap) s.H fr (λr=>match r.wr.all (λx=>Nat.ble s.ro x.1)&&r.kill.all (λb=>Nat.ble s.rb b)with
     | false=>none
     | true=>match r.pan with
      | true=>c r.val ((s.kill r.kill).app none none r.wr (max s.nb (fr+r.grow)))
      | false=>k ((s.kill r.kill).app o.dst (some r.val) r.wr (max s.nb (fr+r.grow)))) E
   | _,_=>none
  | .builtin .append=>Jr P n fr o.dst a.args.toList a.argTypes.toList s k
  | _=>FU P E n fr o s (λs _ _ _=>k s) c
 | _=>FU P E n fr o s (λs _ _ _=>k s) c
def gtmp(ops:List Oper)(j:Nat):Option Nat:=
 match ops[j]? with
 | some o=>o.dst
 | none=>none
def zN{α:Type}(ops:List Oper)(o:Oper)(s:St)(k:Bool->St->Option α):Option α:=
 match o.guard with
 | none=>k true s
 | some (j,a)=>match gtmp ops j with
  | some d=>match look s.T d with
   | some (some (.b x))=>cond x (k a { s with T:=(d,some (.b true))::s.T }) (k (!a) { s with T:=(d,some (.b false))::s.T })
   | some (some (.tp []))=>k false s
   | _=>none
  | none=>none
def F7{α:Type}(P:Program)(E:List Ent)(n:Nat)(ops:List Oper):List Oper->St->(Ex->St->Option α)->Option α
 | [],s,k=>k .normal s
 | o::r,s,k=>zN ops o s λa s=>match a with
  | true=>On P E n s.nb o s (λs=>F7 P E n ops r s k) (λv s=>k (.pan v) s)
  | false=>match xn n o.dst with
   | true=>F7 P E n ops r (s.app o.dst (some (.tp [])) [] s.nb) k
   | false=>none
structure TE where
 i:Nat
 rd:List Nat
 ws:List Nat
def getN:List Nat->Nat->Nat
 | [],_=>0
 | x::_,0=>x
 | _::l,j+1=>getN l j
def runB{α:Type}(P:Program)(E:List Ent)(n nb0:Nat)(ops:List Oper)(masks:List Nat)(p:Nat):Nat->List Oper->St->List TE->(List TE->Option α)->Option α
 | _,[],_,tr,k=>k tr
 | i,o::r,s,tr,k=>match(getN masks i).testBit p with
  | true=>runB P E n nb0 ops masks p (i+1) r (s.app o.dst none [] s.nb) tr k
  | false=>zN ops o s λa s=>match a with
   | true=>FU P E n (nb0+8*i) o s (λs rd wr _=>runB P E n nb0 ops masks p (i+1) r s (⟨i,rd,wr.map (·.1)⟩::tr) k) (λ_ _=>none)
   | false=>match xn n o.dst with
    | true=>runB P E n nb0 ops masks p (i+1) r (s.app o.dst (some (.tp [])) [] s.nb) tr k
    | false=>none
def runD{α:Type}(P:Program)(E:List Ent)(n nb0:Nat)(ops:List Oper)(masks:List Nat)(b:Nat->V->St->List TE->Option α):Nat->List Oper->St->List TE->(St->List TE->Option α)->Option α
 | _,[],s,tr,k=>k s tr
 | i,o::r,s,tr,k=>zN ops o s λa s=>match a with
  | true=>FU P E n (nb0+8*i) o s (λs rd wr _=>runD P E n nb0 ops masks b (i+1) r s (⟨i,rd,wr.map (·.1)⟩::tr) k)
    (λv s'=>runB P E n nb0 ops masks i (i+1) r (s.app o.dst none [] s.nb) tr λtr=>b i v s' tr)
  | false=>match xn n o.dst with
   | true=>runD P E n nb0 ops masks b (i+1) r (s.app o.dst (some (.tp [])) [] s.nb) tr k
   | false=>none
def G9(acc:List Nat):List Edge->Nat->Nat
 | [],s=>s
 | e::l,s=>match Region.binds .any e with
  | true=>G9 acc l (s ||| 2 ^ e.on ||| getN acc e.on)
  | false=>G9 acc l s
def me:List Oper->List Nat->List Nat
 | [],acc=>acc
 | o::r,acc=>me r (acc++[G9 acc o.after.toList 0])
def uk:Nat->List Oper->Bool
 | _,[]=>true
 | i,o::r=>(o.after.toList.all λe=>!Region.binds .any e||Nat.blt e.on i)&&uk (i+1) r
def wL(ops:Array Oper)(o:Oper)(a:Nat):Nat->List Oper->Bool
 | _,[]=>true
 | i,p::r=>(a.testBit i||Oper.apart ops p o)&&wL ops o a (i+1) r
def wR(ops:Array Oper)(masks:List Nat):Nat->List Oper->List Oper->Bool
 | _,_,[]=>true
 | j,a,o::r=>wL ops o (getN masks j) 0 a&&wR ops masks (j+1) (a++[o]) r
def WW(ops:List Oper):Bool:=ops.all λo=>match o.op with | .select _ _=>false | _=>true
def J0(ops:List Oper):Bool:=uk 0 ops&&(wR ops.toArray (me ops []) 0 [] ops&&WW ops)
def Wy(x y:TE):Bool:=x.ws.any (λb=>y.rd.contains b||y.ws.contains b)||x.rd.any (λb=>y.ws.contains b)
def zH(masks:List Nat)(x y:TE):Bool:=
 (cond (Nat.blt x.i y.i) ((getN masks y.i).testBit x.i) ((getN masks x.i).testBit y.i))||!Wy x y
def sX(masks:List Nat):List TE->Bool
 | []=>true
 | x::l=>l.all (zH masks x)&&sX masks l
def aaK(masks:List Nat)(i:Nat)(tr:List TE):Bool:=tr.all (λx=>x.ws.isEmpty||(Nat.blt x.i i&&(getN masks i).testBit x.i))
def MB:List Oper->List (Nat×Option V)->List (Nat×Option V)
 | [],T=>T
 | o::l,T=>match o.dst with
  | some d=>(d,none)::MB l T
  | none=>MB l T
def Iq{α:Type}(P:Program)(E:List Ent)(n:Nat)(ops:List Oper)(s:St)(k:Ex->St->Option α):Option α:=
 match J0 ops&&P.follows .mixedOrders with
 | true=>runD P E n s.nb ops (me ops []) (λi v s' tr=>match aaK (me ops []) i tr&&sX (me ops []) (tr.filter λx=>!(x.rd.isEmpty&&x.ws.isEmpty))with
   | true=>k (.pan v) { s' with T:=MB ops s.T }
   | false=>none) 0 ops { s with nb:=s.nb+8*ops.length } [] λs' tr=>match sX (me ops []) (tr.filter λx=>!(x.rd.isEmpty&&x.ws.isEmpty))with
  | true=>k .normal s'
  | false=>none
 | false=>none
def abT(o:Oper):Bool:=match o.op with
 | .call a=>match a.callee with
  | .builtin .append=>true
  | _=>false
 | _=>false
def Zz:Nat->List Oper->Option Nat
 | _,[]=>none
 | i,o::l=>cond (abT o) (some i) (Zz (i+1) l)
def Qc(m a:Nat):Nat->Nat->Nat
 | 0,i=>i
 | r+1,i=>cond (Nat.blt i a&&!m.testBit i) (Qc m a r (i+1)) i
def xl(n:Nat)(ops:Array Oper):Nat->Nat->Array Bool->Bool
 | 0,_,_=>true
 | r+1,i,a=>(match ops[i]? with
  | some o=>(match o.op with | .move _=>true | _=>false)&&(o.guard.isNone&&xn n o.dst)
  | none=>false)&&(Region.free .any ops a i&&((Region.ready .any ops a).contains i&&xl n ops r (i+1) (a.setIfInBounds i true)))
def runM{α:Type}:List Oper->St->(St->Option α)->Option α
 | [],s,k=>k s
 | o::l,s,k=>match o.op with
  | .move x=>ob (opd s.T x) λv=>runM l (s.app o.dst (some v) [] s.nb) k
  | _=>none
def wb(f:Nat->Bool):Nat->Nat->Bool
 | 0,_=>true
 | r+1,i=>f i&&wb f r (i+1)
def YH(n:Nat)(ops:List Oper)(masks:List Nat)(a kk:Nat):Bool:=
 Nat.blt a ops.length&&(Nat.ble kk a&&(xl n ops.toArray kk 0 (Array.replicate ops.length false)&&(wb (λi=>(getN masks a).testBit i) (a - kk) kk&&wb (λj=>(getN masks j).testBit a) (ops.length - (a+1)) (a+1))))
def QN{α:Type}(P:Program)(E:List Ent)(n:Nat)(ops:List Oper)(a:Nat)(s:St)(k:Ex->St->Option α):Option α:=
 match me ops []with
 | masks=>match Qc (getN masks a) a a 0 with
  | kk=>match J0 ops&&(P.follows .mixedOrders&&YH n ops masks a kk)with
   | true=>runM (ops.take kk) { s with nb:=s.nb+8*ops.length } λs0=>runD P E n s.nb ops masks (λ_ _ _ _=>none) kk ((ops.take a).drop kk) s0 [] λe c=>
    match sX masks (c.filter λx=>!(x.rd.isEmpty&&x.ws.isEmpty))with
    | true=>match ops[a]? with
     | some o=>match o.guard with
      | none=>On P E n e.nb o e (λb=>runD P E n b.nb ops masks (λ_ _ _ _=>none) (a+1) (ops.drop (a+1)) { b with nb:=b.nb+8*ops.length } [] λf d=>
       match sX masks (d.filter λx=>!(x.rd.isEmpty&&x.ws.isEmpty))with
       | true=>k .normal f
       | false=>none) (λ_ _=>none)
      | some _=>none
     | none=>none
    | false=>none
   | false=>none
def Yd{α:Type}(P:Program)(E:List Ent)(n:Nat)(ops:List Oper)(s:St)(k:Ex->St->Option α):Option α:=
 match Zz 0 ops with
 | none=>Iq P E n ops s k
 | some a=>QN P E n ops a s k
inductive AC where
 | skip
 | ret
 | exit (id:Nat)
 | seq (a b:AC)
 | cond (c:Operand) (a b:AC)
 | block (id:Nat) (a:AC)
 | reg (id:Nat) (ops:List Oper)
 | draw (id:Nat) (ops:List Oper)
 | sub (m:Nat) (c:AC)
 | loop (c:AC)
 | scope (c:AC)
 | label (l:Nat)
 | bad (c:Code)
def AC.code:AC->Code
 | .skip=>.skip
 | .ret=>.ret
 | .exit id=>.exit id
 | .seq a b=>.seq a.code b.code
 | .cond c a b=>.cond c a.code b.code
 | .block id a=>.block id a.code
 | .reg id ops=>.region id ops.toArray false
 | .draw id ops=>.region id ops.toArray true
 | .sub _ c=>c.code
 | .loop c=>.loop c.code
 | .scope c=>.scope c.code
 | .label l=>.label l
 | .bad c=>c
def vn:Code->Nat->AC×Nat
 | .skip,m=>(.skip,m)
 | .ret,m=>(.ret,m)
 | .exit id,m=>(.exit id,m)
 | .seq a b,m=>match vn a m with
  | (x,m)=>match vn b m with
   | (y,m)=>(.seq x y,m)
 | .cond c a b,m=>match vn a m with
  | (x,m)=>match vn b m with
   | (y,m)=>(.cond c x y,m)
 | .block id a,m=>match vn a m with
  | (x,m)=>(.block id x,m)
 | .region id ops false,m=>(.reg id ops.toList,m)
 | .region id ops true,m=>(.draw id ops.toList,m)
 | .loop c,m=>match vn c (m+1)with
  | (x,m')=>(.sub m (.loop x),m')
 | .scope c,m=>match vn c m with
  | (x,m)=>(.scope x,m)
 | .label l,m=>(.label l,m)
 | c,m=>(.bad c,m)
def Uc{α:Type}(r:St->(Ex->St->Option α)->Option α):Nat->St->(Ex->St->Option α)->Option α
 | 0,_,_=>none
 | n+1,s,k=>r s λex s=>match ex with
  | .normal=>Uc r n s k
  | .exit id=>k (.exit id) s
  | .ret=>k .ret s
  | .pan v=>k (.pan v) s
def run{α:Type}(P:Program)(E:List Ent)(L:List Sub)(n:Nat):AC->St->(Ex->St->Option α)->Option α
 | .skip,s,k=>k .normal s
 | .ret,s,k=>k .ret s
 | .exit id,s,k=>k (.exit id) s
 | .seq a b,s,k=>run P E L n a s λex s=>match ex with
  | .normal=>run P E L n b s k
  | .exit id=>k (.exit id) s
  | .ret=>k .ret s
  | .pan v=>k (.pan v) s
 | .cond c a b,s,k=>match opd s.T c with
  | some (.b x)=>_root_.cond x (run P E L n a s k) (run P E L n b s k)
  | _=>none
 | .block id a,s,k=>run P E L n a s λex s=>match ex with
  | .exit i=>match Nat.beq i id with
   | true=>k .normal s
   | false=>k (.exit i) s
  | .normal=>k .normal s
  | .ret=>k .ret s
  | .pan v=>k (.pan v) s
 | .reg _ ops,s,k=>F7 P E n ops ops s k
 | .draw _ ops,s,k=>Yd P E n ops s k
 | .sub m _,s,k=>MG α m s k L
 | .loop c,s,k=>Uc (λs k=>run P E L n c s k) 12 s k
 | .scope c,s,k=>run P E L n c s k
 | .label _,s,k=>k .normal s
 | .bad _,_,_=>none
def l7:∀(c:Code) (m:Nat),(vn c m).1.code=c
 | .skip,m=>rfl
 | .ret,m=>rfl
 | .exit id,m=>rfl
 | .seq a b,m=>by simp[vn,AC.code,l7 a,l7 b]
 | .cond c a b,m=>by simp[vn,AC.code,l7 a,l7 b]
 | .block id a,m=>by simp[vn,AC.code,l7 a]
 | .region id ops d,m=>by cases d<;>simp[vn,AC.code]
 | .loop c,m=>by simp[vn,AC.code,l7 c]
 | .rangeFunc ..,m=>rfl
 | .scope c,m=>by simp[vn,AC.code,l7 c]
 | .label _,m=>rfl
 | .goto _,m=>rfl
 | .refuse _,m=>rfl
end Go.Abs
