
/- The interpreter over a function's code, in continuation style.
   Conditions: none; generic over the program. -/
import Derived.Test.YthemneooekobkaaGreatDoorAbsH
set_option linter.unusedSimpArgs false
set_option linter.unusedVariables false
namespace Go.Abs
inductive Ex where
 | normal
 | exit (id:Nat)
 | ret
 | pan (v:V)
structure CR where
 val:V
 pan:Bool:=false
 rd:List Nat:=[]
 wr:List (Nat×Blk):=[]
 grow:Nat:=0
  /-- Blocks of rows that may lie elsewhere now, and be longer: whatever was known of their slices is not known any more. -/
 kill:List Nat:=[]
structure Ent where
 f:Nat
 e:(α:Type)->List V->List (Nat×Blk)->Nat->(CR->Option α)->Option α
def J8 (α:Type) (f:Nat) (args:List V) (H:List (Nat×Blk)) (fr:Nat) (k:CR->Option α):List Ent->Option α
 | []=>none
 | x::l=>cond (Nat.beq x.f f) (x.e α args H fr k) (J8 α f args H fr k l)
structure Sub where
 m:Nat
 e:(α:Type)->St->(Ex->St->Option α)->Option α
def JL (α:Type) (m:Nat) (s:St) (k:Ex->St->Option α):List Sub->Option α
 | []=>none
 | x::l=>cond (Nat.beq x.m m) (x.e α s k) (JL α m s k l)
def isIn (K:List Nat) (b:Nat):Bool:=K.any (Nat.beq b)
mutual
def V.kill (K:List Nat):V->V
 | .p d o=>cond (isIn K d) .unk (.p d o)
 | .mp d=>cond (isIn K d) .unk (.mp d)
 | .sl d o n c=>cond (isIn K d) .unk (.sl d o n c)
 | .pr z d j o=>cond (isIn K d) .unk (.pr z d j o)
 | .ws d=>cond (isIn K d) .unk (.ws d)
 | .rs z d j n m=>cond (isIn K d) .unk (.rs z d j n m)
 | .fn f l=>.fn f (V.kills K l)
 | .ag l=>.ag (V.kills K l)
 | .tp l=>.tp (V.kills K l)
 | .it t v=>.it t (V.kill K v)
 | .unk=>.unk
 | .b x=>.b x
 | .i k n=>.i k n
 | .s l=>.s l
 | .pn=>.pn
 | .sn=>.sn
 | .nf=>.nf
 | .ni=>.ni
 | .ai k n l=>.ai k n l
def V.kills (K:List Nat):List V->List V
 | []=>[]
 | v::l=>V.kill K v::V.kills K l
end
def Blk.kill (K:List Nat):Blk->Blk
 | .dead=>.dead
 | .rows t l=>.rows t l
 | .cells l=>.cells (V.kills K l)
 | .ints k n l=>.ints k n l
 | .iter s pos=>.iter s pos
 | .mp k l=>.mp k l
def wq (K:List Nat):List (Nat×Option V)->List (Nat×Option V)
 | []=>[]
 | (t,none)::l=>(t,none)::wq K l
 | (t,some v)::l=>(t,some (V.kill K v))::wq K l
def C9 (K:List Nat):List (Nat×Blk)->List (Nat×Blk)
 | []=>[]
 | (b,x)::l=>(b,Blk.kill K x)::C9 K l
def St.kill:List Nat->St->St
 | [],s=>s
 | b::K,s=>{ T:=wq (b::K) s.T,H:=C9 (b::K) s.H,nb:=s.nb,lo:=s.lo,ro:=s.ro,rb:=s.rb }
def St.app (s:St) (dst:Option Nat) (v:Option V) (wr:List (Nat×Blk)) (nb:Nat):St:=
 { T:=match dst with | some d=>(d,v)::s.T | none=>s.T,H:=wr++s.H,nb:=nb,lo:=s.lo,ro:=s.ro,rb:=s.rb }
def vv (n:Nat):Option Nat->Bool
 | some d=>Nat.blt d n
 | none=>true
def Ve (P:Program) (e:TypeId):Option (List Lf):=match uI P 12 e with
 | some tr=>cond (Nat.ble 10 tr.length) (some tr) none
 | none=>none
def YE (a:TypeId->List (Nat×List Lf)):List Field->List (Nat×List Lf)
 | []=>[]
 | f::fs=>(a f.type).map (λx=>(f.offset+x.1,x.2))++YE a fs
def Jo (P:Program):Nat->TypeId->List (Nat×List Lf)
 | 0,_=>[]
 | d+1,t=>match P.underlying t with
  | some (.slice e)=>match Ve P e with
   | some tr=>[(0,tr)]
   | none=>[]
  | some (.struct a)=>YE (Jo P d) a.toList
  | _=>[]
def nilL (g:Nat):List (Nat×List Lf)->List V->List (Nat×Blk)->List V×List (Nat×Blk)
 | [],l,a=>(l,a)
 | (i,tr)::r,l,a=>match l[i]? with
  | some .sn=>nilL (g+1) r (l.set i (.ws g)) ((g,.rows tr [])::a)
  | _=>nilL g r l a
def nilV (P:Program) (t:TypeId) (g:Nat):V->V×List (Nat×Blk)
 | .sn=>match Jo P 3 t with
  | (_,tr)::_=>(.ws g,[(g,.rows tr [])])
  | []=>(.sn,[])
 | .ag l=>match nilL g (Jo P 3 t) l [] with
  | (a,H)=>(.ag a,H)
 | v=>(v,[])
def Xc (o:Oper):Option TypeId:=match o.op with
 | .build t _=>some t
 | .move (.const _)=>some o.type
 | .assign (.const _)=>some o.type
 | _=>none
def AV (P:Program) (fr:Nat) (o:Oper) (e:Eff):Option V×List (Nat×Blk)×Nat:=
 match e.wr with
 | none=>match Xc o,e.val with
  | some t,some v=>match nilV P t fr v with
   | (c,H)=>(some c,H,H.length)
  | _,_=>(e.val,[],0)
 | some a=>match e.new with
  | false=>(e.val,[a],0)
  | true=>match o.op,a.2 with
   | .alloc t,.cells l=>match nilL (fr+1) (Jo P 3 t) l [] with
    | (b,H)=>(e.val,H++[(a.1,.cells b)],1+H.length)
   | _,_=>(e.val,[a],1)
def roOK (ro:Nat) (e:Eff):Bool:=match e.wr with
 | some a=>match e.new with
  | false=>Nat.ble ro a.1
  | true=>true
 | none=>true
def nbOf (nb fr:Nat):Nat->Nat
 | 0=>nb
 | g+1=>max nb (fr+(g+1))
def vz {α:Type} (P:Program) (fr:Nat) (o:Oper) (s:St) (k:St->List Nat->List (Nat×Blk)->Nat->Option α):Option α:=
 effK P (opd s.T) s.H fr o.op λe=>match AV P fr o e with
  | (v,wr,g)=>match roOK s.ro e&&Nat.ble g 8 with
   | true=>k (s.app o.dst v wr (nbOf s.nb fr g)) e.rd wr g
   | false=>none
def Fj {α:Type} (P:Program) (E:List Ent) (n fr:Nat) (o:Oper) (s:St) (k:St->List Nat->List (Nat×Blk)->Nat->Option α) (a:V->St->Option α):Option α:=
 match vv n o.dst with
 | false=>none
 | true=>
  match o.op with
  | .call b=>match b.callee with
   | .value g=>match opd s.T g with
    | some (.fn f cap)=>ob (opds (opd s.T) b.args.toList) λargs=>
     J8 α (fnF f) (fnA f args cap) s.H fr (λr=>match Nat.ble r.grow 8&&(r.wr.all (λx=>Nat.ble s.ro x.1)&&r.kill.isEmpty) with
      | false=>none
      | true=>match r.pan with
       | true=>a r.val (s.app none none r.wr (max s.nb (fr+r.grow)))
       | false=>k (s.app o.dst (some r.val) r.wr (max s.nb (fr+r.grow))) r.rd r.wr r.grow) E
    | _=>none
   | _=>vz P fr o s k
  | .panic x=>match opd s.T x with
   | some (.it t v)=>a (.it t v) s
   | _=>none
  | _=>vz P fr o s k
def mD (t a:List Lf) (l:List (den t)):Option (List (den a)):=if h:t=a then some (h▸l) else none
def srcK (P:Program) (H:List (Nat×Blk)) (tr:List Lf) (t:TypeId) (y:V):Option (List (den tr)):=
 match P.underlying t with
 | some (.slice _)=>match y with
  | .sn=>some []
  | .ws b=>match look H b with
   | some (.rows t l)=>mD t tr l
   | _=>none
  | .rs z b j n _=>match look H b with
   | some (.rows t l)=>match Nat.beq z t.length with
    | true=>cond (Nat.ble (j+n) l.length) (mD t tr ((l.drop j).take n)) none
    | false=>none
   | _=>none
  | _=>none
 | some .string=>match y with
  | .s l=>mD [.i .u8] tr (l.map λb=>((b.toNat:Nat):Int))
  | _=>none
 | _=>none
def eW:Nat:=67108864
def Ro (P:Program) (tr:List Lf) (e:TypeId):Bool:=
 match P.info? e with
 | some a=>match a.zero with
  | some z=>Nat.beq z.cells.size (P.cellsOf e)&&(Nat.beq tr.length (P.cellsOf e)&&(Nat.blt 0 (P.cellsOf e)&&Nat.ble a.bytes 1048576))
  | none=>false
 | none=>false
def fS9 {α:Type} (P:Program) (n fr:Nat) (dst:Option Nat) (args:List Operand) (d:List TypeId) (s:St) (k:St->Option α):Option α:=
 match vv n dst,args,d with
 | true,[x,y],[t,f]=>match P.underlying t with
  | some (.slice e)=>ob (opd s.T x) λa=>ob (opd s.T y) λb=>match a with
   | .sn=>match uI P 12 e with
    | some tr=>match Ro P tr e with
     | true=>ob (srcK P s.H tr f b) λm=>cond (Nat.ble m.length eW) (k (s.app dst (some (.ws fr)) [(fr,.rows tr m)] (max s.nb (fr+1)))) none
     | false=>none
    | none=>none
   | .ws c=>match look s.H c with
    | some (.rows tr l)=>match Ro P tr e&&(Nat.ble s.ro c&&Nat.ble s.rb c) with
     | true=>ob (srcK P s.H tr f b) λm=>cond (Nat.ble (l.length+m.length) eW) (k ((s.kill [c]).app dst (some (.ws c)) [(c,.rows tr (l++m))] s.nb)) none
     | false=>none
    | _=>none
   | _=>none
  | _=>none
 | _,_,_=>none
def KP {α:Type} (P:Program) (E:List Ent) (n fr:Nat) (o:Oper) (s:St) (k:St->Option α) (c:V->St->Option α):Option α:=
 match o.op with
 | .call a=>match a.callee with
  | .value g=>match vv n o.dst,opd s.T g with
   | true,some (.fn f cap)=>ob (opds (opd s.T) a.args.toList) λargs=>
    J8 α (fnF f) (fnA f args cap) s.H fr (λr=>match r.wr.all (λx=>Nat.ble s.ro x.1)&&r.kill.all (λb=>Nat.ble s.rb b) with
     | false=>none
     | true=>match r.pan with
      | true=>c r.val ((s.kill r.kill).app none none r.wr (max s.nb (fr+r.grow)))
      | false=>k ((s.kill r.kill).app o.dst (some r.val) r.wr (max s.nb (fr+r.grow)))) E
   | _,_=>none
  | .builtin .append=>fS9 P n fr o.dst a.args.toList a.argTypes.toList s k
  | _=>Fj P E n fr o s (λs _ _ _=>k s) c
 | _=>Fj P E n fr o s (λs _ _ _=>k s) c
def gtmp (ops:List Oper) (j:Nat):Option Nat:=
 match ops[j]? with
 | some o=>o.dst
 | none=>none
def xd {α:Type} (ops:List Oper) (o:Oper) (s:St) (k:Bool->St->Option α):Option α:=
 match o.guard with
 | none=>k true s
 | some (j,a)=>match gtmp ops j with
  | some d=>match look s.T d with
   | some (some (.b x))=>cond x (k a { s with T:=(d,some (.b true))::s.T }) (k (!a) { s with T:=(d,some (.b false))::s.T })
   | some (some (.tp []))=>k false s
   | _=>none
  | none=>none
def Dk {α:Type} (P:Program) (E:List Ent) (n:Nat) (ops:List Oper):List Oper->St->(Ex->St->Option α)->Option α
 | [],s,k=>k .normal s
 | o::r,s,k=>xd ops o s λa s=>match a with
  | true=>KP P E n s.nb o s (λs=>Dk P E n ops r s k) (λv s=>k (.pan v) s)
  | false=>match vv n o.dst with
   | true=>Dk P E n ops r (s.app o.dst (some (.tp [])) [] s.nb) k
   | false=>none
structure TE where
 i:Nat
 rd:List Nat
 ws:List Nat
def getN:List Nat->Nat->Nat
 | [],_=>0
 | x::_,0=>x
 | _::l,j+1=>getN l j
def runB {α:Type} (P:Program) (E:List Ent) (n nb0:Nat) (ops:List Oper) (masks:List Nat) (p:Nat):Nat->List Oper->St->List TE->(List TE->Option α)->Option α
 | _,[],_,tr,k=>k tr
 | i,o::r,s,tr,k=>match (getN masks i).testBit p with
  | true=>runB P E n nb0 ops masks p (i+1) r (s.app o.dst none [] s.nb) tr k
  | false=>xd ops o s λa s=>match a with
   | true=>Fj P E n (nb0+8*i) o s (λs rd wr _=>runB P E n nb0 ops masks p (i+1) r s (⟨i,rd,wr.map (·.1)⟩::tr) k) (λ_ _=>none)
   | false=>match vv n o.dst with
    | true=>runB P E n nb0 ops masks p (i+1) r (s.app o.dst (some (.tp [])) [] s.nb) tr k
    | false=>none
def runD {α:Type} (P:Program) (E:List Ent) (n nb0:Nat) (ops:List Oper) (masks:List Nat) (b:Nat->V->St->List TE->Option α):Nat->List Oper->St->List TE->(St->List TE->Option α)->Option α
 | _,[],s,tr,k=>k s tr
 | i,o::r,s,tr,k=>xd ops o s λa s=>match a with
  | true=>Fj P E n (nb0+8*i) o s (λs rd wr _=>runD P E n nb0 ops masks b (i+1) r s (⟨i,rd,wr.map (·.1)⟩::tr) k)
    (λv s'=>runB P E n nb0 ops masks i (i+1) r (s.app o.dst none [] s.nb) tr λtr=>b i v s' tr)
  | false=>match vv n o.dst with
   | true=>runD P E n nb0 ops masks b (i+1) r (s.app o.dst (some (.tp [])) [] s.nb) tr k
   | false=>none
def Ft (a:List Nat):List Edge->Nat->Nat
 | [],s=>s
 | e::l,s=>match Region.binds .any e with
  | true=>Ft a l (s ||| 2 ^ e.on ||| getN a e.on)
  | false=>Ft a l s
def lG:List Oper->List Nat->List Nat
 | [],a=>a
 | o::r,a=>lG r (a++[Ft a o.after.toList 0])
def rL:Nat->List Oper->Bool
 | _,[]=>true
 | i,o::r=>(o.after.toList.all λe=>!Region.binds .any e||Nat.blt e.on i)&&rL (i+1) r
def uv (ops:Array Oper) (o:Oper) (a:Nat):Nat->List Oper->Bool
 | _,[]=>true
 | i,p::r=>(a.testBit i||Oper.apart ops p o)&&uv ops o a (i+1) r
def us (ops:Array Oper) (masks:List Nat):Nat->List Oper->List Oper->Bool
 | _,_,[]=>true
 | j,a,o::r=>uv ops o (getN masks j) 0 a&&us ops masks (j+1) (a++[o]) r
def TQ (ops:List Oper):Bool:=ops.all λo=>match o.op with | .select _ _=>false | _=>true
def IJ (ops:List Oper):Bool:=rL 0 ops&&(us ops.toArray (lG ops []) 0 [] ops&&TQ ops)
def U4 (x y:TE):Bool:=x.ws.any (λb=>y.rd.contains b||y.ws.contains b)||x.rd.any (λb=>y.ws.contains b)
def yo (masks:List Nat) (x y:TE):Bool:=
 (cond (Nat.blt x.i y.i) ((getN masks y.i).testBit x.i) ((getN masks x.i).testBit y.i))||!U4 x y
def qo (masks:List Nat):List TE->Bool
 | []=>true
 | x::l=>l.all (yo masks x)&&qo masks l
def WL (masks:List Nat) (i:Nat) (tr:List TE):Bool:=tr.all (λx=>x.ws.isEmpty||(Nat.blt x.i i&&(getN masks i).testBit x.i))
def Kw:List Oper->List (Nat×Option V)->List (Nat×Option V)
 | [],T=>T
 | o::l,T=>match o.dst with
  | some d=>(d,none)::Kw l T
  | none=>Kw l T
def Gn {α:Type} (P:Program) (E:List Ent) (n:Nat) (ops:List Oper) (s:St) (k:Ex->St->Option α):Option α:=
 match IJ ops&&P.follows .mixedOrders with
 | true=>runD P E n s.nb ops (lG ops []) (λi v s' tr=>match WL (lG ops []) i tr&&qo (lG ops []) (tr.filter λx=>!(x.rd.isEmpty&&x.ws.isEmpty)) with
   | true=>k (.pan v) { s' with T:=Kw ops s.T }
   | false=>none) 0 ops { s with nb:=s.nb+8*ops.length } [] λs' tr=>match qo (lG ops []) (tr.filter λx=>!(x.rd.isEmpty&&x.ws.isEmpty)) with
  | true=>k .normal s'
  | false=>none
 | false=>none
def YU (o:Oper):Bool:=match o.op with
 | .call a=>match a.callee with
  | .builtin .append=>true
  | _=>false
 | _=>false
def V6:Nat->List Oper->Option Nat
 | _,[]=>none
 | i,o::l=>cond (YU o) (some i) (V6 (i+1) l)
def LL (m a:Nat):Nat->Nat->Nat
 | 0,i=>i
 | r+1,i=>cond (Nat.blt i a&&!m.testBit i) (LL m a r (i+1)) i
def vR (n:Nat) (ops:Array Oper):Nat->Nat->Array Bool->Bool
 | 0,_,_=>true
 | r+1,i,a=>(match ops[i]? with
  | some o=>(match o.op with | .move _=>true | _=>false)&&(o.guard.isNone&&vv n o.dst)
  | none=>false)&&(Region.free .any ops a i&&((Region.ready .any ops a).contains i&&vR n ops r (i+1) (a.setIfInBounds i true)))
def runM {α:Type}:List Oper->St->(St->Option α)->Option α
 | [],s,k=>k s
 | o::l,s,k=>match o.op with
  | .move x=>ob (opd s.T x) λv=>runM l (s.app o.dst (some v) [] s.nb) k
  | _=>none
def vg (f:Nat->Bool):Nat->Nat->Bool
 | 0,_=>true
 | r+1,i=>f i&&vg f r (i+1)
def Yp (n:Nat) (ops:List Oper) (masks:List Nat) (a kk:Nat):Bool:=
 Nat.blt a ops.length&&(Nat.ble kk a&&(vR n ops.toArray kk 0 (Array.replicate ops.length false)&&(vg (λi=>(getN masks a).testBit i) (a - kk) kk&&vg (λj=>(getN masks j).testBit a) (ops.length - (a+1)) (a+1))))
def OK {α:Type} (P:Program) (E:List Ent) (n:Nat) (ops:List Oper) (a:Nat) (s:St) (k:Ex->St->Option α):Option α:=
 match lG ops [] with
 | masks=>match LL (getN masks a) a a 0 with
  | kk=>match IJ ops&&(P.follows .mixedOrders&&Yp n ops masks a kk) with
   | true=>runM (ops.take kk) { s with nb:=s.nb+8*ops.length } λs0=>runD P E n s.nb ops masks (λ_ _ _ _=>none) kk ((ops.take a).drop kk) s0 [] λe b=>
    match qo masks (b.filter λx=>!(x.rd.isEmpty&&x.ws.isEmpty)) with
    | true=>match ops[a]? with
     | some o=>match o.guard with
      | none=>KP P E n e.nb o e (λd=>runD P E n d.nb ops masks (λ_ _ _ _=>none) (a+1) (ops.drop (a+1)) { d with nb:=d.nb+8*ops.length } [] λf c=>
       match qo masks (c.filter λx=>!(x.rd.isEmpty&&x.ws.isEmpty)) with
       | true=>k .normal f
       | false=>none) (λ_ _=>none)
      | some _=>none
     | none=>none
    | false=>none
   | false=>none
def UP {α:Type} (P:Program) (E:List Ent) (n:Nat) (ops:List Oper) (s:St) (k:Ex->St->Option α):Option α:=
 match V6 0 ops with
 | none=>Gn P E n ops s k
 | some a=>OK P E n ops a s k
inductive AC where
 | skip
 | ret
 | exit (id:Nat)
 | seq (a b:AC)
 | cond (c:Operand) (a b:AC)
 | block (id:Nat) (a:AC)
 | reg (id:Nat) (ops:List Oper)
 | draw (id:Nat) (ops:List Oper)
 | sub (m:Nat) (c:AC)
 | loop (c:AC)
 | scope (c:AC)
 | label (l:Nat)
 | bad (c:Code)
def AC.code:AC->Code
 | .skip=>.skip
 | .ret=>.ret
 | .exit id=>.exit id
 | .seq a b=>.seq a.code b.code
 | .cond c a b=>.cond c a.code b.code
 | .block id a=>.block id a.code
 | .reg id ops=>.region id ops.toArray false
 | .draw id ops=>.region id ops.toArray true
 | .sub _ c=>c.code
 | .loop c=>.loop c.code
 | .scope c=>.scope c.code
 | .label l=>.label l
 | .bad c=>c
def tO:Code->Nat->AC×Nat
 | .skip,m=>(.skip,m)
 | .ret,m=>(.ret,m)
 | .exit id,m=>(.exit id,m)
 | .seq a b,m=>match tO a m with
  | (x,m)=>match tO b m with
   | (y,m)=>(.seq x y,m)
 | .cond c a b,m=>match tO a m with
  | (x,m)=>match tO b m with
   | (y,m)=>(.cond c x y,m)
 | .block id a,m=>match tO a m with
  | (x,m)=>(.block id x,m)
 | .region id ops false,m=>(.reg id ops.toList,m)
 | .region id ops true,m=>(.draw id ops.toList,m)
 | .loop c,m=>match tO c (m+1) with
  | (x,m')=>(.sub m (.loop x),m')
 | .scope c,m=>match tO c m with
  | (x,m)=>(.scope x,m)
 | .label l,m=>(.label l,m)
 | c,m=>(.bad c,m)
def RI {α:Type} (r:St->(Ex->St->Option α)->Option α):Nat->St->(Ex->St->Option α)->Option α
 | 0,_,_=>none
 | n+1,s,k=>r s λex s=>match ex with
  | .normal=>RI r n s k
  | .exit id=>k (.exit id) s
  | .ret=>k .ret s
  | .pan v=>k (.pan v) s
def run {α:Type} (P:Program) (E:List Ent) (L:List Sub) (n:Nat):AC->St->(Ex->St->Option α)->Option α
 | .skip,s,k=>k .normal s
 | .ret,s,k=>k .ret s
 | .exit id,s,k=>k (.exit id) s
 | .seq a b,s,k=>run P E L n a s λex s=>match ex with
  | .normal=>run P E L n b s k
  | .exit id=>k (.exit id) s
  | .ret=>k .ret s
  | .pan v=>k (.pan v) s
 | .cond c a b,s,k=>match opd s.T c with
  | some (.b x)=>_root_.cond x (run P E L n a s k) (run P E L n b s k)
  | _=>none
 | .block id a,s,k=>run P E L n a s λex s=>match ex with
  | .exit i=>match Nat.beq i id with
   | true=>k .normal s
   | false=>k (.exit i) s
  | .normal=>k .normal s
  | .ret=>k .ret s
  | .pan v=>k (.pan v) s
 | .reg _ ops,s,k=>Dk P E n ops ops s k
 | .draw _ ops,s,k=>UP P E n ops s k
 | .sub m _,s,k=>JL α m s k L
 | .loop c,s,k=>RI (λs k=>run P E L n c s k) 12 s k
 | .scope c,s,k=>run P E L n c s k
 | .label _,s,k=>k .normal s
 | .bad _,_,_=>none
theorem kW:∀(c:Code) (m:Nat),(tO c m).1.code=c
 | .skip,m=>rfl
 | .ret,m=>rfl
 | .exit id,m=>rfl
 | .seq a b,m=>by simp [tO,AC.code,kW a,kW b]
 | .cond c a b,m=>by simp [tO,AC.code,kW a,kW b]
 | .block id a,m=>by simp [tO,AC.code,kW a]
 | .region id ops d,m=>by cases d<;>simp [tO,AC.code]
 | .loop c,m=>by simp [tO,AC.code,kW c]
 | .rangeFunc ..,m=>rfl
 | .scope c,m=>by simp [tO,AC.code,kW c]
 | .label _,m=>rfl
 | .goto _,m=>rfl
 | .refuse _,m=>rfl
end Go.Abs
