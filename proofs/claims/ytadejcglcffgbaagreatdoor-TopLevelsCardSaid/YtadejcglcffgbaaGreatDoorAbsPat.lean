
import Derived.Test.YtadejcglcffgbaaGreatDoorAbsU
import Derived.Test.YtadejcglcffgbaaGreatDoorAbsR
set_option linter.unusedSimpArgs false
set_option linter.unusedVariables false
set_option linter.defProp false
namespace Go.Abs
variable {P:Program}
def no'{α:Type}{x:α}{C:Prop}(h:none=some x):C:=by cases h
inductive Ty where
 | I | B | S | L | N
 | R (t:List Lf)
 | D
@[reducible] def Ty.den:Ty->Type
 | .I=>Int
 | .B=>Bool
 | .S=>aa
 | .L=>List Int
 | .N=>Nat
 | .R t=>List (Abs.den t)
 | .D=>Bool
@[reducible] def Ty.more:Ty->Nat
 | .D=>9
 | _=>0
@[reducible] def HL:List Ty->Type
 | []=>Unit
 | a::l=>a.den×HL l
@[reducible] def HLT:List Type->Type
 | []=>Unit
 | a::l=>a×HLT l
@[reducible] def TupT:List Type->Type
 | []=>Unit
 | [a]=>a
 | a::b::l=>a×TupT (b::l)
@[reducible] def gl:List Ty->Nat->List Type×List Type
 | [],_=>([],[])
 | a::l,0=>([],TupT (a.den::(gl l a.more).1)::(gl l a.more).2)
 | a::l,k+1=>(a.den::(gl l k).1,(gl l k).2)
@[reducible] def Tup(l:List Ty):Type:=TupT (gl l 0).2
def toT:(l:List Type)->TupT l->HLT l
 | [],_=>()
 | [_],x=>(x,())
 | _::b::l,x=>(x.1,toT (b::l) x.2)
def ofT:(l:List Type)->HLT l->TupT l
 | [],_=>()
 | [_],x=>x.1
 | _::b::l,x=>(x.1,ofT (b::l) x.2)
def Fq:∀(l:List Type) (x:HLT l),toT l (ofT l x)=x
 | [],_=>rfl
 | [_],_=>rfl
 | _::b::l,x=>by
  show(x.1,toT (b::l) (ofT (b::l) x.2))=x;rw[Fq (b::l) x.2]
def unG:(l:List Ty)->(k:Nat)->HLT (gl l k).1->HLT (gl l k).2->HL l
 | [],_,_,_=>()
 | a::l,0,_,r=>match r with
  | (y,r)=>match toT (a.den::(gl l a.more).1) y with
   | (u,g)=>(u,unG l a.more g r)
 | _::l,k+1,g,r=>match g with
  | (u,g)=>(u,unG l k g r)
def mkG:(l:List Ty)->(k:Nat)->HL l->HLT (gl l k).1×HLT (gl l k).2
 | [],_,_=>((),())
 | a::l,0,x=>((),(ofT (a.den::(gl l a.more).1) (x.1,(mkG l a.more x.2).1),(mkG l a.more x.2).2))
 | _::l,k+1,x=>((x.1,(mkG l k x.2).1),(mkG l k x.2).2)
def Gm:∀(l:List Ty) (k:Nat) (x:HL l),unG l k (mkG l k x).1 (mkG l k x).2=x
 | [],_,_=>rfl
 | a::l,0,(u,x)=>by
  show(match toT (a.den::(gl l a.more).1) (ofT (a.den::(gl l a.more).1) (u,(mkG l a.more x).1))with
   | (u,g)=>((u,unG l a.more g (mkG l a.more x).2):HL (a::l)))=(u,x)
  rw[Fq];exact co (Prod.mk u) (Gm l a.more x)
 | _::l,k+1,(u,x)=>co (Prod.mk u) (Gm l k x)
def g0:(l:List Ty)->HLT (gl l 0).1
 | []=>()
 | _::_=>()
def toHL(l:List Ty)(x:Tup l):HL l:=unG l 0 (g0 l) (toT _ x)
def ofHL(l:List Ty)(x:HL l):Tup l:=ofT _ (mkG l 0 x).2
def ou(l:List Ty)(x:HL l):toHL l (ofHL l x)=x:=by
 rw[toHL,ofHL,Fq];have e:g0 l=(mkG l 0 x).1:=by cases l<;>rfl
 rw[e,Gm]
@[reducible] def CurT:List Type->Type->Type
 | [],R=>R
 | a::l,R=>a->CurT l R
@[reducible] def Cur(l:List Ty)(R:Type):Type:=CurT (gl l 0).2 R
def Sv{R:Type}:(l:List Type)->CurT l R->TupT l->R
 | [],f,_=>f
 | [_],f,x=>f x
 | _::b::l,f,x=>Sv (b::l) (f x.1) x.2
def BM{R:Type}(l:List Ty)(f:Cur l R)(x:Tup l):R:=Sv _ f x
inductive Hn where
 | k (n:Nat)
 | q
instance (n:Nat):OfNat Hn n:=⟨.k n⟩
def Hn.lv:Hn->List Ty->List Ty
 | .k _,r=>r
 | .q,r=>.N::r
def Hn.val:(o:Hn)->(r:List Ty)->HL (o.lv r)->Nat
 | .k n,_,_=>n
 | .q,_,x=>x.1
def Hn.rest:(o:Hn)->(r:List Ty)->HL (o.lv r)->HL r
 | .k _,_,x=>x
 | .q,_,x=>x.2
def Hn.dec:(o:Hn)->(r:List Ty)->Nat->HL r->Option (HL (o.lv r))
 | .k n,_,m,h=>match Nat.beq n m with
  | true=>some h
  | false=>none
 | .q,_,m,h=>some (m,h)
def Hn.dec_ok:∀(o:Hn) (r:List Ty) (m:Nat) (h:HL r) (x:HL (o.lv r)),o.dec r m h=some x->m=o.val r x/\o.rest r x=h
 | .k n,r,m,h,x,e=>by
  simp only[Hn.dec]at e;split at e
  ·rename_i C;obtain rfl:=br e;exact⟨(bB C).symm,rfl⟩
  ·exact no' e
 | .q,r,m,h,x,e=>by obtain rfl:=br (show some (m,h)=some x from e);exact⟨rfl,rfl⟩
def Oh.lv:Option Hn->List Ty->List Ty
 | none,r=>r
 | some o,r=>o.lv r
def Oh.val:(o:Option Hn)->(r:List Ty)->HL (Oh.lv o r)->Option Nat
 | none,_,_=>none
 | some o,r,x=>some (o.val r x)
def Oh.rest:(o:Option Hn)->(r:List Ty)->HL (Oh.lv o r)->HL r
 | none,_,x=>x
 | some o,r,x=>o.rest r x
def Oh.dec:(o:Option Hn)->(r:List Ty)->Option Nat->HL r->Option (HL (Oh.lv o r))
 | none,_,none,h=>some h
 | some o,r,some m,h=>o.dec r m h
 | _,_,_,_=>none
def Oh.dec_ok:∀(o:Option Hn) (r:List Ty) (m:Option Nat) (h:HL r) (x:HL (Oh.lv o r)),Oh.dec o r m h=some x->m=Oh.val o r x/\Oh.rest o r x=h
 | none,r,none,h,x,e=>by obtain rfl:=br (show some h=some x from e);exact⟨rfl,rfl⟩
 | some o,r,some m,h,x,e=>by
  obtain⟨E,C⟩:=Hn.dec_ok o r m h x e;exact⟨by rw[E];rfl,C⟩
 | none,r,some m,h,x,e=>no' e
 | some o,r,none,h,x,e=>no' e
inductive PV where
 | unk | pn | sn | nf | ni | b | bd | s
 | sk (l:aa)
 | bk (x:Bool)
 | ik (k:IntKind) (n:Int)
 | i (k:IntKind)
 | p (c:Nat) (o:Hn)
 | sl (c:Nat) (o n:Hn) (cap:Option Hn)
 | pr (z c:Nat) (j o:Hn)
 | ws (c:Nat)
 | mp (c:Nat)
 | rs (z c:Nat) (j n:Hn) (cap:Option Hn)
 | fn (f:Nat) (l:List PV)
 | it (t:Nat) (v:PV)
 | ag (l:List PV)
 | tp (l:List PV)
 | ai (k:IntKind) (n:Nat)
mutual
def V.renF(f:Nat->Nat):V->V
 | .p c o=>.p (f c) o
 | .sl c o n m=>.sl (f c) o n m
 | .pr z c j o=>.pr z (f c) j o
 | .ws c=>.ws (f c)
 | .mp c=>.mp (f c)
 | .rs z c j n m=>.rs z (f c) j n m
 | .unk=>.unk
 | .fn g l=>.fn g (V.renFs f l)
 | .ag l=>.ag (V.renFs f l)
 | .tp l=>.tp (V.renFs f l)
 | .it t v=>.it t (V.renF f v)
 | .b x=>.b x
 | .i k n=>.i k n
 | .s l=>.s l
 | .pn=>.pn
 | .sn=>.sn
 | .nf=>.nf
 | .ni=>.ni
 | .ai k n l=>.ai k n l
def V.renFs(f:Nat->Nat):List V->List V
 | []=>[]
 | v::l=>V.renF f v::V.renFs f l
end
mutual
def V.renF_ren(ρ:List Nat):∀v:V,V.renF (getN ρ) v=V.ren ρ v
 | .p _ _ | .sl _ _ _ _ | .pr _ _ _ _ | .ws _ | .mp _ | .rs _ _ _ _ _ | .unk | .b _ | .i _ _ | .s _ | .pn | .sn | .nf | .ni | .ai _ _ _=>rfl
 | .fn _ l | .ag l | .tp l=>by simp only[V.renF,V.ren,V.renFs_ren ρ l]
 | .it _ v=>by simp only[V.renF,V.ren,V.renF_ren ρ v]
def V.renFs_ren(ρ:List Nat):∀l:List V,V.renFs (getN ρ) l=V.rens ρ l
 | []=>rfl
 | v::l=>by simp only[V.renFs,V.rens,V.renF_ren ρ v,V.renFs_ren ρ l]
end
mutual
def V.renF_id:∀v:V,V.renF id v=v
 | .p _ _ | .sl _ _ _ _ | .pr _ _ _ _ | .ws _ | .mp _ | .rs _ _ _ _ _ | .unk | .b _ | .i _ _ | .s _ | .pn | .sn | .nf | .ni | .ai _ _ _=>rfl
 | .fn _ l | .ag l | .tp l=>by simp only[V.renF,V.renFs_id l]
 | .it _ v=>by simp only[V.renF,V.renF_id v]
def V.renFs_id:∀l:List V,V.renFs id l=l
 | []=>rfl
 | v::l=>by simp only[V.renFs,V.renF_id v,V.renFs_id l]
end
mutual
def PV.lv:PV->List Ty->List Ty
 | .b,r=>.B::r
 | .bd,r=>.D::r
 | .s,r=>.S::r
 | .i _,r=>.I::r
 | .p _ o,r=>o.lv r
 | .sl _ o n c,r=>o.lv (n.lv (Oh.lv c r))
 | .pr _ _ j o,r=>j.lv (o.lv r)
 | .rs _ _ j n c,r=>j.lv (n.lv (Oh.lv c r))
 | .fn _ l,r=>PV.lvs l r
 | .ag l,r=>PV.lvs l r
 | .tp l,r=>PV.lvs l r
 | .it _ v,r=>v.lv r
 | .ai _ _,r=>.L::r
 | .unk,r=>r
 | .pn,r=>r
 | .sn,r=>r
 | .nf,r=>r
 | .ni,r=>r
 | .sk _,r=>r
 | .bk _,r=>r
 | .ik _ _,r=>r
 | .ws _,r=>r
 | .mp _,r=>r
def PV.lvs:List PV->List Ty->List Ty
 | [],r=>r
 | v::l,r=>v.lv (PV.lvs l r)
end
mutual
def PV.rest:(p:PV)->(r:List Ty)->HL (p.lv r)->HL r
 | .b,_,x=>x.2
 | .bd,_,x=>x.2
 | .s,_,x=>x.2
 | .i _,_,x=>x.2
 | .p _ o,r,x=>o.rest r x
 | .sl _ o n c,r,x=>Oh.rest c r (n.rest _ (o.rest _ x))
 | .pr _ _ j o,r,x=>o.rest r (j.rest _ x)
 | .rs _ _ j n c,r,x=>Oh.rest c r (n.rest _ (j.rest _ x))
 | .fn _ l,r,x=>PV.rests l r x
 | .ag l,r,x=>PV.rests l r x
 | .tp l,r,x=>PV.rests l r x
 | .it _ v,r,x=>v.rest r x
 | .ai _ _,_,x=>x.2
 | .unk,_,x=>x
 | .pn,_,x=>x
 | .sn,_,x=>x
 | .nf,_,x=>x
 | .ni,_,x=>x
 | .sk _,_,x=>x
 | .bk _,_,x=>x
 | .ik _ _,_,x=>x
 | .ws _,_,x=>x
 | .mp _,_,x=>x
def PV.rests:(l:List PV)->(r:List Ty)->HL (PV.lvs l r)->HL r
 | [],_,x=>x
 | v::l,r,x=>PV.rests l r (v.rest _ x)
end
mutual
def PV.val:(p:PV)->(r:List Ty)->HL (p.lv r)->V
 | .b,_,x=>.b x.1
 | .bd,_,x=>.b x.1
 | .s,_,x=>.s x.1
 | .i k,_,x=>.i k x.1
 | .p c o,r,x=>.p c (o.val r x)
 | .sl c o n m,r,x=>.sl c (o.val _ x) (n.val _ (o.rest _ x)) (Oh.val m r (n.rest _ (o.rest _ x)))
 | .pr z c j o,r,x=>.pr z c (j.val _ x) (o.val r (j.rest _ x))
 | .rs z c j n m,r,x=>.rs z c (j.val _ x) (n.val _ (j.rest _ x)) (Oh.val m r (n.rest _ (j.rest _ x)))
 | .fn f l,r,x=>.fn f (PV.vals l r x)
 | .ag l,r,x=>.ag (PV.vals l r x)
 | .tp l,r,x=>.tp (PV.vals l r x)
 | .it t v,r,x=>.it t (v.val r x)
 | .ai k n,_,x=>.ai k n x.1
 | .unk,_,_=>.unk
 | .pn,_,_=>.pn
 | .sn,_,_=>.sn
 | .nf,_,_=>.nf
 | .ni,_,_=>.ni
 | .sk l,_,_=>.s l
 | .bk y,_,_=>.b y
 | .ik k n,_,_=>.i k n
 | .ws c,_,_=>.ws c
 | .mp c,_,_=>.mp c
def PV.vals:(l:List PV)->(r:List Ty)->HL (PV.lvs l r)->List V
 | [],_,_=>[]
 | v::l,r,x=>v.val _ x::PV.vals l r (v.rest _ x)
end
def Hn.encK{β:Type}:(o:Hn)->(r:List Ty)->HL (o.lv r)->(Nat->HL r->β)->β
 | .k n,_,x,c=>c n x
 | .q,_,x,c=>match x with | (a,h)=>c a h
def Oh.encK{β:Type}:(o:Option Hn)->(r:List Ty)->HL (Oh.lv o r)->(Option Nat->HL r->β)->β
 | none,_,x,k=>k none x
 | some o,r,x,k=>o.encK r x λn x=>k (some n) x
def Hn.encK_eq{β:Type}:∀(o:Hn) (r:List Ty) (x:HL (o.lv r)) (k:Nat->HL r->β),o.encK r x k=k (o.val r x) (o.rest r x)
 | .k n,_,_,_=>rfl
 | .q,_,(_,_),_=>rfl
def Oh.encK_eq{β:Type}:∀(o:Option Hn) (r:List Ty) (x:HL (Oh.lv o r)) (k:Option Nat->HL r->β),Oh.encK o r x k=k (Oh.val o r x) (Oh.rest o r x)
 | none,_,_,_=>rfl
 | some o,r,x,k=>Hn.encK_eq o r x _
mutual
def PV.encK{β:Type}:(p:PV)->(r:List Ty)->HL (p.lv r)->(V->HL r->β)->β
 | .b,_,x,k=>match x with | (a,h)=>k (.b a) h
 | .bd,_,x,k=>match x with | (a,h)=>k (.b a) h
 | .s,_,x,k=>match x with | (a,h)=>k (.s a) h
 | .i C,_,x,k=>match x with | (a,h)=>k (.i C a) h
 | .p c o,r,x,k=>o.encK r x λo x=>k (.p c o) x
 | .sl c o n m,r,x,k=>o.encK _ x λo x=>n.encK _ x λn x=>Oh.encK m r x λm x=>k (.sl c o n m) x
 | .pr z c j o,r,x,k=>j.encK _ x λj x=>o.encK r x λo x=>k (.pr z c j o) x
 | .rs z c j n m,r,x,k=>j.encK _ x λj x=>n.encK _ x λn x=>Oh.encK m r x λm x=>k (.rs z c j n m) x
 | .fn f l,r,x,k=>PV.encsK l r x λl x=>k (.fn f l) x
 | .ag l,r,x,k=>PV.encsK l r x λl x=>k (.ag l) x
 | .tp l,r,x,k=>PV.encsK l r x λl x=>k (.tp l) x
 | .it t v,r,x,k=>v.encK r x λv x=>k (.it t v) x
 | .ai C n,_,x,k=>match x with | (a,h)=>k (.ai C n a) h
 | .unk,_,x,k=>k .unk x
 | .pn,_,x,k=>k .pn x
 | .sn,_,x,k=>k .sn x
 | .nf,_,x,k=>k .nf x
 | .ni,_,x,k=>k .ni x
 | .sk l,_,x,k=>k (.s l) x
 | .bk y,_,x,k=>k (.b y) x
 | .ik C n,_,x,k=>k (.i C n) x
 | .ws c,_,x,k=>k (.ws c) x
 | .mp c,_,x,k=>k (.mp c) x
def PV.encsK{β:Type}:(l:List PV)->(r:List Ty)->HL (PV.lvs l r)->(List V->HL r->β)->β
 | [],_,x,k=>k [] x
 | v::l,r,x,k=>v.encK _ x λv x=>PV.encsK l r x λl x=>k (v::l) x
end
mutual
def PV.encK_eq{β:Type}:∀(p:PV) (r:List Ty) (x:HL (p.lv r)) (k:V->HL r->β),p.encK r x k=k (p.val r x) (p.rest r x)
 | .b,_,(_,_),_=>rfl
 | .bd,_,(_,_),_=>rfl
 | .s,_,(_,_),_=>rfl
 | .i _,_,(_,_),_=>rfl
 | .ai _ _,_,(_,_),_=>rfl
 | .p c o,r,x,k=>Hn.encK_eq o r x _
 | .sl c o n m,r,x,k=>(Hn.encK_eq o _ x _).trans ((Hn.encK_eq n _ _ _).trans (Oh.encK_eq m r _ _))
 | .pr z c j o,r,x,k=>(Hn.encK_eq j _ x _).trans (Hn.encK_eq o r _ _)
 | .rs z c j n m,r,x,k=>(Hn.encK_eq j _ x _).trans ((Hn.encK_eq n _ _ _).trans (Oh.encK_eq m r _ _))
 | .fn f l,r,x,k=>PV.encsK_eq l r x _
 | .ag l,r,x,k=>PV.encsK_eq l r x _
 | .tp l,r,x,k=>PV.encsK_eq l r x _
 | .it t v,r,x,k=>PV.encK_eq v r x _
 | .unk,_,_,_ | .pn,_,_,_ | .sn,_,_,_ | .nf,_,_,_ | .ni,_,_,_ | .sk _,_,_,_ | .bk _,_,_,_ | .ik _ _,_,_,_ | .ws _,_,_,_ | .mp _,_,_,_=>rfl
def PV.encsK_eq{β:Type}:∀(l:List PV) (r:List Ty) (x:HL (PV.lvs l r)) (k:List V->HL r->β),PV.encsK l r x k=k (PV.vals l r x) (PV.rests l r x)
 | [],_,_,_=>rfl
 | v::l,r,x,k=>(PV.encK_eq v _ x _).trans (PV.encsK_eq l r _ _)
end
def beqB:aa->aa->Bool
 | [],[]=>true
 | x::l,y::m=>Nat.beq x.toNat y.toNat&&beqB l m
 | _,_=>false
def M9:∀{l m:aa},beqB l m=true->l=m
 | [],[],_=>rfl
 | x::l,y::m,h=>by
  simp only[beqB,aB]at h;rw[iE.1 (bB h.1),M9 h.2]
 | [],_::_,h=>by cases h
 | _::_,[],h=>by cases h
def chk{α:Type}(c:Bool)(o:Option α):Option α:=match c with
 | true=>o
 | false=>none
def iI{α:Type}{c:Bool}{o:Option α}{x:α}(h:chk c o=some x):c=true/\o=some x:=by
 cases c with
 | true=>exact⟨rfl,h⟩
 | false=>cases h
mutual
def PV.dec(f:Nat->Nat):(p:PV)->(r:List Ty)->V->HL r->Option (HL (p.lv r))
 | .b,_,.b x,h=>some (x,h)
 | .bd,_,.b x,h=>some (x,h)
 | .s,_,.s x,h=>some (x,h)
 | .i k,_,.i k' x,h=>chk (keq k k') (some (x,h))
 | .p c o,r,.p C G,h=>chk (Nat.beq (f c) C) (o.dec r G h)
 | .sl c o n m,r,.sl C G F m',h=>chk (Nat.beq (f c) C) (ob (Oh.dec m r m' h) λh=>ob (n.dec _ F h) λh=>o.dec _ G h)
 | .pr z c j o,r,.pr J C O G,h=>chk (Nat.beq z J&&Nat.beq (f c) C) (ob (o.dec r G h) λh=>j.dec _ O h)
 | .rs z c j n m,r,.rs J C O F m',h=>chk (Nat.beq z J&&Nat.beq (f c) C) (ob (Oh.dec m r m' h) λh=>ob (n.dec _ F h) λh=>j.dec _ O h)
 | .fn g l,r,.fn Q E,h=>chk (Nat.beq g Q) (PV.decs f l r E h)
 | .ag l,r,.ag E,h=>PV.decs f l r E h
 | .tp l,r,.tp E,h=>PV.decs f l r E h
 | .it t v,r,.it W X,h=>chk (Nat.beq t W) (v.dec f r X h)
 | .ai k n,_,.ai k' F x,h=>chk (keq k k'&&Nat.beq n F) (some (x,h))
 | .unk,_,.unk,h=>some h
 | .pn,_,.pn,h=>some h
 | .sn,_,.sn,h=>some h
 | .nf,_,.nf,h=>some h
 | .ni,_,.ni,h=>some h
 | .sk l,_,.s E,h=>chk (beqB l E) (some h)
 | .bk y,_,.b U,h=>chk (y==U) (some h)
 | .ik k n,_,.i k' F,h=>chk (keq k k'&&(n==F)) (some h)
 | .ws c,_,.ws C,h=>chk (Nat.beq (f c) C) (some h)
 | .mp c,_,.mp C,h=>chk (Nat.beq (f c) C) (some h)
 | _,_,_,_=>none
def PV.decs(f:Nat->Nat):(l:List PV)->(r:List Ty)->List V->HL r->Option (HL (PV.lvs l r))
 | [],_,[],h=>some h
 | a::l,r,v::m,h=>ob (PV.decs f l r m h) λh=>a.dec f _ v h
 | _,_,_,_=>none
end
mutual
def PV.dec_ok(f:Nat->Nat):∀(p:PV) (r:List Ty) (v:V) (h:HL r) (x:HL (p.lv r)),p.dec f r v h=some x->v=(p.val r x).renF f/\p.rest r x=h
 | .b,r,v,h,x,e=>by
  cases v with
  | b y=>obtain rfl:=br (show some (y,h)=some x from e);exact⟨rfl,rfl⟩
  | _=>exact no' e
 | .bd,r,v,h,x,e=>by
  cases v with
  | b y=>obtain rfl:=br (show some (y,h)=some x from e);exact⟨rfl,rfl⟩
  | _=>exact no' e
 | .s,r,v,h,x,e=>by
  cases v with
  | s y=>obtain rfl:=br (show some (y,h)=some x from e);exact⟨rfl,rfl⟩
  | _=>exact no' e
 | .i k,r,v,h,x,e=>by
  cases v with
  | i k' y=>
   obtain⟨U,e⟩:=iI (show chk (keq k k') (some (y,h))=some x from e);obtain rfl:=br e;rw[<-la U];exact⟨rfl,rfl⟩
  | _=>exact no' e
 | .p c o,r,v,h,x,e=>by
  cases v with
  | p C O=>
   obtain⟨hc,e⟩:=iI (show chk (Nat.beq (f c) C) (o.dec r O h)=some x from e);obtain⟨F,E⟩:=Hn.dec_ok _ _ _ _ _ e;rw[<-bB hc,F];exact⟨rfl,E⟩
  | _=>exact no' e
 | .sl c o n m,r,v,h,x,e=>by
  cases v with
  | sl C O J m'=>
   obtain⟨hc,e⟩:=iI (show chk (Nat.beq (f c) C) (ob (Oh.dec m r m' h) λh=>ob (n.dec _ J h) λh=>o.dec _ O h)=some x from e);obtain⟨g1,Q,e⟩:=ax e;obtain⟨g2,X,e⟩:=ax e;obtain⟨a1,a2⟩:=Hn.dec_ok _ _ _ _ _ e;obtain⟨b1,b2⟩:=Hn.dec_ok _ _ _ _ _ X;obtain⟨c1,W⟩:=Oh.dec_ok _ _ _ _ _ Q;subst a2 b2 W;rw[<-bB hc,a1,b1,c1];exact⟨rfl,rfl⟩
  | _=>exact no' e
 | .pr z c j o,r,v,h,x,e=>by
  cases v with
  | pr Y C Z O=>
   obtain⟨hc,e⟩:=iI (show chk (Nat.beq z Y&&Nat.beq (f c) C) (ob (o.dec r O h) λh=>j.dec _ Z h)=some x from e);simp only[aB]at hc;obtain⟨g1,Q,e⟩:=ax e;obtain⟨a1,a2⟩:=Hn.dec_ok _ _ _ _ _ e;obtain⟨b1,b2⟩:=Hn.dec_ok _ _ _ _ _ Q;subst a2 b2;rw[<-bB hc.1,<-bB hc.2,a1,b1];exact⟨rfl,rfl⟩
  | _=>exact no' e
 | .rs z c j n m,r,v,h,x,e=>by
  cases v with
  | rs Y C Z J m'=>
   obtain⟨hc,e⟩:=iI (show chk (Nat.beq z Y&&Nat.beq (f c) C) (ob (Oh.dec m r m' h) λh=>ob (n.dec _ J h) λh=>j.dec _ Z h)=some x from e);simp only[aB]at hc;obtain⟨g1,Q,e⟩:=ax e;obtain⟨g2,X,e⟩:=ax e;obtain⟨a1,a2⟩:=Hn.dec_ok _ _ _ _ _ e;obtain⟨b1,b2⟩:=Hn.dec_ok _ _ _ _ _ X;obtain⟨c1,W⟩:=Oh.dec_ok _ _ _ _ _ Q;subst a2 b2 W;rw[<-bB hc.1,<-bB hc.2,a1,b1,c1];exact⟨rfl,rfl⟩
  | _=>exact no' e
 | .fn g l,r,v,h,x,e=>by
  cases v with
  | fn g' G=>
   obtain⟨hc,e⟩:=iI (show chk (Nat.beq g g') (PV.decs f l r G h)=some x from e);obtain⟨F,E⟩:=PV.decs_ok f l r G h x e;rw[<-bB hc,F];exact⟨rfl,E⟩
  | _=>exact no' e
 | .ag l,r,v,h,x,e=>by
  cases v with
  | ag G=>
   obtain⟨F,E⟩:=PV.decs_ok f l r G h x e;rw[F];exact⟨rfl,E⟩
  | _=>exact no' e
 | .tp l,r,v,h,x,e=>by
  cases v with
  | tp G=>
   obtain⟨F,E⟩:=PV.decs_ok f l r G h x e;rw[F];exact⟨rfl,E⟩
  | _=>exact no' e
 | .it t v,r,u,h,x,e=>by
  cases u with
  | it t' v'=>
   obtain⟨hc,e⟩:=iI (show chk (Nat.beq t t') (v.dec f r v' h)=some x from e);obtain⟨F,E⟩:=PV.dec_ok f v r v' h x e;rw[<-bB hc,F];exact⟨rfl,E⟩
  | _=>exact no' e
 | .ai k n,r,v,h,x,e=>by
  cases v with
  | ai k' J y=>
   obtain⟨U,e⟩:=iI (show chk (keq k k'&&Nat.beq n J) (some (y,h))=some x from e);obtain rfl:=br e;simp only[aB]at U;rw[<-la U.1,<-bB U.2];exact⟨rfl,rfl⟩
  | _=>exact no' e
 | .unk,r,v,h,x,e=>by
  cases v with
  | unk=>obtain rfl:=br (show some h=some x from e);exact⟨rfl,rfl⟩
  | _=>exact no' e
 | .pn,r,v,h,x,e=>by
  cases v with
  | pn=>obtain rfl:=br (show some h=some x from e);exact⟨rfl,rfl⟩
  | _=>exact no' e
 | .sn,r,v,h,x,e=>by
  cases v with
  | sn=>obtain rfl:=br (show some h=some x from e);exact⟨rfl,rfl⟩
  | _=>exact no' e
 | .nf,r,v,h,x,e=>by
  cases v with
  | nf=>obtain rfl:=br (show some h=some x from e);exact⟨rfl,rfl⟩
  | _=>exact no' e
 | .ni,r,v,h,x,e=>by
  cases v with
  | ni=>obtain rfl:=br (show some h=some x from e);exact⟨rfl,rfl⟩
  | _=>exact no' e
 | .sk l,r,v,h,x,e=>by
  cases v with
  | s G=>
   obtain⟨hc,e⟩:=iI (show chk (beqB l G) (some h)=some x from e);obtain rfl:=br e;rw[<-M9 hc];exact⟨rfl,rfl⟩
  | _=>exact no' e
 | .bk y,r,v,h,x,e=>by
  cases v with
  | b y'=>
   obtain⟨hc,e⟩:=iI (show chk (y==y') (some h)=some x from e);obtain rfl:=br e;rw[<-eq_of_beq hc];exact⟨rfl,rfl⟩
  | _=>exact no' e
 | .ik k n,r,v,h,x,e=>by
  cases v with
  | i k' J=>
   obtain⟨hc,e⟩:=iI (show chk (keq k k'&&(n==J)) (some h)=some x from e);simp only[aB]at hc;obtain rfl:=br e;rw[<-la hc.1,<-eq_of_beq hc.2];exact⟨rfl,rfl⟩
  | _=>exact no' e
 | .ws c,r,v,h,x,e=>by
  cases v with
  | ws C=>
   obtain⟨hc,e⟩:=iI (show chk (Nat.beq (f c) C) (some h)=some x from e);obtain rfl:=br e;rw[<-bB hc];exact⟨rfl,rfl⟩
  | _=>exact no' e
 | .mp c,r,v,h,x,e=>by
  cases v with
  | mp C=>
   obtain⟨hc,e⟩:=iI (show chk (Nat.beq (f c) C) (some h)=some x from e);obtain rfl:=br e;rw[<-bB hc];exact⟨rfl,rfl⟩
  | _=>exact no' e
def PV.decs_ok(f:Nat->Nat):∀(l:List PV) (r:List Ty) (m:List V) (h:HL r) (x:HL (PV.lvs l r)),PV.decs f l r m h=some x->m=V.renFs f (PV.vals l r x)/\PV.rests l r x=h
 | [],r,[],h,x,e=>by obtain rfl:=br (show some h=some x from e);exact⟨rfl,rfl⟩
 | a::l,r,v::m,h,x,e=>by
  obtain⟨g,C,e⟩:=ax (show(ob (PV.decs f l r m h) λh=>a.dec f _ v h)=some x from e);obtain⟨a1,a2⟩:=PV.dec_ok f a _ _ _ _ e;obtain⟨b1,b2⟩:=PV.decs_ok f l r m h g C;subst a2;rw[a1,b1];exact⟨rfl,b2⟩
 | [],r,_::_,h,x,e=>no' e
 | _::_,r,[],h,x,e=>no' e
end
inductive PB where
 | dead | iter
 | mp (k:IntKind) (l:List (Int×Nat))
 | rows (t:List Lf)
 | cells (l:List PV)
 | ints (k:IntKind) (n:Hn)
def PB.lv:PB->List Ty->List Ty
 | .dead,r=>r
 | .iter,r=>.S::.N::r
 | .mp _ _,r=>r
 | .rows t,r=>.R t::r
 | .cells l,r=>PV.lvs l r
 | .ints _ n,r=>n.lv (.L::r)
def PB.rest:(p:PB)->(r:List Ty)->HL (p.lv r)->HL r
 | .dead,_,x=>x
 | .iter,_,x=>x.2.2
 | .mp _ _,_,x=>x
 | .rows _,_,x=>x.2
 | .cells l,r,x=>PV.rests l r x
 | .ints _ n,r,x=>(n.rest (.L::r) x).2
def PB.val:(p:PB)->(r:List Ty)->HL (p.lv r)->Blk
 | .dead,_,_=>.dead
 | .iter,_,x=>.iter x.1 x.2.1
 | .mp k l,_,_=>.mp k l
 | .rows t,_,x=>.rows t x.1
 | .cells l,r,x=>.cells (PV.vals l r x)
 | .ints k n,r,x=>.ints k (n.val (.L::r) x) (n.rest (.L::r) x).1
def PB.encK{β:Type}:(p:PB)->(r:List Ty)->HL (p.lv r)->(Blk->HL r->β)->β
 | .dead,_,x,k=>k .dead x
 | .iter,_,x,k=>match x with | (a,b,h)=>k (.iter a b) h
 | .mp C l,_,x,k=>k (.mp C l) x
 | .rows t,_,x,k=>match x with | (a,h)=>k (.rows t a) h
 | .cells l,r,x,k=>PV.encsK l r x λl x=>k (.cells l) x
 | .ints C n,r,x,k=>n.encK (.L::r) x λn x=>match x with | (a,h)=>k (.ints C n a) h
def PB.encK_eq{β:Type}:∀(p:PB) (r:List Ty) (x:HL (p.lv r)) (k:Blk->HL r->β),p.encK r x k=k (p.val r x) (p.rest r x)
 | .dead,_,_,_ | .mp _ _,_,_,_=>rfl
 | .iter,_,(_,_,_),_=>rfl
 | .rows _,_,(_,_),_=>rfl
 | .cells l,r,x,k=>PV.encsK_eq l r x _
 | .ints C n,r,x,k=>Hn.encK_eq n (.L::r) x _
def beqM:List (Int×Nat)->List (Int×Nat)->Bool
 | [],[]=>true
 | x::l,y::m=>(x.1==y.1)&&(Nat.beq x.2 y.2&&beqM l m)
 | _,_=>false
def OQ:∀{l m:List (Int×Nat)},beqM l m=true->l=m
 | [],[],_=>rfl
 | (x,u)::l,(y,v)::m,h=>by
  simp only[beqM,aB,bL]at h;rw[h.1,bB h.2.1,OQ h.2.2]
 | [],_::_,h=>by cases h
 | _::_,[],h=>by cases h
def Blk.renF(f:Nat->Nat):Blk->Blk
 | .cells l=>.cells (V.renFs f l)
 | .dead=>.dead
 | .rows t l=>.rows t l
 | .ints k n l=>.ints k n l
 | .iter s pos=>.iter s pos
 | .mp k l=>.mp k l
def PB.dec(f:Nat->Nat):(p:PB)->(r:List Ty)->Blk->HL r->Option (HL (p.lv r))
 | .dead,_,.dead,h=>some h
 | .iter,_,.iter s n,h=>some (s,n,h)
 | .mp k l,_,.mp k' C,h=>chk (keq k k'&&beqM l C) (some h)
 | .rows t,_,.rows E l,h=>ob (mj E t l) λl=>some (l,h)
 | .cells l,r,.cells m,h=>PV.decs f l r m h
 | .ints k n,r,.ints k' m l,h=>chk (keq k k') (n.dec (.L::r) m (l,h))
 | _,_,_,_=>none
def Blk.renF_ren(ρ:List Nat)(b:Blk):Blk.renF (getN ρ) b=b.ren ρ:=by
 cases b<;>simp[Blk.renF,Blk.ren,V.renFs_ren]
def Gz{t a:List Lf}{l:List (den t)}{m:List (den a)}(h:mj t a l=some m):t=a/\HEq l m:=by
 unfold mj at h;split at h
 ·rename_i e;subst e;cases h;exact⟨rfl,HEq.rfl⟩
 ·cases h
def PB.dec_ok(f:Nat->Nat):∀(p:PB) (r:List Ty) (v:Blk) (h:HL r) (x:HL (p.lv r)),p.dec f r v h=some x->v=(p.val r x).renF f/\p.rest r x=h
 | .dead,r,v,h,x,e=>by
  cases v with
  | dead=>obtain rfl:=br (show some h=some x from e);exact⟨rfl,rfl⟩
  | _=>exact no' e
 | .mp k l,r,v,h,x,e=>by
  cases v with
  | mp k' F=>
   obtain⟨hc,e⟩:=iI (show chk (keq k k'&&beqM l F) (some h)=some x from e);simp only[aB]at hc;obtain rfl:=br e;rw[<-la hc.1,<-OQ hc.2];exact⟨rfl,rfl⟩
  | _=>exact no' e
 | .iter,r,v,h,x,e=>by
  cases v with
  | iter s n=>obtain rfl:=br (show some (s,n,h)=some x from e);exact⟨rfl,rfl⟩
  | _=>exact no' e
 | .rows t,r,v,h,x,e=>by
  cases v with
  | rows G l=>
   obtain⟨m,O,e⟩:=ax (show(ob (mj G t l) λl=>some (l,h))=some x from e);obtain⟨E,C⟩:=Gz O;subst E;cases C;obtain rfl:=br e;exact⟨rfl,rfl⟩
  | _=>exact no' e
 | .cells l,r,v,h,x,e=>by
  cases v with
  | cells m=>
   obtain⟨E,C⟩:=PV.decs_ok f l r m h x e;rw[E];exact⟨rfl,C⟩
  | _=>exact no' e
 | .ints k n,r,v,h,x,e=>by
  cases v with
  | ints k' m l=>
   obtain⟨J,e⟩:=iI (show chk (keq k k') (n.dec (.L::r) m (l,h))=some x from e);obtain⟨E,C⟩:=Hn.dec_ok n (.L::r) m (l,h) x e;rw[<-la J];refine⟨?_,?_⟩
   ·show Blk.ints k m l=Blk.ints k (n.val (.L::r) x) (n.rest (.L::r) x).1;rw[C,<-E]
   ·show(n.rest (.L::r) x).2=h;rw[C]
  | _=>exact no' e
def lvT:List (Nat×PV)->List Ty->List Ty
 | [],r=>r
 | (_,p)::l,r=>p.lv (lvT l r)
def Qs:(l:List (Nat×PV))->(r:List Ty)->HL (lvT l r)->HL r
 | [],_,x=>x
 | (_,p)::l,r,x=>Qs l r (p.rest _ x)
def valT:(l:List (Nat×PV))->(r:List Ty)->HL (lvT l r)->List (Nat×Option V)
 | [],_,_=>[]
 | (t,p)::l,r,x=>(t,some (p.val _ x))::valT l r (p.rest _ x)
mutual
def PV.lt(nb:Nat):PV->Bool
 | .p c _ | .sl c _ _ _ | .pr _ c _ _ | .ws c | .mp c | .rs _ c _ _ _=>Nat.blt c nb
 | .fn _ l | .ag l | .tp l=>PV.lts nb l
 | .it _ v=>PV.lt nb v
 | .b | .bd | .i _ | .s | .sk _ | .bk _ | .ik _ _ | .pn | .sn | .nf | .ni | .ai _ _ | .unk=>true
def PV.lts(nb:Nat):List PV->Bool
 | []=>true
 | v::l=>PV.lt nb v&&PV.lts nb l
end
mutual
def PV.lt_ok{m:Nat}:∀(p:PV) (r:List Ty) (x:HL (p.lv r)),p.lt m=true->V.lt m (p.val r x)=true
 | .b,_,_,_ | .bd,_,_,_ | .i _,_,_,_ | .s,_,_,_ | .sk _,_,_,_ | .bk _,_,_,_ | .ik _ _,_,_,_ | .pn,_,_,_ | .sn,_,_,_ | .nf,_,_,_ | .ni,_,_,_ | .ai _ _,_,_,_ | .unk,_,_,_=>rfl
 | .p _ _,_,_,h | .sl _ _ _ _,_,_,h | .pr _ _ _ _,_,_,h | .ws _,_,_,h | .mp _,_,_,h | .rs _ _ _ _ _,_,_,h=>h
 | .fn _ l,r,x,h | .ag l,r,x,h | .tp l,r,x,h=>PV.lts_ok l r x h
 | .it _ v,r,x,h=>PV.lt_ok v r x h
def PV.lts_ok{m:Nat}:∀(l:List PV) (r:List Ty) (x:HL (PV.lvs l r)),PV.lts m l=true->V.lts m (PV.vals l r x)=true
 | [],_,_,_=>rfl
 | v::l,r,x,h=>by
  simp only[PV.lts,aB]at h;simp only[PV.vals,V.lts,aB];exact⟨PV.lt_ok v _ x h.1,PV.lts_ok l r _ h.2⟩
end
def decT(f:Nat->Nat)(T:List (Nat×Option V)):(l:List (Nat×PV))->(r:List Ty)->HL r->Option (HL (lvT l r))
 | [],_,h=>some h
 | (t,p)::l,r,h=>match look T t with
  | some (some v)=>match decT f T l r h with
   | some h=>p.dec f _ v h
   | none=>none
  | _=>none
def MC(f:Nat->Nat)(T:List (Nat×Option V)){m:Nat}:∀(l:List (Nat×PV)) (r:List Ty) (h:HL r) (x:HL (lvT l r)),decT f T l r h=some x->
  Qs l r x=h/\((l.all λq=>q.2.lt m)=true->∀t u,look (valT l r x) t=some (some u)->look T t=some (some (u.renF f))/\V.lt m u=true)
 | [],r,h,x,e=>by obtain rfl:=br (show some h=some x from e);exact⟨rfl,λ_ t u h=>by cases h⟩
 | (t,p)::l,r,h,x,e=>by
  simp only[decT]at e;split at e
  ·rename_i v i;split at e
   ·rename_i g b;obtain⟨a1,a2⟩:=PV.dec_ok f p _ _ _ _ e;obtain⟨b1,b2⟩:=MC f T l r h g b;subst a2;refine⟨b1,λa c u hc=>?_⟩;simp only[m7,aB]at a;simp only[valT,aS]at hc;split at hc
    ·rename_i d;subst d;simp only[aq]at hc;subst hc;exact⟨by rw[i,a1],PV.lt_ok p _ x a.1⟩
    ·exact b2 a.2 c u hc
   ·exact no' e
  ·exact no' e
def lvH:List (Nat×PB)->List Ty->List Ty
 | [],r=>r
 | (_,p)::l,r=>p.lv (lvH l r)
def Qa:(l:List (Nat×PB))->(r:List Ty)->HL (lvH l r)->HL r
 | [],_,x=>x
 | (_,p)::l,r,x=>Qa l r (p.rest _ x)
def valH:(l:List (Nat×PB))->(r:List Ty)->HL (lvH l r)->List (Nat×Blk)
 | [],_,_=>[]
 | (t,p)::l,r,x=>(t,p.val _ x)::valH l r (p.rest _ x)
def decH(f:Nat->Nat):(l:List (Nat×PB))->(r:List Ty)->List (Nat×Blk)->HL r->Option (HL (lvH l r))
 | [],_,[],h=>some h
 | (t,p)::l,r,(a,v)::T,h=>match Nat.beq (f t) a with
  | true=>match decH f l r T h with
   | some h=>p.dec f _ v h
   | none=>none
  | false=>none
 | _,_,_,_=>none
def QH(f:Nat->Nat):List (Nat×Blk)->List (Nat×Blk)
 | []=>[]
 | (b,x)::l=>(f b,x.renF f)::QH f l
def DU(ρ:List Nat):∀H,QH (getN ρ) H=renH ρ H
 | []=>rfl
 | (b,x)::l=>by simp only[QH,renH,DU ρ l,Blk.renF_ren]
def NQ(f:Nat->Nat):∀(l:List (Nat×PB)) (r:List Ty) (T:List (Nat×Blk)) (h:HL r) (x:HL (lvH l r)),decH f l r T h=some x->T=QH f (valH l r x)/\Qa l r x=h
 | [],r,[],h,x,e=>by obtain rfl:=br (show some h=some x from e);exact⟨rfl,rfl⟩
 | (t,p)::l,r,(c,v)::T,h,x,e=>by
  simp only[decH]at e;split at e
  ·rename_i a;split at e
   ·rename_i g b;obtain⟨a1,a2⟩:=PB.dec_ok f p _ _ _ _ e;obtain⟨b1,b2⟩:=NQ f l r T h g b;subst a2;rw[a1,b1,<-bB a];exact⟨rfl,b2⟩
   ·exact no' e
  ·exact no' e
 | [],r,_::_,h,x,e=>no' e
 | _::_,r,[],h,x,e=>no' e
def decL(f:Nat->Nat)(H:List (Nat×Blk)):(l:List (Nat×PB))->(r:List Ty)->HL r->Option (HL (lvH l r))
 | [],_,h=>some h
 | (b,p)::l,r,h=>match look H (f b)with
  | some v=>match decL f H l r h with
   | some h=>p.dec f _ v h
   | none=>none
  | none=>none
def FU(f:Nat->Nat)(H:List (Nat×Blk)):∀(l:List (Nat×PB)) (r:List Ty) (h:HL r) (x:HL (lvH l r)),decL f H l r h=some x->
  QX (λb blk=>look H (f b)=some (blk.renF f)) (valH l r x)/\Qa l r x=h
 | [],r,h,x,e=>by obtain rfl:=br (show some h=some x from e);exact⟨trivial,rfl⟩
 | (b,p)::l,r,h,x,e=>by
  simp only[decL]at e;split at e
  ·rename_i v a;split at e
   ·rename_i g c;obtain⟨a1,a2⟩:=PB.dec_ok f p _ _ _ _ e;obtain⟨b1,b2⟩:=FU f H l r h g c;subst a2;exact⟨⟨a.trans (co some a1),b1⟩,b2⟩
   ·exact no' e
  ·exact no' e
def TX{β:Type}:(l:List (Nat×PV))->(r:List Ty)->HL (lvT l r)->(List (Nat×Option V)->HL r->β)->β
 | [],_,x,k=>k [] x
 | (t,p)::l,r,x,k=>p.encK _ x λv x=>TX l r x λT x=>k ((t,some v)::T) x
def Ij{β:Type}:∀(l:List (Nat×PV)) (r:List Ty) (x:HL (lvT l r)) (k:List (Nat×Option V)->HL r->β),TX l r x k=k (valT l r x) (Qs l r x)
 | [],_,_,_=>rfl
 | (t,p)::l,r,x,k=>(PV.encK_eq p _ x _).trans (Ij l r _ _)
def Oy{β:Type}:(l:List (Nat×PB))->(r:List Ty)->HL (lvH l r)->(List (Nat×Blk)->HL r->β)->β
 | [],_,x,k=>k [] x
 | (t,p)::l,r,x,k=>p.encK _ x λv x=>Oy l r x λT x=>k ((t,v)::T) x
def wv{β:Type}:∀(l:List (Nat×PB)) (r:List Ty) (x:HL (lvH l r)) (k:List (Nat×Blk)->HL r->β),Oy l r x k=k (valH l r x) (Qa l r x)
 | [],_,_,_=>rfl
 | (t,p)::l,r,x,k=>(PB.encK_eq p _ x _).trans (wv l r _ _)
structure PSt where
 T:List (Nat×PV)
 H:List (Nat×PB)
 nb:Nat
 lo:Nat
 ro:Nat
 rb:Nat
@[reducible] def PSt.lv(p:PSt):List Ty:=lvT p.T (lvH p.H [])
def PSt.val(p:PSt)(x:HL p.lv):St:=⟨valT p.T (lvH p.H []) x,valH p.H [] (Qs p.T (lvH p.H []) x),p.nb,p.lo,p.ro,p.rb⟩
def PSt.emb(p:PSt)(x:Tup p.lv):St:=p.val (toHL _ x)
def PSt.encK{β:Type}(p:PSt)(x:HL p.lv)(k:St->β):β:=TX p.T (lvH p.H []) x λT x=>Oy p.H [] x λH _=>k ⟨T,H,p.nb,p.lo,p.ro,p.rb⟩
def PSt.encK_eq{β:Type}(p:PSt)(x:HL p.lv)(k:St->β):p.encK x k=k (p.val x):=(Ij _ _ _ _).trans (wv _ _ _ _)
def PSt.embK{β:Type}(p:PSt)(x:Tup p.lv)(k:St->β):β:=p.encK (toHL _ x) k
def PSt.embK_eq{β:Type}(p:PSt)(x:Tup p.lv)(k:St->β):p.embK x k=k (p.emb x):=p.encK_eq _ k
def PB.lt(m:Nat):PB->Bool
 | .cells l=>PV.lts m l
 | _=>true
def PB.isDead:PB->Bool
 | .dead=>true
 | _=>false
def PB.lt_ok{m:Nat}:∀(p:PB) (r:List Ty) (x:HL (p.lv r)),p.lt m=true->Blk.lt m (p.val r x)=true
 | .cells l,r,x,h=>PV.lts_ok l r x h
 | .dead,_,_,_ | .iter,_,_,_ | .rows _,_,_,_ | .ints _ _,_,_,_ | .mp _ _,_,_,_=>rfl
def PB.dead_ok:∀(p:PB) (r:List Ty) (x:HL (p.lv r)),p.isDead=false->p.val r x≠.dead
 | .dead,_,_,h,_=>by cases h
 | .cells l,r,x,_,e=>by cases (show Blk.cells (PV.vals l r x)=.dead from e)
 | .iter,_,x,_,e=>by cases (show Blk.iter x.1 x.2.1=.dead from e)
 | .mp k l,_,x,_,e=>by cases (show Blk.mp k l=.dead from e)
 | .rows t,_,x,_,e=>by cases (show Blk.rows t x.1=.dead from e)
 | .ints k n,r,x,_,e=>by cases (show Blk.ints k (n.val (.L::r) x) (n.rest (.L::r) x).1=.dead from e)
def wP:∀(l:List (Nat×PB)) (r:List Ty) (x:HL (lvH l r)),keys (valH l r x)=l.map (·.1)
 | [],_,_=>rfl
 | (b,p)::l,r,x=>by
  have:=wP l r (p.rest _ x);simp only[keys]at this ⊢;simp only[valH,gN,this]
def vX{m:Nat}:∀(l:List (Nat×PB)) (r:List Ty) (x:HL (lvH l r)),(l.all λp=>Nat.blt p.1 m&&p.2.lt m)=true->chkH m (valH l r x)=true
 | [],_,_,_=>rfl
 | (b,p)::l,r,x,h=>by
  simp only[m7,aB]at h;have:=vX l r (p.rest _ x) h.2;simp only[chkH]at this ⊢;simp only[valH,m7,aB];exact⟨⟨h.1.1,PB.lt_ok p _ x h.1.2⟩,this⟩
def rhoN(m:Nat)(a:List Nat):Nat->Nat:=getN (upTo 0 m++a)
def MI(T:List (Nat×Option V)):List (Nat×PV)->List V
 | []=>[]
 | (t,_)::l=>match look T t with
  | some (some v)=>v::MI T l
  | _=>MI T l
def lowK(m:Nat):List (Nat×PB)->List Nat
 | []=>[]
 | (b,_)::l=>cond (Nat.blt b m) (b::lowK m l) (lowK m l)
def PSt.own(p:PSt)(m:Nat)(s:St):List Nat:=
 match Gp m s.H (lowK m p.H) (V.newss m (MI s.T p.T) [])with
 | n1=>match Gp m s.H n1 n1 with
  | n2=>Gp m s.H n2 n2
def PSt.base(C:Bool)(p:PSt):Nat:=cond C p.lo p.nb
def PSt.nums(C:Bool)(p:PSt)(s:St):List Nat:=cond C (p.own p.lo s) []
def PSt.okS (C:Bool) (p:PSt) (s:St) (E:List Nat):Bool:=
 (Nat.beq s.lo p.lo&&(Nat.beq s.ro p.ro&&Nat.beq s.rb p.rb))&&(Nat.beq p.nb (p.base C+E.length)&&((Nat.ble p.lo (p.base C)&&Nat.ble p.ro (p.base C))&&((je E&&E.all (Nat.ble (p.base C))) &&
  ((p.T.all λq=>q.2.lt p.nb)&&p.H.all λq=>Nat.blt q.1 p.nb&&q.2.lt p.nb))))
def PSt.read(C:Bool)(p:PSt)(s:St):Option (HL p.lv):=
 match p.nums C s with
 | nw=>match p.okS C s nw with
  | true=>match decL (rhoN (p.base C) nw) s.H p.H [] ()with
   | some h=>decT (rhoN (p.base C) nw) s.T p.T _ h
   | none=>none
  | false=>none
def xO{Q:Nat->Blk->Prop}:∀{H:List (Nat×Blk)},QX Q H->∀b x,look H b=some x->Q b x
 | [],_,b,x,h=>by cases h
 | (c,y)::l,h,b,x,a=>by
  rw[aS]at a;split at a
  ·rename_i e;subst e;simp only[aq]at a;subst a;exact h.1
  ·exact xO h.2 b x a
def PSt.read_ok{pk:Bool}{p:PSt}{s:St}{y:HL p.lv}(W:p.read pk s=some y):Weak s (p.val y):=by
 unfold PSt.read at W;simp only at W;generalize hnw:p.nums pk s=U at W;split at W
 case h_2=>exact no' W
 rename_i hok;split at W
 case h_2=>exact no' W
 rename_i h e1;unfold PSt.okS at hok;generalize p.base pk=m at *;simp only[aB,bS]at hok;obtain⟨⟨q1,q2,q3⟩,q4,⟨q5,q6⟩,⟨q7,q8⟩,q9,q10⟩:=hok;have q1:=bB q1;have q2:=bB q2;have q3:=bB q3;have q4:=bB q4;have q5:=aI q5;have q6:=aI q6;obtain⟨a1,a2⟩:=FU _ _ _ _ _ _ e1;obtain⟨b1,b2⟩:=MC (m:=p.nb) _ _ _ _ _ _ W;have b2:=b2 (by simpa only[bS]using q9);intro n ι0 ι w0 a w E;have C:(upTo 0 m++U).length=p.nb:=by rw[aZ,qi,q4]
 have hnd:(upTo 0 m++U).Nodup:=by
  refine G3.2 ⟨sw m 0,qs q7,λc hc d hd hcd=>?_⟩;subst hcd;have h1:=(nz.1 hc).2;have h2:=aI (q8 c hd);omega
 have G:∀b,b<m->getN (upTo 0 m++U) b=b:=λb O=>by rw[wz m 0 b _ O];omega
 have F:∀{b q},lg ι (upTo 0 m++U) b=some q->b<p.nb/\ι (getN (upTo 0 m++U) b)=some q:=λh=>by
  have:=du h;rwa[C]at this
 have J:∀b,m<=b->b<p.nb->m<=getN (upTo 0 m++U) b:=by
  intro b h1 h2;obtain⟨i,rfl⟩:∃i,b=m+i:=⟨b - m,by omega⟩;have e4:=jZ (upTo 0 m) U i;rw[qi]at e4;rw[e4];exact aI (q8 _ (nG (by omega)))
 have hemb:p.val y=⟨valT p.T _ y,valH p.H [] h,p.nb,p.lo,p.ro,p.rb⟩:=by
  unfold PSt.val;rw[b1]
 refine⟨lg ι (upTo 0 m++U),?_⟩;rw[hemb];refine⟨E.size,E.defers,λt u hu=>?_,⟨λb b' q q' h1 h2 h3=>?_,λb q h=>(F h).1,λb q h=>E.mem.dom _ _ (F h).2,λb blk hl hd=>?_⟩,λb q O=>?_,λb q O=>?_,by rw[<-q2];exact E.fr,λb r O=>by rw[<-q1];exact E.low b r O,λb q O hq=>?_,by rw[<-q2];exact E.gl⟩
 ·obtain⟨c1,Y⟩:=b2 t u hu;obtain⟨v,c3,c4⟩:=E.tmps t _ c1;refine⟨v,c3,(VR.ren u v (by rw[C];exact Y)).1 ?_⟩;unfold rhoN at c4;rwa[V.renF_ren]at c4
 ·obtain⟨c1,Y⟩:=F h1;obtain⟨d1,d2⟩:=F h2;exact(E.mem.inj _ _ _ _ Y d2 h3).imp (sg hnd (by rw[C];exact c1) (by rw[C];exact d1)) id
 ·have Z:=xO a1 b blk hl;have Q:=rn (vX (m:=p.nb) p.H [] h (by simpa only[bS,aB]using q10)) b blk hl;unfold rhoN at Z;rw[Blk.renF_ren]at Z;exact(E.mem.blk _ _ Z (λe=>hd (Blk.ren_dead.1 e))).map (lu (by rw[C];exact Q.1)) (λ_ _=>rfl) (λq o hbr=>(BR.ren (by rw[C];exact Q.2)).1 hbr) (λt e=>Blk.ren_nil.1 e)
 ·rcases E.ext b q O with h | h
  ·have hbl:=E.low b q O;rw[q1]at hbl;exact .inl (by rw[lu (by rw[C];omega),G b (by omega)];exact h)
  ·exact .inr (by rw[<-q3];exact h)
 ·obtain⟨c1,Y⟩:=F O;rcases E.new _ q Y with⟨q',e3,e4⟩ | h
  ·have:=E.low _ _ e3;rw[q1]at this;by_cases X:b<m
   ·rw[G b X]at e3;exact .inl ⟨q',e3,e4⟩
   ·have:=J b (by omega) c1;omega
  ·exact .inr h
 ·obtain⟨c1,Y⟩:=F O;have hlt:=E.fz _ q Y hq;rw[q2]at hlt;by_cases X:b<m
  ·rwa[G b X]at hlt
  ·have:=J b (by omega) c1;omega
inductive PE where
 | nrm
 | exit (id:Nat)
 | ret
 | pan (p:PV)
@[reducible] def PE.lv:PE->List Ty->List Ty
 | .nrm,r=>r
 | .exit _,r=>r
 | .ret,r=>r
 | .pan p,r=>p.lv r
def PE.val:(e:PE)->(r:List Ty)->HL (e.lv r)->Ex
 | .nrm,_,_=>.normal
 | .exit i,_,_=>.exit i
 | .ret,_,_=>.ret
 | .pan p,r,x=>.pan (p.val r x)
def PE.rest:(e:PE)->(r:List Ty)->HL (e.lv r)->HL r
 | .nrm,_,x=>x
 | .exit _,_,x=>x
 | .ret,_,x=>x
 | .pan p,r,x=>p.rest r x
def PE.dec:(e:PE)->(r:List Ty)->Ex->HL r->Option (HL (e.lv r))
 | .nrm,_,.normal,h=>some h
 | .exit i,_,.exit j,h=>match Nat.beq i j with
  | true=>some h
  | false=>none
 | .ret,_,.ret,h=>some h
 | .pan p,r,.pan v,h=>p.dec id r v h
 | _,_,_,_=>none
def PE.fits:PE->Ex->Bool
 | .nrm,.normal=>true
 | .exit i,.exit j=>Nat.beq i j
 | .ret,.ret=>true
 | .pan _,.pan _=>true
 | _,_=>false
def PE.dec_ok:∀(p:PE) (r:List Ty) (ex:Ex) (h:HL r) (x:HL (p.lv r)),p.dec r ex h=some x->ex=p.val r x/\p.rest r x=h
 | .exit i,r,ex,h,x,e=>by
  cases ex with
  | exit j=>
   simp only[PE.dec]at e;split at e
   ·rename_i E;obtain rfl:=br e;rw[<-bB E];exact⟨rfl,rfl⟩
   ·exact no' e
  | _=>exact no' e
 | .nrm,r,ex,h,x,e=>by
  cases ex with
  | normal=>obtain rfl:=br (show some h=some x from e);exact⟨rfl,rfl⟩
  | _=>exact no' e
 | .ret,r,ex,h,x,e=>by
  cases ex with
  | ret=>obtain rfl:=br (show some h=some x from e);exact⟨rfl,rfl⟩
  | _=>exact no' e
 | .pan p,r,ex,h,x,e=>by
  cases ex with
  | pan v=>
   obtain⟨C,F⟩:=PV.dec_ok id p r v h x e;rw[V.renF_id]at C;rw[C];exact⟨rfl,F⟩
  | _=>exact no' e
def PE.encK{β:Type}:(e:PE)->(r:List Ty)->HL (e.lv r)->(Ex->HL r->β)->β
 | .nrm,_,x,k=>k .normal x
 | .exit i,_,x,k=>k (.exit i) x
 | .ret,_,x,k=>k .ret x
 | .pan p,r,x,k=>p.encK r x λv x=>k (.pan v) x
def PE.encK_eq{β:Type}:∀(e:PE) (r:List Ty) (x:HL (e.lv r)) (k:Ex->HL r->β),e.encK r x k=k (e.val r x) (e.rest r x)
 | .nrm,_,_,_ | .exit _,_,_,_ | .ret,_,_,_=>rfl
 | .pan p,r,x,k=>PV.encK_eq p r x _
structure PX where
 ex:PE
 st:PSt
@[reducible] def PX.lv(a:PX):List Ty:=a.ex.lv a.st.lv
def PX.val(a:PX)(x:HL a.lv):Ex×St:=(a.ex.val _ x,a.st.val (a.ex.rest _ x))
def PX.encK{β:Type}(a:PX)(x:HL a.lv)(k:Ex->St->β):β:=a.ex.encK _ x λe x=>a.st.encK x λs=>k e s
def PX.encK_eq{β:Type}(a:PX)(x:HL a.lv)(k:Ex->St->β):a.encK x k=k (a.val x).1 (a.val x).2:=(PE.encK_eq _ _ _ _).trans (PSt.encK_eq _ _ _)
def VX:Ex->Bool
 | .pan v=>V.flat v
 | _=>true
def PX.one(C:Bool)(a:PX)(ex:Ex)(s:St):Option (Tup a.lv):=match a.ex.fits ex&&VX ex with
 | true=>match a.st.read C s with
  | some h=>match a.ex.dec _ ex h with
   | some x=>some (ofHL _ x)
   | none=>none
  | none=>none
 | false=>none
def PX.one_ok{Q:Bool}{a:PX}{ex:Ex}{s:St}{x:Tup a.lv}(e:a.one Q ex s=some x):ex=(a.val (toHL _ x)).1/\Weak s (a.val (toHL _ x)).2/\∀v,ex=.pan v->V.flat v=true:=by
 unfold PX.one at e;split at e
 case h_2=>exact no' e
 rename_i C;simp only[aB]at C;split at e
 case h_2=>exact no' e
 rename_i h G;split at e
 case h_2=>exact no' e
 rename_i y F;obtain rfl:=br e;obtain⟨J,E⟩:=PE.dec_ok _ _ _ _ _ F;rw[ou];unfold PX.val;rw[E];exact⟨J,PSt.read_ok G,λv O=>by subst O;exact C.2⟩
@[reducible] def SumX:List PX->Type
 | []=>Unit
 | [a]=>Tup a.lv
 | a::b::l=>Tup a.lv⊕SumX (b::l)
def outX:(l:List PX)->SumX l->Ex×St
 | [],_=>(.normal,⟨[],[],0,0,0,0⟩)
 | [a],y=>a.val (toHL _ y)
 | a::b::l,y=>Sum.casesOn (motive:=λ_=>Ex×St) y (λu=>a.val (toHL _ u)) (λv=>outX (b::l) v)
def Q5(α:Type):(l:List PX)->SumX l->(Ex->St->Option α)->Option α
 | [],_,k=>k .normal ⟨[],[],0,0,0,0⟩
 | [a],y,k=>a.encK (toHL _ y) k
 | a::b::l,y,k=>Sum.casesOn (motive:=λ_=>Option α) y (λu=>a.encK (toHL _ u) k) (λv=>Q5 α (b::l) v k)
def BH(α:Type):∀(l:List PX) (y:SumX l) (k:Ex->St->Option α),Q5 α l y k=k (outX l y).1 (outX l y).2
 | [],_,_=>rfl
 | [a],y,k=>a.encK_eq _ k
 | a::b::l,.inl u,k=>a.encK_eq _ k
 | a::b::l,.inr v,k=>BH α (b::l) v k
def KU(c:Bool):(l:List PX)->Ex->St->Option (SumX l)
 | [],_,_=>none
 | [a],ex,s=>a.one c ex s
 | a::b::l,ex,s=>match a.one c ex s with
  | some h=>some (.inl h)
  | none=>match KU c (b::l) ex s with
   | some y=>some (.inr y)
   | none=>none
def BF{d:Bool}:∀(l:List PX) (ex:Ex) (s:St) (y:SumX l),KU d l ex s=some y->ex=(outX l y).1/\Weak s (outX l y).2/\∀v,ex=.pan v->V.flat v=true
 | [],ex,s,y,e=>no' e
 | [a],ex,s,y,e=>PX.one_ok (show a.one d ex s=some y from e)
 | a::b::l,ex,s,y,e=>by
  simp only[KU]at e;split at e
  ·rename_i h c;obtain rfl:=br e;exact PX.one_ok c
  ·split at e
   ·rename_i z c;obtain rfl:=br e;exact BF (b::l) ex s z c
   ·exact no' e
def PSt.enter(C:Bool)(p:PSt)(E:List Fix)(s:St):Option (Tup p.lv):=IH E s λs=>match p.read C s with
 | some h=>some (ofHL _ h)
 | none=>none
def PSt.enter_ok{G:Bool}{p:PSt}{J:List Fix}{s:St}{x:Tup p.lv}(e:p.enter G J s=some x):Weak s (p.emb x):=by
 obtain⟨s',C,E⟩:=EQ e;split at C
 case h_2=>exact no' C
 rename_i h F;obtain rfl:=br C;unfold PSt.emb;rw[ou];exact E.trans (PSt.read_ok F)
def D3(a:Bool)(p:PSt)(b:List Fix)(outs:List PX):Ex->St->Option (Tup p.lv⊕SumX outs)
 | .normal,s=>match p.enter a b s with
  | some x=>some (.inl x)
  | none=>none
 | ex,s=>match KU a outs ex s with
  | some y=>some (.inr y)
  | none=>none
def OB{a:Bool}{p:PSt}{b:List Fix}{outs:List PX}{ex:Ex}{s:St}{x:Tup p.lv}(e:D3 a p b outs ex s=some (.inl x)):ex=.normal/\Weak s (p.emb x):=by
 unfold D3 at e;split at e
 ·split at e
  ·rename_i z c;obtain rfl:=Sum.inl.inj (br e);exact⟨rfl,PSt.enter_ok c⟩
  ·exact no' e
 ·split at e
  ·cases br e
  ·exact no' e
def Nq{b:Bool}{p:PSt}{c:List Fix}{outs:List PX}{ex:Ex}{s:St}{y:SumX outs}(e:D3 b p c outs ex s=some (.inr y)):
  ex≠.normal/\ex=(outX outs y).1/\Weak s (outX outs y).2/\∀v,ex=.pan v->V.flat v=true:=by
 unfold D3 at e;split at e
 ·split at e
  ·cases br e
  ·exact no' e
 ·rename_i a;split at e
  ·rename_i z d;obtain rfl:=Sum.inr.inj (br e);exact⟨a,BF outs ex s z d⟩
  ·exact no' e
structure FE(P:Program)where
 e:Ent
 ok:fC P e
 t:List V->List (Nat×Blk)->Bool:=λ_ _=>true
def altF(x y:FE P)(h:y.e.f=x.e.f):FE P:=⟨altE x.e x.t y.e,TO x.ok y.ok h,λl H=>x.t l H||y.t l H⟩
def FE.oks(E:List (FE P)):∀x∈E.map FE.e,fC P x:=by
 intro x hx;obtain⟨y,_,rfl⟩:=eF.1 hx;exact y.ok
structure LP(P:Program)(nt:Nat)where
 ac:AC
 s:Sub
 t:St->Bool
 ok:∀(α:Type) (st:St) (k:Ex->St->Option α) (z:α),s.e α st k=some z->SemC P nt ac.code st λex s'=>k ex s'=some z
def LP.m{nt:Nat}(l:LP P nt):Nat:=l.s.m
def LP.key{nt:Nat}(l:LP P nt):Nat×AC:=(l.s.m,l.ac)
def noL{nt:Nat}(m:Nat)(c:AC):LP P nt:=⟨c,⟨m,λ_ _ _=>none⟩,λ_=>false,λ_ _ _ _ h=>by cases h⟩
def altL{nt:Nat}(x y:LP P nt)(h:y.ac=x.ac):LP P nt:=
 ⟨x.ac,altS x.s x.t y.s,λs=>x.t s||y.t s,λα st k z e=>TV (c:=x.ac.code) (x.ok α st k z) (λe=>by have:=y.ok α st k z e;rw[h]at this;exact this) e⟩
def Ib{nt:Nat}{α:Type}{s:St}{k:Ex->St->Option α}{z:α}:∀{L:List (LP P nt)},je (L.map LP.m)=true->∀l∈L,Kx α l.m s k (L.map LP.s)=some z->l.s.e α s k=some z
 | [],_,l,a,_=>by simp at a
 | x::L,c,l,a,h=>by
  simp only[gN,je,aB,bS]at c;simp only[gN,Kx]at h;rcases cb.1 a with rfl | a
  ·have:Nat.beq l.s.m l.m=true:=by simp[LP.m]
   rw[this]at h;exact h
  ·have b:=c.1 l.m (eF.2 ⟨l,a,rfl⟩);have:Nat.beq x.s.m l.m=false:=by
    have:Nat.beq x.m l.m=false:=by simpa using b
    exact this
   rw[this]at h;exact Ib c.2 l a h
def Ea{nt:Nat}{L:List (LP P nt)}{c:AC}(a:je (L.map LP.m)=true)(h:subs c=L.map LP.key):jW P nt (L.map LP.s) c:=by
 refine nh c λp hp=>?_;rw[h]at hp;obtain⟨l,b,rfl⟩:=eF.1 hp;intro α s k z e;exact l.ok α s k z (Ib a l b e)
def sb(c:AC)(m:Nat):AC:=getS (subs c) m
def RR:AC->Bool
 | .loop _=>true
 | _=>false
def O1:∀{c:AC},RR c=true->c=.loop c.body
 | .loop _,_=>rfl
def cA{nt:Nat}(E:List (FE P))(L:List (LP P nt))(m:Nat)(ac:AC)(b:Bool)(p:PSt)(c:List Fix)(outs:List PX){F:Type}(a:F)(n:Nat)(d:F=(Tup p.lv->Option (Tup p.lv⊕SumX outs)):=by kernel_rfl)
  (h:(RR ac&&je (L.map LP.m),subs ac.body,λx=>p.embK x λs=>run P (E.map FE.e) (L.map LP.s) nt ac.body s (D3 b p c outs))=(true,L.map LP.key,cast d a):=by kernel_rfl):LP P nt:=
 ⟨ac,subE m (p.enter b c) (λx=>av (cast d a) n x) (λα=>Q5 α outs),λs=>isS (p.enter b c s),λα st k z e=>by
  simp only[bC,aB]at h;obtain⟨⟨j,g⟩,i,l⟩:=h;rw[O1 j];exact OU (m:=m) (f:=λx=>av (cast d a) n x) (out:=outX outs) (λα=>BH α outs) (emb:=p.emb) (λs x hx=>PSt.enter_ok hx) (λx y hy=>
   VS (FE.oks E) (Ea g i) (emb:=p.emb) (λex s x=>OB) (λex s y=>Nq) (λx=>(p.embK_eq x _).symm.trans (congrFun l x)) n x y hy) e⟩
def qR(l:List Nat):AC->Nat->AC×Nat
 | .seq a b,i=>match qR l a i with
  | (a,i)=>match qR l b i with
   | (b,i)=>(.seq a b,i)
 | .cond c a b,i=>match qR l a (i+1)with
  | (a,j)=>match qR l b j with
   | (b,j)=>(cond (l.any (Nat.beq i)) (.sub (1000+i) (.cond c a b)) (.cond c a b),j)
 | .block id a,i=>match qR l a (i+1)with
  | (a,j)=>(cond (l.any (Nat.beq i)) (.sub (1000+i) (.block id a)) (.block id a),j)
 | .loop a,i=>match qR l a i with
  | (a,j)=>(.loop a,j)
 | .scope a,i=>match qR l a i with
  | (a,j)=>(.scope a,j)
 | .sub m a,i=>match qR l a i with
  | (a,j)=>(.sub m a,j)
 | .reg id ops,i=>(cond (l.any (Nat.beq i)) (.sub (1000+i) (.reg id ops)) (.reg id ops),i+1)
 | .draw id ops,i=>(cond (l.any (Nat.beq i)) (.sub (1000+i) (.draw id ops)) (.draw id ops),i+1)
 | c,i=>(c,i)
def uL{b:Bool}{m:Nat}{c:AC}:(cond b (AC.sub m c) c).code=c.code:=by cases b<;>rfl
def jG(l:List Nat):∀(c:AC) (i:Nat),(qR l c i).1.code=c.code
 | .seq a b,i=>by simp only[qR,AC.code,jG l a,jG l b]
 | .cond c a b,i=>by simp only[qR,uL,AC.code,jG l a,jG l b]
 | .block id a,i=>by simp only[qR,uL,AC.code,jG l a]
 | .loop a,i=>by simp only[qR,AC.code,jG l a]
 | .scope a,i=>by simp only[qR,AC.code,jG l a]
 | .sub m a,i=>by simp only[qR,AC.code,jG l a]
 | .reg id ops,i=>by simp only[qR,uL]
 | .draw id ops,i=>by simp only[qR,uL]
 | .skip,_ | .ret,_ | .exit _,_ | .bad _,_ | .label _,_=>rfl
def acM(u:List Nat):List Nat->Func->AC
 | [],f=>acU u f
 | a::m,f=>(qR (a::m) (acU u f) 0).1
def BJ(u m:List Nat)(f:Func):(acM u m f).code=vC f:=by
 cases m with
 | nil=>exact IS u f
 | cons a m=>exact(jG _ _ _).trans (IS u f)
def gi{nt:Nat}(E:List (FE P))(L:List (LP P nt))(m:Nat)(ac:AC)(d:Bool)(p:PSt)(outs:List PX){F:Type}(g:F)(b:F=Cur p.lv (Option (SumX outs)):=by kernel_rfl)
  (h:(je (L.map LP.m),subs ac,λx=>p.embK x λs=>run P (E.map FE.e) (L.map LP.s) nt ac s (KU d outs))=(true,L.map LP.key,λx=>BM p.lv (cast b g) x):=by kernel_rfl):LP P nt:=
 ⟨ac,subE m (p.enter d []) (λx=>BM p.lv (cast b g) x) (λα=>Q5 α outs),λs=>isS (p.enter d [] s),λα st k z e=>by
  simp only[bC]at h;obtain⟨r,o,C⟩:=h;refine OU (m:=m) (f:=λx=>BM p.lv (cast b g) x) (out:=outX outs) (λα=>BH α outs) (emb:=p.emb) (λs x hx=>PSt.enter_ok hx) (λx y hy=>?_) e;intro ι0 w0 ι a w v;have hx:=(p.embK_eq x _).symm.trans (congrFun C x);refine uJ ?_ (pV (FE.oks E) ac _ _ y (Ea r o) (hx.trans hy) ι0 w0 ι a w v);rintro G D w' ⟨ex,s',t,u,q,j⟩;obtain⟨l,i,n⟩:=BF outs ex s' y j;obtain⟨c,A,B⟩:=i.post q u n;exact⟨ex,_,c,A,B,l,rfl⟩⟩
mutual
def PV.flat:PV->Bool
 | .b | .bd | .i _ | .s | .sk _ | .bk _ | .ik _ _ | .pn | .sn | .nf | .ni | .ai _ _ | .unk=>true
 | .p _ _ | .sl _ _ _ _ | .pr _ _ _ _ | .ws _ | .mp _ | .rs _ _ _ _ _=>false
 | .fn _ l | .ag l | .tp l=>PV.flats l
 | .it _ v=>PV.flat v
def PV.flats:List PV->Bool
 | []=>true
 | v::l=>PV.flat v&&PV.flats l
end
mutual
def PV.flat_ok:∀(p:PV) (r:List Ty) (x:HL (p.lv r)),p.flat=true->V.flat (p.val r x)=true
 | .b,_,_,_ | .bd,_,_,_ | .i _,_,_,_ | .s,_,_,_ | .sk _,_,_,_ | .bk _,_,_,_ | .ik _ _,_,_,_ | .pn,_,_,_ | .sn,_,_,_ | .nf,_,_,_ | .ni,_,_,_ | .ai _ _,_,_,_ | .unk,_,_,_=>rfl
 | .p _ _,_,_,h | .sl _ _ _ _,_,_,h | .pr _ _ _ _,_,_,h | .ws _,_,_,h | .mp _,_,_,h | .rs _ _ _ _ _,_,_,h=>by cases h
 | .fn _ l,r,x,h | .ag l,r,x,h | .tp l,r,x,h=>PV.flats_ok l r x h
 | .it _ v,r,x,h=>PV.flat_ok v r x h
def PV.flats_ok:∀(l:List PV) (r:List Ty) (x:HL (PV.lvs l r)),PV.flats l=true->V.flats (PV.vals l r x)=true
 | [],_,_,_=>rfl
 | v::l,r,x,h=>by
  simp only[PV.flats,aB]at h;simp only[PV.vals,V.flats,aB];exact⟨PV.flat_ok v _ x h.1,PV.flats_ok l r _ h.2⟩
end
@[reducible] def lvP(as:List PV):List Ty:=PV.lvs as []
@[reducible] def lvR(r:PV):List Ty:=r.lv []
def argP(as:List PV)(a:Tup (lvP as)):List V:=PV.vals as [] (toHL _ a)
def encP(r:PV)(y:Tup (lvR r)):V:=r.val [] (toHL _ y)
def argK{β:Type}(as:List PV)(a:Tup (lvP as))(k:List V->β):β:=PV.encsK as [] (toHL _ a) λl _=>k l
def UP{β:Type}(as:List PV)(a:Tup (lvP as))(k:List V->β):argK as a k=k (argP as a):=PV.encsK_eq as [] _ _
def Yd{β:Type}(r:PV)(y:Tup (lvR r))(k:V->β):β:=r.encK [] (toHL _ y) λv _=>k v
def Q6{β:Type}(r:PV)(y:Tup (lvR r))(k:V->β):Yd r y k=k (encP r y):=PV.encK_eq r [] _ _
def unP(as:List PV)(l:List V):Option (Tup (lvP as)):=match PV.decs id as [] l ()with
 | some h=>some (ofHL _ h)
 | none=>none
def unR(r:PV)(v:V):Option (Tup (lvR r)):=match r.dec id [] v ()with
 | some h=>some (ofHL _ h)
 | none=>none
def Ya(as:List PV)(l:List V)(a:Tup (lvP as))(e:unP as l=some a):l=argP as a:=by
 unfold unP at e;split at e
 ·rename_i h c;obtain rfl:=br e;obtain⟨b,_⟩:=PV.decs_ok id as [] l () h c;unfold argP;rw[ou,b,V.renFs_id]
 ·exact no' e
def XL(r:PV)(v:V)(y:Tup (lvR r))(e:unR r v=some y):v=encP r y:=by
 unfold unR at e;split at e
 ·rename_i h b;obtain rfl:=br e;obtain⟨a,_⟩:=PV.dec_ok id r [] v () h b;unfold encP;rw[ou,a,V.renF_id]
 ·exact no' e
def uv:∀(l:List PV) (r:List Ty) (x:HL (PV.lvs l r)),(PV.vals l r x).length=l.length
 | [],_,_=>rfl
 | v::l,r,x=>by simp only[PV.vals,aG,uv l r]
structure PF(P:Program)(f:Nat)(as:List PV)(r:PV)where
 sh:Tup (lvP as)->Option (Tup (lvR r))
 hc:lB P f
 fl:PV.flats as=true
 ok:∀a y,sh a=some y->na P f (argP as a) (encP r y)
def NV(f:Nat)(as:List PV)(r:PV)(sh:Tup (lvP as)->Option (Tup (lvR r))):Ent:=
 ⟨f,λ_ args _ _ k=>ob (unP as args) λa=>ob (sh a) λy=>Yd r y λv=>k { val:=v }⟩
def Nz(f:Nat)(as:List PV)(r:PV)(sh:Tup (lvP as)->Option (Tup (lvR r))):NV f as r sh=EM f (unP as) sh (encP r):=by
 simp only[NV,EM,Q6]
def PF.e{f:Nat}{as:List PV}{r:PV}(c:PF P f as r):FE P:=
 ⟨NV f as r c.sh,by rw[Nz];exact ut c.hc (Ya as) (λa=>PV.flats_ok as [] _ c.fl) c.ok,λl _=>isS (unP as l)⟩
def aM {f:Nat} {as:List PV} {r:PV} {fn:Func} (o:P.funcs[f]?=some fn) (hc:lB P f) (E:List (FE P)) (L:List (LP P fn.ntmps)) (d mk:List Nat) {F:Type} (b:F) (i:F=Cur (lvP as) (Option (Tup (lvR r))):=by kernel_rfl)
  (h:(PV.flats as&&(Nat.ble as.length fn.ntmps&&(fn.body.isSome&&je (L.map LP.m))),subs (acM d mk fn),λa=>argK as a λl=>run P (E.map FE.e) (L.map LP.s) fn.ntmps (acM d mk fn) ⟨tL l 0,[],0,0,0,0⟩ (finK P fn.results.toList (retX (unR r)))) =
   (true,L.map LP.key,λa=>BM (lvP as) (cast i b) a):=by kernel_rfl):PF P f as r:=
 ⟨λa=>BM (lvP as) (cast i b) a,hc,by simp only [bC,aB] at h;exact h.1.1,λa y e=>by
  simp only [bC,aB] at h;obtain ⟨⟨u,j,k,p⟩,q,n⟩:=h;have t:(argP as a).length=as.length:=uv as [] _;obtain ⟨c,g⟩:=CE.1 k;refine Pz (XL r) (FE.oks E) o g ((BJ d mk fn).trans (by unfold vC;rw [g])) (Ea p q) (by rw [t];exact j) ((UP as a _).symm.trans ((congrFun n a).trans e))⟩
structure PO where
 v:PV
 H:List (Nat×PB):=[]
 news:List Nat:=[]
 pan:Bool:=false
@[reducible] def PO.lv(o:PO):List Ty:=o.v.lv (lvH o.H [])
def PO.fo(o:PO)(x:HL o.lv):FOut:=⟨o.pan,o.v.val _ x,valH o.H [] (o.v.rest _ x),o.news⟩
def PO.foK{β:Type}(o:PO)(x:HL o.lv)(k:FOut->β):β:=o.v.encK _ x λv x=>Oy o.H [] x λH _=>k ⟨o.pan,v,H,o.news⟩
def PO.foK_eq{β:Type}(o:PO)(x:HL o.lv)(k:FOut->β):o.foK x k=k (o.fo x):=(PV.encK_eq _ _ _ _).trans (wv _ _ _ _)
def PO.dec(m:Nat)(o:PO)(pan:Bool)(v:V)(H:List (Nat×Blk))(C:List Nat):Option (HL o.lv):=
 match(cond o.pan pan (!pan))&&Nat.beq o.news.length C.length with
 | true=>match decH (rhoN m C) o.H [] H ()with
  | some h=>o.v.dec (rhoN m C) _ v h
  | none=>none
 | false=>none
def PO.dec_ok{m:Nat}{o:PO}{pan:Bool}{v:V}{H:List (Nat×Blk)}{C:List Nat}{x:HL o.lv}(e:o.dec m pan v H C=some x):
  (o.fo x).pan=pan/\(o.fo x).news.length=C.length/\v=V.ren (upTo 0 m++C) (o.fo x).val/\H=renH (upTo 0 m++C) (o.fo x).H:=by
 unfold PO.dec at e;split at e
 case h_2=>exact no' e
 rename_i E;simp only[aB]at E;split at e
 case h_2=>exact no' e
 rename_i h F;obtain⟨a1,a2⟩:=PV.dec_ok _ _ _ _ _ _ e;obtain⟨b1,_⟩:=NQ _ _ _ _ _ _ F;subst a2;unfold rhoN at a1 b1;rw[V.renF_ren]at a1;rw[DU]at b1;refine⟨?_,bB E.2,a1,b1⟩;have:=E.1;show o.pan=pan;revert this;cases o.pan<;>cases pan<;>simp
def PO.chk(m ro:Nat)(o:PO):Bool:=
 o.v.lt (m+o.news.length)&&(o.H.all (λp=>Nat.blt p.1 (m+o.news.length)&&p.2.lt (m+o.news.length))&&(upTo ro (m - ro+o.news.length)).all λb=>(o.H.map (·.1)).any (Nat.beq b))
def FOut.good(m ro:Nat)(o:FOut):Prop:=V.lt (m+o.news.length) o.val=true/\chkH (m+o.news.length) o.H=true/\∀b,ro<=b->b<m+o.news.length->b∈keys o.H
def PO.good{m ro:Nat}{o:PO}(h:o.chk m ro=true)(x:HL o.lv):(o.fo x).good m ro:=by
 unfold PO.chk at h;simp only[aB]at h;obtain⟨J,G,F⟩:=h;refine⟨PV.lt_ok _ _ _ J,vX _ _ _ G,λb E C=>?_⟩;have C:b<m+o.news.length:=C;show b∈keys (valH o.H [] _);rw[wP];rw[bS]at F;have:=F b (nz.2 ⟨E,by omega⟩);obtain⟨c,hc,e⟩:=sX.1 this;rw[bB e];exact hc
@[reducible] def SumO:List PO->Type
 | []=>Unit
 | [a]=>Tup a.lv
 | a::b::l=>Tup a.lv⊕SumO (b::l)
def OJ(m ro:Nat):FOut:=⟨false,.b true,(upTo ro (m - ro)).map λb=>(b,.dead),[]⟩
def outO(m ro:Nat):(l:List PO)->SumO l->FOut
 | [],_=>OJ m ro
 | [a],y=>a.fo (toHL _ y)
 | a::b::l,y=>Sum.casesOn (motive:=λ_=>FOut) y (λu=>a.fo (toHL _ u)) (λv=>outO m ro (b::l) v)
def VL(m ro:Nat)(α:Type):(l:List PO)->SumO l->(FOut->Option α)->Option α
 | [],_,k=>k (OJ m ro)
 | [a],y,k=>a.foK (toHL _ y) k
 | a::b::l,y,k=>Sum.casesOn (motive:=λ_=>Option α) y (λu=>a.foK (toHL _ u) k) (λv=>VL m ro α (b::l) v k)
def Jo(m ro:Nat)(α:Type):∀(l:List PO) (y:SumO l) (k:FOut->Option α),VL m ro α l y k=k (outO m ro l y)
 | [],_,_=>rfl
 | [a],y,k=>a.foK_eq _ k
 | a::b::l,.inl u,k=>a.foK_eq _ k
 | a::b::l,.inr v,k=>Jo m ro α (b::l) v k
def unO(m:Nat):(l:List PO)->Bool->V->List (Nat×Blk)->List Nat->Option (SumO l)
 | [],_,_,_,_=>none
 | [a],pan,v,H,c=>match a.dec m pan v H c with
  | some h=>some (ofHL _ h)
  | none=>none
 | a::b::l,pan,v,H,c=>match a.dec m pan v H c with
  | some h=>some (.inl (ofHL _ h))
  | none=>match unO m (b::l) pan v H c with
   | some y=>some (.inr y)
   | none=>none
def Td(m ro:Nat):∀(l:List PO) (pan:Bool) (v:V) (H:List (Nat×Blk)) (c:List Nat) (y:SumO l),unO m l pan v H c=some y->
  (outO m ro l y).pan=pan/\(outO m ro l y).news.length=c.length/\v=V.ren (upTo 0 m++c) (outO m ro l y).val/\H=renH (upTo 0 m++c) (outO m ro l y).H
 | [],_,_,_,_,_,e=>no' e
 | [a],pan,v,H,c,y,e=>by
  simp only[unO]at e;split at e
  ·rename_i h d;obtain rfl:=br e;have:=PO.dec_ok d;simp only[outO,ou];exact this
  ·exact no' e
 | a::b::l,pan,v,H,c,y,e=>by
  simp only[unO]at e;split at e
  ·rename_i h d;obtain rfl:=br e;have:=PO.dec_ok d;simp only[outO,ou];exact this
  ·split at e
   ·rename_i z d;obtain rfl:=br e;exact Td m ro (b::l) pan v H c z d
   ·exact no' e
def yp{m ro:Nat}(c:ro<=m):∀{l:List PO},(l.all (PO.chk m ro))=true->∀y:SumO l,(outO m ro l y).good m ro
 | [],_,_=>by
  refine⟨rfl,?_,λb f d=>?_⟩
  ·simp only[outO,OJ,chkH,List.all_map,bS,Function.comp,aB];intro b e;have:=(nz.1 e).2;exact⟨cD (by simp only[cE];omega),rfl⟩
  ·simp only[outO,OJ,cE]at d;simp only[outO,OJ,keys,tq,eF,Function.comp];exact⟨b,nz.2 ⟨f,by omega⟩,rfl⟩
 | [a],h,y=>by
  simp only[m7,aB]at h;exact PO.good h.1 _
 | a::b::l,h,.inl u=>by
  simp only[m7,aB]at h;exact PO.good h.1 _
 | a::b::l,h,.inr v=>by
  rw[m7,aB]at h;exact yp c h.2 v
def zipH:Nat->List PB->List (Nat×PB)
 | _,[]=>[]
 | j,p::l=>(j,p)::zipH (j+1) l
@[reducible] def lvF(as:List PV)(HP:List PB):List Ty:=PV.lvs as (lvH (zipH 0 HP) [])
def argF(as:List PV)(HP:List PB)(a:Tup (lvF as HP)):List V:=PV.vals as _ (toHL _ a)
def memF(as:List PV)(HP:List PB)(a:Tup (lvF as HP)):List (Nat×Blk):=valH (zipH 0 HP) [] (PV.rests as _ (toHL _ a))
def entK{β:Type}(as:List PV)(HP:List PB)(a:Tup (lvF as HP))(k:List V->List (Nat×Blk)->β):β:=PV.encsK as _ (toHL _ a) λl x=>Oy (zipH 0 HP) [] x λH _=>k l H
def Lu{β:Type}(as:List PV)(HP:List PB)(a:Tup (lvF as HP))(k:List V->List (Nat×Blk)->β):entK as HP a k=k (argF as HP a) (memF as HP a):=(PV.encsK_eq _ _ _ _).trans (wv _ _ _ _)
def addB(b c:Nat)(a:List (Nat×Nat)):List (Nat×Nat):=match look a b with
 | some _=>a
 | none=>(b,c)::a
mutual
def PV.bind:PV->V->List (Nat×Nat)->List (Nat×Nat)
 | .p c _,.p C _,a=>addB c C a
 | .sl c _ _ _,.sl C _ _ _,a=>addB c C a
 | .pr _ c _ _,.pr _ C _ _,a=>addB c C a
 | .ws c,.ws C,a=>addB c C a
 | .mp c,.mp C,a=>addB c C a
 | .rs _ c _ _ _,.rs _ C _ _ _,a=>addB c C a
 | .fn _ l,.fn _ m,a=>PV.binds l m a
 | .ag l,.ag m,a=>PV.binds l m a
 | .tp l,.tp m,a=>PV.binds l m a
 | .it _ v,.it _ u,a=>PV.bind v u a
 | _,_,a=>a
def PV.binds:List PV->List V->List (Nat×Nat)->List (Nat×Nat)
 | y::l,v::m,a=>PV.binds l m (PV.bind y v a)
 | _,_,a=>a
end
def PB.bind:PB->Blk->List (Nat×Nat)->List (Nat×Nat)
 | .cells l,.cells m,a=>PV.binds l m a
 | _,_,a=>a
def KP(HP:List PB)(H:List (Nat×Blk)):List Nat->List (Nat×Nat)->List (Nat×Nat)
 | [],a=>a
 | b::o,a=>match look a b with
  | some c=>match HP[b]?,look H c with
   | some p,some blk=>KP HP H o (p.bind blk a)
   | _,_=>KP HP H o a
  | none=>KP HP H o a
def XN(m:Nat)(a:List (Nat×Nat)):List Nat:=(upTo 0 m).map λb=>match look a b with
 | some c=>c
 | none=>0
def unFr(as:List PV)(HP:List PB)(l:List V)(H:List (Nat×Blk))(ρ:List Nat):Option (Tup (lvF as HP)×List Nat):=
 match je ρ&&Nat.beq ρ.length HP.length with
 | true=>match decL (getN ρ) H (zipH 0 HP) [] ()with
  | some h=>match PV.decs (getN ρ) as _ l h with
   | some h=>some (ofHL _ h,ρ)
   | none=>none
  | none=>none
 | false=>none
def unF(ord:List Nat)(as:List PV)(HP:List PB)(l:List V)(H:List (Nat×Blk)):Option (Tup (lvF as HP)×List Nat):=
 unFr as HP l H (XN HP.length (KP HP H ord (PV.binds as l [])))
def Yf(ord:List Nat)(as:List PV)(HP:List PB)(l:List V)(H:List (Nat×Blk))(a:Tup (lvF as HP))(ρ:List Nat)(e:unF ord as HP l H=some (a,ρ)):
  ρ.length=HP.length/\ρ.Nodup/\l=V.rens ρ (argF as HP a)/\∀b blk,look (memF as HP a) b=some blk->look H (getN ρ b)=some (blk.ren ρ):=by
 unfold unF at e;generalize XN HP.length (KP HP H ord (PV.binds as l []))=j at e;unfold unFr at e;split at e
 case h_2=>exact no' e
 rename_i c;simp only[aB]at c;split at e
 case h_2=>exact no' e
 rename_i g f;split at e
 case h_2=>exact no' e
 rename_i h d;simp only[aq,bC]at e;obtain⟨rfl,rfl⟩:=e;obtain⟨a1,a2⟩:=PV.decs_ok _ _ _ _ _ _ d;obtain⟨b1,_⟩:=FU _ _ _ _ _ _ f;subst a2;unfold argF memF;rw[ou];refine⟨bB c.2,qs c.1,by rw[<-V.renFs_ren];exact a1,λb blk i=>?_⟩;have:=Av b1 b blk i;rw[this,Blk.renF_ren]
def IM:∀(j:Nat) (l:List PB),(zipH j l).map (·.1)=upTo j l.length
 | _,[]=>rfl
 | j,_::l=>by simp only[zipH,gN,aG,upTo,IM (j+1) l]
def BO(Q:PB->Bool):∀(j:Nat) (l:List PB),l.all Q=true->∀p∈zipH j l,Q p.2=true/\j<=p.1/\p.1<j+l.length
 | _,[],_,p,hp=>by simp[zipH]at hp
 | j,q::l,h,p,hp=>by
  simp only[m7,aB]at h;simp only[zipH,cb]at hp;simp only[aG];rcases hp with rfl | hp
  ·exact⟨h.1,aU _,by simp only;omega⟩
  ·obtain⟨a,b,c⟩:=BO Q (j+1) l h.2 p hp;exact⟨a,by omega,by omega⟩
def Hq{H:List (Nat×Blk)}:∀{m:Nat},(∀b,b<m->∃blk,look H b=some blk/\blk≠.dead)->B6 H m=true
 | 0,_=>rfl
 | m+1,h=>by
  simp only[B6,aB];refine⟨?_,Hq λb d=>h b (by omega)⟩;obtain⟨blk,a,c⟩:=h m (by omega);rw[a];cases blk<;>first | exact absurd rfl c | rfl
def DK:∀(l:List (Nat×PB)) (r:List Ty) (x:HL (lvH l r)),(∀p∈l,p.2.isDead=false)->∀b blk,look (valH l r x) b=some blk->blk≠.dead
 | [],_,_,_,b,blk,h=>by cases h
 | (c,p)::l,r,x,a,b,blk,h=>by
  simp only[valH,aS]at h;split at h
  ·cases h;exact PB.dead_ok p _ x (a (c,p) l7)
  ·exact DK l r _ (λq d=>a q (fD _ d)) b blk h
def chkF(as:List PV)(HP:List PB)(ro rb:Nat)(outs:List PO):Bool:=
 Nat.ble ro rb&&(Nat.ble ro HP.length&&(PV.lts HP.length as&&(HP.all (λp=>p.lt HP.length&&!p.isDead)&&outs.all (PO.chk HP.length ro))))
def Ii{as:List PV}{HP:List PB}(h:HP.all (λp=>p.lt HP.length&&!p.isDead)=true)(a:Tup (lvF as HP)):B6 (memF as HP a) HP.length=true:=by
 have e:=BO _ 0 HP h;refine Hq λb f=>?_;have d:b∈(memF as HP a).map (·.1):=by
  have:=wP (zipH 0 HP) [] (PV.rests as _ (toHL _ a));simp only[keys]at this;unfold memF;rw[this,IM];exact nz.2 ⟨jr _,by omega⟩
 obtain⟨blk,c⟩:=sc d;exact⟨blk,c,DK _ _ _ (λp hp=>by have:=(e p hp).1;simp only[aB,jX]at this;exact this.2) b blk c⟩
def P7{as:List PV}{HP:List PB}(h:HP.all (λp=>p.lt HP.length&&!p.isDead)=true)(a:Tup (lvF as HP)):chkH HP.length (memF as HP a)=true:=by
 refine vX _ _ _ ?_;rw[bS];intro p hp;have:=BO _ 0 HP h p hp;simp only[aB]at this ⊢;exact⟨cD (by omega),this.1.1⟩
structure FF(P:Program)(f:Nat)(as:List PV)(HP:List PB)(ro rb:Nat)(outs:List PO)where
 sh:Tup (lvF as HP)->Option (SumO outs)
 ord:List Nat
 hc:lB P f
 chk:chkF as HP ro rb outs=true
 ok:∀a y,sh a=some y->xh P f (argF as HP a) (memF as HP a) HP.length ro rb (outO HP.length ro outs y)
def FF.e{f:Nat}{as:List PV}{HP:List PB}{ro rb:Nat}{outs:List PO}(c:FF P f as HP ro rb outs):FE P:=
 ⟨funE f rb (unF c.ord as HP) c.sh (λα=>VL HP.length ro α outs),by
  have h:=c.chk;unfold chkF at h;simp only[aB]at h;obtain⟨Q,G,U,F,W⟩:=h;have C:=aI G;have E:=yp (m:=HP.length) C W;refine Uz (m:=HP.length) (ro:=ro) (arg:=argF as HP) (H0:=memF as HP) (out:=outO HP.length ro outs) c.hc (aI Q) C (λα=>Jo HP.length ro α outs) (Yf c.ord as HP)
   (λa=>PV.lts_ok as _ _ U) (λa=>rn (P7 F a)) (Ii F) (λr=>Fa (E r).2.1) (λr b blk h=>(rn (E r).2.1 b blk h).2) (λr b O J=>(E r).2.2 b O J) (λr=>(E r).1) c.ok,
  λl H=>isS (unF c.ord as HP l H)⟩
def Xc{f:Nat}{as:List PV}{HP:List PB}{ro rb:Nat}{outs:List PO}(c:chkF as HP ro rb outs=true){a:Tup (lvF as HP)}{y:SumO outs}
  (h:BP P f (argF as HP a) (memF as HP a) HP.length ro (funX (upTo ro (HP.length - ro)) HP.length ro rb (unO HP.length outs)) y):xh P f (argF as HP a) (memF as HP a) HP.length ro rb (outO HP.length ro outs y):=by
 unfold chkF at c;simp only[aB]at c;obtain⟨l,g,n,j,k⟩:=c;have d:=aI g;have e:=yp (m:=HP.length) d k;exact Un (ws:=upTo ro (HP.length - ro)) (λpan v H i r=>Td HP.length ro outs pan v H i r) (λr=>(e r).1) (λr b blk h=>(rn (e r).2.1 b blk h).2) (λr=>Fa (e r).2.1) d (Ii j a) h
def funC {f:Nat} {as:List PV} {HP:List PB} {ro rb:Nat} {outs:List PO} {fn:Func} (u:P.funcs[f]?=some fn) (hc:lB P f) (E:List (FE P)) (L:List (LP P fn.ntmps)) (i mk ord:List Nat) {F:Type} (b:F) (k:F=Cur (lvF as HP) (Option (SumO outs)):=by kernel_rfl)
  (h:(chkF as HP ro rb outs&&(Nat.ble as.length fn.ntmps&&(fn.body.isSome&&je (L.map LP.m))),subs (acM i mk fn),λa=>entK as HP a λl M=>run P (E.map FE.e) (L.map LP.s) fn.ntmps (acM i mk fn) ⟨tL l 0,M,HP.length,HP.length,ro,rb⟩
   (finK P fn.results.toList (funX (upTo ro (HP.length - ro)) HP.length ro rb (unO HP.length outs))))=(true,L.map LP.key,λa=>BM (lvF as HP) (cast k b) a):=by kernel_rfl):FF P f as HP ro rb outs:=
 ⟨λa=>BM (lvF as HP) (cast k b) a,ord,hc,by simp only [bC,aB] at h;exact h.1.1,λa y e=>by
  simp only [bC,aB] at h;obtain ⟨⟨t,n,p,v⟩,x,q⟩:=h;have z:(argF as HP a).length=as.length:=uv as _ _;obtain ⟨c,j⟩:=CE.1 p;exact Xc t λι0 w r o d g hx=>Pe (FE.oks E) u j ((BJ i mk fn).trans (by unfold vC;rw [j])) (Ea v x) (by rw [z];exact n) ((Lu as HP a _).symm.trans ((congrFun q a).trans e)) ι0 w r o d g hx⟩
structure Dfr where
 ac:AC
 k:Nat
 idD:Nat
 idR:Nat
 t:Nat
 gid:Nat
 tr:Nat
def Dfr.ops(D:Dfr):List Oper:=R9 (kM D.k D.ac)
def Dfr.o1(D:Dfr):Oper:=getO D.ops 0
def Dfr.oD(D:Dfr):Oper:=getO D.ops 1
def Dfr.acB(D:Dfr):AC:=kM (D.k+1) D.ac
def oRof(c:AC):Oper:=getO (R9 c) 0
def funD {f:Nat} {as:List PV} {HP:List PB} {ro rb:Nat} {outs:List PO} {fn b:Func} (D:Dfr) (z:P.funcs[f]?=some fn) (hc:lB P f) (n:P.funcs[D.gid]?=some b) (i:lB P D.gid) (E:List (FE P)) (L:List (LP P fn.ntmps)) (j mk ord:List Nat) {F:Type} (g:F) (q:F=Cur (lvF as HP) (Option (SumO outs)))
  (r:(D.ac,kM D.k D.ac,D.o1.guard,D.oD.guard,D.oD.op,D.oD.dst)=(acM j mk fn,AC.seq (.reg D.idD [D.o1,D.oD]) D.acB,none,none,.defer ⟨.value (.tmp D.t),#[],#[]⟩,none))
  (u:(kM 0 (acOf b),(oRof (acOf b)).op,(oRof (acOf b)).guard,(oRof (acOf b)).dst,b.results,subs (acOf b),b.body.isSome)=(AC.seq (.reg D.idR [oRof (acOf b)]) (kM 1 (acOf b)),.call ⟨.builtin .recover,#[],#[]⟩,none,some D.tr,#[],[],true))
  (h:(chkF as HP ro rb outs&&(Nat.ble as.length fn.ntmps&&(fn.body.isSome&&je (L.map LP.m))),subs (acM j mk fn),λa=>entK as HP a λl M=>VM P (E.map FE.e) (L.map LP.s) fn.ntmps (qM D.k D.ac) D.o1 (.tmp D.t) D.gid D.acB [] [] b.ntmps (kM 1 (acOf b)) D.tr fn.results.toList
   (funX (upTo ro (HP.length - ro)) HP.length ro rb (unO HP.length outs)) ⟨tL l 0,M,HP.length,HP.length,ro,rb⟩)=(true,L.map LP.key,λa=>BM (lvF as HP) (cast q g) a)):FF P f as HP ro rb outs:=
 ⟨λa=>BM (lvF as HP) (cast q g) a,ord,hc,by simp only [bC,aB] at h;exact h.1.1,λa y e=>by
  simp only [bC,aB] at h r u;obtain ⟨⟨G,C,K,J⟩,A,v⟩:=h;obtain ⟨d0,I,d2,w,d4,H⟩:=r;obtain ⟨N,B,c3,c4,c5,c6,c7⟩:=u;have O:(argF as HP a).length=as.length:=uv as _ _;obtain ⟨c,o⟩:=CE.1 K;obtain ⟨Q,d⟩:=CE.1 c7
  refine Xc G (LQ (FE.oks E) (k:=D.k) (idD:=D.idD) (o1:=D.o1) (oD:=D.oD) (acB:=D.acB) (ac:=D.ac) (idR:=D.idR) (oR:=oRof (acOf b)) (EC:=[]) z o (by rw [d0];exact (BJ j mk fn).trans (by unfold vC;rw [o])) I
   (by rw [d0];exact Ea J A) d2 w d4 H (λx hx=>by cases hx) n d ((Et b).trans (by unfold vC;rw [d])) N B c3 c4 c5 (nh _ (by rw [c6];intro p hp;cases hp)) i (by rw [O];exact C) ((Lu as HP a _).symm.trans ((congrFun v a).trans e)))⟩
def libF{x:Ent}(h:fC P x):FE P:=⟨x,h,λ_ _=>true⟩
end Go.Abs
