
/- Patterns: contracts of functions and of loops out of the shapes of their data.
   Conditions: none; generic over the program. -/
import Derived.Test.YtaogbalpingjhaaGreatDoorAbsU
import Derived.Test.YtaogbalpingjhaaGreatDoorAbsR
set_option linter.unusedSimpArgs false
set_option linter.unusedVariables false
namespace Go.Abs
variable {P:Program}
theorem no' {α:Type} {x:α} {C:Prop} (h:none=some x):C:=by cases h
inductive Ty where
 | I | B | S | L | N
 | R (t:List Lf)
 | D
@[reducible] def Ty.den:Ty->Type
 | .I=>Int
 | .B=>Bool
 | .S=>aa
 | .L=>List Int
 | .N=>Nat
 | .R t=>List (Abs.den t)
 | .D=>Bool
@[reducible] def Ty.more:Ty->Nat
 | .D=>9
 | _=>0
@[reducible] def HL:List Ty->Type
 | []=>Unit
 | a::l=>a.den×HL l
@[reducible] def HLT:List Type->Type
 | []=>Unit
 | a::l=>a×HLT l
@[reducible] def TupT:List Type->Type
 | []=>Unit
 | [a]=>a
 | a::b::l=>a×TupT (b::l)
@[reducible] def gl:List Ty->Nat->List Type×List Type
 | [],_=>([],[])
 | a::l,0=>([],TupT (a.den::(gl l a.more).1)::(gl l a.more).2)
 | a::l,k+1=>(a.den::(gl l k).1,(gl l k).2)
@[reducible] def Tup (l:List Ty):Type:=TupT (gl l 0).2
def toT:(l:List Type)->TupT l->HLT l
 | [],_=>()
 | [_],x=>(x,())
 | _::b::l,x=>(x.1,toT (b::l) x.2)
def ofT:(l:List Type)->HLT l->TupT l
 | [],_=>()
 | [_],x=>x.1
 | _::b::l,x=>(x.1,ofT (b::l) x.2)
theorem xg:∀(l:List Type) (x:HLT l),toT l (ofT l x)=x
 | [],_=>rfl
 | [_],_=>rfl
 | _::b::l,x=>by
  show (x.1,toT (b::l) (ofT (b::l) x.2))=x;rw [xg (b::l) x.2]
def unG:(l:List Ty)->(k:Nat)->HLT (gl l k).1->HLT (gl l k).2->HL l
 | [],_,_,_=>()
 | a::l,0,_,r=>match r with
  | (y,r)=>match toT (a.den::(gl l a.more).1) y with
   | (u,g)=>(u,unG l a.more g r)
 | _::l,k+1,g,r=>match g with
  | (u,g)=>(u,unG l k g r)
def mkG:(l:List Ty)->(k:Nat)->HL l->HLT (gl l k).1×HLT (gl l k).2
 | [],_,_=>((),())
 | a::l,0,x=>((),(ofT (a.den::(gl l a.more).1) (x.1,(mkG l a.more x.2).1),(mkG l a.more x.2).2))
 | _::l,k+1,x=>((x.1,(mkG l k x.2).1),(mkG l k x.2).2)
theorem xh:∀(l:List Ty) (k:Nat) (x:HL l),unG l k (mkG l k x).1 (mkG l k x).2=x
 | [],_,_=>rfl
 | a::l,0,(u,x)=>by
  show (match toT (a.den::(gl l a.more).1) (ofT (a.den::(gl l a.more).1) (u,(mkG l a.more x).1)) with
   | (u,g)=>((u,unG l a.more g (mkG l a.more x).2):HL (a::l)))=(u,x)
  rw [xg];exact eN (Prod.mk u) (xh l a.more x)
 | _::l,k+1,(u,x)=>eN (Prod.mk u) (xh l k x)
def g0:(l:List Ty)->HLT (gl l 0).1
 | []=>()
 | _::_=>()
def toHL (l:List Ty) (x:Tup l):HL l:=unG l 0 (g0 l) (toT _ x)
def ofHL (l:List Ty) (x:HL l):Tup l:=ofT _ (mkG l 0 x).2
theorem jv (l:List Ty) (x:HL l):toHL l (ofHL l x)=x:=by
 rw [toHL,ofHL,xg];have e:g0 l=(mkG l 0 x).1:=by cases l<;>rfl
 rw [e,xh]
@[reducible] def CurT:List Type->Type->Type
 | [],R=>R
 | a::l,R=>a->CurT l R
@[reducible] def Cur (l:List Ty) (R:Type):Type:=CurT (gl l 0).2 R
def Gq {R:Type}:(l:List Type)->CurT l R->TupT l->R
 | [],f,_=>f
 | [_],f,x=>f x
 | _::b::l,f,x=>Gq (b::l) (f x.1) x.2
def tC {R:Type} (l:List Ty) (f:Cur l R) (x:Tup l):R:=Gq _ f x
inductive Hn where
 | k (n:Nat)
 | q
instance (n:Nat):OfNat Hn n:=⟨.k n⟩
def Hn.lv:Hn->List Ty->List Ty
 | .k _,r=>r
 | .q,r=>.N::r
def Hn.val:(o:Hn)->(r:List Ty)->HL (o.lv r)->Nat
 | .k n,_,_=>n
 | .q,_,x=>x.1
def Hn.rest:(o:Hn)->(r:List Ty)->HL (o.lv r)->HL r
 | .k _,_,x=>x
 | .q,_,x=>x.2
def Hn.dec:(o:Hn)->(r:List Ty)->Nat->HL r->Option (HL (o.lv r))
 | .k n,_,m,h=>match Nat.beq n m with
  | true=>some h
  | false=>none
 | .q,_,m,h=>some (m,h)
theorem Hn.dec_ok:∀(o:Hn) (r:List Ty) (m:Nat) (h:HL r) (x:HL (o.lv r)),o.dec r m h=some x->m=o.val r x/\o.rest r x=h
 | .k n,r,m,h,x,e=>by
  simp only [Hn.dec] at e;split at e
  ·rename_i A;obtain rfl:=aN e;exact ⟨(aS A).symm,rfl⟩
  ·exact no' e
 | .q,r,m,h,x,e=>by obtain rfl:=aN (show some (m,h)=some x from e);exact ⟨rfl,rfl⟩
def Oh.lv:Option Hn->List Ty->List Ty
 | none,r=>r
 | some o,r=>o.lv r
def Oh.val:(o:Option Hn)->(r:List Ty)->HL (Oh.lv o r)->Option Nat
 | none,_,_=>none
 | some o,r,x=>some (o.val r x)
def Oh.rest:(o:Option Hn)->(r:List Ty)->HL (Oh.lv o r)->HL r
 | none,_,x=>x
 | some o,r,x=>o.rest r x
def Oh.dec:(o:Option Hn)->(r:List Ty)->Option Nat->HL r->Option (HL (Oh.lv o r))
 | none,_,none,h=>some h
 | some o,r,some m,h=>o.dec r m h
 | _,_,_,_=>none
theorem Oh.dec_ok:∀(o:Option Hn) (r:List Ty) (m:Option Nat) (h:HL r) (x:HL (Oh.lv o r)),Oh.dec o r m h=some x->m=Oh.val o r x/\Oh.rest o r x=h
 | none,r,none,h,x,e=>by obtain rfl:=aN (show some h=some x from e);exact ⟨rfl,rfl⟩
 | some o,r,some m,h,x,e=>by
  obtain ⟨C,A⟩:=Hn.dec_ok o r m h x e;exact ⟨by rw [C];rfl,A⟩
 | none,r,some m,h,x,e=>no' e
 | some o,r,none,h,x,e=>no' e
inductive PV where
 | unk | pn | sn | nf | ni | b | bd | s
 | sk (l:aa)
 | bk (x:Bool)
 | ik (k:IntKind) (n:Int)
 | i (k:IntKind)
 | p (c:Nat) (o:Hn)
 | sl (c:Nat) (o n:Hn) (cap:Option Hn)
 | pr (z c:Nat) (j o:Hn)
 | ws (c:Nat)
 | mp (c:Nat)
 | rs (z c:Nat) (j n:Hn) (cap:Option Hn)
 | fn (f:Nat) (l:List PV)
 | it (t:Nat) (v:PV)
 | ag (l:List PV)
 | tp (l:List PV)
 | ai (k:IntKind) (n:Nat)
mutual
def V.renF (f:Nat->Nat):V->V
 | .p c o=>.p (f c) o
 | .sl c o n m=>.sl (f c) o n m
 | .pr z c j o=>.pr z (f c) j o
 | .ws c=>.ws (f c)
 | .mp c=>.mp (f c)
 | .rs z c j n m=>.rs z (f c) j n m
 | .unk=>.unk
 | .fn g l=>.fn g (V.renFs f l)
 | .ag l=>.ag (V.renFs f l)
 | .tp l=>.tp (V.renFs f l)
 | .it t v=>.it t (V.renF f v)
 | .b x=>.b x
 | .i k n=>.i k n
 | .s l=>.s l
 | .pn=>.pn
 | .sn=>.sn
 | .nf=>.nf
 | .ni=>.ni
 | .ai k n l=>.ai k n l
def V.renFs (f:Nat->Nat):List V->List V
 | []=>[]
 | v::l=>V.renF f v::V.renFs f l
end
mutual
theorem V.renF_ren (ρ:List Nat):∀v:V,V.renF (getN ρ) v=V.ren ρ v
 | .p _ _ | .sl _ _ _ _ | .pr _ _ _ _ | .ws _ | .mp _ | .rs _ _ _ _ _ | .unk | .b _ | .i _ _ | .s _ | .pn | .sn | .nf | .ni | .ai _ _ _=>rfl
 | .fn _ l | .ag l | .tp l=>by simp only [V.renF,V.ren,V.renFs_ren ρ l]
 | .it _ v=>by simp only [V.renF,V.ren,V.renF_ren ρ v]
theorem V.renFs_ren (ρ:List Nat):∀l:List V,V.renFs (getN ρ) l=V.rens ρ l
 | []=>rfl
 | v::l=>by simp only [V.renFs,V.rens,V.renF_ren ρ v,V.renFs_ren ρ l]
end
mutual
theorem V.renF_id:∀v:V,V.renF id v=v
 | .p _ _ | .sl _ _ _ _ | .pr _ _ _ _ | .ws _ | .mp _ | .rs _ _ _ _ _ | .unk | .b _ | .i _ _ | .s _ | .pn | .sn | .nf | .ni | .ai _ _ _=>rfl
 | .fn _ l | .ag l | .tp l=>by simp only [V.renF,V.renFs_id l]
 | .it _ v=>by simp only [V.renF,V.renF_id v]
theorem V.renFs_id:∀l:List V,V.renFs id l=l
 | []=>rfl
 | v::l=>by simp only [V.renFs,V.renF_id v,V.renFs_id l]
end
mutual
def PV.lv:PV->List Ty->List Ty
 | .b,r=>.B::r
 | .bd,r=>.D::r
 | .s,r=>.S::r
 | .i _,r=>.I::r
 | .p _ o,r=>o.lv r
 | .sl _ o n c,r=>o.lv (n.lv (Oh.lv c r))
 | .pr _ _ j o,r=>j.lv (o.lv r)
 | .rs _ _ j n c,r=>j.lv (n.lv (Oh.lv c r))
 | .fn _ l,r=>PV.lvs l r
 | .ag l,r=>PV.lvs l r
 | .tp l,r=>PV.lvs l r
 | .it _ v,r=>v.lv r
 | .ai _ _,r=>.L::r
 | .unk,r=>r
 | .pn,r=>r
 | .sn,r=>r
 | .nf,r=>r
 | .ni,r=>r
 | .sk _,r=>r
 | .bk _,r=>r
 | .ik _ _,r=>r
 | .ws _,r=>r
 | .mp _,r=>r
def PV.lvs:List PV->List Ty->List Ty
 | [],r=>r
 | v::l,r=>v.lv (PV.lvs l r)
end
mutual
def PV.rest:(p:PV)->(r:List Ty)->HL (p.lv r)->HL r
 | .b,_,x=>x.2
 | .bd,_,x=>x.2
 | .s,_,x=>x.2
 | .i _,_,x=>x.2
 | .p _ o,r,x=>o.rest r x
 | .sl _ o n c,r,x=>Oh.rest c r (n.rest _ (o.rest _ x))
 | .pr _ _ j o,r,x=>o.rest r (j.rest _ x)
 | .rs _ _ j n c,r,x=>Oh.rest c r (n.rest _ (j.rest _ x))
 | .fn _ l,r,x=>PV.rests l r x
 | .ag l,r,x=>PV.rests l r x
 | .tp l,r,x=>PV.rests l r x
 | .it _ v,r,x=>v.rest r x
 | .ai _ _,_,x=>x.2
 | .unk,_,x=>x
 | .pn,_,x=>x
 | .sn,_,x=>x
 | .nf,_,x=>x
 | .ni,_,x=>x
 | .sk _,_,x=>x
 | .bk _,_,x=>x
 | .ik _ _,_,x=>x
 | .ws _,_,x=>x
 | .mp _,_,x=>x
def PV.rests:(l:List PV)->(r:List Ty)->HL (PV.lvs l r)->HL r
 | [],_,x=>x
 | v::l,r,x=>PV.rests l r (v.rest _ x)
end
mutual
def PV.val:(p:PV)->(r:List Ty)->HL (p.lv r)->V
 | .b,_,x=>.b x.1
 | .bd,_,x=>.b x.1
 | .s,_,x=>.s x.1
 | .i k,_,x=>.i k x.1
 | .p c o,r,x=>.p c (o.val r x)
 | .sl c o n m,r,x=>.sl c (o.val _ x) (n.val _ (o.rest _ x)) (Oh.val m r (n.rest _ (o.rest _ x)))
 | .pr z c j o,r,x=>.pr z c (j.val _ x) (o.val r (j.rest _ x))
 | .rs z c j n m,r,x=>.rs z c (j.val _ x) (n.val _ (j.rest _ x)) (Oh.val m r (n.rest _ (j.rest _ x)))
 | .fn f l,r,x=>.fn f (PV.vals l r x)
 | .ag l,r,x=>.ag (PV.vals l r x)
 | .tp l,r,x=>.tp (PV.vals l r x)
 | .it t v,r,x=>.it t (v.val r x)
 | .ai k n,_,x=>.ai k n x.1
 | .unk,_,_=>.unk
 | .pn,_,_=>.pn
 | .sn,_,_=>.sn
 | .nf,_,_=>.nf
 | .ni,_,_=>.ni
 | .sk l,_,_=>.s l
 | .bk y,_,_=>.b y
 | .ik k n,_,_=>.i k n
 | .ws c,_,_=>.ws c
 | .mp c,_,_=>.mp c
def PV.vals:(l:List PV)->(r:List Ty)->HL (PV.lvs l r)->List V
 | [],_,_=>[]
 | v::l,r,x=>v.val _ x::PV.vals l r (v.rest _ x)
end
def Hn.encK {β:Type}:(o:Hn)->(r:List Ty)->HL (o.lv r)->(Nat->HL r->β)->β
 | .k n,_,x,c=>c n x
 | .q,_,x,c=>match x with | (a,h)=>c a h
def Oh.encK {β:Type}:(o:Option Hn)->(r:List Ty)->HL (Oh.lv o r)->(Option Nat->HL r->β)->β
 | none,_,x,k=>k none x
 | some o,r,x,k=>o.encK r x λn x=>k (some n) x
theorem Hn.encK_eq {β:Type}:∀(o:Hn) (r:List Ty) (x:HL (o.lv r)) (k:Nat->HL r->β),o.encK r x k=k (o.val r x) (o.rest r x)
 | .k n,_,_,_=>rfl
 | .q,_,(_,_),_=>rfl
theorem Oh.encK_eq {β:Type}:∀(o:Option Hn) (r:List Ty) (x:HL (Oh.lv o r)) (k:Option Nat->HL r->β),Oh.encK o r x k=k (Oh.val o r x) (Oh.rest o r x)
 | none,_,_,_=>rfl
 | some o,r,x,k=>Hn.encK_eq o r x _
mutual
def PV.encK {β:Type}:(p:PV)->(r:List Ty)->HL (p.lv r)->(V->HL r->β)->β
 | .b,_,x,k=>match x with | (a,h)=>k (.b a) h
 | .bd,_,x,k=>match x with | (a,h)=>k (.b a) h
 | .s,_,x,k=>match x with | (a,h)=>k (.s a) h
 | .i A,_,x,k=>match x with | (a,h)=>k (.i A a) h
 | .p c o,r,x,k=>o.encK r x λo x=>k (.p c o) x
 | .sl c o n m,r,x,k=>o.encK _ x λo x=>n.encK _ x λn x=>Oh.encK m r x λm x=>k (.sl c o n m) x
 | .pr z c j o,r,x,k=>j.encK _ x λj x=>o.encK r x λo x=>k (.pr z c j o) x
 | .rs z c j n m,r,x,k=>j.encK _ x λj x=>n.encK _ x λn x=>Oh.encK m r x λm x=>k (.rs z c j n m) x
 | .fn f l,r,x,k=>PV.encsK l r x λl x=>k (.fn f l) x
 | .ag l,r,x,k=>PV.encsK l r x λl x=>k (.ag l) x
 | .tp l,r,x,k=>PV.encsK l r x λl x=>k (.tp l) x
 | .it t v,r,x,k=>v.encK r x λv x=>k (.it t v) x
 | .ai A n,_,x,k=>match x with | (a,h)=>k (.ai A n a) h
 | .unk,_,x,k=>k .unk x
 | .pn,_,x,k=>k .pn x
 | .sn,_,x,k=>k .sn x
 | .nf,_,x,k=>k .nf x
 | .ni,_,x,k=>k .ni x
 | .sk l,_,x,k=>k (.s l) x
 | .bk y,_,x,k=>k (.b y) x
 | .ik A n,_,x,k=>k (.i A n) x
 | .ws c,_,x,k=>k (.ws c) x
 | .mp c,_,x,k=>k (.mp c) x
def PV.encsK {β:Type}:(l:List PV)->(r:List Ty)->HL (PV.lvs l r)->(List V->HL r->β)->β
 | [],_,x,k=>k [] x
 | v::l,r,x,k=>v.encK _ x λv x=>PV.encsK l r x λl x=>k (v::l) x
end
mutual
theorem PV.encK_eq {β:Type}:∀(p:PV) (r:List Ty) (x:HL (p.lv r)) (k:V->HL r->β),p.encK r x k=k (p.val r x) (p.rest r x)
 | .b,_,(_,_),_=>rfl
 | .bd,_,(_,_),_=>rfl
 | .s,_,(_,_),_=>rfl
 | .i _,_,(_,_),_=>rfl
 | .ai _ _,_,(_,_),_=>rfl
 | .p c o,r,x,k=>Hn.encK_eq o r x _
 | .sl c o n m,r,x,k=>(Hn.encK_eq o _ x _).trans ((Hn.encK_eq n _ _ _).trans (Oh.encK_eq m r _ _))
 | .pr z c j o,r,x,k=>(Hn.encK_eq j _ x _).trans (Hn.encK_eq o r _ _)
 | .rs z c j n m,r,x,k=>(Hn.encK_eq j _ x _).trans ((Hn.encK_eq n _ _ _).trans (Oh.encK_eq m r _ _))
 | .fn f l,r,x,k=>PV.encsK_eq l r x _
 | .ag l,r,x,k=>PV.encsK_eq l r x _
 | .tp l,r,x,k=>PV.encsK_eq l r x _
 | .it t v,r,x,k=>PV.encK_eq v r x _
 | .unk,_,_,_ | .pn,_,_,_ | .sn,_,_,_ | .nf,_,_,_ | .ni,_,_,_ | .sk _,_,_,_ | .bk _,_,_,_ | .ik _ _,_,_,_ | .ws _,_,_,_ | .mp _,_,_,_=>rfl
theorem PV.encsK_eq {β:Type}:∀(l:List PV) (r:List Ty) (x:HL (PV.lvs l r)) (k:List V->HL r->β),PV.encsK l r x k=k (PV.vals l r x) (PV.rests l r x)
 | [],_,_,_=>rfl
 | v::l,r,x,k=>(PV.encK_eq v _ x _).trans (PV.encsK_eq l r _ _)
end
def beqB:aa->aa->Bool
 | [],[]=>true
 | x::l,y::m=>Nat.beq x.toNat y.toNat&&beqB l m
 | _,_=>false
theorem DO:∀{l m:aa},beqB l m=true->l=m
 | [],[],_=>rfl
 | x::l,y::m,h=>by
  simp only [beqB,av] at h;rw [gU.1 (aS h.1),DO h.2]
 | [],_::_,h=>by cases h
 | _::_,[],h=>by cases h
def chk {α:Type} (c:Bool) (o:Option α):Option α:=match c with
 | true=>o
 | false=>none
theorem dK {α:Type} {c:Bool} {o:Option α} {x:α} (h:chk c o=some x):c=true/\o=some x:=by
 cases c with
 | true=>exact ⟨rfl,h⟩
 | false=>cases h
mutual
def PV.dec (f:Nat->Nat):(p:PV)->(r:List Ty)->V->HL r->Option (HL (p.lv r))
 | .b,_,.b x,h=>some (x,h)
 | .bd,_,.b x,h=>some (x,h)
 | .s,_,.s x,h=>some (x,h)
 | .i k,_,.i k' x,h=>chk (keq k k') (some (x,h))
 | .p c o,r,.p A F,h=>chk (Nat.beq (f c) A) (o.dec r F h)
 | .sl c o n m,r,.sl A F E m',h=>chk (Nat.beq (f c) A) (ob (Oh.dec m r m' h) λh=>ob (n.dec _ E h) λh=>o.dec _ F h)
 | .pr z c j o,r,.pr G A J F,h=>chk (Nat.beq z G&&Nat.beq (f c) A) (ob (o.dec r F h) λh=>j.dec _ J h)
 | .rs z c j n m,r,.rs G A J E m',h=>chk (Nat.beq z G&&Nat.beq (f c) A) (ob (Oh.dec m r m' h) λh=>ob (n.dec _ E h) λh=>j.dec _ J h)
 | .fn g l,r,.fn M C,h=>chk (Nat.beq g M) (PV.decs f l r C h)
 | .ag l,r,.ag C,h=>PV.decs f l r C h
 | .tp l,r,.tp C,h=>PV.decs f l r C h
 | .it t v,r,.it K O,h=>chk (Nat.beq t K) (v.dec f r O h)
 | .ai k n,_,.ai k' E x,h=>chk (keq k k'&&Nat.beq n E) (some (x,h))
 | .unk,_,.unk,h=>some h
 | .pn,_,.pn,h=>some h
 | .sn,_,.sn,h=>some h
 | .nf,_,.nf,h=>some h
 | .ni,_,.ni,h=>some h
 | .sk l,_,.s C,h=>chk (beqB l C) (some h)
 | .bk y,_,.b Q,h=>chk (y==Q) (some h)
 | .ik k n,_,.i k' E,h=>chk (keq k k'&&(n==E)) (some h)
 | .ws c,_,.ws A,h=>chk (Nat.beq (f c) A) (some h)
 | .mp c,_,.mp A,h=>chk (Nat.beq (f c) A) (some h)
 | _,_,_,_=>none
def PV.decs (f:Nat->Nat):(l:List PV)->(r:List Ty)->List V->HL r->Option (HL (PV.lvs l r))
 | [],_,[],h=>some h
 | a::l,r,v::m,h=>ob (PV.decs f l r m h) λh=>a.dec f _ v h
 | _,_,_,_=>none
end
mutual
theorem PV.dec_ok (f:Nat->Nat):∀(p:PV) (r:List Ty) (v:V) (h:HL r) (x:HL (p.lv r)),p.dec f r v h=some x->v=(p.val r x).renF f/\p.rest r x=h
 | .b,r,v,h,x,e=>by
  cases v with
  | b y=>obtain rfl:=aN (show some (y,h)=some x from e);exact ⟨rfl,rfl⟩
  | _=>exact no' e
 | .bd,r,v,h,x,e=>by
  cases v with
  | b y=>obtain rfl:=aN (show some (y,h)=some x from e);exact ⟨rfl,rfl⟩
  | _=>exact no' e
 | .s,r,v,h,x,e=>by
  cases v with
  | s y=>obtain rfl:=aN (show some (y,h)=some x from e);exact ⟨rfl,rfl⟩
  | _=>exact no' e
 | .i k,r,v,h,x,e=>by
  cases v with
  | i k' y=>
   obtain ⟨K,e⟩:=dK (show chk (keq k k') (some (y,h))=some x from e);obtain rfl:=aN e;rw [<-gm K];exact ⟨rfl,rfl⟩
  | _=>exact no' e
 | .p c o,r,v,h,x,e=>by
  cases v with
  | p A U=>
   obtain ⟨hc,e⟩:=dK (show chk (Nat.beq (f c) A) (o.dec r U h)=some x from e);obtain ⟨E,C⟩:=Hn.dec_ok _ _ _ _ _ e;rw [<-aS hc,E];exact ⟨rfl,C⟩
  | _=>exact no' e
 | .sl c o n m,r,v,h,x,e=>by
  cases v with
  | sl A U G m'=>
   obtain ⟨hc,e⟩:=dK (show chk (Nat.beq (f c) A) (ob (Oh.dec m r m' h) λh=>ob (n.dec _ G h) λh=>o.dec _ U h)=some x from e);obtain ⟨g1,W,e⟩:=ah e;obtain ⟨g2,Z,e⟩:=ah e;obtain ⟨M,J⟩:=Hn.dec_ok _ _ _ _ _ e;obtain ⟨O,Q⟩:=Hn.dec_ok _ _ _ _ _ Z;obtain ⟨X,c2⟩:=Oh.dec_ok _ _ _ _ _ W;subst J Q c2;rw [<-aS hc,M,O,X];exact ⟨rfl,rfl⟩
  | _=>exact no' e
 | .pr z c j o,r,v,h,x,e=>by
  cases v with
  | pr z' A Y U=>
   obtain ⟨hc,e⟩:=dK (show chk (Nat.beq z z'&&Nat.beq (f c) A) (ob (o.dec r U h) λh=>j.dec _ Y h)=some x from e);simp only [av] at hc;obtain ⟨g1,W,e⟩:=ah e;obtain ⟨M,J⟩:=Hn.dec_ok _ _ _ _ _ e;obtain ⟨O,Q⟩:=Hn.dec_ok _ _ _ _ _ W;subst J Q;rw [<-aS hc.1,<-aS hc.2,M,O];exact ⟨rfl,rfl⟩
  | _=>exact no' e
 | .rs z c j n m,r,v,h,x,e=>by
  cases v with
  | rs z' A Y G m'=>
   obtain ⟨hc,e⟩:=dK (show chk (Nat.beq z z'&&Nat.beq (f c) A) (ob (Oh.dec m r m' h) λh=>ob (n.dec _ G h) λh=>j.dec _ Y h)=some x from e);simp only [av] at hc;obtain ⟨g1,W,e⟩:=ah e;obtain ⟨g2,Z,e⟩:=ah e;obtain ⟨M,J⟩:=Hn.dec_ok _ _ _ _ _ e;obtain ⟨O,Q⟩:=Hn.dec_ok _ _ _ _ _ Z;obtain ⟨X,c2⟩:=Oh.dec_ok _ _ _ _ _ W;subst J Q c2;rw [<-aS hc.1,<-aS hc.2,M,O,X];exact ⟨rfl,rfl⟩
  | _=>exact no' e
 | .fn g l,r,v,h,x,e=>by
  cases v with
  | fn g' F=>
   obtain ⟨hc,e⟩:=dK (show chk (Nat.beq g g') (PV.decs f l r F h)=some x from e);obtain ⟨E,C⟩:=PV.decs_ok f l r F h x e;rw [<-aS hc,E];exact ⟨rfl,C⟩
  | _=>exact no' e
 | .ag l,r,v,h,x,e=>by
  cases v with
  | ag F=>
   obtain ⟨E,C⟩:=PV.decs_ok f l r F h x e;rw [E];exact ⟨rfl,C⟩
  | _=>exact no' e
 | .tp l,r,v,h,x,e=>by
  cases v with
  | tp F=>
   obtain ⟨E,C⟩:=PV.decs_ok f l r F h x e;rw [E];exact ⟨rfl,C⟩
  | _=>exact no' e
 | .it t v,r,u,h,x,e=>by
  cases u with
  | it t' v'=>
   obtain ⟨hc,e⟩:=dK (show chk (Nat.beq t t') (v.dec f r v' h)=some x from e);obtain ⟨E,C⟩:=PV.dec_ok f v r v' h x e;rw [<-aS hc,E];exact ⟨rfl,C⟩
  | _=>exact no' e
 | .ai k n,r,v,h,x,e=>by
  cases v with
  | ai k' G y=>
   obtain ⟨K,e⟩:=dK (show chk (keq k k'&&Nat.beq n G) (some (y,h))=some x from e);obtain rfl:=aN e;simp only [av] at K;rw [<-gm K.1,<-aS K.2];exact ⟨rfl,rfl⟩
  | _=>exact no' e
 | .unk,r,v,h,x,e=>by
  cases v with
  | unk=>obtain rfl:=aN (show some h=some x from e);exact ⟨rfl,rfl⟩
  | _=>exact no' e
 | .pn,r,v,h,x,e=>by
  cases v with
  | pn=>obtain rfl:=aN (show some h=some x from e);exact ⟨rfl,rfl⟩
  | _=>exact no' e
 | .sn,r,v,h,x,e=>by
  cases v with
  | sn=>obtain rfl:=aN (show some h=some x from e);exact ⟨rfl,rfl⟩
  | _=>exact no' e
 | .nf,r,v,h,x,e=>by
  cases v with
  | nf=>obtain rfl:=aN (show some h=some x from e);exact ⟨rfl,rfl⟩
  | _=>exact no' e
 | .ni,r,v,h,x,e=>by
  cases v with
  | ni=>obtain rfl:=aN (show some h=some x from e);exact ⟨rfl,rfl⟩
  | _=>exact no' e
 | .sk l,r,v,h,x,e=>by
  cases v with
  | s F=>
   obtain ⟨hc,e⟩:=dK (show chk (beqB l F) (some h)=some x from e);obtain rfl:=aN e;rw [<-DO hc];exact ⟨rfl,rfl⟩
  | _=>exact no' e
 | .bk y,r,v,h,x,e=>by
  cases v with
  | b y'=>
   obtain ⟨hc,e⟩:=dK (show chk (y==y') (some h)=some x from e);obtain rfl:=aN e;rw [<-eq_of_beq hc];exact ⟨rfl,rfl⟩
  | _=>exact no' e
 | .ik k n,r,v,h,x,e=>by
  cases v with
  | i k' G=>
   obtain ⟨hc,e⟩:=dK (show chk (keq k k'&&(n==G)) (some h)=some x from e);simp only [av] at hc;obtain rfl:=aN e;rw [<-gm hc.1,<-eq_of_beq hc.2];exact ⟨rfl,rfl⟩
  | _=>exact no' e
 | .ws c,r,v,h,x,e=>by
  cases v with
  | ws A=>
   obtain ⟨hc,e⟩:=dK (show chk (Nat.beq (f c) A) (some h)=some x from e);obtain rfl:=aN e;rw [<-aS hc];exact ⟨rfl,rfl⟩
  | _=>exact no' e
 | .mp c,r,v,h,x,e=>by
  cases v with
  | mp A=>
   obtain ⟨hc,e⟩:=dK (show chk (Nat.beq (f c) A) (some h)=some x from e);obtain rfl:=aN e;rw [<-aS hc];exact ⟨rfl,rfl⟩
  | _=>exact no' e
theorem PV.decs_ok (f:Nat->Nat):∀(l:List PV) (r:List Ty) (m:List V) (h:HL r) (x:HL (PV.lvs l r)),PV.decs f l r m h=some x->m=V.renFs f (PV.vals l r x)/\PV.rests l r x=h
 | [],r,[],h,x,e=>by obtain rfl:=aN (show some h=some x from e);exact ⟨rfl,rfl⟩
 | a::l,r,v::m,h,x,e=>by
  obtain ⟨g,E,e⟩:=ah (show (ob (PV.decs f l r m h) λh=>a.dec f _ v h)=some x from e);obtain ⟨F,A⟩:=PV.dec_ok f a _ _ _ _ e;obtain ⟨G,C⟩:=PV.decs_ok f l r m h g E;subst A;rw [F,G];exact ⟨rfl,C⟩
 | [],r,_::_,h,x,e=>no' e
 | _::_,r,[],h,x,e=>no' e
end
inductive PB where
 | dead | iter
 | mp (k:IntKind) (l:List (Int×Nat))
 | rows (t:List Lf)
 | cells (l:List PV)
 | ints (k:IntKind) (n:Hn)
def PB.lv:PB->List Ty->List Ty
 | .dead,r=>r
 | .iter,r=>.S::.N::r
 | .mp _ _,r=>r
 | .rows t,r=>.R t::r
 | .cells l,r=>PV.lvs l r
 | .ints _ n,r=>n.lv (.L::r)
def PB.rest:(p:PB)->(r:List Ty)->HL (p.lv r)->HL r
 | .dead,_,x=>x
 | .iter,_,x=>x.2.2
 | .mp _ _,_,x=>x
 | .rows _,_,x=>x.2
 | .cells l,r,x=>PV.rests l r x
 | .ints _ n,r,x=>(n.rest (.L::r) x).2
def PB.val:(p:PB)->(r:List Ty)->HL (p.lv r)->Blk
 | .dead,_,_=>.dead
 | .iter,_,x=>.iter x.1 x.2.1
 | .mp k l,_,_=>.mp k l
 | .rows t,_,x=>.rows t x.1
 | .cells l,r,x=>.cells (PV.vals l r x)
 | .ints k n,r,x=>.ints k (n.val (.L::r) x) (n.rest (.L::r) x).1
def PB.encK {β:Type}:(p:PB)->(r:List Ty)->HL (p.lv r)->(Blk->HL r->β)->β
 | .dead,_,x,k=>k .dead x
 | .iter,_,x,k=>match x with | (a,b,h)=>k (.iter a b) h
 | .mp A l,_,x,k=>k (.mp A l) x
 | .rows t,_,x,k=>match x with | (a,h)=>k (.rows t a) h
 | .cells l,r,x,k=>PV.encsK l r x λl x=>k (.cells l) x
 | .ints A n,r,x,k=>n.encK (.L::r) x λn x=>match x with | (a,h)=>k (.ints A n a) h
theorem PB.encK_eq {β:Type}:∀(p:PB) (r:List Ty) (x:HL (p.lv r)) (k:Blk->HL r->β),p.encK r x k=k (p.val r x) (p.rest r x)
 | .dead,_,_,_ | .mp _ _,_,_,_=>rfl
 | .iter,_,(_,_,_),_=>rfl
 | .rows _,_,(_,_),_=>rfl
 | .cells l,r,x,k=>PV.encsK_eq l r x _
 | .ints A n,r,x,k=>Hn.encK_eq n (.L::r) x _
def beqM:List (Int×Nat)->List (Int×Nat)->Bool
 | [],[]=>true
 | x::l,y::m=>(x.1==y.1)&&(Nat.beq x.2 y.2&&beqM l m)
 | _,_=>false
theorem CL:∀{l m:List (Int×Nat)},beqM l m=true->l=m
 | [],[],_=>rfl
 | (x,u)::l,(y,v)::m,h=>by
  simp only [beqM,av,bu] at h;rw [h.1,aS h.2.1,CL h.2.2]
 | [],_::_,h=>by cases h
 | _::_,[],h=>by cases h
def Blk.renF (f:Nat->Nat):Blk->Blk
 | .cells l=>.cells (V.renFs f l)
 | .dead=>.dead
 | .rows t l=>.rows t l
 | .ints k n l=>.ints k n l
 | .iter s pos=>.iter s pos
 | .mp k l=>.mp k l
def PB.dec (f:Nat->Nat):(p:PB)->(r:List Ty)->Blk->HL r->Option (HL (p.lv r))
 | .dead,_,.dead,h=>some h
 | .iter,_,.iter s n,h=>some (s,n,h)
 | .mp k l,_,.mp k' A,h=>chk (keq k k'&&beqM l A) (some h)
 | .rows t,_,.rows C l,h=>ob (ia C t l) λl=>some (l,h)
 | .cells l,r,.cells m,h=>PV.decs f l r m h
 | .ints k n,r,.ints k' m l,h=>chk (keq k k') (n.dec (.L::r) m (l,h))
 | _,_,_,_=>none
theorem Blk.renF_ren (ρ:List Nat) (b:Blk):Blk.renF (getN ρ) b=b.ren ρ:=by
 cases b<;>simp [Blk.renF,Blk.ren,V.renFs_ren]
theorem xn {t a:List Lf} {l:List (den t)} {m:List (den a)} (h:ia t a l=some m):t=a/\HEq l m:=by
 unfold ia at h;split at h
 ·rename_i e;subst e;cases h;exact ⟨rfl,HEq.rfl⟩
 ·cases h
theorem PB.dec_ok (f:Nat->Nat):∀(p:PB) (r:List Ty) (v:Blk) (h:HL r) (x:HL (p.lv r)),p.dec f r v h=some x->v=(p.val r x).renF f/\p.rest r x=h
 | .dead,r,v,h,x,e=>by
  cases v with
  | dead=>obtain rfl:=aN (show some h=some x from e);exact ⟨rfl,rfl⟩
  | _=>exact no' e
 | .mp k l,r,v,h,x,e=>by
  cases v with
  | mp k' E=>
   obtain ⟨hc,e⟩:=dK (show chk (keq k k'&&beqM l E) (some h)=some x from e);simp only [av] at hc;obtain rfl:=aN e;rw [<-gm hc.1,<-CL hc.2];exact ⟨rfl,rfl⟩
  | _=>exact no' e
 | .iter,r,v,h,x,e=>by
  cases v with
  | iter s n=>obtain rfl:=aN (show some (s,n,h)=some x from e);exact ⟨rfl,rfl⟩
  | _=>exact no' e
 | .rows t,r,v,h,x,e=>by
  cases v with
  | rows G l=>
   obtain ⟨m,F,e⟩:=ah (show (ob (ia G t l) λl=>some (l,h))=some x from e);obtain ⟨C,A⟩:=xn F;subst C;cases A;obtain rfl:=aN e;exact ⟨rfl,rfl⟩
  | _=>exact no' e
 | .cells l,r,v,h,x,e=>by
  cases v with
  | cells m=>
   obtain ⟨C,A⟩:=PV.decs_ok f l r m h x e;rw [C];exact ⟨rfl,A⟩
  | _=>exact no' e
 | .ints k n,r,v,h,x,e=>by
  cases v with
  | ints k' m l=>
   obtain ⟨J,e⟩:=dK (show chk (keq k k') (n.dec (.L::r) m (l,h))=some x from e);obtain ⟨C,A⟩:=Hn.dec_ok n (.L::r) m (l,h) x e;rw [<-gm J];refine ⟨?_,?_⟩
   ·show Blk.ints k m l=Blk.ints k (n.val (.L::r) x) (n.rest (.L::r) x).1;rw [A,<-C]
   ·show (n.rest (.L::r) x).2=h;rw [A]
  | _=>exact no' e
def lvT:List (Nat×PV)->List Ty->List Ty
 | [],r=>r
 | (_,p)::l,r=>p.lv (lvT l r)
def FD:(l:List (Nat×PV))->(r:List Ty)->HL (lvT l r)->HL r
 | [],_,x=>x
 | (_,p)::l,r,x=>FD l r (p.rest _ x)
def valT:(l:List (Nat×PV))->(r:List Ty)->HL (lvT l r)->List (Nat×Option V)
 | [],_,_=>[]
 | (t,p)::l,r,x=>(t,some (p.val _ x))::valT l r (p.rest _ x)
mutual
def PV.lt (nb:Nat):PV->Bool
 | .p c _ | .sl c _ _ _ | .pr _ c _ _ | .ws c | .mp c | .rs _ c _ _ _=>Nat.blt c nb
 | .fn _ l | .ag l | .tp l=>PV.lts nb l
 | .it _ v=>PV.lt nb v
 | .b | .bd | .i _ | .s | .sk _ | .bk _ | .ik _ _ | .pn | .sn | .nf | .ni | .ai _ _ | .unk=>true
def PV.lts (nb:Nat):List PV->Bool
 | []=>true
 | v::l=>PV.lt nb v&&PV.lts nb l
end
mutual
theorem PV.lt_ok {m:Nat}:∀(p:PV) (r:List Ty) (x:HL (p.lv r)),p.lt m=true->V.lt m (p.val r x)=true
 | .b,_,_,_ | .bd,_,_,_ | .i _,_,_,_ | .s,_,_,_ | .sk _,_,_,_ | .bk _,_,_,_ | .ik _ _,_,_,_ | .pn,_,_,_ | .sn,_,_,_ | .nf,_,_,_ | .ni,_,_,_ | .ai _ _,_,_,_ | .unk,_,_,_=>rfl
 | .p _ _,_,_,h | .sl _ _ _ _,_,_,h | .pr _ _ _ _,_,_,h | .ws _,_,_,h | .mp _,_,_,h | .rs _ _ _ _ _,_,_,h=>h
 | .fn _ l,r,x,h | .ag l,r,x,h | .tp l,r,x,h=>PV.lts_ok l r x h
 | .it _ v,r,x,h=>PV.lt_ok v r x h
theorem PV.lts_ok {m:Nat}:∀(l:List PV) (r:List Ty) (x:HL (PV.lvs l r)),PV.lts m l=true->V.lts m (PV.vals l r x)=true
 | [],_,_,_=>rfl
 | v::l,r,x,h=>by
  simp only [PV.lts,av] at h;simp only [PV.vals,V.lts,av];exact ⟨PV.lt_ok v _ x h.1,PV.lts_ok l r _ h.2⟩
end
def decT (f:Nat->Nat) (T:List (Nat×Option V)):(l:List (Nat×PV))->(r:List Ty)->HL r->Option (HL (lvT l r))
 | [],_,h=>some h
 | (t,p)::l,r,h=>match look T t with
  | some (some v)=>match decT f T l r h with
   | some h=>p.dec f _ v h
   | none=>none
  | _=>none
theorem Cm (f:Nat->Nat) (T:List (Nat×Option V)) {m:Nat}:∀(l:List (Nat×PV)) (r:List Ty) (h:HL r) (x:HL (lvT l r)),decT f T l r h=some x->
  FD l r x=h/\((l.all λq=>q.2.lt m)=true->∀t u,look (valT l r x) t=some (some u)->look T t=some (some (u.renF f))/\V.lt m u=true)
 | [],r,h,x,e=>by obtain rfl:=aN (show some h=some x from e);exact ⟨rfl,λ_ t u h=>by cases h⟩
 | (t,p)::l,r,h,x,e=>by
  simp only [decT] at e;split at e
  ·rename_i v i;split at e
   ·rename_i g j;obtain ⟨n,b⟩:=PV.dec_ok f p _ _ _ _ e;obtain ⟨o,d⟩:=Cm f T l r h g j;subst b;refine ⟨o,λa c u hc=>?_⟩;simp only [kg,av] at a;simp only [valT,aF] at hc;split at hc
    ·rename_i k;subst k;simp only [ae] at hc;subst hc;exact ⟨by rw [i,n],PV.lt_ok p _ x a.1⟩
    ·exact d a.2 c u hc
   ·exact no' e
  ·exact no' e
def lvH:List (Nat×PB)->List Ty->List Ty
 | [],r=>r
 | (_,p)::l,r=>p.lv (lvH l r)
def E3:(l:List (Nat×PB))->(r:List Ty)->HL (lvH l r)->HL r
 | [],_,x=>x
 | (_,p)::l,r,x=>E3 l r (p.rest _ x)
def valH:(l:List (Nat×PB))->(r:List Ty)->HL (lvH l r)->List (Nat×Blk)
 | [],_,_=>[]
 | (t,p)::l,r,x=>(t,p.val _ x)::valH l r (p.rest _ x)
def decH (f:Nat->Nat):(l:List (Nat×PB))->(r:List Ty)->List (Nat×Blk)->HL r->Option (HL (lvH l r))
 | [],_,[],h=>some h
 | (t,p)::l,r,(a,v)::T,h=>match Nat.beq (f t) a with
  | true=>match decH f l r T h with
   | some h=>p.dec f _ v h
   | none=>none
  | false=>none
 | _,_,_,_=>none
def FU (f:Nat->Nat):List (Nat×Blk)->List (Nat×Blk)
 | []=>[]
 | (b,x)::l=>(f b,x.renF f)::FU f l
theorem wd (ρ:List Nat):∀H,FU (getN ρ) H=renH ρ H
 | []=>rfl
 | (b,x)::l=>by simp only [FU,renH,wd ρ l,Blk.renF_ren]
theorem DI (f:Nat->Nat):∀(l:List (Nat×PB)) (r:List Ty) (T:List (Nat×Blk)) (h:HL r) (x:HL (lvH l r)),decH f l r T h=some x->T=FU f (valH l r x)/\E3 l r x=h
 | [],r,[],h,x,e=>by obtain rfl:=aN (show some h=some x from e);exact ⟨rfl,rfl⟩
 | (t,p)::l,r,(k,v)::T,h,x,e=>by
  simp only [decH] at e;split at e
  ·rename_i c;split at e
   ·rename_i g i;obtain ⟨d,a⟩:=PB.dec_ok f p _ _ _ _ e;obtain ⟨j,b⟩:=DI f l r T h g i;subst a;rw [d,j,<-aS c];exact ⟨rfl,b⟩
   ·exact no' e
  ·exact no' e
 | [],r,_::_,h,x,e=>no' e
 | _::_,r,[],h,x,e=>no' e
def decL (f:Nat->Nat) (H:List (Nat×Blk)):(l:List (Nat×PB))->(r:List Ty)->HL r->Option (HL (lvH l r))
 | [],_,h=>some h
 | (b,p)::l,r,h=>match look H (f b) with
  | some v=>match decL f H l r h with
   | some h=>p.dec f _ v h
   | none=>none
  | none=>none
theorem wL (f:Nat->Nat) (H:List (Nat×Blk)):∀(l:List (Nat×PB)) (r:List Ty) (h:HL r) (x:HL (lvH l r)),decL f H l r h=some x->
  EQ (λb blk=>look H (f b)=some (blk.renF f)) (valH l r x)/\E3 l r x=h
 | [],r,h,x,e=>by obtain rfl:=aN (show some h=some x from e);exact ⟨trivial,rfl⟩
 | (b,p)::l,r,h,x,e=>by
  simp only [decL] at e;split at e
  ·rename_i v d;split at e
   ·rename_i g i;obtain ⟨j,a⟩:=PB.dec_ok f p _ _ _ _ e;obtain ⟨k,c⟩:=wL f H l r h g i;subst a;exact ⟨⟨d.trans (eN some j),k⟩,c⟩
   ·exact no' e
  ·exact no' e
def GV {β:Type}:(l:List (Nat×PV))->(r:List Ty)->HL (lvT l r)->(List (Nat×Option V)->HL r->β)->β
 | [],_,x,k=>k [] x
 | (t,p)::l,r,x,k=>p.encK _ x λv x=>GV l r x λT x=>k ((t,some v)::T) x
theorem yN {β:Type}:∀(l:List (Nat×PV)) (r:List Ty) (x:HL (lvT l r)) (k:List (Nat×Option V)->HL r->β),GV l r x k=k (valT l r x) (FD l r x)
 | [],_,_,_=>rfl
 | (t,p)::l,r,x,k=>(PV.encK_eq p _ x _).trans (yN l r _ _)
def AD {β:Type}:(l:List (Nat×PB))->(r:List Ty)->HL (lvH l r)->(List (Nat×Blk)->HL r->β)->β
 | [],_,x,k=>k [] x
 | (t,p)::l,r,x,k=>p.encK _ x λv x=>AD l r x λT x=>k ((t,v)::T) x
theorem pP {β:Type}:∀(l:List (Nat×PB)) (r:List Ty) (x:HL (lvH l r)) (k:List (Nat×Blk)->HL r->β),AD l r x k=k (valH l r x) (E3 l r x)
 | [],_,_,_=>rfl
 | (t,p)::l,r,x,k=>(PB.encK_eq p _ x _).trans (pP l r _ _)
structure PSt where
 T:List (Nat×PV)
 H:List (Nat×PB)
 nb:Nat
 lo:Nat
 ro:Nat
 rb:Nat
@[reducible] def PSt.lv (p:PSt):List Ty:=lvT p.T (lvH p.H [])
def PSt.val (p:PSt) (x:HL p.lv):St:=⟨valT p.T (lvH p.H []) x,valH p.H [] (FD p.T (lvH p.H []) x),p.nb,p.lo,p.ro,p.rb⟩
def PSt.emb (p:PSt) (x:Tup p.lv):St:=p.val (toHL _ x)
def PSt.encK {β:Type} (p:PSt) (x:HL p.lv) (k:St->β):β:=GV p.T (lvH p.H []) x λT x=>AD p.H [] x λH _=>k ⟨T,H,p.nb,p.lo,p.ro,p.rb⟩
theorem PSt.encK_eq {β:Type} (p:PSt) (x:HL p.lv) (k:St->β):p.encK x k=k (p.val x):=(yN _ _ _ _).trans (pP _ _ _ _)
def PSt.embK {β:Type} (p:PSt) (x:Tup p.lv) (k:St->β):β:=p.encK (toHL _ x) k
theorem PSt.embK_eq {β:Type} (p:PSt) (x:Tup p.lv) (k:St->β):p.embK x k=k (p.emb x):=p.encK_eq _ k
def PB.lt (m:Nat):PB->Bool
 | .cells l=>PV.lts m l
 | _=>true
def PB.isDead:PB->Bool
 | .dead=>true
 | _=>false
theorem PB.lt_ok {m:Nat}:∀(p:PB) (r:List Ty) (x:HL (p.lv r)),p.lt m=true->Blk.lt m (p.val r x)=true
 | .cells l,r,x,h=>PV.lts_ok l r x h
 | .dead,_,_,_ | .iter,_,_,_ | .rows _,_,_,_ | .ints _ _,_,_,_ | .mp _ _,_,_,_=>rfl
theorem PB.dead_ok:∀(p:PB) (r:List Ty) (x:HL (p.lv r)),p.isDead=false->p.val r x≠.dead
 | .dead,_,_,h,_=>by cases h
 | .cells l,r,x,_,e=>by cases (show Blk.cells (PV.vals l r x)=.dead from e)
 | .iter,_,x,_,e=>by cases (show Blk.iter x.1 x.2.1=.dead from e)
 | .mp k l,_,x,_,e=>by cases (show Blk.mp k l=.dead from e)
 | .rows t,_,x,_,e=>by cases (show Blk.rows t x.1=.dead from e)
 | .ints k n,r,x,_,e=>by cases (show Blk.ints k (n.val (.L::r) x) (n.rest (.L::r) x).1=.dead from e)
theorem re:∀(l:List (Nat×PB)) (r:List Ty) (x:HL (lvH l r)),keys (valH l r x)=l.map (·.1)
 | [],_,_=>rfl
 | (b,p)::l,r,x=>by
  have:=re l r (p.rest _ x);simp only [keys] at this ⊢;simp only [valH,fU,this]
theorem pU {m:Nat}:∀(l:List (Nat×PB)) (r:List Ty) (x:HL (lvH l r)),(l.all λp=>Nat.blt p.1 m&&p.2.lt m)=true->chkH m (valH l r x)=true
 | [],_,_,_=>rfl
 | (b,p)::l,r,x,h=>by
  simp only [kg,av] at h;have:=pU l r (p.rest _ x) h.2;simp only [chkH] at this ⊢;simp only [valH,kg,av];exact ⟨⟨h.1.1,PB.lt_ok p _ x h.1.2⟩,this⟩
def rhoN (m:Nat) (a:List Nat):Nat->Nat:=getN (upTo 0 m++a)
def DL (T:List (Nat×Option V)):List (Nat×PV)->List V
 | []=>[]
 | (t,_)::l=>match look T t with
  | some (some v)=>v::DL T l
  | _=>DL T l
def lowK (m:Nat):List (Nat×PB)->List Nat
 | []=>[]
 | (b,_)::l=>cond (Nat.blt b m) (b::lowK m l) (lowK m l)
def PSt.own (p:PSt) (m:Nat) (s:St):List Nat:=
 match wZ m s.H (lowK m p.H) (V.newss m (DL s.T p.T) []) with
 | n1=>match wZ m s.H n1 n1 with
  | n2=>wZ m s.H n2 n2
def PSt.base (A:Bool) (p:PSt):Nat:=cond A p.lo p.nb
def PSt.nums (A:Bool) (p:PSt) (s:St):List Nat:=cond A (p.own p.lo s) []
def PSt.okS (A:Bool) (p:PSt) (s:St) (C:List Nat):Bool:=
 (Nat.beq s.lo p.lo&&(Nat.beq s.ro p.ro&&Nat.beq s.rb p.rb))&&(Nat.beq p.nb (p.base A+C.length)&&((Nat.ble p.lo (p.base A)&&Nat.ble p.ro (p.base A))&&((eD C&&C.all (Nat.ble (p.base A))) &&
  ((p.T.all λq=>q.2.lt p.nb)&&p.H.all λq=>Nat.blt q.1 p.nb&&q.2.lt p.nb))))
def PSt.read (A:Bool) (p:PSt) (s:St):Option (HL p.lv):=
 match p.nums A s with
 | nw=>match p.okS A s nw with
  | true=>match decL (rhoN (p.base A) nw) s.H p.H [] () with
   | some h=>decT (rhoN (p.base A) nw) s.T p.T _ h
   | none=>none
  | false=>none
theorem qR {Q:Nat->Blk->Prop}:∀{H:List (Nat×Blk)},EQ Q H->∀b x,look H b=some x->Q b x
 | [],_,b,x,h=>by cases h
 | (c,y)::l,h,b,x,a=>by
  rw [aF] at a;split at a
  ·rename_i e;subst e;simp only [ae] at a;subst a;exact h.1
  ·exact qR h.2 b x a
theorem PSt.read_ok {pk:Bool} {p:PSt} {s:St} {y:HL p.lv} (M:p.read pk s=some y):Weak s (p.val y):=by
 unfold PSt.read at M;simp only at M;generalize hnw:p.nums pk s=K at M;split at M
 case h_2=>exact no' M
 rename_i W;split at M
 case h_2=>exact no' M
 rename_i h e1;unfold PSt.okS at W;generalize p.base pk=m at *;simp only [av,bz] at W;obtain ⟨⟨q1,q2,q3⟩,q4,⟨q5,q6⟩,⟨q7,q8⟩,q9,q10⟩:=W;have q1:=aS q1;have q2:=aS q2;have q3:=aS q3;have q4:=aS q4;have q5:=ax q5;have q6:=ax q6;obtain ⟨a1,a2⟩:=wL _ _ _ _ _ _ e1;obtain ⟨b1,b2⟩:=Cm (m:=p.nb) _ _ _ _ _ _ M;have b2:=b2 (by simpa only [bz] using q9);intro n ι0 ι w0 a w C;have A:(upTo 0 m++K).length=p.nb:=by rw [iQ,kF,q4]
 have hnd:(upTo 0 m++K).Nodup:=by
  refine A6.2 ⟨mh m 0,ky q7,λc hc d hd hcd=>?_⟩;subst hcd;have h1:=(iU.1 hc).2;have h2:=ax (q8 c hd);omega
 have G:∀b,b<m->getN (upTo 0 m++K) b=b:=λb J=>by rw [pX m 0 b _ J];omega
 have E:∀{b q},gh ι (upTo 0 m++K) b=some q->b<p.nb/\ι (getN (upTo 0 m++K) b)=some q:=λh=>by
  have:=bE h;rwa [A] at this
 have F:∀b,m<=b->b<p.nb->m<=getN (upTo 0 m++K) b:=by
  intro b h1 h2;obtain ⟨i,rfl⟩:∃i,b=m+i:=⟨b - m,by omega⟩;have e4:=fk (upTo 0 m) K i;rw [kF] at e4;rw [e4];exact ax (q8 _ (i7 (by omega)))
 have Z:p.val y=⟨valT p.T _ y,valH p.H [] h,p.nb,p.lo,p.ro,p.rb⟩:=by
  unfold PSt.val;rw [b1]
 refine ⟨gh ι (upTo 0 m++K),?_⟩;rw [Z];refine ⟨C.size,C.defers,λt u hu=>?_,⟨λb b' q q' h1 h2 h3=>?_,λb q h=>(E h).1,λb q h=>C.mem.dom _ _ (E h).2,λb blk hl hd=>?_⟩,λb q J=>?_,λb q J=>?_,by rw [<-q2];exact C.fr,λb r J=>by rw [<-q1];exact C.low b r J,λb q J hq=>?_,by rw [<-q2];exact C.gl⟩
 ·obtain ⟨U,X⟩:=b2 t u hu;obtain ⟨v,c3,c4⟩:=C.tmps t _ U;refine ⟨v,c3,(VR.ren u v (by rw [A];exact X)).1 ?_⟩;unfold rhoN at c4;rwa [V.renF_ren] at c4
 ·obtain ⟨U,X⟩:=E h1;obtain ⟨d1,d2⟩:=E h2;exact (C.mem.inj _ _ _ _ X d2 h3).imp (l8 hnd (by rw [A];exact U) (by rw [A];exact d1)) id
 ·have Y:=qR a1 b blk hl;have O:=lF (pU (m:=p.nb) p.H [] h (by simpa only [bz,av] using q10)) b blk hl;unfold rhoN at Y;rw [Blk.renF_ren] at Y;exact (C.mem.blk _ _ Y (λe=>hd (Blk.ren_dead.1 e))).map (gk (by rw [A];exact O.1)) (λ_ _=>rfl) (λq o hbr=>(BR.ren (by rw [A];exact O.2)).1 hbr) (λt e=>Blk.ren_nil.1 e)
 ·rcases C.ext b q J with h | h
  ·have hbl:=C.low b q J;rw [q1] at hbl;exact .inl (by rw [gk (by rw [A];omega),G b (by omega)];exact h)
  ·exact .inr (by rw [<-q3];exact h)
 ·obtain ⟨U,X⟩:=E J;rcases C.new _ q X with ⟨q',e3,e4⟩ | h
  ·have:=C.low _ _ e3;rw [q1] at this;by_cases Q:b<m
   ·rw [G b Q] at e3;exact .inl ⟨q',e3,e4⟩
   ·have:=F b (by omega) U;omega
  ·exact .inr h
 ·obtain ⟨U,X⟩:=E J;have hlt:=C.fz _ q X hq;rw [q2] at hlt;by_cases Q:b<m
  ·rwa [G b Q] at hlt
  ·have:=F b (by omega) U;omega
inductive PE where
 | nrm
 | exit (id:Nat)
 | ret
 | pan (p:PV)
@[reducible] def PE.lv:PE->List Ty->List Ty
 | .nrm,r=>r
 | .exit _,r=>r
 | .ret,r=>r
 | .pan p,r=>p.lv r
def PE.val:(e:PE)->(r:List Ty)->HL (e.lv r)->Ex
 | .nrm,_,_=>.normal
 | .exit i,_,_=>.exit i
 | .ret,_,_=>.ret
 | .pan p,r,x=>.pan (p.val r x)
def PE.rest:(e:PE)->(r:List Ty)->HL (e.lv r)->HL r
 | .nrm,_,x=>x
 | .exit _,_,x=>x
 | .ret,_,x=>x
 | .pan p,r,x=>p.rest r x
def PE.dec:(e:PE)->(r:List Ty)->Ex->HL r->Option (HL (e.lv r))
 | .nrm,_,.normal,h=>some h
 | .exit i,_,.exit j,h=>match Nat.beq i j with
  | true=>some h
  | false=>none
 | .ret,_,.ret,h=>some h
 | .pan p,r,.pan v,h=>p.dec id r v h
 | _,_,_,_=>none
def PE.fits:PE->Ex->Bool
 | .nrm,.normal=>true
 | .exit i,.exit j=>Nat.beq i j
 | .ret,.ret=>true
 | .pan _,.pan _=>true
 | _,_=>false
theorem PE.dec_ok:∀(p:PE) (r:List Ty) (ex:Ex) (h:HL r) (x:HL (p.lv r)),p.dec r ex h=some x->ex=p.val r x/\p.rest r x=h
 | .exit i,r,ex,h,x,e=>by
  cases ex with
  | exit j=>
   simp only [PE.dec] at e;split at e
   ·rename_i C;obtain rfl:=aN e;rw [<-aS C];exact ⟨rfl,rfl⟩
   ·exact no' e
  | _=>exact no' e
 | .nrm,r,ex,h,x,e=>by
  cases ex with
  | normal=>obtain rfl:=aN (show some h=some x from e);exact ⟨rfl,rfl⟩
  | _=>exact no' e
 | .ret,r,ex,h,x,e=>by
  cases ex with
  | ret=>obtain rfl:=aN (show some h=some x from e);exact ⟨rfl,rfl⟩
  | _=>exact no' e
 | .pan p,r,ex,h,x,e=>by
  cases ex with
  | pan v=>
   obtain ⟨A,E⟩:=PV.dec_ok id p r v h x e;rw [V.renF_id] at A;rw [A];exact ⟨rfl,E⟩
  | _=>exact no' e
def PE.encK {β:Type}:(e:PE)->(r:List Ty)->HL (e.lv r)->(Ex->HL r->β)->β
 | .nrm,_,x,k=>k .normal x
 | .exit i,_,x,k=>k (.exit i) x
 | .ret,_,x,k=>k .ret x
 | .pan p,r,x,k=>p.encK r x λv x=>k (.pan v) x
theorem PE.encK_eq {β:Type}:∀(e:PE) (r:List Ty) (x:HL (e.lv r)) (k:Ex->HL r->β),e.encK r x k=k (e.val r x) (e.rest r x)
 | .nrm,_,_,_ | .exit _,_,_,_ | .ret,_,_,_=>rfl
 | .pan p,r,x,k=>PV.encK_eq p r x _
structure PX where
 ex:PE
 st:PSt
@[reducible] def PX.lv (a:PX):List Ty:=a.ex.lv a.st.lv
def PX.val (a:PX) (x:HL a.lv):Ex×St:=(a.ex.val _ x,a.st.val (a.ex.rest _ x))
def PX.encK {β:Type} (a:PX) (x:HL a.lv) (k:Ex->St->β):β:=a.ex.encK _ x λe x=>a.st.encK x λs=>k e s
theorem PX.encK_eq {β:Type} (a:PX) (x:HL a.lv) (k:Ex->St->β):a.encK x k=k (a.val x).1 (a.val x).2:=(PE.encK_eq _ _ _ _).trans (PSt.encK_eq _ _ _)
def HJ:Ex->Bool
 | .pan v=>V.flat v
 | _=>true
def PX.one (A:Bool) (a:PX) (ex:Ex) (s:St):Option (Tup a.lv):=match a.ex.fits ex&&HJ ex with
 | true=>match a.st.read A s with
  | some h=>match a.ex.dec _ ex h with
   | some x=>some (ofHL _ x)
   | none=>none
  | none=>none
 | false=>none
theorem PX.one_ok {E:Bool} {a:PX} {ex:Ex} {s:St} {x:Tup a.lv} (e:a.one E ex s=some x):ex=(a.val (toHL _ x)).1/\Weak s (a.val (toHL _ x)).2/\∀v,ex=.pan v->V.flat v=true:=by
 unfold PX.one at e;split at e
 case h_2=>exact no' e
 rename_i A;simp only [av] at A;split at e
 case h_2=>exact no' e
 rename_i h K;split at e
 case h_2=>exact no' e
 rename_i y J;obtain rfl:=aN e;obtain ⟨C,G⟩:=PE.dec_ok _ _ _ _ _ J;rw [jv];unfold PX.val;rw [G];exact ⟨C,PSt.read_ok K,λv F=>by subst F;exact A.2⟩
@[reducible] def SumX:List PX->Type
 | []=>Unit
 | [a]=>Tup a.lv
 | a::b::l=>Tup a.lv⊕SumX (b::l)
def outX:(l:List PX)->SumX l->Ex×St
 | [],_=>(.normal,⟨[],[],0,0,0,0⟩)
 | [a],y=>a.val (toHL _ y)
 | a::b::l,y=>Sum.casesOn (motive:=λ_=>Ex×St) y (λu=>a.val (toHL _ u)) (λv=>outX (b::l) v)
def FN (α:Type):(l:List PX)->SumX l->(Ex->St->Option α)->Option α
 | [],_,k=>k .normal ⟨[],[],0,0,0,0⟩
 | [a],y,k=>a.encK (toHL _ y) k
 | a::b::l,y,k=>Sum.casesOn (motive:=λ_=>Option α) y (λu=>a.encK (toHL _ u) k) (λv=>FN α (b::l) v k)
theorem uc (α:Type):∀(l:List PX) (y:SumX l) (k:Ex->St->Option α),FN α l y k=k (outX l y).1 (outX l y).2
 | [],_,_=>rfl
 | [a],y,k=>a.encK_eq _ k
 | a::b::l,.inl u,k=>a.encK_eq _ k
 | a::b::l,.inr v,k=>uc α (b::l) v k
def Dh (c:Bool):(l:List PX)->Ex->St->Option (SumX l)
 | [],_,_=>none
 | [a],ex,s=>a.one c ex s
 | a::b::l,ex,s=>match a.one c ex s with
  | some h=>some (.inl h)
  | none=>match Dh c (b::l) ex s with
   | some y=>some (.inr y)
   | none=>none
theorem tR {d:Bool}:∀(l:List PX) (ex:Ex) (s:St) (y:SumX l),Dh d l ex s=some y->ex=(outX l y).1/\Weak s (outX l y).2/\∀v,ex=.pan v->V.flat v=true
 | [],ex,s,y,e=>no' e
 | [a],ex,s,y,e=>PX.one_ok (show a.one d ex s=some y from e)
 | a::b::l,ex,s,y,e=>by
  simp only [Dh] at e;split at e
  ·rename_i h c;obtain rfl:=aN e;exact PX.one_ok c
  ·split at e
   ·rename_i z c;obtain rfl:=aN e;exact tR (b::l) ex s z c
   ·exact no' e
def PSt.enter (A:Bool) (p:PSt) (C:List Fix) (s:St):Option (Tup p.lv):=y4 C s λs=>match p.read A s with
 | some h=>some (ofHL _ h)
 | none=>none
theorem PSt.enter_ok {E:Bool} {p:PSt} {C:List Fix} {s:St} {x:Tup p.lv} (e:p.enter E C s=some x):Weak s (p.emb x):=by
 obtain ⟨J,A,F⟩:=uW e;split at A
 case h_2=>exact no' A
 rename_i h G;obtain rfl:=aN A;unfold PSt.emb;rw [jv];exact F.trans (PSt.read_ok G)
def vE (a:Bool) (p:PSt) (b:List Fix) (outs:List PX):Ex->St->Option (Tup p.lv⊕SumX outs)
 | .normal,s=>match p.enter a b s with
  | some x=>some (.inl x)
  | none=>none
 | ex,s=>match Dh a outs ex s with
  | some y=>some (.inr y)
  | none=>none
theorem Bg {b:Bool} {p:PSt} {c:List Fix} {outs:List PX} {ex:Ex} {s:St} {x:Tup p.lv} (e:vE b p c outs ex s=some (.inl x)):ex=.normal/\Weak s (p.emb x):=by
 unfold vE at e;split at e
 ·split at e
  ·rename_i z a;obtain rfl:=Sum.inl.inj (aN e);exact ⟨rfl,PSt.enter_ok a⟩
  ·exact no' e
 ·split at e
  ·cases aN e
  ·exact no' e
theorem DD {c:Bool} {p:PSt} {d:List Fix} {outs:List PX} {ex:Ex} {s:St} {y:SumX outs} (e:vE c p d outs ex s=some (.inr y)):
  ex≠.normal/\ex=(outX outs y).1/\Weak s (outX outs y).2/\∀v,ex=.pan v->V.flat v=true:=by
 unfold vE at e;split at e
 ·split at e
  ·cases aN e
  ·exact no' e
 ·rename_i a;split at e
  ·rename_i z b;obtain rfl:=Sum.inr.inj (aN e);exact ⟨a,tR outs ex s z b⟩
  ·exact no' e
structure FE (P:Program) where
 e:Ent
 ok:cD P e
 t:List V->List (Nat×Blk)->Bool:=λ_ _=>true
def altF (x y:FE P) (h:y.e.f=x.e.f):FE P:=⟨altE x.e x.t y.e,HN x.ok y.ok h,λl H=>x.t l H||y.t l H⟩
theorem FE.oks (E:List (FE P)):∀x∈E.map FE.e,cD P x:=by
 intro x A;obtain ⟨y,_,rfl⟩:=eC.1 A;exact y.ok
structure LP (P:Program) (nt:Nat) where
 ac:AC
 s:Sub
 t:St->Bool
 ok:∀(α:Type) (st:St) (k:Ex->St->Option α) (z:α),s.e α st k=some z->SemC P nt ac.code st λex s'=>k ex s'=some z
def LP.m {nt:Nat} (l:LP P nt):Nat:=l.s.m
def LP.key {nt:Nat} (l:LP P nt):Nat×AC:=(l.s.m,l.ac)
def noL {nt:Nat} (m:Nat) (c:AC):LP P nt:=⟨c,⟨m,λ_ _ _=>none⟩,λ_=>false,λ_ _ _ _ h=>by cases h⟩
def altL {nt:Nat} (x y:LP P nt) (h:y.ac=x.ac):LP P nt:=
 ⟨x.ac,altS x.s x.t y.s,λs=>x.t s||y.t s,λα st k z e=>Hy (c:=x.ac.code) (x.ok α st k z) (λe=>by have:=y.ok α st k z e;rw [h] at this;exact this) e⟩
theorem xT {nt:Nat} {α:Type} {s:St} {k:Ex->St->Option α} {z:α}:∀{L:List (LP P nt)},eD (L.map LP.m)=true->∀l∈L,zT α l.m s k (L.map LP.s)=some z->l.s.e α s k=some z
 | [],_,l,a,_=>by simp at a
 | x::L,c,l,a,h=>by
  simp only [fU,eD,av,bz] at c;simp only [fU,zT] at h;rcases cY.1 a with rfl | a
  ·have:Nat.beq l.s.m l.m=true:=by simp [LP.m]
   rw [this] at h;exact h
  ·have b:=c.1 l.m (eC.2 ⟨l,a,rfl⟩);have:Nat.beq x.s.m l.m=false:=by
    have:Nat.beq x.m l.m=false:=by simpa using b
    exact this
   rw [this] at h;exact xT c.2 l a h
theorem vr {nt:Nat} {L:List (LP P nt)} {c:AC} (d:eD (L.map LP.m)=true) (h:subs c=L.map LP.key):fF P nt (L.map LP.s) c:=by
 refine iR c λp a=>?_;rw [h] at a;obtain ⟨l,b,rfl⟩:=eC.1 a;intro α s k z e;exact l.ok α s k z (xT d l b e)
def sb (c:AC) (m:Nat):AC:=getS (subs c) m
def F4:AC->Bool
 | .loop _=>true
 | _=>false
theorem Dj:∀{c:AC},F4 c=true->c=.loop c.body
 | .loop _,_=>rfl
def cb {nt:Nat} (E:List (FE P)) (L:List (LP P nt)) (m:Nat) (ac:AC) (c:Bool) (p:PSt) (b:List Fix) (outs:List PX) {F:Type} (a:F) (n:Nat) (d:F=(Tup p.lv->Option (Tup p.lv⊕SumX outs)):=by kernel_rfl)
  (h:(F4 ac&&eD (L.map LP.m),subs ac.body,λx=>p.embK x λs=>run P (E.map FE.e) (L.map LP.s) nt ac.body s (vE c p b outs))=(true,L.map LP.key,cast d a):=by kernel_rfl):LP P nt:=
 ⟨ac,subE m (p.enter c b) (λx=>aw (cast d a) n x) (λα=>FN α outs),λs=>isS (p.enter c b s),λα st k z e=>by
  simp only [bX,av] at h;obtain ⟨⟨j,o⟩,g,l⟩:=h;rw [Dj j];exact Dc (m:=m) (f:=λx=>aw (cast d a) n x) (out:=outX outs) (λα=>uc α outs) (emb:=p.emb) (λs x q=>PSt.enter_ok q) (λx y i=>
   HG (FE.oks E) (vr o g) (emb:=p.emb) (λex s x=>Bg) (λex s y=>DD) (λx=>(p.embK_eq x _).symm.trans (congrFun l x)) n x y i) e⟩
def lj (l:List Nat):AC->Nat->AC×Nat
 | .seq a b,i=>match lj l a i with
  | (a,i)=>match lj l b i with
   | (b,i)=>(.seq a b,i)
 | .cond c a b,i=>match lj l a (i+1) with
  | (a,j)=>match lj l b j with
   | (b,j)=>(cond (l.any (Nat.beq i)) (.sub (1000+i) (.cond c a b)) (.cond c a b),j)
 | .block id a,i=>match lj l a (i+1) with
  | (a,j)=>(cond (l.any (Nat.beq i)) (.sub (1000+i) (.block id a)) (.block id a),j)
 | .loop a,i=>match lj l a i with
  | (a,j)=>(.loop a,j)
 | .scope a,i=>match lj l a i with
  | (a,j)=>(.scope a,j)
 | .sub m a,i=>match lj l a i with
  | (a,j)=>(.sub m a,j)
 | .reg id ops,i=>(cond (l.any (Nat.beq i)) (.sub (1000+i) (.reg id ops)) (.reg id ops),i+1)
 | .draw id ops,i=>(cond (l.any (Nat.beq i)) (.sub (1000+i) (.draw id ops)) (.draw id ops),i+1)
 | c,i=>(c,i)
theorem nR {b:Bool} {m:Nat} {c:AC}:(cond b (AC.sub m c) c).code=c.code:=by cases b<;>rfl
theorem e7 (l:List Nat):∀(c:AC) (i:Nat),(lj l c i).1.code=c.code
 | .seq a b,i=>by simp only [lj,AC.code,e7 l a,e7 l b]
 | .cond c a b,i=>by simp only [lj,nR,AC.code,e7 l a,e7 l b]
 | .block id a,i=>by simp only [lj,nR,AC.code,e7 l a]
 | .loop a,i=>by simp only [lj,AC.code,e7 l a]
 | .scope a,i=>by simp only [lj,AC.code,e7 l a]
 | .sub m a,i=>by simp only [lj,AC.code,e7 l a]
 | .reg id ops,i=>by simp only [lj,nR]
 | .draw id ops,i=>by simp only [lj,nR]
 | .skip,_ | .ret,_ | .exit _,_ | .bad _,_ | .label _,_=>rfl
def acM (u:List Nat):List Nat->Func->AC
 | [],f=>acU u f
 | a::m,f=>(lj (a::m) (acU u f) 0).1
theorem uo (u m:List Nat) (f:Func):(acM u m f).code=pi f:=by
 cases m with
 | nil=>exact yX u f
 | cons a m=>exact (e7 _ _ _).trans (yX u f)
def pB {nt:Nat} (E:List (FE P)) (L:List (LP P nt)) (m:Nat) (ac:AC) (g:Bool) (p:PSt) (outs:List PX) {F:Type} (b:F) (i:F=Cur p.lv (Option (SumX outs)):=by kernel_rfl)
  (h:(eD (L.map LP.m),subs ac,λx=>p.embK x λs=>run P (E.map FE.e) (L.map LP.s) nt ac s (Dh g outs))=(true,L.map LP.key,λx=>tC p.lv (cast i b) x):=by kernel_rfl):LP P nt:=
 ⟨ac,subE m (p.enter g []) (λx=>tC p.lv (cast i b) x) (λα=>FN α outs),λs=>isS (p.enter g [] s),λα st k z e=>by
  simp only [bX] at h;obtain ⟨D,v,r⟩:=h;refine Dc (m:=m) (f:=λx=>tC p.lv (cast i b) x) (out:=outX outs) (λα=>uc α outs) (emb:=p.emb) (λs x d=>PSt.enter_ok d) (λx y l=>?_) e;intro ι0 w0 ι a w G;have d:=(p.embK_eq x _).symm.trans (congrFun r x);refine om ?_ (ko (FE.oks E) ac _ _ y (vr D v) (d.trans l) ι0 w0 ι a w G);rintro I J w' ⟨ex,C,u,o,n,t⟩;obtain ⟨H,B,j⟩:=tR outs ex C y t;obtain ⟨c,q,A⟩:=B.post n o j;exact ⟨ex,_,c,q,A,H,rfl⟩⟩
mutual
def PV.flat:PV->Bool
 | .b | .bd | .i _ | .s | .sk _ | .bk _ | .ik _ _ | .pn | .sn | .nf | .ni | .ai _ _ | .unk=>true
 | .p _ _ | .sl _ _ _ _ | .pr _ _ _ _ | .ws _ | .mp _ | .rs _ _ _ _ _=>false
 | .fn _ l | .ag l | .tp l=>PV.flats l
 | .it _ v=>PV.flat v
def PV.flats:List PV->Bool
 | []=>true
 | v::l=>PV.flat v&&PV.flats l
end
mutual
theorem PV.flat_ok:∀(p:PV) (r:List Ty) (x:HL (p.lv r)),p.flat=true->V.flat (p.val r x)=true
 | .b,_,_,_ | .bd,_,_,_ | .i _,_,_,_ | .s,_,_,_ | .sk _,_,_,_ | .bk _,_,_,_ | .ik _ _,_,_,_ | .pn,_,_,_ | .sn,_,_,_ | .nf,_,_,_ | .ni,_,_,_ | .ai _ _,_,_,_ | .unk,_,_,_=>rfl
 | .p _ _,_,_,h | .sl _ _ _ _,_,_,h | .pr _ _ _ _,_,_,h | .ws _,_,_,h | .mp _,_,_,h | .rs _ _ _ _ _,_,_,h=>by cases h
 | .fn _ l,r,x,h | .ag l,r,x,h | .tp l,r,x,h=>PV.flats_ok l r x h
 | .it _ v,r,x,h=>PV.flat_ok v r x h
theorem PV.flats_ok:∀(l:List PV) (r:List Ty) (x:HL (PV.lvs l r)),PV.flats l=true->V.flats (PV.vals l r x)=true
 | [],_,_,_=>rfl
 | v::l,r,x,h=>by
  simp only [PV.flats,av] at h;simp only [PV.vals,V.flats,av];exact ⟨PV.flat_ok v _ x h.1,PV.flats_ok l r _ h.2⟩
end
@[reducible] def lvP (as:List PV):List Ty:=PV.lvs as []
@[reducible] def lvR (r:PV):List Ty:=r.lv []
def argP (as:List PV) (a:Tup (lvP as)):List V:=PV.vals as [] (toHL _ a)
def encP (r:PV) (y:Tup (lvR r)):V:=r.val [] (toHL _ y)
def argK {β:Type} (as:List PV) (a:Tup (lvP as)) (k:List V->β):β:=PV.encsK as [] (toHL _ a) λl _=>k l
theorem If {β:Type} (as:List PV) (a:Tup (lvP as)) (k:List V->β):argK as a k=k (argP as a):=PV.encsK_eq as [] _ _
def ID {β:Type} (r:PV) (y:Tup (lvR r)) (k:V->β):β:=r.encK [] (toHL _ y) λv _=>k v
theorem D2 {β:Type} (r:PV) (y:Tup (lvR r)) (k:V->β):ID r y k=k (encP r y):=PV.encK_eq r [] _ _
def unP (as:List PV) (l:List V):Option (Tup (lvP as)):=match PV.decs id as [] l () with
 | some h=>some (ofHL _ h)
 | none=>none
def unR (r:PV) (v:V):Option (Tup (lvR r)):=match r.dec id [] v () with
 | some h=>some (ofHL _ h)
 | none=>none
theorem Jx (as:List PV) (l:List V) (a:Tup (lvP as)) (e:unP as l=some a):l=argP as a:=by
 unfold unP at e;split at e
 ·rename_i h b;obtain rfl:=aN e;obtain ⟨c,_⟩:=PV.decs_ok id as [] l () h b;unfold argP;rw [jv,c,V.renFs_id]
 ·exact no' e
theorem I8 (r:PV) (v:V) (y:Tup (lvR r)) (e:unR r v=some y):v=encP r y:=by
 unfold unR at e;split at e
 ·rename_i h a;obtain rfl:=aN e;obtain ⟨b,_⟩:=PV.dec_ok id r [] v () h a;unfold encP;rw [jv,b,V.renF_id]
 ·exact no' e
theorem n6:∀(l:List PV) (r:List Ty) (x:HL (PV.lvs l r)),(PV.vals l r x).length=l.length
 | [],_,_=>rfl
 | v::l,r,x=>by simp only [PV.vals,ci,n6 l r]
structure PF (P:Program) (f:Nat) (as:List PV) (r:PV) where
 sh:Tup (lvP as)->Option (Tup (lvR r))
 hc:gx P f
 fl:PV.flats as=true
 ok:∀a y,sh a=some y->f7 P f (argP as a) (encP r y)
def AB (f:Nat) (as:List PV) (r:PV) (sh:Tup (lvP as)->Option (Tup (lvR r))):Ent:=
 ⟨f,λ_ args _ _ k=>ob (unP as args) λa=>ob (sh a) λy=>ID r y λv=>k { val:=v }⟩
theorem AM (f:Nat) (as:List PV) (r:PV) (sh:Tup (lvP as)->Option (Tup (lvR r))):AB f as r sh=u1 f (unP as) sh (encP r):=by
 simp only [AB,u1,D2]
def PF.e {f:Nat} {as:List PV} {r:PV} (c:PF P f as r):FE P:=
 ⟨AB f as r c.sh,by rw [AM];exact oe c.hc (Jx as) (λa=>PV.flats_ok as [] _ c.fl) c.ok,λl _=>isS (unP as l)⟩
def aB {f:Nat} {as:List PV} {r:PV} {fn:Func} (p:P.funcs[f]?=some fn) (hc:gx P f) (E:List (FE P)) (L:List (LP P fn.ntmps)) (d mk:List Nat) {F:Type} (b:F) (i:F=Cur (lvP as) (Option (Tup (lvR r))):=by kernel_rfl)
  (h:(PV.flats as&&(Nat.ble as.length fn.ntmps&&(fn.body.isSome&&eD (L.map LP.m))),subs (acM d mk fn),λa=>argK as a λl=>run P (E.map FE.e) (L.map LP.s) fn.ntmps (acM d mk fn) ⟨ng l 0,[],0,0,0,0⟩ (finK P fn.results.toList (retX (unR r)))) =
   (true,L.map LP.key,λa=>tC (lvP as) (cast i b) a):=by kernel_rfl):PF P f as r:=
 ⟨λa=>tC (lvP as) (cast i b) a,hc,by simp only [bX,av] at h;exact h.1.1,λa y e=>by
  simp only [bX,av] at h;obtain ⟨⟨u,q,j,o⟩,n,k⟩:=h;have t:(argP as a).length=as.length:=n6 as [] _;obtain ⟨c,g⟩:=tD.1 j;refine FP (I8 r) (FE.oks E) p g ((uo d mk fn).trans (by unfold pi;rw [g])) (vr o n) (by rw [t];exact q) ((If as a _).symm.trans ((congrFun k a).trans e))⟩
structure PO where
 v:PV
 H:List (Nat×PB):=[]
 news:List Nat:=[]
 pan:Bool:=false
@[reducible] def PO.lv (o:PO):List Ty:=o.v.lv (lvH o.H [])
def PO.fo (o:PO) (x:HL o.lv):FOut:=⟨o.pan,o.v.val _ x,valH o.H [] (o.v.rest _ x),o.news⟩
def PO.foK {β:Type} (o:PO) (x:HL o.lv) (k:FOut->β):β:=o.v.encK _ x λv x=>AD o.H [] x λH _=>k ⟨o.pan,v,H,o.news⟩
theorem PO.foK_eq {β:Type} (o:PO) (x:HL o.lv) (k:FOut->β):o.foK x k=k (o.fo x):=(PV.encK_eq _ _ _ _).trans (pP _ _ _ _)
def PO.dec (m:Nat) (o:PO) (pan:Bool) (v:V) (H:List (Nat×Blk)) (A:List Nat):Option (HL o.lv):=
 match (cond o.pan pan (!pan))&&Nat.beq o.news.length A.length with
 | true=>match decH (rhoN m A) o.H [] H () with
  | some h=>o.v.dec (rhoN m A) _ v h
  | none=>none
 | false=>none
theorem PO.dec_ok {m:Nat} {o:PO} {pan:Bool} {v:V} {H:List (Nat×Blk)} {A:List Nat} {x:HL o.lv} (e:o.dec m pan v H A=some x):
  (o.fo x).pan=pan/\(o.fo x).news.length=A.length/\v=V.ren (upTo 0 m++A) (o.fo x).val/\H=renH (upTo 0 m++A) (o.fo x).H:=by
 unfold PO.dec at e;split at e
 case h_2=>exact no' e
 rename_i C;simp only [av] at C;split at e
 case h_2=>exact no' e
 rename_i h J;obtain ⟨E,G⟩:=PV.dec_ok _ _ _ _ _ _ e;obtain ⟨F,_⟩:=DI _ _ _ _ _ _ J;subst G;unfold rhoN at E F;rw [V.renF_ren] at E;rw [wd] at F;refine ⟨?_,aS C.2,E,F⟩;have:=C.1;show o.pan=pan;revert this;cases o.pan<;>cases pan<;>simp
def PO.chk (m ro:Nat) (o:PO):Bool:=
 o.v.lt (m+o.news.length)&&(o.H.all (λp=>Nat.blt p.1 (m+o.news.length)&&p.2.lt (m+o.news.length))&&(upTo ro (m - ro+o.news.length)).all λb=>(o.H.map (·.1)).any (Nat.beq b))
def FOut.good (m ro:Nat) (o:FOut):Prop:=V.lt (m+o.news.length) o.val=true/\chkH (m+o.news.length) o.H=true/\∀b,ro<=b->b<m+o.news.length->b∈keys o.H
theorem PO.good {m ro:Nat} {o:PO} (h:o.chk m ro=true) (x:HL o.lv):(o.fo x).good m ro:=by
 unfold PO.chk at h;simp only [av] at h;obtain ⟨F,G,E⟩:=h;refine ⟨PV.lt_ok _ _ _ F,pU _ _ _ G,λb C A=>?_⟩;have A:b<m+o.news.length:=A;show b∈keys (valH o.H [] _);rw [re];rw [bz] at E;have:=E b (iU.2 ⟨C,by omega⟩);obtain ⟨c,hc,e⟩:=mC.1 this;rw [aS e];exact hc
@[reducible] def SumO:List PO->Type
 | []=>Unit
 | [a]=>Tup a.lv
 | a::b::l=>Tup a.lv⊕SumO (b::l)
def BM (m ro:Nat):FOut:=⟨false,.b true,(upTo ro (m - ro)).map λb=>(b,.dead),[]⟩
def outO (m ro:Nat):(l:List PO)->SumO l->FOut
 | [],_=>BM m ro
 | [a],y=>a.fo (toHL _ y)
 | a::b::l,y=>Sum.casesOn (motive:=λ_=>FOut) y (λu=>a.fo (toHL _ u)) (λv=>outO m ro (b::l) v)
def H5 (m ro:Nat) (α:Type):(l:List PO)->SumO l->(FOut->Option α)->Option α
 | [],_,k=>k (BM m ro)
 | [a],y,k=>a.foK (toHL _ y) k
 | a::b::l,y,k=>Sum.casesOn (motive:=λ_=>Option α) y (λu=>a.foK (toHL _ u) k) (λv=>H5 m ro α (b::l) v k)
theorem y6 (m ro:Nat) (α:Type):∀(l:List PO) (y:SumO l) (k:FOut->Option α),H5 m ro α l y k=k (outO m ro l y)
 | [],_,_=>rfl
 | [a],y,k=>a.foK_eq _ k
 | a::b::l,.inl u,k=>a.foK_eq _ k
 | a::b::l,.inr v,k=>y6 m ro α (b::l) v k
def unO (m:Nat):(l:List PO)->Bool->V->List (Nat×Blk)->List Nat->Option (SumO l)
 | [],_,_,_,_=>none
 | [a],pan,v,H,c=>match a.dec m pan v H c with
  | some h=>some (ofHL _ h)
  | none=>none
 | a::b::l,pan,v,H,c=>match a.dec m pan v H c with
  | some h=>some (.inl (ofHL _ h))
  | none=>match unO m (b::l) pan v H c with
   | some y=>some (.inr y)
   | none=>none
theorem F6 (m ro:Nat):∀(l:List PO) (pan:Bool) (v:V) (H:List (Nat×Blk)) (c:List Nat) (y:SumO l),unO m l pan v H c=some y->
  (outO m ro l y).pan=pan/\(outO m ro l y).news.length=c.length/\v=V.ren (upTo 0 m++c) (outO m ro l y).val/\H=renH (upTo 0 m++c) (outO m ro l y).H
 | [],_,_,_,_,_,e=>no' e
 | [a],pan,v,H,c,y,e=>by
  simp only [unO] at e;split at e
  ·rename_i h d;obtain rfl:=aN e;have:=PO.dec_ok d;simp only [outO,jv];exact this
  ·exact no' e
 | a::b::l,pan,v,H,c,y,e=>by
  simp only [unO] at e;split at e
  ·rename_i h d;obtain rfl:=aN e;have:=PO.dec_ok d;simp only [outO,jv];exact this
  ·split at e
   ·rename_i z d;obtain rfl:=aN e;exact F6 m ro (b::l) pan v H c z d
   ·exact no' e
theorem rA {m ro:Nat} (c:ro<=m):∀{l:List PO},(l.all (PO.chk m ro))=true->∀y:SumO l,(outO m ro l y).good m ro
 | [],_,_=>by
  refine ⟨rfl,?_,λb f d=>?_⟩
  ·simp only [outO,BM,chkH,List.all_map,bz,Function.comp,av];intro b e;have:=(iU.1 e).2;exact ⟨cZ (by simp only [jC];omega),rfl⟩
  ·simp only [outO,BM,jC] at d;simp only [outO,BM,keys,uX,eC,Function.comp];exact ⟨b,iU.2 ⟨f,by omega⟩,rfl⟩
 | [a],h,y=>by
  simp only [kg,av] at h;exact PO.good h.1 _
 | a::b::l,h,.inl u=>by
  simp only [kg,av] at h;exact PO.good h.1 _
 | a::b::l,h,.inr v=>by
  rw [kg,av] at h;exact rA c h.2 v
def zipH:Nat->List PB->List (Nat×PB)
 | _,[]=>[]
 | j,p::l=>(j,p)::zipH (j+1) l
@[reducible] def lvF (as:List PV) (HP:List PB):List Ty:=PV.lvs as (lvH (zipH 0 HP) [])
def argF (as:List PV) (HP:List PB) (a:Tup (lvF as HP)):List V:=PV.vals as _ (toHL _ a)
def memF (as:List PV) (HP:List PB) (a:Tup (lvF as HP)):List (Nat×Blk):=valH (zipH 0 HP) [] (PV.rests as _ (toHL _ a))
def entK {β:Type} (as:List PV) (HP:List PB) (a:Tup (lvF as HP)) (k:List V->List (Nat×Blk)->β):β:=PV.encsK as _ (toHL _ a) λl x=>AD (zipH 0 HP) [] x λH _=>k l H
theorem BC {β:Type} (as:List PV) (HP:List PB) (a:Tup (lvF as HP)) (k:List V->List (Nat×Blk)->β):entK as HP a k=k (argF as HP a) (memF as HP a):=(PV.encsK_eq _ _ _ _).trans (pP _ _ _ _)
def addB (b c:Nat) (a:List (Nat×Nat)):List (Nat×Nat):=match look a b with
 | some _=>a
 | none=>(b,c)::a
mutual
def PV.bind:PV->V->List (Nat×Nat)->List (Nat×Nat)
 | .p c _,.p A _,a=>addB c A a
 | .sl c _ _ _,.sl A _ _ _,a=>addB c A a
 | .pr _ c _ _,.pr _ A _ _,a=>addB c A a
 | .ws c,.ws A,a=>addB c A a
 | .mp c,.mp A,a=>addB c A a
 | .rs _ c _ _ _,.rs _ A _ _ _,a=>addB c A a
 | .fn _ l,.fn _ m,a=>PV.binds l m a
 | .ag l,.ag m,a=>PV.binds l m a
 | .tp l,.tp m,a=>PV.binds l m a
 | .it _ v,.it _ u,a=>PV.bind v u a
 | _,_,a=>a
def PV.binds:List PV->List V->List (Nat×Nat)->List (Nat×Nat)
 | y::l,v::m,a=>PV.binds l m (PV.bind y v a)
 | _,_,a=>a
end
def PB.bind:PB->Blk->List (Nat×Nat)->List (Nat×Nat)
 | .cells l,.cells m,a=>PV.binds l m a
 | _,_,a=>a
def CE (HP:List PB) (H:List (Nat×Blk)):List Nat->List (Nat×Nat)->List (Nat×Nat)
 | [],a=>a
 | b::o,a=>match look a b with
  | some c=>match HP[b]?,look H c with
   | some p,some blk=>CE HP H o (p.bind blk a)
   | _,_=>CE HP H o a
  | none=>CE HP H o a
def I9 (m:Nat) (a:List (Nat×Nat)):List Nat:=(upTo 0 m).map λb=>match look a b with
 | some c=>c
 | none=>0
def unFr (as:List PV) (HP:List PB) (l:List V) (H:List (Nat×Blk)) (ρ:List Nat):Option (Tup (lvF as HP)×List Nat):=
 match eD ρ&&Nat.beq ρ.length HP.length with
 | true=>match decL (getN ρ) H (zipH 0 HP) [] () with
  | some h=>match PV.decs (getN ρ) as _ l h with
   | some h=>some (ofHL _ h,ρ)
   | none=>none
  | none=>none
 | false=>none
def unF (ord:List Nat) (as:List PV) (HP:List PB) (l:List V) (H:List (Nat×Blk)):Option (Tup (lvF as HP)×List Nat):=
 unFr as HP l H (I9 HP.length (CE HP H ord (PV.binds as l [])))
theorem JI (ord:List Nat) (as:List PV) (HP:List PB) (l:List V) (H:List (Nat×Blk)) (a:Tup (lvF as HP)) (ρ:List Nat) (e:unF ord as HP l H=some (a,ρ)):
  ρ.length=HP.length/\ρ.Nodup/\l=V.rens ρ (argF as HP a)/\∀b blk,look (memF as HP a) b=some blk->look H (getN ρ b)=some (blk.ren ρ):=by
 unfold unF at e;generalize I9 HP.length (CE HP H ord (PV.binds as l []))=n at e;unfold unFr at e;split at e
 case h_2=>exact no' e
 rename_i c;simp only [av] at c;split at e
 case h_2=>exact no' e
 rename_i g f;split at e
 case h_2=>exact no' e
 rename_i h i;simp only [ae,bX] at e;obtain ⟨rfl,rfl⟩:=e;obtain ⟨k,d⟩:=PV.decs_ok _ _ _ _ _ _ i;obtain ⟨m,_⟩:=wL _ _ _ _ _ _ f;subst d;unfold argF memF;rw [jv];refine ⟨aS c.2,ky c.1,by rw [<-V.renFs_ren];exact k,λb blk j=>?_⟩;have:=sG m b blk j;rw [this,Blk.renF_ren]
theorem yx:∀(j:Nat) (l:List PB),(zipH j l).map (·.1)=upTo j l.length
 | _,[]=>rfl
 | j,_::l=>by simp only [zipH,fU,ci,upTo,yx (j+1) l]
theorem ux (Q:PB->Bool):∀(j:Nat) (l:List PB),l.all Q=true->∀p∈zipH j l,Q p.2=true/\j<=p.1/\p.1<j+l.length
 | _,[],_,p,a=>by simp [zipH] at a
 | j,q::l,h,p,a=>by
  simp only [kg,av] at h;simp only [zipH,cY] at a;simp only [ci];rcases a with rfl | a
  ·exact ⟨h.1,aL _,by simp only;omega⟩
  ·obtain ⟨b,d,c⟩:=ux Q (j+1) l h.2 p a;exact ⟨b,by omega,by omega⟩
theorem yq {H:List (Nat×Blk)}:∀{m:Nat},(∀b,b<m->∃blk,look H b=some blk/\blk≠.dead)->uk H m=true
 | 0,_=>rfl
 | m+1,h=>by
  simp only [uk,av];refine ⟨?_,yq λb d=>h b (by omega)⟩;obtain ⟨blk,c,a⟩:=h m (by omega);rw [c];cases blk<;>first | exact absurd rfl a | rfl
theorem wm:∀(l:List (Nat×PB)) (r:List Ty) (x:HL (lvH l r)),(∀p∈l,p.2.isDead=false)->∀b blk,look (valH l r x) b=some blk->blk≠.dead
 | [],_,_,_,b,blk,h=>by cases h
 | (c,p)::l,r,x,a,b,blk,h=>by
  simp only [valH,aF] at h;split at h
  ·cases h;exact PB.dead_ok p _ x (a (c,p) A8)
  ·exact wm l r _ (λq d=>a q (iL _ d)) b blk h
def chkF (as:List PV) (HP:List PB) (ro rb:Nat) (outs:List PO):Bool:=
 Nat.ble ro rb&&(Nat.ble ro HP.length&&(PV.lts HP.length as&&(HP.all (λp=>p.lt HP.length&&!p.isDead)&&outs.all (PO.chk HP.length ro))))
theorem xL {as:List PV} {HP:List PB} (h:HP.all (λp=>p.lt HP.length&&!p.isDead)=true) (a:Tup (lvF as HP)):uk (memF as HP a) HP.length=true:=by
 have d:=ux _ 0 HP h;refine yq λb g=>?_;have e:b∈(memF as HP a).map (·.1):=by
  have:=re (zipH 0 HP) [] (PV.rests as _ (toHL _ a));simp only [keys] at this;unfold memF;rw [this,yx];exact iU.2 ⟨mQ _,by omega⟩
 obtain ⟨blk,c⟩:=md e;exact ⟨blk,c,wm _ _ _ (λp f=>by have:=(d p f).1;simp only [av,kj] at this;exact this.2) b blk c⟩
theorem EJ {as:List PV} {HP:List PB} (h:HP.all (λp=>p.lt HP.length&&!p.isDead)=true) (a:Tup (lvF as HP)):chkH HP.length (memF as HP a)=true:=by
 refine pU _ _ _ ?_;rw [bz];intro p b;have:=ux _ 0 HP h p b;simp only [av] at this ⊢;exact ⟨cZ (by omega),this.1.1⟩
structure FF (P:Program) (f:Nat) (as:List PV) (HP:List PB) (ro rb:Nat) (outs:List PO) where
 sh:Tup (lvF as HP)->Option (SumO outs)
 ord:List Nat
 hc:gx P f
 chk:chkF as HP ro rb outs=true
 ok:∀a y,sh a=some y->zH P f (argF as HP a) (memF as HP a) HP.length ro rb (outO HP.length ro outs y)
def FF.e {f:Nat} {as:List PV} {HP:List PB} {ro rb:Nat} {outs:List PO} (c:FF P f as HP ro rb outs):FE P:=
 ⟨funE f rb (unF c.ord as HP) c.sh (λα=>H5 HP.length ro α outs),by
  have h:=c.chk;unfold chkF at h;simp only [av] at h;obtain ⟨G,M,F,E,J⟩:=h;have A:=ax M;have C:=rA (m:=HP.length) A J;refine H8 (m:=HP.length) (ro:=ro) (arg:=argF as HP) (H0:=memF as HP) (out:=outO HP.length ro outs) c.hc (ax G) A (λα=>y6 HP.length ro α outs) (JI c.ord as HP)
   (λa=>PV.lts_ok as _ _ F) (λa=>lF (EJ E a)) (xL E) (λr=>vo (C r).2.1) (λr b blk h=>(lF (C r).2.1 b blk h).2) (λr b K O=>(C r).2.2 b K O) (λr=>(C r).1) c.ok,
  λl H=>isS (unF c.ord as HP l H)⟩
theorem Ix {f:Nat} {as:List PV} {HP:List PB} {ro rb:Nat} {outs:List PO} (c:chkF as HP ro rb outs=true) {a:Tup (lvF as HP)} {y:SumO outs}
  (h:tP P f (argF as HP a) (memF as HP a) HP.length ro (funX (upTo ro (HP.length - ro)) HP.length ro rb (unO HP.length outs)) y):zH P f (argF as HP a) (memF as HP a) HP.length ro rb (outO HP.length ro outs y):=by
 unfold chkF at c;simp only [av] at c;obtain ⟨n,k,l,i,g⟩:=c;have d:=ax k;have e:=rA (m:=HP.length) d g;exact HS (ws:=upTo ro (HP.length - ro)) (λpan v H j r=>F6 HP.length ro outs pan v H j r) (λr=>(e r).1) (λr b blk h=>(lF (e r).2.1 b blk h).2) (λr=>vo (e r).2.1) d (xL i a) h
def funC {f:Nat} {as:List PV} {HP:List PB} {ro rb:Nat} {outs:List PO} {fn:Func} (v:P.funcs[f]?=some fn) (hc:gx P f) (E:List (FE P)) (L:List (LP P fn.ntmps)) (g mk ord:List Nat) {F:Type} (b:F) (k:F=Cur (lvF as HP) (Option (SumO outs)):=by kernel_rfl)
  (h:(chkF as HP ro rb outs&&(Nat.ble as.length fn.ntmps&&(fn.body.isSome&&eD (L.map LP.m))),subs (acM g mk fn),λa=>entK as HP a λl M=>run P (E.map FE.e) (L.map LP.s) fn.ntmps (acM g mk fn) ⟨ng l 0,M,HP.length,HP.length,ro,rb⟩
   (finK P fn.results.toList (funX (upTo ro (HP.length - ro)) HP.length ro rb (unO HP.length outs))))=(true,L.map LP.key,λa=>tC (lvF as HP) (cast k b) a):=by kernel_rfl):FF P f as HP ro rb outs:=
 ⟨λa=>tC (lvF as HP) (cast k b) a,ord,hc,by simp only [bX,av] at h;exact h.1.1,λa y e=>by
  simp only [bX,av] at h;obtain ⟨⟨p,x,n,u⟩,t,q⟩:=h;have z:(argF as HP a).length=as.length:=n6 as _ _;obtain ⟨c,j⟩:=tD.1 n;exact Ix p λι0 w o r d i A=>Dp (FE.oks E) v j ((uo g mk fn).trans (by unfold pi;rw [j])) (vr u t) (by rw [z];exact x) ((BC as HP a _).symm.trans ((congrFun q a).trans e)) ι0 w o r d i A⟩
structure Dfr where
 ac:AC
 k:Nat
 idD:Nat
 idR:Nat
 t:Nat
 gid:Nat
 tr:Nat
def Dfr.ops (D:Dfr):List Oper:=GB (fQ D.k D.ac)
def Dfr.o1 (D:Dfr):Oper:=getO D.ops 0
def Dfr.oD (D:Dfr):Oper:=getO D.ops 1
def Dfr.acB (D:Dfr):AC:=fQ (D.k+1) D.ac
def oRof (c:AC):Oper:=getO (GB c) 0
def funD {f:Nat} {as:List PV} {HP:List PB} {ro rb:Nat} {outs:List PO} {fn b:Func} (D:Dfr) (A:P.funcs[f]?=some fn) (hc:gx P f) (n:P.funcs[D.gid]?=some b) (j:gx P D.gid) (E:List (FE P)) (L:List (LP P fn.ntmps)) (i mk ord:List Nat) {F:Type} (g:F) (u:F=Cur (lvF as HP) (Option (SumO outs)))
  (r:(D.ac,fQ D.k D.ac,D.o1.guard,D.oD.guard,D.oD.op,D.oD.dst)=(acM i mk fn,AC.seq (.reg D.idD [D.o1,D.oD]) D.acB,none,none,.defer ⟨.value (.tmp D.t),#[],#[]⟩,none))
  (q:(fQ 0 (acOf b),(oRof (acOf b)).op,(oRof (acOf b)).guard,(oRof (acOf b)).dst,b.results,subs (acOf b),b.body.isSome)=(AC.seq (.reg D.idR [oRof (acOf b)]) (fQ 1 (acOf b)),.call ⟨.builtin .recover,#[],#[]⟩,none,some D.tr,#[],[],true))
  (h:(chkF as HP ro rb outs&&(Nat.ble as.length fn.ntmps&&(fn.body.isSome&&eD (L.map LP.m))),subs (acM i mk fn),λa=>entK as HP a λl M=>Ht P (E.map FE.e) (L.map LP.s) fn.ntmps (lg D.k D.ac) D.o1 (.tmp D.t) D.gid D.acB [] [] b.ntmps (fQ 1 (acOf b)) D.tr fn.results.toList
   (funX (upTo ro (HP.length - ro)) HP.length ro rb (unO HP.length outs)) ⟨ng l 0,M,HP.length,HP.length,ro,rb⟩)=(true,L.map LP.key,λa=>tC (lvF as HP) (cast u g) a)):FF P f as HP ro rb outs:=
 ⟨λa=>tC (lvF as HP) (cast u g) a,ord,hc,by simp only [bX,av] at h;exact h.1.1,λa y e=>by
  simp only [bX,av] at h r q;obtain ⟨⟨R,J,C,I⟩,S,z⟩:=h;obtain ⟨d0,w,N,B,d4,G⟩:=r;obtain ⟨v,K,H,c4,c5,c6,c7⟩:=q;have O:(argF as HP a).length=as.length:=n6 as _ _;obtain ⟨c,o⟩:=tD.1 C;obtain ⟨U,d⟩:=tD.1 c7
  refine Ix R (Bh (FE.oks E) (k:=D.k) (idD:=D.idD) (o1:=D.o1) (oD:=D.oD) (acB:=D.acB) (ac:=D.ac) (idR:=D.idR) (oR:=oRof (acOf b)) (EC:=[]) A o (by rw [d0];exact (uo i mk fn).trans (by unfold pi;rw [o])) w
   (by rw [d0];exact vr I S) N B d4 G (λx T=>by cases T) n d ((vd b).trans (by unfold pi;rw [d])) v K H c4 c5 (iR _ (by rw [c6];intro p Q;cases Q)) j (by rw [O];exact J) ((BC as HP a _).symm.trans ((congrFun z a).trans e)))⟩
def libF {x:Ent} (h:cD P x):FE P:=⟨x,h,λ_ _=>true⟩
end Go.Abs
