
import Derived.Test.YtadejcglcffgbaaGreatDoorAbsE
import Derived.Laws.Slices
set_option linter.unusedSimpArgs false
set_option linter.unusedVariables false
set_option linter.defProp false
namespace Go.Abs
variable {P:Program}
inductive NextR(ι:Inj)(v:Option V):Next->Prop
 | skip (h:v=none):NextR ι v .skip
 | value (x:Value) (h:∀u,v=some u->VR ι u x):NextR ι v (.value x)
def gR(P:Program)(ι:Inj)(f:Nat)(o:Oper)(a:Act)(w:World)(e:Eff):Prop:=
 match e.wr with
 | none=>∃x,(execOp a.eval o).run P w=.ok x w/\NextR ι e.val x
 | some (b,blk)=>match e.new with
  | false=>∃q,ι b=some (some q)/\(q.fz=false->∃ob x,(execOp a.eval o).run P w=.ok x (setObj w q.r ob)/\BR ι q blk ob/\NextR ι e.val x)
  | true=>b=f/\∃d q ob x,(execOp a.eval o).run P w=.ok x ((World.alloc { w with drawn:=d } ob))/\q.r=w.heap.size/\q.fz=false/\BR (upd ι f (some q)) q blk ob/\NextR (upd ι f (some q)) e.val x
def gR.val{ι:Inj}{f:Nat}{o:Oper}{a:Act}{w:World}{v:V}{x:Value}{rd:List Nat}(E:(execOp a.eval o).run P w=.ok (.value x) w)(C:VR ι v x):
  gR P ι f o a w { val:=some v,rd:=rd }:=by
 unfold gR;exact⟨_,E,.value x λu F=>by cases F;exact C⟩
def gR.mkR{ι:Inj}{f:Nat}{o:Oper}{a:Act}{w:World}{v:V}{x:Value}{rd:List Nat}{blk:Blk}{ob:Obj}{d:Nat}{q:Rf}(G:(execOp a.eval o).run P w=.ok (.value x) (World.alloc { w with drawn:=d } ob))
  (E:q.r=w.heap.size) (J:q.fz=false) (C:BR (upd ι f (some q)) q blk ob) (F:VR (upd ι f (some q)) v x):
  gR P ι f o a w { val:=some v,rd:=rd,wr:=some (f,blk),new:=true }:=by
 unfold gR;exact⟨rfl,d,q,ob,_,G,E,J,C,.value x λu O=>by cases O;exact F⟩
def gR.mk{ι:Inj}{f:Nat}{o:Oper}{a:Act}{w:World}{v:V}{x:Value}{rd:List Nat}{blk:Blk}{ob:Obj}(F:(execOp a.eval o).run P w=.ok (.value x) (w.alloc ob))
  (C:BR (upd ι f (some (Rf.of w.heap.size (0) (0)))) (Rf.of w.heap.size (0) (0)) blk ob) (E:VR (upd ι f (some (Rf.of w.heap.size (0) (0)))) v x):
  gR P ι f o a w { val:=some v,rd:=rd,wr:=some (f,blk),new:=true }:=.mkR (d:=w.drawn) F rfl rfl C E
def dJ(ι:Inj)(f:Nat)(r:Option Rf):upd ι f r f=some r:=by simp[upd]
def mh{op:BinOp}{t:TypeId}{x y:Operand}{a b:Value}(e:a≠.nilIface\/b≠.nilIface)(d:(∀c,a≠.agg c)\/(∀c,b≠.agg c))(w:World):
  (eqGuard op t x y a b).run P w=.ok () w:=by
 unfold eqGuard;cases op<;>simp<;>(cases a<;>cases b<;>simp_all)
def pX{t:TypeId}{X Y:Value}{b:Bool}{w:World}(p q:Operand)(d:X≠.nilIface\/Y≠.nilIface)(c:(∀a,X≠.agg a)\/(∀a,Y≠.agg a))
  (e:(∀k n,X≠.int k n)/\(∀s,X≠.string s)/\(∀k n,X≠.float k n)/\(∀k n m,X≠.complex k n m)) (h:(Op.equal t X Y).run P w=.ok b w):
  ((eqGuard .eql t p q X Y).run P w=.ok () w/\(binOp .eql t X Y).run P w=.ok (.bool b) w)/\
  ((eqGuard .neq t p q X Y).run P w=.ok () w/\(binOp .neq t X Y).run P w=.ok (.bool (!b)) w):=by
 obtain⟨a1,a2,g,f⟩:=e;refine⟨⟨mh d c w,?_⟩,mh d c w,?_⟩
 ·cases X<;>simp_all[binOp]
 ·cases X<;>simp_all[binOp]
def vc{t:TypeId}{c a:Array Value}{b:Bool}{w:World}(p q:Operand)(d:P.eqGuardType P.depth t=false)(h:(Op.equalIn 10000 t (.agg c) (.agg a)).run P w=.ok b w):
  ((eqGuard .eql t p q (.agg c) (.agg a)).run P w=.ok () w/\(binOp .eql t (.agg c) (.agg a)).run P w=.ok (.bool b) w)/\
  ((eqGuard .neq t p q (.agg c) (.agg a)).run P w=.ok () w/\(binOp .neq t (.agg c) (.agg a)).run P w=.ok (.bool (!b)) w):=by
 refine⟨⟨run_eqGuard_agg w _ t p q c a d,?_⟩,run_eqGuard_agg w _ t p q c a d,?_⟩
 ·rw[run_eql_struct,h];rfl
 ·rw[run_neq_struct,h];rfl
def fa(t:TypeId)(x y:Value):Op.equal t x y=Op.equalIn (9999+1) t x y:=rfl
def EO(P:Program)(d:Nat){e:TypeId}{k':IntKind}(l:P.underlying e=some (.int k'))(k:IntKind):∀(a b:List Int) (n j:Nat) (A B:List Int),A.drop j=a->B.drop j=b->
  a.length=n->b.length=n->eqAr (eqC P (d+1) e) 1 (A.map (V.i k)) (B.map (V.i k)) n j=some (a==b)
 | [],b,n,j,A,B,_,_,c,f=>by
  simp only[cE]at c;subst c;have:b=[]:=sZ f;subst this;simp[eqAr]
 | x::a,[],n,j,A,B,_,_,c,f=>by simp at c f;omega
 | x::a,y::b,0,j,A,B,_,_,c,f=>by simp at c
 | x::a,y::b,n+1,j,A,B,m,h,c,f=>by
  have r:A.drop (j+1)=a:=by rw[<-kK,m];rfl
  have o:B.drop (j+1)=b:=by rw[<-kK,h];rfl
  have ih:=EO P d l k a b n (j+1) A B r o (by simpa using c) (by simpa using f);have q:((A.map (V.i k)).drop (j*1)).take 1=[V.i k x]:=by
   rw[rI,<-List.map_drop,m];rfl
  have p:((B.map (V.i k)).drop (j*1)).take 1=[V.i k y]:=by
   rw[rI,<-List.map_drop,h];rfl
  have s:keq k k=true:=by cases k<;>rfl
  have g:eqC P (d+1) e [V.i k x] [V.i k y]=some (x==y):=by simp[eqC,l,s]
  simp only[eqAr,q,p,ih,g];congr 1
def M8{ι:Inj}{t:TypeId}{x y:V}{X Y:Value}{b:Bool}(h:eqlV P t x y=some b)(hx:VR ι x X)(hy:VR ι y Y)(p q:Operand)(w:World):
  ((eqGuard .eql t p q X Y).run P w=.ok () w/\(binOp .eql t X Y).run P w=.ok (.bool b) w)/\
  ((eqGuard .neq t p q X Y).run P w=.ok () w/\(binOp .neq t X Y).run P w=.ok (.bool (!b)) w):=by
 unfold eqlV at h;split at h
 ·rename_i d;split at h
  ·simp only[aq]at h;subst h;simp only[VR]at hx hy;subst hx hy;exact pX p q (.inl (by simp)) (.inl (by simp)) (by simp) (by rw[fa,Op.equalIn];simp[be d])
  ·cases h
 ·rename_i e d;split at h
  case h_4=>cases h
  all_goals
   simp only[aq]at h;subst h;simp only[VR]at hx hy
  ·subst hx hy;exact pX p q (.inl (by simp)) (.inl (by simp)) (by simp) (by rw[fa,Op.equalIn];simp[be d])
  ·obtain⟨r,_,rfl⟩:=hy;subst hx;exact pX p q (.inl (by simp)) (.inl (by simp)) (by simp) (by rw[fa,Op.equalIn];simp[be d])
  ·obtain⟨r,_,rfl⟩:=hx;subst hy;exact pX p q (.inl (by simp)) (.inl (by simp)) (by simp) (by rw[fa,Op.equalIn];simp[be d])
 ·rename_i e K B d;split at h
  case h_4=>cases h
  all_goals
   simp only[aq]at h;subst h;simp only[VR]at hx hy
  ·subst hx hy;exact pX p q (.inl (by simp)) (.inl (by simp)) (by simp) (by rw[fa,Op.equalIn];simp[be d])
  ·obtain⟨r,rfl,_⟩:=hy;obtain⟨H,D,G,u⟩:=AB _ r;rw[u];subst hx;exact pX p q (.inl (by simp)) (.inl (by simp)) (by simp) (by rw[fa,Op.equalIn];simp[be d])
  ·obtain⟨r,rfl,_⟩:=hx;obtain⟨H,D,G,u⟩:=AB _ r;rw[u];subst hy;exact pX p q (.inl (by simp)) (.inl (by simp)) (by simp) (by rw[fa,Op.equalIn];simp[be d])
 ·rename_i e d;split at h
  case h_4=>cases h
  all_goals
   simp only[aq]at h;subst h;simp only[VR]at hx hy
  ·subst hx hy;exact pX p q (.inl (by simp)) (.inl (by simp)) (by simp) (by rw[fa,Op.equalIn];simp[be d])
  ·obtain⟨r,c,_,_,_,rfl⟩:=hy;subst hx;exact pX p q (.inl (by simp)) (.inl (by simp)) (by simp) (by rw[fa,Op.equalIn];simp[be d])
  ·obtain⟨r,c,_,_,_,rfl⟩:=hx;subst hy;exact pX p q (.inl (by simp)) (.inl (by simp)) (by simp) (by rw[fa,Op.equalIn];simp[be d])
 ·rename_i e d;split at h
  case h_3=>cases h
  all_goals
   simp only[aq]at h;subst h;simp only[VR]at hx hy
  ·obtain⟨r,rfl,_⟩:=hy;subst hx;exact pX p q (.inr (by simp)) (.inl (by simp)) (by simp) (by rw[fa,Op.equalIn];simp[be d])
  ·obtain⟨r,rfl,_⟩:=hx;subst hy;exact pX p q (.inl (by simp)) (.inl (by simp)) (by simp) (by rw[fa,Op.equalIn];simp[be d])
 ·rename_i m e d;have g:∀X,nq P t X=.agg X:=λX=>by simp[nq,bY,d]
  split at h
  ·rename_i k n a k' L f;split at h
   ·rename_i j;simp only[aB,js]at j;obtain⟨A,C⟩:=j;have A:=la A;subst A C;split at h
    ·rename_i k2 I;split at h
     ·rename_i j;simp only[aB,js]at j;obtain⟨F,E⟩:=j;subst F;split at h
      ·cases h
      ·rename_i l;simp only[aq]at h;subst h;simp only[VR]at hx hy;obtain⟨o,rfl⟩:=hx;obtain⟨s,rfl⟩:=hy;refine vc p q l ?_;have:=H5 (P:=P) (ι:=ι) 3 9997 t (a.map (V.i k)) (f.map (V.i k)) (a==f) (a.map (Value.int k)).toArray (f.map (Value.int k)).toArray
        (by unfold eqC;rw[d];simp only[E];exact EO P 1 I k a f m 0 a f rfl rfl o s) (VRs.ints k a) (VRs.ints k f)
       have:=this.2.2 w;rwa[g,g]at this
     ·cases h
    ·cases h
   ·cases h
  ·rename_i a f;split at h
   ·cases h
   ·rename_i l;simp only[VR]at hx hy;obtain⟨z,rfl,hx⟩:=hx;obtain⟨v,rfl,hy⟩:=hy;refine vc p q l ?_;have:=(H5 (P:=P) (ι:=ι) 6 9994 t a f b z v h hx hy).2.2 w;rwa[g,g]at this
  ·cases h
 ·rename_i J d;have g:∀X,nq P t X=.agg X:=λX=>by simp[nq,bY,d]
  split at h
  ·rename_i a f;split at h
   ·cases h
   ·rename_i l;simp only[VR]at hx hy;obtain⟨z,rfl,hx⟩:=hx;obtain⟨v,rfl,hy⟩:=hy;refine vc p q l ?_;have:=(H5 (P:=P) (ι:=ι) 6 9994 t a f b z v h hx hy).2.2 w;rwa[g,g]at this
  ·cases h
 ·cases h
def Us{α:Type}{ι:Inj}{op:BinOp}{t:TypeId}{k:IntKind}{a b:Int}{c:V->Option α}{z:α}(h:intK op k a b c=some z)(w:World):
  ∃v R,c v=some z/\VR ι v R/\(binOp op t (.int k a) (.int k b)).run P w=.ok R w:=by
 have fin:∀{v:V} {R:Value},c v=some z->VR ι v R->(binOp op t (.int k a) (.int k b)).run P w=.ok R w->
   ∃v R,c v=some z/\VR ι v R/\(binOp op t (.int k a) (.int k b)).run P w=.ok R w:=λe d f=>⟨_,_,e,d,f⟩
 cases op<;>simp only[intK]at h
 case add=>exact fin h rfl (by simp[binOp,Op.intArith])
 case sub=>exact fin h rfl (by simp[binOp,Op.intArith])
 case mul=>exact fin h rfl (by simp[binOp,Op.intArith])
 case quo=>
  cases hc:b==0 with
  | true=>simp[hc]at h
  | false=>
   simp only[hc,af]at h;have:¬b=0:=by simpa using hc
   exact fin h rfl (by simp[binOp,Op.intDiv,this])
 case rem=>
  cases hc:b==0 with
  | true=>simp[hc]at h
  | false=>
   simp only[hc,af]at h;have:¬b=0:=by simpa using hc
   exact fin h rfl (by simp[binOp,Op.intDiv,this])
 case and=>exact fin h rfl (by simp only[binOp,ne_eq,vg,aF];rfl)
 case or=>exact fin h rfl (by simp only[binOp,ne_eq,vg,aF];rfl)
 case xor=>exact fin h rfl (by simp only[binOp,ne_eq,vg,aF];rfl)
 case andNot=>exact fin h rfl (by simp only[binOp,ne_eq,vg,aF];rfl)
 case shl=>
  cases hc:decide (b<0)with
  | true=>simp[hc]at h
  | false=>
   simp only[hc,af]at h;have:¬b<0:=by simpa using hc
   exact fin h rfl (by simp[binOp,Op.shift,this])
 case shr=>
  cases hc:decide (b<0)with
  | true=>simp[hc]at h
  | false=>
   simp only[hc,af]at h;have:¬b<0:=by simpa using hc
   exact fin h rfl (by simp[binOp,Op.shift,this])
 all_goals exact fin h rfl (by simp[binOp,Op.intCmp])
def EL{α:Type}{ι:Inj}{op:BinOp}(d:op=.shl\/op=.shr){t:TypeId}{k k':IntKind}{a b:Int}{c:V->Option α}{z:α}(h:intK op k a b c=some z)(w:World):
  ∃v R,c v=some z/\VR ι v R/\(binOp op t (.int k a) (.int k' b)).run P w=.ok R w:=by
 rcases d with rfl | rfl<;>simp only[intK]at h
 all_goals
  cases hc:decide (b<0)with
  | true=>simp[hc]at h
  | false=>
   simp only[hc,af]at h;have:¬b<0:=by simpa using hc
   exact⟨_,_,h,rfl,by simp[binOp,Op.shift,this]⟩
def Fe(a b:aa):(ByteArray.mk a.toArray)++(ByteArray.mk b.toArray)=ByteArray.mk (a++b).toArray:=by
 apply M4;rw[ByteArray.data_append];simp
def Ut{α:Type}{ι:Inj}{op:BinOp}{t:TypeId}{a b:aa}{c:V->Option α}{z:α}(h:strK op a b c=some z)(w:World):
  ∃v R,c v=some z/\VR ι v R/\(binOp op t (.string ⟨a.toArray⟩) (.string ⟨b.toArray⟩)).run P w=.ok R w:=by
 have fin:∀{v:V} {R:Value},c v=some z->VR ι v R->(binOp op t (.string ⟨a.toArray⟩) (.string ⟨b.toArray⟩)).run P w=.ok R w->
   ∃v R,c v=some z/\VR ι v R/\(binOp op t (.string ⟨a.toArray⟩) (.string ⟨b.toArray⟩)).run P w=.ok R w:=λd e g=>⟨_,_,d,e,g⟩
 cases op<;>simp only[strK]at h
 case add=>
  obtain⟨s,d,e⟩:=ax h;unfold cat at d;split at d
  ·rename_i f;simp only[aq]at d;subst d;refine fin e rfl ?_;simp only[binOp,Op.stringOp];have hs:(ByteArray.mk a.toArray).size=a.length:=rfl;have hs':(ByteArray.mk b.toArray).size=b.length:=rfl;rw[ab (by simp only[hs,hs',IntKind.max,IntKind.signed,IntKind.bits];simp;omega),Fe];rfl
  ·cases d
 all_goals first
  | cases h
  | exact fin h rfl (by simp only[binOp,Op.stringOp,xQ];rfl)
def Vn{α:Type}{ι:Inj}{op:BinOp}{t:TypeId}{x y:V}{X Y:Value}{c:V->Option α}{z:α}(h:binK P op t x y c=some z)(hx:VR ι x X)(hy:VR ι y Y)(p q:Operand)(w:World):
  ∃v R,c v=some z/\VR ι v R/\(eqGuard op t p q X Y).run P w=.ok () w/\(binOp op t X Y).run P w=.ok R w:=by
 unfold binK at h;split at h
 ·rename_i k a k' b;simp only[VR]at hx hy;subst hx hy;have g:=mh (P:=P) (op:=op) (t:=t) (x:=p) (y:=q) (a:=.int k a) (b:=.int k' b) (.inl (by simp)) (.inl (by simp)) w;split at h
  ·obtain⟨v,R,e,d,f⟩:=EL (P:=P) (ι:=ι) (t:=t) (k':=k') (.inl rfl) h w;exact⟨v,R,e,d,g,f⟩
  ·obtain⟨v,R,e,d,f⟩:=EL (P:=P) (ι:=ι) (t:=t) (k':=k') (.inr rfl) h w;exact⟨v,R,e,d,g,f⟩
  ·split at h
   ·rename_i i;have i:=la i;subst i;obtain⟨v,R,e,d,f⟩:=Us (P:=P) (ι:=ι) (t:=t) h w;exact⟨v,R,e,d,g,f⟩
   ·cases h
 ·rename_i a b;simp only[VR]at hx hy;subst hx hy;have g:=mh (P:=P) (op:=op) (t:=t) (x:=p) (y:=q) (a:=.string ⟨a.toArray⟩) (b:=.string ⟨b.toArray⟩) (.inl (by simp)) (.inl (by simp)) w;obtain⟨v,R,e,d,f⟩:=Ut (P:=P) (ι:=ι) (t:=t) h w;exact⟨v,R,e,d,g,f⟩
 ·split at h
  ·split at h
   ·rename_i r j;obtain⟨e,d⟩:=M8 j hx hy p q w;exact⟨_,_,h,by simp only[VR],e.1,e.2⟩
   ·cases h
  ·split at h
   ·rename_i r j;obtain⟨e,d⟩:=M8 j hx hy p q w;exact⟨_,_,h,by simp only[VR],d.1,d.2⟩
   ·cases h
  ·cases h
end Go.Abs
