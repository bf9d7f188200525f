
import Derived.Test.YtibehcmomiplnabGreatDoorAbsE
import Derived.Laws.Slices
set_option linter.unusedSimpArgs false
set_option linter.unusedVariables false
set_option linter.defProp false
namespace Go.Abs
variable {P:Program}
inductive NextR(ι:Inj)(v:Option V):Next->Prop
 | skip (h:v=none):NextR ι v .skip
 | value (x:Value) (h:∀u,v=some u->VR ι u x):NextR ι v (.value x)
def iJ(P:Program)(ι:Inj)(f:Nat)(o:Oper)(a:Act)(w:World)(e:Eff):Prop:=
 match e.wr with
 | none=>∃x,(execOp a.eval o).run P w=.ok x w/\NextR ι e.val x
 | some (b,blk)=>match e.new with
  | false=>∃q,ι b=some (some q)/\(q.fz=false->∃ob x,(execOp a.eval o).run P w=.ok x (setObj w q.r ob)/\BR ι q blk ob/\NextR ι e.val x)
  | true=>b=f/\∃d q ob x,(execOp a.eval o).run P w=.ok x (World.alloc { w with drawn:=d } ob)/\q.r=w.heap.size/\q.fz=false/\BR (upd ι f (some q)) q blk ob/\NextR (upd ι f (some q)) e.val x
def iJ.val{ι:Inj}{f:Nat}{o:Oper}{a:Act}{w:World}{v:V}{x:Value}{rd:List Nat}(F:(execOp a.eval o).run P w=.ok (.value x) w)(E:VR ι v x):
  iJ P ι f o a w { val:=some v,rd:=rd }:=by
 unfold iJ;exact⟨_,F,.value x λu C=>by cases C;exact E⟩
def iJ.mkR{ι:Inj}{f:Nat}{o:Oper}{a:Act}{w:World}{v:V}{x:Value}{rd:List Nat}{blk:Blk}{ob:Obj}{d:Nat}{q:Rf}(F:(execOp a.eval o).run P w=.ok (.value x) (World.alloc { w with drawn:=d } ob))
  (J:q.r=w.heap.size) (G:q.fz=false) (E:BR (upd ι f (some q)) q blk ob) (C:VR (upd ι f (some q)) v x):
  iJ P ι f o a w { val:=some v,rd:=rd,wr:=some (f,blk),new:=true }:=by
 unfold iJ;exact⟨rfl,d,q,ob,_,F,J,G,E,.value x λu O=>by cases O;exact C⟩
def iJ.mk{ι:Inj}{f:Nat}{o:Oper}{a:Act}{w:World}{v:V}{x:Value}{rd:List Nat}{blk:Blk}{ob:Obj}(F:(execOp a.eval o).run P w=.ok (.value x) (w.alloc ob))
  (E:BR (upd ι f (some (Rf.of w.heap.size (0) (0)))) (Rf.of w.heap.size (0) (0)) blk ob) (C:VR (upd ι f (some (Rf.of w.heap.size (0) (0)))) v x):
  iJ P ι f o a w { val:=some v,rd:=rd,wr:=some (f,blk),new:=true }:=.mkR (d:=w.drawn) F rfl rfl E C
def ek(ι:Inj)(f:Nat)(r:Option Rf):upd ι f r f=some r:=by simp[upd]
def nG{op:BinOp}{t:TypeId}{x y:Operand}{a b:Value}(d:a≠.nilIface\/b≠.nilIface)(e:(∀c,a≠.agg c)\/(∀c,b≠.agg c))(w:World):
  (eqGuard op t x y a b).run P w=.ok () w:=by
 unfold eqGuard;cases op<;>simp<;>(cases a<;>cases b<;>simp_all)
def rB{t:TypeId}{X Y:Value}{b:Bool}{w:World}(p q:Operand)(c:X≠.nilIface\/Y≠.nilIface)(d:(∀a,X≠.agg a)\/(∀a,Y≠.agg a))
  (e:(∀k n,X≠.int k n)/\(∀s,X≠.string s)/\(∀k n,X≠.float k n)/\(∀k n m,X≠.complex k n m)) (h:(Op.equal t X Y).run P w=.ok b w):
  ((eqGuard .eql t p q X Y).run P w=.ok () w/\(binOp .eql t X Y).run P w=.ok (.bool b) w)/\
  ((eqGuard .neq t p q X Y).run P w=.ok () w/\(binOp .neq t X Y).run P w=.ok (.bool (!b)) w):=by
 obtain⟨a1,a2,f,g⟩:=e;refine⟨⟨nG c d w,?_⟩,nG c d w,?_⟩
 ·cases X<;>simp_all[binOp]
 ·cases X<;>simp_all[binOp]
def xL{t:TypeId}{a c:Array Value}{b:Bool}{w:World}(p q:Operand)(d:P.eqGuardType P.depth t=false)(h:(Op.equalIn 10000 t (.agg a) (.agg c)).run P w=.ok b w):
  ((eqGuard .eql t p q (.agg a) (.agg c)).run P w=.ok () w/\(binOp .eql t (.agg a) (.agg c)).run P w=.ok (.bool b) w)/\
  ((eqGuard .neq t p q (.agg a) (.agg c)).run P w=.ok () w/\(binOp .neq t (.agg a) (.agg c)).run P w=.ok (.bool (!b)) w):=by
 refine⟨⟨run_eqGuard_agg w _ t p q a c d,?_⟩,run_eqGuard_agg w _ t p q a c d,?_⟩
 ·rw[run_eql_struct,h];rfl
 ·rw[run_neq_struct,h];rfl
def fN(t:TypeId)(x y:Value):Op.equal t x y=Op.equalIn (9999+1) t x y:=rfl
def G4(P:Program)(d:Nat){e:TypeId}{k':IntKind}(h:P.underlying e=some (.int k'))(k:IntKind):∀(a b:List Int) (n j:Nat) (A B:List Int),A.drop j=a->B.drop j=b->
  a.length=n->b.length=n->eqAr (eqC P (d+1) e) 1 (A.map (V.i k)) (B.map (V.i k)) n j=some (a==b)
 | [],b,n,j,A,B,_,_,c,f=>by
  simp only[bU]at c;subst c;have:b=[]:=vi f;subst this;simp[eqAr]
 | x::a,[],n,j,A,B,_,_,c,f=>by simp at c f;omega
 | x::a,y::b,0,j,A,B,_,_,c,f=>by simp at c
 | x::a,y::b,n+1,j,A,B,m,l,c,f=>by
  have q:A.drop (j+1)=a:=by rw[<-km,m];rfl
  have s:B.drop (j+1)=b:=by rw[<-km,l];rfl
  have ih:=G4 P d h k a b n (j+1) A B q s (by simpa using c) (by simpa using f);have r:((A.map (V.i k)).drop (j*1)).take 1=[V.i k x]:=by
   rw[tz,<-List.map_drop,m];rfl
  have p:((B.map (V.i k)).drop (j*1)).take 1=[V.i k y]:=by
   rw[tz,<-List.map_drop,l];rfl
  have o:keq k k=true:=by cases k<;>rfl
  have g:eqC P (d+1) e [V.i k x] [V.i k y]=some (x==y):=by simp[eqC,h,o]
  simp only[eqAr,r,p,ih,g];congr 1
def Q0{ι:Inj}{t:TypeId}{x y:V}{X Y:Value}{b:Bool}(h:eqlV P t x y=some b)(hx:VR ι x X)(hy:VR ι y Y)(p q:Operand)(w:World):
  ((eqGuard .eql t p q X Y).run P w=.ok () w/\(binOp .eql t X Y).run P w=.ok (.bool b) w)/\
  ((eqGuard .neq t p q X Y).run P w=.ok () w/\(binOp .neq t X Y).run P w=.ok (.bool (!b)) w):=by
 unfold eqlV at h;split at h
 ·rename_i d;split at h
  ·simp only[aw]at h;subst h;simp only[VR]at hx hy;subst hx hy;exact rB p q (.inl (by simp)) (.inl (by simp)) (by simp) (by rw[fN,Op.equalIn];simp[bu d])
  ·cases h
 ·rename_i e d;split at h
  case h_4=>cases h
  all_goals
   simp only[aw]at h;subst h;simp only[VR]at hx hy
  ·subst hx hy;exact rB p q (.inl (by simp)) (.inl (by simp)) (by simp) (by rw[fN,Op.equalIn];simp[bu d])
  ·obtain⟨r,_,rfl⟩:=hy;subst hx;exact rB p q (.inl (by simp)) (.inl (by simp)) (by simp) (by rw[fN,Op.equalIn];simp[bu d])
  ·obtain⟨r,_,rfl⟩:=hx;subst hy;exact rB p q (.inl (by simp)) (.inl (by simp)) (by simp) (by rw[fN,Op.equalIn];simp[bu d])
 ·rename_i e L F d;split at h
  case h_4=>cases h
  all_goals
   simp only[aw]at h;subst h;simp only[VR]at hx hy
  ·subst hx hy;exact rB p q (.inl (by simp)) (.inl (by simp)) (by simp) (by rw[fN,Op.equalIn];simp[bu d])
  ·obtain⟨r,rfl,_⟩:=hy;obtain⟨C,E,I,o⟩:=BY _ r;rw[o];subst hx;exact rB p q (.inl (by simp)) (.inl (by simp)) (by simp) (by rw[fN,Op.equalIn];simp[bu d])
  ·obtain⟨r,rfl,_⟩:=hx;obtain⟨C,E,I,o⟩:=BY _ r;rw[o];subst hy;exact rB p q (.inl (by simp)) (.inl (by simp)) (by simp) (by rw[fN,Op.equalIn];simp[bu d])
 ·rename_i e d;split at h
  case h_4=>cases h
  all_goals
   simp only[aw]at h;subst h;simp only[VR]at hx hy
  ·subst hx hy;exact rB p q (.inl (by simp)) (.inl (by simp)) (by simp) (by rw[fN,Op.equalIn];simp[bu d])
  ·obtain⟨r,c,_,_,_,rfl⟩:=hy;subst hx;exact rB p q (.inl (by simp)) (.inl (by simp)) (by simp) (by rw[fN,Op.equalIn];simp[bu d])
  ·obtain⟨r,c,_,_,_,rfl⟩:=hx;subst hy;exact rB p q (.inl (by simp)) (.inl (by simp)) (by simp) (by rw[fN,Op.equalIn];simp[bu d])
 ·rename_i e d;split at h
  case h_3=>cases h
  all_goals
   simp only[aw]at h;subst h;simp only[VR]at hx hy
  ·obtain⟨r,rfl,_⟩:=hy;subst hx;exact rB p q (.inr (by simp)) (.inl (by simp)) (by simp) (by rw[fN,Op.equalIn];simp[bu d])
  ·obtain⟨r,rfl,_⟩:=hx;subst hy;exact rB p q (.inl (by simp)) (.inl (by simp)) (by simp) (by rw[fN,Op.equalIn];simp[bu d])
 ·rename_i m e d;have g:∀X,pB P t X=.agg X:=λX=>by simp[pB,cD,d]
  split at h
  ·rename_i k n a k' J f;split at h
   ·rename_i j;simp only[aD,kx]at j;obtain⟨A,B⟩:=j;have A:=mh A;subst A B;split at h
    ·rename_i k2 H;split at h
     ·rename_i j;simp only[aD,kx]at j;obtain⟨G,D⟩:=j;subst G;split at h
      ·cases h
      ·rename_i l;simp only[aw]at h;subst h;simp only[VR]at hx hy;obtain⟨s,rfl⟩:=hx;obtain⟨v,rfl⟩:=hy;refine xL p q l ?_;have:=JE (P:=P) (ι:=ι) 3 9997 t (a.map (V.i k)) (f.map (V.i k)) (a==f) (a.map (Value.int k)).toArray (f.map (Value.int k)).toArray
        (by unfold eqC;rw[d];simp only[D];exact G4 P 1 H k a f m 0 a f rfl rfl s v) (VRs.ints k a) (VRs.ints k f)
       have:=this.2.2 w;rwa[g,g]at this
     ·cases h
    ·cases h
   ·cases h
  ·rename_i a f;split at h
   ·cases h
   ·rename_i l;simp only[VR]at hx hy;obtain⟨u,rfl,hx⟩:=hx;obtain⟨z,rfl,hy⟩:=hy;refine xL p q l ?_;have:=(JE (P:=P) (ι:=ι) 6 9994 t a f b u z h hx hy).2.2 w;rwa[g,g]at this
  ·cases h
 ·rename_i K d;have g:∀X,pB P t X=.agg X:=λX=>by simp[pB,cD,d]
  split at h
  ·rename_i a f;split at h
   ·cases h
   ·rename_i l;simp only[VR]at hx hy;obtain⟨u,rfl,hx⟩:=hx;obtain⟨z,rfl,hy⟩:=hy;refine xL p q l ?_;have:=(JE (P:=P) (ι:=ι) 6 9994 t a f b u z h hx hy).2.2 w;rwa[g,g]at this
  ·cases h
 ·cases h
def XR{α:Type}{ι:Inj}{op:BinOp}{t:TypeId}{k:IntKind}{a b:Int}{c:V->Option α}{z:α}(h:intK op k a b c=some z)(w:World):
  ∃v R,c v=some z/\VR ι v R/\(binOp op t (.int k a) (.int k b)).run P w=.ok R w:=by
 have fin:∀{v:V} {R:Value},c v=some z->VR ι v R->(binOp op t (.int k a) (.int k b)).run P w=.ok R w->
   ∃v R,c v=some z/\VR ι v R/\(binOp op t (.int k a) (.int k b)).run P w=.ok R w:=λd f e=>⟨_,_,d,f,e⟩
 cases op<;>simp only[intK]at h
 case add=>exact fin h rfl (by simp[binOp,Op.intArith])
 case sub=>exact fin h rfl (by simp[binOp,Op.intArith])
 case mul=>exact fin h rfl (by simp[binOp,Op.intArith])
 case quo=>
  cases hc:b==0 with
  | true=>simp[hc]at h
  | false=>
   simp only[hc,af]at h;have:¬b=0:=by simpa using hc
   exact fin h rfl (by simp[binOp,Op.intDiv,this])
 case rem=>
  cases hc:b==0 with
  | true=>simp[hc]at h
  | false=>
   simp only[hc,af]at h;have:¬b=0:=by simpa using hc
   exact fin h rfl (by simp[binOp,Op.intDiv,this])
 case and=>exact fin h rfl (by simp only[binOp,ne_eq,xj,aF];rfl)
 case or=>exact fin h rfl (by simp only[binOp,ne_eq,xj,aF];rfl)
 case xor=>exact fin h rfl (by simp only[binOp,ne_eq,xj,aF];rfl)
 case andNot=>exact fin h rfl (by simp only[binOp,ne_eq,xj,aF];rfl)
 case shl=>
  cases hc:decide (b<0)with
  | true=>simp[hc]at h
  | false=>
   simp only[hc,af]at h;have:¬b<0:=by simpa using hc
   exact fin h rfl (by simp[binOp,Op.shift,this])
 case shr=>
  cases hc:decide (b<0)with
  | true=>simp[hc]at h
  | false=>
   simp only[hc,af]at h;have:¬b<0:=by simpa using hc
   exact fin h rfl (by simp[binOp,Op.shift,this])
 all_goals exact fin h rfl (by simp[binOp,Op.intCmp])
def Hk{α:Type}{ι:Inj}{op:BinOp}(d:op=.shl\/op=.shr){t:TypeId}{k k':IntKind}{a b:Int}{c:V->Option α}{z:α}(h:intK op k a b c=some z)(w:World):
  ∃v R,c v=some z/\VR ι v R/\(binOp op t (.int k a) (.int k' b)).run P w=.ok R w:=by
 rcases d with rfl | rfl<;>simp only[intK]at h
 all_goals
  cases hc:decide (b<0)with
  | true=>simp[hc]at h
  | false=>
   simp only[hc,af]at h;have:¬b<0:=by simpa using hc
   exact⟨_,_,h,rfl,by simp[binOp,Op.shift,this]⟩
def Gz(a b:aa):(ByteArray.mk a.toArray)++(ByteArray.mk b.toArray)=ByteArray.mk (a++b).toArray:=by
 apply QL;rw[ByteArray.data_append];simp
def XZ{α:Type}{ι:Inj}{op:BinOp}{t:TypeId}{a b:aa}{c:V->Option α}{z:α}(h:strK op a b c=some z)(w:World):
  ∃v R,c v=some z/\VR ι v R/\(binOp op t (.string ⟨a.toArray⟩) (.string ⟨b.toArray⟩)).run P w=.ok R w:=by
 have fin:∀{v:V} {R:Value},c v=some z->VR ι v R->(binOp op t (.string ⟨a.toArray⟩) (.string ⟨b.toArray⟩)).run P w=.ok R w->
   ∃v R,c v=some z/\VR ι v R/\(binOp op t (.string ⟨a.toArray⟩) (.string ⟨b.toArray⟩)).run P w=.ok R w:=λd e f=>⟨_,_,d,e,f⟩
 cases op<;>simp only[strK]at h
 case add=>
  obtain⟨s,d,e⟩:=ax h;unfold cat at d;split at d
  ·rename_i g;simp only[aw]at d;subst d;refine fin e rfl ?_;simp only[binOp,Op.stringOp];have hs:(ByteArray.mk a.toArray).size=a.length:=rfl;have hs':(ByteArray.mk b.toArray).size=b.length:=rfl;rw[ab (by simp only[hs,hs',IntKind.max,IntKind.signed,IntKind.bits];simp;omega),Gz];rfl
  ·cases d
 all_goals first
  | cases h
  | exact fin h rfl (by simp only[binOp,Op.stringOp,Bf];rfl)
def Ym{α:Type}{ι:Inj}{op:BinOp}{t:TypeId}{x y:V}{X Y:Value}{c:V->Option α}{z:α}(h:binK P op t x y c=some z)(hx:VR ι x X)(hy:VR ι y Y)(p q:Operand)(w:World):
  ∃v R,c v=some z/\VR ι v R/\(eqGuard op t p q X Y).run P w=.ok () w/\(binOp op t X Y).run P w=.ok R w:=by
 unfold binK at h;split at h
 ·rename_i k a k' b;simp only[VR]at hx hy;subst hx hy;have g:=nG (P:=P) (op:=op) (t:=t) (x:=p) (y:=q) (a:=.int k a) (b:=.int k' b) (.inl (by simp)) (.inl (by simp)) w;split at h
  ·obtain⟨v,R,d,e,f⟩:=Hk (P:=P) (ι:=ι) (t:=t) (k':=k') (.inl rfl) h w;exact⟨v,R,d,e,g,f⟩
  ·obtain⟨v,R,d,e,f⟩:=Hk (P:=P) (ι:=ι) (t:=t) (k':=k') (.inr rfl) h w;exact⟨v,R,d,e,g,f⟩
  ·split at h
   ·rename_i i;have i:=mh i;subst i;obtain⟨v,R,d,e,f⟩:=XR (P:=P) (ι:=ι) (t:=t) h w;exact⟨v,R,d,e,g,f⟩
   ·cases h
 ·rename_i a b;simp only[VR]at hx hy;subst hx hy;have g:=nG (P:=P) (op:=op) (t:=t) (x:=p) (y:=q) (a:=.string ⟨a.toArray⟩) (b:=.string ⟨b.toArray⟩) (.inl (by simp)) (.inl (by simp)) w;obtain⟨v,R,d,e,f⟩:=XZ (P:=P) (ι:=ι) (t:=t) h w;exact⟨v,R,d,e,g,f⟩
 ·split at h
  ·split at h
   ·rename_i r j;obtain⟨d,e⟩:=Q0 j hx hy p q w;exact⟨_,_,h,by simp only[VR],d.1,d.2⟩
   ·cases h
  ·split at h
   ·rename_i r j;obtain⟨d,e⟩:=Q0 j hx hy p q w;exact⟨_,_,h,by simp only[VR],e.1,e.2⟩
   ·cases h
  ·cases h
end Go.Abs
