
import Derived.Test.YtibehcmomiplnaaGreatDoorAbsE
import Derived.Laws.Slices
set_option linter.unusedSimpArgs false
set_option linter.unusedVariables false
set_option linter.defProp false
namespace Go.Abs
variable {P:Program}
inductive NextR(ι:Inj)(v:Option V):Next->Prop
 | skip (h:v=none):NextR ι v .skip
 | value (x:Value) (h:∀u,v=some u->VR ι u x):NextR ι v (.value x)
def gY(P:Program)(ι:Inj)(f:Nat)(o:Oper)(a:Act)(w:World)(e:Eff):Prop:=
 match e.wr with
 | none=>∃x,(execOp a.eval o).run P w=.ok x w/\NextR ι e.val x
 | some (b,blk)=>match e.new with
  | false=>∃q,ι b=some (some q)/\(q.fz=false->∃ob x,(execOp a.eval o).run P w=.ok x (setObj w q.r ob)/\BR ι q blk ob/\NextR ι e.val x)
  | true=>b=f/\∃d q ob x,(execOp a.eval o).run P w=.ok x ((World.alloc { w with drawn:=d } ob))/\q.r=w.heap.size/\q.fz=false/\BR (upd ι f (some q)) q blk ob/\NextR (upd ι f (some q)) e.val x
def gY.val{ι:Inj}{f:Nat}{o:Oper}{a:Act}{w:World}{v:V}{x:Value}{rd:List Nat}(F:(execOp a.eval o).run P w=.ok (.value x) w)(E:VR ι v x):
  gY P ι f o a w { val:=some v,rd:=rd }:=by
 unfold gY;exact⟨_,F,.value x λu C=>by cases C;exact E⟩
def gY.mkR{ι:Inj}{f:Nat}{o:Oper}{a:Act}{w:World}{v:V}{x:Value}{rd:List Nat}{blk:Blk}{ob:Obj}{d:Nat}{q:Rf}(F:(execOp a.eval o).run P w=.ok (.value x) (World.alloc { w with drawn:=d } ob))
  (O:q.r=w.heap.size) (G:q.fz=false) (E:BR (upd ι f (some q)) q blk ob) (J:VR (upd ι f (some q)) v x):
  gY P ι f o a w { val:=some v,rd:=rd,wr:=some (f,blk),new:=true }:=by
 unfold gY;exact⟨rfl,d,q,ob,_,F,O,G,E,.value x λu C=>by cases C;exact J⟩
def gY.mk{ι:Inj}{f:Nat}{o:Oper}{a:Act}{w:World}{v:V}{x:Value}{rd:List Nat}{blk:Blk}{ob:Obj}(F:(execOp a.eval o).run P w=.ok (.value x) (w.alloc ob))
  (C:BR (upd ι f (some (Rf.of w.heap.size (0) (0)))) (Rf.of w.heap.size (0) (0)) blk ob) (E:VR (upd ι f (some (Rf.of w.heap.size (0) (0)))) v x):
  gY P ι f o a w { val:=some v,rd:=rd,wr:=some (f,blk),new:=true }:=.mkR (d:=w.drawn) F rfl rfl C E
def dO(ι:Inj)(f:Nat)(r:Option Rf):upd ι f r f=some r:=by simp[upd]
def mC{op:BinOp}{t:TypeId}{x y:Operand}{a b:Value}(d:a≠.nilIface\/b≠.nilIface)(e:(∀c,a≠.agg c)\/(∀c,b≠.agg c))(w:World):
  (eqGuard op t x y a b).run P w=.ok () w:=by
 unfold eqGuard;cases op<;>simp<;>(cases a<;>cases b<;>simp_all)
def qe{t:TypeId}{X Y:Value}{b:Bool}{w:World}(p q:Operand)(c:X≠.nilIface\/Y≠.nilIface)(d:(∀a,X≠.agg a)\/(∀a,Y≠.agg a))
  (e:(∀k n,X≠.int k n)/\(∀s,X≠.string s)/\(∀k n,X≠.float k n)/\(∀k n m,X≠.complex k n m)) (h:(Op.equal t X Y).run P w=.ok b w):
  ((eqGuard .eql t p q X Y).run P w=.ok () w/\(binOp .eql t X Y).run P w=.ok (.bool b) w)/\
  ((eqGuard .neq t p q X Y).run P w=.ok () w/\(binOp .neq t X Y).run P w=.ok (.bool (!b)) w):=by
 obtain⟨a1,a2,f,g⟩:=e;refine⟨⟨mC c d w,?_⟩,mC c d w,?_⟩
 ·cases X<;>simp_all[binOp]
 ·cases X<;>simp_all[binOp]
def vK{t:TypeId}{a c:Array Value}{b:Bool}{w:World}(p q:Operand)(d:P.eqGuardType P.depth t=false)(h:(Op.equalIn 10000 t (.agg a) (.agg c)).run P w=.ok b w):
  ((eqGuard .eql t p q (.agg a) (.agg c)).run P w=.ok () w/\(binOp .eql t (.agg a) (.agg c)).run P w=.ok (.bool b) w)/\
  ((eqGuard .neq t p q (.agg a) (.agg c)).run P w=.ok () w/\(binOp .neq t (.agg a) (.agg c)).run P w=.ok (.bool (!b)) w):=by
 refine⟨⟨run_eqGuard_agg w _ t p q a c d,?_⟩,run_eqGuard_agg w _ t p q a c d,?_⟩
 ·rw[run_eql_struct,h];rfl
 ·rw[run_neq_struct,h];rfl
def fe(t:TypeId)(x y:Value):Op.equal t x y=Op.equalIn (9999+1) t x y:=rfl
def D4(P:Program)(d:Nat){e:TypeId}{k':IntKind}(h:P.underlying e=some (.int k'))(k:IntKind):∀(a b:List Int) (n j:Nat) (A B:List Int),A.drop j=a->B.drop j=b->
  a.length=n->b.length=n->eqAr (eqC P (d+1) e) 1 (A.map (V.i k)) (B.map (V.i k)) n j=some (a==b)
 | [],b,n,j,A,B,_,_,c,f=>by
  simp only[aX]at c;subst c;have:b=[]:=tu f;subst this;simp[eqAr]
 | x::a,[],n,j,A,B,_,_,c,f=>by simp at c f;omega
 | x::a,y::b,0,j,A,B,_,_,c,f=>by simp at c
 | x::a,y::b,n+1,j,A,B,m,l,c,f=>by
  have p:A.drop (j+1)=a:=by rw[<-kZ,m];rfl
  have s:B.drop (j+1)=b:=by rw[<-kZ,l];rfl
  have ih:=D4 P d h k a b n (j+1) A B p s (by simpa using c) (by simpa using f);have o:((A.map (V.i k)).drop (j*1)).take 1=[V.i k x]:=by
   rw[rr,<-List.map_drop,m];rfl
  have r:((B.map (V.i k)).drop (j*1)).take 1=[V.i k y]:=by
   rw[rr,<-List.map_drop,l];rfl
  have q:keq k k=true:=by cases k<;>rfl
  have g:eqC P (d+1) e [V.i k x] [V.i k y]=some (x==y):=by simp[eqC,h,q]
  simp only[eqAr,o,r,ih,g];congr 1
def Ou{ι:Inj}{t:TypeId}{x y:V}{X Y:Value}{b:Bool}(h:eqlV P t x y=some b)(hx:VR ι x X)(hy:VR ι y Y)(p q:Operand)(w:World):
  ((eqGuard .eql t p q X Y).run P w=.ok () w/\(binOp .eql t X Y).run P w=.ok (.bool b) w)/\
  ((eqGuard .neq t p q X Y).run P w=.ok () w/\(binOp .neq t X Y).run P w=.ok (.bool (!b)) w):=by
 unfold eqlV at h;split at h
 ·rename_i d;split at h
  ·simp only[ar]at h;subst h;simp only[VR]at hx hy;subst hx hy;exact qe p q (.inl (by simp)) (.inl (by simp)) (by simp) (by rw[fe,Op.equalIn];simp[ba d])
  ·cases h
 ·rename_i e d;split at h
  case h_4=>cases h
  all_goals
   simp only[ar]at h;subst h;simp only[VR]at hx hy
  ·subst hx hy;exact qe p q (.inl (by simp)) (.inl (by simp)) (by simp) (by rw[fe,Op.equalIn];simp[ba d])
  ·obtain⟨r,_,rfl⟩:=hy;subst hx;exact qe p q (.inl (by simp)) (.inl (by simp)) (by simp) (by rw[fe,Op.equalIn];simp[ba d])
  ·obtain⟨r,_,rfl⟩:=hx;subst hy;exact qe p q (.inl (by simp)) (.inl (by simp)) (by simp) (by rw[fe,Op.equalIn];simp[ba d])
 ·rename_i e L D d;split at h
  case h_4=>cases h
  all_goals
   simp only[ar]at h;subst h;simp only[VR]at hx hy
  ·subst hx hy;exact qe p q (.inl (by simp)) (.inl (by simp)) (by simp) (by rw[fe,Op.equalIn];simp[ba d])
  ·obtain⟨r,rfl,_⟩:=hy;obtain⟨I,E,F,s⟩:=AG _ r;rw[s];subst hx;exact qe p q (.inl (by simp)) (.inl (by simp)) (by simp) (by rw[fe,Op.equalIn];simp[ba d])
  ·obtain⟨r,rfl,_⟩:=hx;obtain⟨I,E,F,s⟩:=AG _ r;rw[s];subst hy;exact qe p q (.inl (by simp)) (.inl (by simp)) (by simp) (by rw[fe,Op.equalIn];simp[ba d])
 ·rename_i e d;split at h
  case h_4=>cases h
  all_goals
   simp only[ar]at h;subst h;simp only[VR]at hx hy
  ·subst hx hy;exact qe p q (.inl (by simp)) (.inl (by simp)) (by simp) (by rw[fe,Op.equalIn];simp[ba d])
  ·obtain⟨r,c,_,_,_,rfl⟩:=hy;subst hx;exact qe p q (.inl (by simp)) (.inl (by simp)) (by simp) (by rw[fe,Op.equalIn];simp[ba d])
  ·obtain⟨r,c,_,_,_,rfl⟩:=hx;subst hy;exact qe p q (.inl (by simp)) (.inl (by simp)) (by simp) (by rw[fe,Op.equalIn];simp[ba d])
 ·rename_i e d;split at h
  case h_3=>cases h
  all_goals
   simp only[ar]at h;subst h;simp only[VR]at hx hy
  ·obtain⟨r,rfl,_⟩:=hy;subst hx;exact qe p q (.inr (by simp)) (.inl (by simp)) (by simp) (by rw[fe,Op.equalIn];simp[ba d])
  ·obtain⟨r,rfl,_⟩:=hx;subst hy;exact qe p q (.inl (by simp)) (.inl (by simp)) (by simp) (by rw[fe,Op.equalIn];simp[ba d])
 ·rename_i m e d;have g:∀X,nR P t X=.agg X:=λX=>by simp[nR,bY,d]
  split at h
  ·rename_i k n a k' K f;split at h
   ·rename_i j;simp only[aA,jB]at j;obtain⟨z,H⟩:=j;have z:=lM z;subst z H;split at h
    ·rename_i k2 B;split at h
     ·rename_i j;simp only[aA,jB]at j;obtain⟨C,G⟩:=j;subst C;split at h
      ·cases h
      ·rename_i l;simp only[ar]at h;subst h;simp only[VR]at hx hy;obtain⟨A,rfl⟩:=hx;obtain⟨v,rfl⟩:=hy;refine vK p q l ?_;have:=H7 (P:=P) (ι:=ι) 3 9997 t (a.map (V.i k)) (f.map (V.i k)) (a==f) (a.map (Value.int k)).toArray (f.map (Value.int k)).toArray
        (by unfold eqC;rw[d];simp only[G];exact D4 P 1 B k a f m 0 a f rfl rfl A v) (VRs.ints k a) (VRs.ints k f)
       have:=this.2.2 w;rwa[g,g]at this
     ·cases h
    ·cases h
   ·cases h
  ·rename_i a f;split at h
   ·cases h
   ·rename_i l;simp only[VR]at hx hy;obtain⟨u,rfl,hx⟩:=hx;obtain⟨o,rfl,hy⟩:=hy;refine vK p q l ?_;have:=(H7 (P:=P) (ι:=ι) 6 9994 t a f b u o h hx hy).2.2 w;rwa[g,g]at this
  ·cases h
 ·rename_i J d;have g:∀X,nR P t X=.agg X:=λX=>by simp[nR,bY,d]
  split at h
  ·rename_i a f;split at h
   ·cases h
   ·rename_i l;simp only[VR]at hx hy;obtain⟨u,rfl,hx⟩:=hx;obtain⟨o,rfl,hy⟩:=hy;refine vK p q l ?_;have:=(H7 (P:=P) (ι:=ι) 6 9994 t a f b u o h hx hy).2.2 w;rwa[g,g]at this
  ·cases h
 ·cases h
def U3{α:Type}{ι:Inj}{op:BinOp}{t:TypeId}{k:IntKind}{a b:Int}{c:V->Option α}{z:α}(h:intK op k a b c=some z)(w:World):
  ∃v R,c v=some z/\VR ι v R/\(binOp op t (.int k a) (.int k b)).run P w=.ok R w:=by
 have fin:∀{v:V} {R:Value},c v=some z->VR ι v R->(binOp op t (.int k a) (.int k b)).run P w=.ok R w->
   ∃v R,c v=some z/\VR ι v R/\(binOp op t (.int k a) (.int k b)).run P w=.ok R w:=λd f e=>⟨_,_,d,f,e⟩
 cases op<;>simp only[intK]at h
 case add=>exact fin h rfl (by simp[binOp,Op.intArith])
 case sub=>exact fin h rfl (by simp[binOp,Op.intArith])
 case mul=>exact fin h rfl (by simp[binOp,Op.intArith])
 case quo=>
  cases hc:b==0 with
  | true=>simp[hc]at h
  | false=>
   simp only[hc,ah]at h;have:¬b=0:=by simpa using hc
   exact fin h rfl (by simp[binOp,Op.intDiv,this])
 case rem=>
  cases hc:b==0 with
  | true=>simp[hc]at h
  | false=>
   simp only[hc,ah]at h;have:¬b=0:=by simpa using hc
   exact fin h rfl (by simp[binOp,Op.intDiv,this])
 case and=>exact fin h rfl (by simp only[binOp,ne_eq,vh,aG];rfl)
 case or=>exact fin h rfl (by simp only[binOp,ne_eq,vh,aG];rfl)
 case xor=>exact fin h rfl (by simp only[binOp,ne_eq,vh,aG];rfl)
 case andNot=>exact fin h rfl (by simp only[binOp,ne_eq,vh,aG];rfl)
 case shl=>
  cases hc:decide (b<0)with
  | true=>simp[hc]at h
  | false=>
   simp only[hc,ah]at h;have:¬b<0:=by simpa using hc
   exact fin h rfl (by simp[binOp,Op.shift,this])
 case shr=>
  cases hc:decide (b<0)with
  | true=>simp[hc]at h
  | false=>
   simp only[hc,ah]at h;have:¬b<0:=by simpa using hc
   exact fin h rfl (by simp[binOp,Op.shift,this])
 all_goals exact fin h rfl (by simp[binOp,Op.intCmp])
def EF{α:Type}{ι:Inj}{op:BinOp}(d:op=.shl\/op=.shr){t:TypeId}{k k':IntKind}{a b:Int}{c:V->Option α}{z:α}(h:intK op k a b c=some z)(w:World):
  ∃v R,c v=some z/\VR ι v R/\(binOp op t (.int k a) (.int k' b)).run P w=.ok R w:=by
 rcases d with rfl | rfl<;>simp only[intK]at h
 all_goals
  cases hc:decide (b<0)with
  | true=>simp[hc]at h
  | false=>
   simp only[hc,ah]at h;have:¬b<0:=by simpa using hc
   exact⟨_,_,h,rfl,by simp[binOp,Op.shift,this]⟩
def DI(a b:aa):(ByteArray.mk a.toArray)++(ByteArray.mk b.toArray)=ByteArray.mk (a++b).toArray:=by
 apply N1;rw[ByteArray.data_append];simp
def Vt{α:Type}{ι:Inj}{op:BinOp}{t:TypeId}{a b:aa}{c:V->Option α}{z:α}(h:strK op a b c=some z)(w:World):
  ∃v R,c v=some z/\VR ι v R/\(binOp op t (.string ⟨a.toArray⟩) (.string ⟨b.toArray⟩)).run P w=.ok R w:=by
 have fin:∀{v:V} {R:Value},c v=some z->VR ι v R->(binOp op t (.string ⟨a.toArray⟩) (.string ⟨b.toArray⟩)).run P w=.ok R w->
   ∃v R,c v=some z/\VR ι v R/\(binOp op t (.string ⟨a.toArray⟩) (.string ⟨b.toArray⟩)).run P w=.ok R w:=λd e f=>⟨_,_,d,e,f⟩
 cases op<;>simp only[strK]at h
 case add=>
  obtain⟨s,d,e⟩:=ax h;unfold cat at d;split at d
  ·rename_i g;simp only[ar]at d;subst d;refine fin e rfl ?_;simp only[binOp,Op.stringOp];have hs:(ByteArray.mk a.toArray).size=a.length:=rfl;have hs':(ByteArray.mk b.toArray).size=b.length:=rfl;rw[ae (by simp only[hs,hs',IntKind.max,IntKind.signed,IntKind.bits];simp;omega),DI];rfl
  ·cases d
 all_goals first
  | cases h
  | exact fin h rfl (by simp only[binOp,Op.stringOp,yo];rfl)
def Um{α:Type}{ι:Inj}{op:BinOp}{t:TypeId}{x y:V}{X Y:Value}{c:V->Option α}{z:α}(h:binK P op t x y c=some z)(hx:VR ι x X)(hy:VR ι y Y)(p q:Operand)(w:World):
  ∃v R,c v=some z/\VR ι v R/\(eqGuard op t p q X Y).run P w=.ok () w/\(binOp op t X Y).run P w=.ok R w:=by
 unfold binK at h;split at h
 ·rename_i k a k' b;simp only[VR]at hx hy;subst hx hy;have g:=mC (P:=P) (op:=op) (t:=t) (x:=p) (y:=q) (a:=.int k a) (b:=.int k' b) (.inl (by simp)) (.inl (by simp)) w;split at h
  ·obtain⟨v,R,d,e,f⟩:=EF (P:=P) (ι:=ι) (t:=t) (k':=k') (.inl rfl) h w;exact⟨v,R,d,e,g,f⟩
  ·obtain⟨v,R,d,e,f⟩:=EF (P:=P) (ι:=ι) (t:=t) (k':=k') (.inr rfl) h w;exact⟨v,R,d,e,g,f⟩
  ·split at h
   ·rename_i j;have j:=lM j;subst j;obtain⟨v,R,d,e,f⟩:=U3 (P:=P) (ι:=ι) (t:=t) h w;exact⟨v,R,d,e,g,f⟩
   ·cases h
 ·rename_i a b;simp only[VR]at hx hy;subst hx hy;have g:=mC (P:=P) (op:=op) (t:=t) (x:=p) (y:=q) (a:=.string ⟨a.toArray⟩) (b:=.string ⟨b.toArray⟩) (.inl (by simp)) (.inl (by simp)) w;obtain⟨v,R,d,e,f⟩:=Vt (P:=P) (ι:=ι) (t:=t) h w;exact⟨v,R,d,e,g,f⟩
 ·split at h
  ·split at h
   ·rename_i r i;obtain⟨d,e⟩:=Ou i hx hy p q w;exact⟨_,_,h,by simp only[VR],d.1,d.2⟩
   ·cases h
  ·split at h
   ·rename_i r i;obtain⟨d,e⟩:=Ou i hx hy p q w;exact⟨_,_,h,by simp only[VR],e.1,e.2⟩
   ·cases h
  ·cases h
end Go.Abs
