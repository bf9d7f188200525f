
import Derived.Test.YtjkmipianfkncaaGreatDoorAbsE
import Derived.Laws.Slices
set_option linter.unusedSimpArgs false
set_option linter.unusedVariables false
set_option linter.defProp false
namespace Go.Abs
variable {P:Program}
inductive NextR(ι:Inj)(v:Option V):Next->Prop
 | skip (h:v=none):NextR ι v .skip
 | value (x:Value) (h:∀u,v=some u->VR ι u x):NextR ι v (.value x)
def gH(P:Program)(ι:Inj)(f:Nat)(o:Oper)(a:Act)(w:World)(e:Eff):Prop:=
 match e.wr with
 | none=>∃x,(execOp a.eval o).run P w=.ok x w/\NextR ι e.val x
 | some (b,blk)=>match e.new with
  | false=>∃q,ι b=some (some q)/\(q.fz=false->∃ob x,(execOp a.eval o).run P w=.ok x (setObj w q.r ob)/\BR ι q blk ob/\NextR ι e.val x)
  | true=>b=f/\∃d q ob x,(execOp a.eval o).run P w=.ok x ((World.alloc { w with drawn:=d } ob))/\q.r=w.heap.size/\q.fz=false/\BR (upd ι f (some q)) q blk ob/\NextR (upd ι f (some q)) e.val x
def gH.val{ι:Inj}{f:Nat}{o:Oper}{a:Act}{w:World}{v:V}{x:Value}{rd:List Nat}(E:(execOp a.eval o).run P w=.ok (.value x) w)(F:VR ι v x):
  gH P ι f o a w { val:=some v,rd:=rd }:=by
 unfold gH;exact⟨_,E,.value x λu C=>by cases C;exact F⟩
def gH.mkR{ι:Inj}{f:Nat}{o:Oper}{a:Act}{w:World}{v:V}{x:Value}{rd:List Nat}{blk:Blk}{ob:Obj}{d:Nat}{q:Rf}(G:(execOp a.eval o).run P w=.ok (.value x) (World.alloc { w with drawn:=d } ob))
  (F:q.r=w.heap.size) (C:q.fz=false) (J:BR (upd ι f (some q)) q blk ob) (E:VR (upd ι f (some q)) v x):
  gH P ι f o a w { val:=some v,rd:=rd,wr:=some (f,blk),new:=true }:=by
 unfold gH;exact⟨rfl,d,q,ob,_,G,F,C,J,.value x λu O=>by cases O;exact E⟩
def gH.mk{ι:Inj}{f:Nat}{o:Oper}{a:Act}{w:World}{v:V}{x:Value}{rd:List Nat}{blk:Blk}{ob:Obj}(C:(execOp a.eval o).run P w=.ok (.value x) (w.alloc ob))
  (E:BR (upd ι f (some (Rf.of w.heap.size (0) (0)))) (Rf.of w.heap.size (0) (0)) blk ob) (F:VR (upd ι f (some (Rf.of w.heap.size (0) (0)))) v x):
  gH P ι f o a w { val:=some v,rd:=rd,wr:=some (f,blk),new:=true }:=.mkR (d:=w.drawn) C rfl rfl E F
def dp(ι:Inj)(f:Nat)(r:Option Rf):upd ι f r f=some r:=by simp[upd]
def lQ{op:BinOp}{t:TypeId}{x y:Operand}{a b:Value}(d:a≠.nilIface\/b≠.nilIface)(e:(∀c,a≠.agg c)\/(∀c,b≠.agg c))(w:World):
  (eqGuard op t x y a b).run P w=.ok () w:=by
 unfold eqGuard;cases op<;>simp<;>(cases a<;>cases b<;>simp_all)
def oV{t:TypeId}{X Y:Value}{b:Bool}{w:World}(p q:Operand)(c:X≠.nilIface\/Y≠.nilIface)(d:(∀a,X≠.agg a)\/(∀a,Y≠.agg a))
  (e:(∀k n,X≠.int k n)/\(∀s,X≠.string s)/\(∀k n,X≠.float k n)/\(∀k n m,X≠.complex k n m)) (h:(Op.equal t X Y).run P w=.ok b w):
  ((eqGuard .eql t p q X Y).run P w=.ok () w/\(binOp .eql t X Y).run P w=.ok (.bool b) w)/\
  ((eqGuard .neq t p q X Y).run P w=.ok () w/\(binOp .neq t X Y).run P w=.ok (.bool (!b)) w):=by
 obtain⟨a1,a2,f,g⟩:=e;refine⟨⟨lQ c d w,?_⟩,lQ c d w,?_⟩
 ·cases X<;>simp_all[binOp]
 ·cases X<;>simp_all[binOp]
def uG{t:TypeId}{a ys:Array Value}{b:Bool}{w:World}(p q:Operand)(c:P.eqGuardType P.depth t=false)(h:(Op.equalIn 10000 t (.agg a) (.agg ys)).run P w=.ok b w):
  ((eqGuard .eql t p q (.agg a) (.agg ys)).run P w=.ok () w/\(binOp .eql t (.agg a) (.agg ys)).run P w=.ok (.bool b) w)/\
  ((eqGuard .neq t p q (.agg a) (.agg ys)).run P w=.ok () w/\(binOp .neq t (.agg a) (.agg ys)).run P w=.ok (.bool (!b)) w):=by
 refine⟨⟨run_eqGuard_agg w _ t p q a ys c,?_⟩,run_eqGuard_agg w _ t p q a ys c,?_⟩
 ·rw[run_eql_struct,h];rfl
 ·rw[run_neq_struct,h];rfl
def eS(t:TypeId)(x y:Value):Op.equal t x y=Op.equalIn (9999+1) t x y:=rfl
def DU(P:Program)(d:Nat){e:TypeId}{k':IntKind}(l:P.underlying e=some (.int k'))(k:IntKind):∀(a b:List Int) (n j:Nat) (A B:List Int),A.drop j=a->B.drop j=b->
  a.length=n->b.length=n->eqAr (eqC P (d+1) e) 1 (A.map (V.i k)) (B.map (V.i k)) n j=some (a==b)
 | [],b,n,j,A,B,_,_,c,f=>by
  simp only[fR]at c;subst c;have:b=[]:=tU f;subst this;simp[eqAr]
 | x::a,[],n,j,A,B,_,_,c,f=>by simp at c f;omega
 | x::a,y::b,0,j,A,B,_,_,c,f=>by simp at c
 | x::a,y::b,n+1,j,A,B,h,m,c,f=>by
  have q:A.drop (j+1)=a:=by rw[<-i7,h];rfl
  have r:B.drop (j+1)=b:=by rw[<-i7,m];rfl
  have ih:=DU P d l k a b n (j+1) A B q r (by simpa using c) (by simpa using f);have p:((A.map (V.i k)).drop (j*1)).take 1=[V.i k x]:=by
   rw[qN,<-List.map_drop,h];rfl
  have s:((B.map (V.i k)).drop (j*1)).take 1=[V.i k y]:=by
   rw[qN,<-List.map_drop,m];rfl
  have o:keq k k=true:=by cases k<;>rfl
  have g:eqC P (d+1) e [V.i k x] [V.i k y]=some (x==y):=by simp[eqC,l,o]
  simp only[eqAr,p,s,ih,g];congr 1
def K3{ι:Inj}{t:TypeId}{x y:V}{X Y:Value}{b:Bool}(h:eqlV P t x y=some b)(hx:VR ι x X)(hy:VR ι y Y)(p q:Operand)(w:World):
  ((eqGuard .eql t p q X Y).run P w=.ok () w/\(binOp .eql t X Y).run P w=.ok (.bool b) w)/\
  ((eqGuard .neq t p q X Y).run P w=.ok () w/\(binOp .neq t X Y).run P w=.ok (.bool (!b)) w):=by
 unfold eqlV at h;split at h
 ·rename_i hd;split at h
  ·simp only[ar]at h;subst h;simp only[VR]at hx hy;subst hx hy;exact oV p q (.inl (by simp)) (.inl (by simp)) (by simp) (by rw[eS,Op.equalIn];simp[aU hd])
  ·cases h
 ·rename_i e hd;split at h
  case h_4=>cases h
  all_goals
   simp only[ar]at h;subst h;simp only[VR]at hx hy
  ·subst hx hy;exact oV p q (.inl (by simp)) (.inl (by simp)) (by simp) (by rw[eS,Op.equalIn];simp[aU hd])
  ·obtain⟨r,_,rfl⟩:=hy;subst hx;exact oV p q (.inl (by simp)) (.inl (by simp)) (by simp) (by rw[eS,Op.equalIn];simp[aU hd])
  ·obtain⟨r,_,rfl⟩:=hx;subst hy;exact oV p q (.inl (by simp)) (.inl (by simp)) (by simp) (by rw[eS,Op.equalIn];simp[aU hd])
 ·rename_i e I C hd;split at h
  case h_4=>cases h
  all_goals
   simp only[ar]at h;subst h;simp only[VR]at hx hy
  ·subst hx hy;exact oV p q (.inl (by simp)) (.inl (by simp)) (by simp) (by rw[eS,Op.equalIn];simp[aU hd])
  ·obtain⟨r,rfl,_⟩:=hy;obtain⟨E,G,A,l⟩:=zB _ r;rw[l];subst hx;exact oV p q (.inl (by simp)) (.inl (by simp)) (by simp) (by rw[eS,Op.equalIn];simp[aU hd])
  ·obtain⟨r,rfl,_⟩:=hx;obtain⟨E,G,A,l⟩:=zB _ r;rw[l];subst hy;exact oV p q (.inl (by simp)) (.inl (by simp)) (by simp) (by rw[eS,Op.equalIn];simp[aU hd])
 ·rename_i e hd;split at h
  case h_4=>cases h
  all_goals
   simp only[ar]at h;subst h;simp only[VR]at hx hy
  ·subst hx hy;exact oV p q (.inl (by simp)) (.inl (by simp)) (by simp) (by rw[eS,Op.equalIn];simp[aU hd])
  ·obtain⟨r,c,_,_,_,rfl⟩:=hy;subst hx;exact oV p q (.inl (by simp)) (.inl (by simp)) (by simp) (by rw[eS,Op.equalIn];simp[aU hd])
  ·obtain⟨r,c,_,_,_,rfl⟩:=hx;subst hy;exact oV p q (.inl (by simp)) (.inl (by simp)) (by simp) (by rw[eS,Op.equalIn];simp[aU hd])
 ·rename_i e hd;split at h
  case h_3=>cases h
  all_goals
   simp only[ar]at h;subst h;simp only[VR]at hx hy
  ·obtain⟨r,rfl,_⟩:=hy;subst hx;exact oV p q (.inr (by simp)) (.inl (by simp)) (by simp) (by rw[eS,Op.equalIn];simp[aU hd])
  ·obtain⟨r,rfl,_⟩:=hx;subst hy;exact oV p q (.inl (by simp)) (.inl (by simp)) (by simp) (by rw[eS,Op.equalIn];simp[aU hd])
 ·rename_i m e hd;have f:∀X,mT P t X=.agg X:=λX=>by simp[mT,bU,hd]
  split at h
  ·rename_i k n a k' K d;split at h
   ·rename_i g;simp only[aC,jn]at g;obtain⟨u,F⟩:=g;have u:=k9 u;subst u F;split at h
    ·rename_i k2 B;split at h
     ·rename_i g;simp only[aC,jn]at g;obtain⟨H,D⟩:=g;subst H;split at h
      ·cases h
      ·rename_i j;simp only[ar]at h;subst h;simp only[VR]at hx hy;obtain⟨z,rfl⟩:=hx;obtain⟨v,rfl⟩:=hy;refine uG p q j ?_;have:=Gk (P:=P) (ι:=ι) 3 9997 t (a.map (V.i k)) (d.map (V.i k)) (a==d) (a.map (Value.int k)).toArray (d.map (Value.int k)).toArray
        (by unfold eqC;rw[hd];simp only[D];exact DU P 1 B k a d m 0 a d rfl rfl z v) (VRs.ints k a) (VRs.ints k d)
       have:=this.2.2 w;rwa[f,f]at this
     ·cases h
    ·cases h
   ·cases h
  ·rename_i a d;split at h
   ·cases h
   ·rename_i j;simp only[VR]at hx hy;obtain⟨s,rfl,hx⟩:=hx;obtain⟨o,rfl,hy⟩:=hy;refine uG p q j ?_;have:=(Gk (P:=P) (ι:=ι) 6 9994 t a d b s o h hx hy).2.2 w;rwa[f,f]at this
  ·cases h
 ·rename_i J hd;have f:∀X,mT P t X=.agg X:=λX=>by simp[mT,bU,hd]
  split at h
  ·rename_i a d;split at h
   ·cases h
   ·rename_i j;simp only[VR]at hx hy;obtain⟨s,rfl,hx⟩:=hx;obtain⟨o,rfl,hy⟩:=hy;refine uG p q j ?_;have:=(Gk (P:=P) (ι:=ι) 6 9994 t a d b s o h hx hy).2.2 w;rwa[f,f]at this
  ·cases h
 ·cases h
def Rh{α:Type}{ι:Inj}{op:BinOp}{t:TypeId}{k:IntKind}{a b:Int}{c:V->Option α}{z:α}(h:intK op k a b c=some z)(w:World):
  ∃v R,c v=some z/\VR ι v R/\(binOp op t (.int k a) (.int k b)).run P w=.ok R w:=by
 have d:∀{v:V} {R:Value},c v=some z->VR ι v R->(binOp op t (.int k a) (.int k b)).run P w=.ok R w->
   ∃v R,c v=some z/\VR ι v R/\(binOp op t (.int k a) (.int k b)).run P w=.ok R w:=λe g f=>⟨_,_,e,g,f⟩
 cases op<;>simp only[intK]at h
 case add=>exact d h rfl (by simp[binOp,Op.intArith])
 case sub=>exact d h rfl (by simp[binOp,Op.intArith])
 case mul=>exact d h rfl (by simp[binOp,Op.intArith])
 case quo=>
  cases hc:b==0 with
  | true=>simp[hc]at h
  | false=>
   simp only[hc,af]at h;have:¬b=0:=by simpa using hc
   exact d h rfl (by simp[binOp,Op.intDiv,this])
 case rem=>
  cases hc:b==0 with
  | true=>simp[hc]at h
  | false=>
   simp only[hc,af]at h;have:¬b=0:=by simpa using hc
   exact d h rfl (by simp[binOp,Op.intDiv,this])
 case and=>exact d h rfl (by simp only[binOp,ne_eq,ux,az];rfl)
 case or=>exact d h rfl (by simp only[binOp,ne_eq,ux,az];rfl)
 case xor=>exact d h rfl (by simp only[binOp,ne_eq,ux,az];rfl)
 case andNot=>exact d h rfl (by simp only[binOp,ne_eq,ux,az];rfl)
 case shl=>
  cases hc:decide (b<0)with
  | true=>simp[hc]at h
  | false=>
   simp only[hc,af]at h;have:¬b<0:=by simpa using hc
   exact d h rfl (by simp[binOp,Op.shift,this])
 case shr=>
  cases hc:decide (b<0)with
  | true=>simp[hc]at h
  | false=>
   simp only[hc,af]at h;have:¬b<0:=by simpa using hc
   exact d h rfl (by simp[binOp,Op.shift,this])
 all_goals exact d h rfl (by simp[binOp,Op.intCmp])
def CW{α:Type}{ι:Inj}{op:BinOp}(d:op=.shl\/op=.shr){t:TypeId}{k k':IntKind}{a b:Int}{c:V->Option α}{z:α}(h:intK op k a b c=some z)(w:World):
  ∃v R,c v=some z/\VR ι v R/\(binOp op t (.int k a) (.int k' b)).run P w=.ok R w:=by
 rcases d with rfl | rfl<;>simp only[intK]at h
 all_goals
  cases hc:decide (b<0)with
  | true=>simp[hc]at h
  | false=>
   simp only[hc,af]at h;have:¬b<0:=by simpa using hc
   exact⟨_,_,h,rfl,by simp[binOp,Op.shift,this]⟩
def Dl(a b:aa):(ByteArray.mk a.toArray)++(ByteArray.mk b.toArray)=ByteArray.mk (a++b).toArray:=by
 apply MC;rw[ByteArray.data_append];simp
def SH{α:Type}{ι:Inj}{op:BinOp}{t:TypeId}{a b:aa}{c:V->Option α}{z:α}(h:strK op a b c=some z)(w:World):
  ∃v R,c v=some z/\VR ι v R/\(binOp op t (.string ⟨a.toArray⟩) (.string ⟨b.toArray⟩)).run P w=.ok R w:=by
 have e:∀{v:V} {R:Value},c v=some z->VR ι v R->(binOp op t (.string ⟨a.toArray⟩) (.string ⟨b.toArray⟩)).run P w=.ok R w->
   ∃v R,c v=some z/\VR ι v R/\(binOp op t (.string ⟨a.toArray⟩) (.string ⟨b.toArray⟩)).run P w=.ok R w:=λd f g=>⟨_,_,d,f,g⟩
 cases op<;>simp only[strK]at h
 case add=>
  obtain⟨s,d,f⟩:=av h;unfold cat at d;split at d
  ·rename_i i;simp only[ar]at d;subst d;refine e f rfl ?_;simp only[binOp,Op.stringOp];have hs:(ByteArray.mk a.toArray).size=a.length:=rfl;have hs':(ByteArray.mk b.toArray).size=b.length:=rfl;rw[ab (by simp only[hs,hs',IntKind.max,IntKind.signed,IntKind.bits];simp;omega),Dl];rfl
  ·cases d
 all_goals first
  | cases h
  | exact e h rfl (by simp only[binOp,Op.stringOp,yf];rfl)
def Sz{α:Type}{ι:Inj}{op:BinOp}{t:TypeId}{x y:V}{X Y:Value}{c:V->Option α}{z:α}(h:binK P op t x y c=some z)(hx:VR ι x X)(hy:VR ι y Y)(p q:Operand)(w:World):
  ∃v R,c v=some z/\VR ι v R/\(eqGuard op t p q X Y).run P w=.ok () w/\(binOp op t X Y).run P w=.ok R w:=by
 unfold binK at h;split at h
 ·rename_i k a k' b;simp only[VR]at hx hy;subst hx hy;have g:=lQ (P:=P) (op:=op) (t:=t) (x:=p) (y:=q) (a:=.int k a) (b:=.int k' b) (.inl (by simp)) (.inl (by simp)) w;split at h
  ·obtain⟨v,R,d,e,f⟩:=CW (P:=P) (ι:=ι) (t:=t) (k':=k') (.inl rfl) h w;exact⟨v,R,d,e,g,f⟩
  ·obtain⟨v,R,d,e,f⟩:=CW (P:=P) (ι:=ι) (t:=t) (k':=k') (.inr rfl) h w;exact⟨v,R,d,e,g,f⟩
  ·split at h
   ·rename_i i;have i:=k9 i;subst i;obtain⟨v,R,d,e,f⟩:=Rh (P:=P) (ι:=ι) (t:=t) h w;exact⟨v,R,d,e,g,f⟩
   ·cases h
 ·rename_i a b;simp only[VR]at hx hy;subst hx hy;have g:=lQ (P:=P) (op:=op) (t:=t) (x:=p) (y:=q) (a:=.string ⟨a.toArray⟩) (b:=.string ⟨b.toArray⟩) (.inl (by simp)) (.inl (by simp)) w;obtain⟨v,R,d,e,f⟩:=SH (P:=P) (ι:=ι) (t:=t) h w;exact⟨v,R,d,e,g,f⟩
 ·split at h
  ·split at h
   ·rename_i r j;obtain⟨d,e⟩:=K3 j hx hy p q w;exact⟨_,_,h,by simp only[VR],d.1,d.2⟩
   ·cases h
  ·split at h
   ·rename_i r j;obtain⟨d,e⟩:=K3 j hx hy p q w;exact⟨_,_,h,by simp only[VR],e.1,e.2⟩
   ·cases h
  ·cases h
end Go.Abs
