
import Derived.Test.YtadejcglcffgbacGreatDoorAbsE
import Derived.Laws.Slices
set_option linter.unusedSimpArgs false
set_option linter.unusedVariables false
set_option linter.defProp false
namespace Go.Abs
variable {P:Program}
inductive NextR(ι:Inj)(v:Option V):Next->Prop
 | skip (h:v=none):NextR ι v .skip
 | value (x:Value) (h:∀u,v=some u->VR ι u x):NextR ι v (.value x)
def eh(P:Program)(ι:Inj)(f:Nat)(o:Oper)(a:Act)(w:World)(e:Eff):Prop:=
 match e.wr with
 | none=>∃x,(execOp a.eval o).run P w=.ok x w/\NextR ι e.val x
 | some (b,blk)=>match e.new with
  | false=>∃q,ι b=some (some q)/\(q.fz=false->∃ob x,(execOp a.eval o).run P w=.ok x (setObj w q.r ob)/\BR ι q blk ob/\NextR ι e.val x)
  | true=>b=f/\∃d q ob x,(execOp a.eval o).run P w=.ok x ((World.alloc { w with drawn:=d } ob))/\q.r=w.heap.size/\q.fz=false/\BR (upd ι f (some q)) q blk ob/\NextR (upd ι f (some q)) e.val x
def eh.val{ι:Inj}{f:Nat}{o:Oper}{a:Act}{w:World}{v:V}{x:Value}{rd:List Nat}(E:(execOp a.eval o).run P w=.ok (.value x) w)(C:VR ι v x):
  eh P ι f o a w { val:=some v,rd:=rd }:=by
 unfold eh;exact⟨_,E,.value x λu A=>by cases A;exact C⟩
def eh.mkR{ι:Inj}{f:Nat}{o:Oper}{a:Act}{w:World}{v:V}{x:Value}{rd:List Nat}{blk:Blk}{ob:Obj}{d:Nat}{q:Rf}(F:(execOp a.eval o).run P w=.ok (.value x) (World.alloc { w with drawn:=d } ob))
  (J:q.r=w.heap.size) (E:q.fz=false) (G:BR (upd ι f (some q)) q blk ob) (C:VR (upd ι f (some q)) v x):
  eh P ι f o a w { val:=some v,rd:=rd,wr:=some (f,blk),new:=true }:=by
 unfold eh;exact⟨rfl,d,q,ob,_,F,J,E,G,.value x λu A=>by cases A;exact C⟩
def eh.mk{ι:Inj}{f:Nat}{o:Oper}{a:Act}{w:World}{v:V}{x:Value}{rd:List Nat}{blk:Blk}{ob:Obj}(C:(execOp a.eval o).run P w=.ok (.value x) (w.alloc ob))
  (E:BR (upd ι f (some (Rf.of w.heap.size (0) (0)))) (Rf.of w.heap.size (0) (0)) blk ob) (A:VR (upd ι f (some (Rf.of w.heap.size (0) (0)))) v x):
  eh P ι f o a w { val:=some v,rd:=rd,wr:=some (f,blk),new:=true }:=.mkR (d:=w.drawn) C rfl rfl E A
def bZ(ι:Inj)(f:Nat)(r:Option Rf):upd ι f r f=some r:=by simp[upd]
def iZ{op:BinOp}{t:TypeId}{x y:Operand}{a b:Value}(h1:a≠.nilIface\/b≠.nilIface)(h2:(∀c,a≠.agg c)\/(∀c,b≠.agg c))(w:World):
  (eqGuard op t x y a b).run P w=.ok () w:=by
 unfold eqGuard;cases op<;>simp<;>(cases a<;>cases b<;>simp_all)
def kT{t:TypeId}{X Y:Value}{b:Bool}{w:World}(p q:Operand)(h1:X≠.nilIface\/Y≠.nilIface)(h2:(∀a,X≠.agg a)\/(∀a,Y≠.agg a))
  (c:(∀k n,X≠.int k n)/\(∀s,X≠.string s)/\(∀k n,X≠.float k n)/\(∀k n m,X≠.complex k n m)) (h:(Op.equal t X Y).run P w=.ok b w):
  ((eqGuard .eql t p q X Y).run P w=.ok () w/\(binOp .eql t X Y).run P w=.ok (.bool b) w)/\
  ((eqGuard .neq t p q X Y).run P w=.ok () w/\(binOp .neq t X Y).run P w=.ok (.bool (!b)) w):=by
 obtain⟨d,e,g,f⟩:=c;refine⟨⟨iZ h1 h2 w,?_⟩,iZ h1 h2 w,?_⟩
 ·cases X<;>simp_all[binOp]
 ·cases X<;>simp_all[binOp]
def pJ{t:TypeId}{c a:Array Value}{b:Bool}{w:World}(p q:Operand)(d:P.eqGuardType P.depth t=false)(h:(Op.equalIn 10000 t (.agg c) (.agg a)).run P w=.ok b w):
  ((eqGuard .eql t p q (.agg c) (.agg a)).run P w=.ok () w/\(binOp .eql t (.agg c) (.agg a)).run P w=.ok (.bool b) w)/\
  ((eqGuard .neq t p q (.agg c) (.agg a)).run P w=.ok () w/\(binOp .neq t (.agg c) (.agg a)).run P w=.ok (.bool (!b)) w):=by
 refine⟨⟨run_eqGuard_agg w _ t p q c a d,?_⟩,run_eqGuard_agg w _ t p q c a d,?_⟩
 ·rw[run_eql_struct,h];rfl
 ·rw[run_neq_struct,h];rfl
def cS(t:TypeId)(x y:Value):Op.equal t x y=Op.equalIn (9999+1) t x y:=rfl
def xj(P:Program)(d:Nat){e:TypeId}{k':IntKind}(h:P.underlying e=some (.int k'))(k:IntKind):∀(a b:List Int) (n j:Nat) (A B:List Int),A.drop j=a->B.drop j=b->
  a.length=n->b.length=n->eqAr (eqC P (d+1) e) 1 (A.map (V.i k)) (B.map (V.i k)) n j=some (a==b)
 | [],b,n,j,A,B,_,_,c,f=>by
  simp only[cP]at c;subst c;have:b=[]:=ta f;subst this;simp[eqAr]
 | x::a,[],n,j,A,B,_,_,c,f=>by simp at c f;omega
 | x::a,y::b,0,j,A,B,_,_,c,f=>by simp at c
 | x::a,y::b,n+1,j,A,B,l,m,c,f=>by
  have h1:A.drop (j+1)=a:=by rw[<-vf,l];rfl
  have h2:B.drop (j+1)=b:=by rw[<-vf,m];rfl
  have ih:=xj P d h k a b n (j+1) A B h1 h2 (by simpa using c) (by simpa using f);have p:((A.map (V.i k)).drop (j*1)).take 1=[V.i k x]:=by
   rw[qx,<-List.map_drop,l];rfl
  have o:((B.map (V.i k)).drop (j*1)).take 1=[V.i k y]:=by
   rw[qx,<-List.map_drop,m];rfl
  have q:keq k k=true:=by cases k<;>rfl
  have g:eqC P (d+1) e [V.i k x] [V.i k y]=some (x==y):=by simp[eqC,h,q]
  simp only[eqAr,p,o,ih,g];congr 1
def CY{ι:Inj}{t:TypeId}{x y:V}{X Y:Value}{b:Bool}(h:eqlV P t x y=some b)(f:VR ι x X)(d:VR ι y Y)(p q:Operand)(w:World):
  ((eqGuard .eql t p q X Y).run P w=.ok () w/\(binOp .eql t X Y).run P w=.ok (.bool b) w)/\
  ((eqGuard .neq t p q X Y).run P w=.ok () w/\(binOp .neq t X Y).run P w=.ok (.bool (!b)) w):=by
 unfold eqlV at h;split at h
 ·rename_i g;split at h
  ·simp only[af]at h;subst h;simp only[VR]at f d;subst f d;exact kT p q (.inl (by simp)) (.inl (by simp)) (by simp) (by rw[cS,Op.equalIn];simp[aJ g])
  ·cases h
 ·rename_i e g;split at h
  case h_4=>cases h
  all_goals
   simp only[af]at h;subst h;simp only[VR]at f d
  ·subst f d;exact kT p q (.inl (by simp)) (.inl (by simp)) (by simp) (by rw[cS,Op.equalIn];simp[aJ g])
  ·obtain⟨r,_,rfl⟩:=d;subst f;exact kT p q (.inl (by simp)) (.inl (by simp)) (by simp) (by rw[cS,Op.equalIn];simp[aJ g])
  ·obtain⟨r,_,rfl⟩:=f;subst d;exact kT p q (.inl (by simp)) (.inl (by simp)) (by simp) (by rw[cS,Op.equalIn];simp[aJ g])
 ·rename_i e J D g;split at h
  case h_4=>cases h
  all_goals
   simp only[af]at h;subst h;simp only[VR]at f d
  ·subst f d;exact kT p q (.inl (by simp)) (.inl (by simp)) (by simp) (by rw[cS,Op.equalIn];simp[aJ g])
  ·obtain⟨r,rfl,_⟩:=d;obtain⟨F,I,H,C⟩:=uW _ r;rw[C];subst f;exact kT p q (.inl (by simp)) (.inl (by simp)) (by simp) (by rw[cS,Op.equalIn];simp[aJ g])
  ·obtain⟨r,rfl,_⟩:=f;obtain⟨F,I,H,C⟩:=uW _ r;rw[C];subst d;exact kT p q (.inl (by simp)) (.inl (by simp)) (by simp) (by rw[cS,Op.equalIn];simp[aJ g])
 ·rename_i e g;split at h
  case h_4=>cases h
  all_goals
   simp only[af]at h;subst h;simp only[VR]at f d
  ·subst f d;exact kT p q (.inl (by simp)) (.inl (by simp)) (by simp) (by rw[cS,Op.equalIn];simp[aJ g])
  ·obtain⟨r,c,_,_,_,rfl⟩:=d;subst f;exact kT p q (.inl (by simp)) (.inl (by simp)) (by simp) (by rw[cS,Op.equalIn];simp[aJ g])
  ·obtain⟨r,c,_,_,_,rfl⟩:=f;subst d;exact kT p q (.inl (by simp)) (.inl (by simp)) (by simp) (by rw[cS,Op.equalIn];simp[aJ g])
 ·rename_i e g;split at h
  case h_3=>cases h
  all_goals
   simp only[af]at h;subst h;simp only[VR]at f d
  ·obtain⟨r,rfl,_⟩:=d;subst f;exact kT p q (.inr (by simp)) (.inl (by simp)) (by simp) (by rw[cS,Op.equalIn];simp[aJ g])
  ·obtain⟨r,rfl,_⟩:=f;subst d;exact kT p q (.inl (by simp)) (.inl (by simp)) (by simp) (by rw[cS,Op.equalIn];simp[aJ g])
 ·rename_i m e g;have l:∀X,jF P t X=.agg X:=λX=>by simp[jF,bi,g]
  split at h
  ·rename_i k n a k' K j;split at h
   ·rename_i o;simp only[aw,fP]at o;obtain⟨A,G⟩:=o;have A:=io A;subst A G;split at h
    ·rename_i k2 E;split at h
     ·rename_i o;simp only[aw,fP]at o;obtain⟨h1,h2⟩:=o;subst h1;split at h
      ·cases h
      ·rename_i s;simp only[af]at h;subst h;simp only[VR]at f d;obtain⟨B,rfl⟩:=f;obtain⟨u,rfl⟩:=d;refine pJ p q s ?_;have:=Az (P:=P) (ι:=ι) 3 9997 t (a.map (V.i k)) (j.map (V.i k)) (a==j) (a.map (Value.int k)).toArray (j.map (Value.int k)).toArray
        (by unfold eqC;rw[g];simp only[h2];exact xj P 1 E k a j m 0 a j rfl rfl B u) (VRs.ints k a) (VRs.ints k j)
       have:=this.2.2 w;rwa[l,l]at this
     ·cases h
    ·cases h
   ·cases h
  ·rename_i a j;split at h
   ·cases h
   ·rename_i s;simp only[VR]at f d;obtain⟨v,rfl,f⟩:=f;obtain⟨z,rfl,d⟩:=d;refine pJ p q s ?_;have:=(Az (P:=P) (ι:=ι) 6 9994 t a j b v z h f d).2.2 w;rwa[l,l]at this
  ·cases h
 ·rename_i L g;have l:∀X,jF P t X=.agg X:=λX=>by simp[jF,bi,g]
  split at h
  ·rename_i a j;split at h
   ·cases h
   ·rename_i s;simp only[VR]at f d;obtain⟨v,rfl,f⟩:=f;obtain⟨z,rfl,d⟩:=d;refine pJ p q s ?_;have:=(Az (P:=P) (ι:=ι) 6 9994 t a j b v z h f d).2.2 w;rwa[l,l]at this
  ·cases h
 ·cases h
def Jj{α:Type}{ι:Inj}{op:BinOp}{t:TypeId}{k:IntKind}{a b:Int}{c:V->Option α}{z:α}(h:intK op k a b c=some z)(w:World):
  ∃v R,c v=some z/\VR ι v R/\(binOp op t (.int k a) (.int k b)).run P w=.ok R w:=by
 have d:∀{v:V} {R:Value},c v=some z->VR ι v R->(binOp op t (.int k a) (.int k b)).run P w=.ok R w->
   ∃v R,c v=some z/\VR ι v R/\(binOp op t (.int k a) (.int k b)).run P w=.ok R w:=λh1 h2 e=>⟨_,_,h1,h2,e⟩
 cases op<;>simp only[intK]at h
 case add=>exact d h rfl (by simp[binOp,Op.intArith])
 case sub=>exact d h rfl (by simp[binOp,Op.intArith])
 case mul=>exact d h rfl (by simp[binOp,Op.intArith])
 case quo=>
  cases hc:b==0 with
  | true=>simp[hc]at h
  | false=>
   simp only[hc,ae]at h;have:¬b=0:=by simpa using hc
   exact d h rfl (by simp[binOp,Op.intDiv,this])
 case rem=>
  cases hc:b==0 with
  | true=>simp[hc]at h
  | false=>
   simp only[hc,ae]at h;have:¬b=0:=by simpa using hc
   exact d h rfl (by simp[binOp,Op.intDiv,this])
 case and=>exact d h rfl (by simp only[binOp,ne_eq,qy,aD];rfl)
 case or=>exact d h rfl (by simp only[binOp,ne_eq,qy,aD];rfl)
 case xor=>exact d h rfl (by simp only[binOp,ne_eq,qy,aD];rfl)
 case andNot=>exact d h rfl (by simp only[binOp,ne_eq,qy,aD];rfl)
 case shl=>
  cases hc:decide (b<0)with
  | true=>simp[hc]at h
  | false=>
   simp only[hc,ae]at h;have:¬b<0:=by simpa using hc
   exact d h rfl (by simp[binOp,Op.shift,this])
 case shr=>
  cases hc:decide (b<0)with
  | true=>simp[hc]at h
  | false=>
   simp only[hc,ae]at h;have:¬b<0:=by simpa using hc
   exact d h rfl (by simp[binOp,Op.shift,this])
 all_goals exact d h rfl (by simp[binOp,Op.intCmp])
def xJ{α:Type}{ι:Inj}{op:BinOp}(d:op=.shl\/op=.shr){t:TypeId}{k k':IntKind}{a b:Int}{c:V->Option α}{z:α}(h:intK op k a b c=some z)(w:World):
  ∃v R,c v=some z/\VR ι v R/\(binOp op t (.int k a) (.int k' b)).run P w=.ok R w:=by
 rcases d with rfl | rfl<;>simp only[intK]at h
 all_goals
  cases hc:decide (b<0)with
  | true=>simp[hc]at h
  | false=>
   simp only[hc,ae]at h;have:¬b<0:=by simpa using hc
   exact⟨_,_,h,rfl,by simp[binOp,Op.shift,this]⟩
def yg(a b:aa):(ByteArray.mk a.toArray)++(ByteArray.mk b.toArray)=ByteArray.mk (a++b).toArray:=by
 apply F5;rw[ByteArray.data_append];simp
def KI{α:Type}{ι:Inj}{op:BinOp}{t:TypeId}{a b:aa}{c:V->Option α}{z:α}(h:strK op a b c=some z)(w:World):
  ∃v R,c v=some z/\VR ι v R/\(binOp op t (.string ⟨a.toArray⟩) (.string ⟨b.toArray⟩)).run P w=.ok R w:=by
 have d:∀{v:V} {R:Value},c v=some z->VR ι v R->(binOp op t (.string ⟨a.toArray⟩) (.string ⟨b.toArray⟩)).run P w=.ok R w->
   ∃v R,c v=some z/\VR ι v R/\(binOp op t (.string ⟨a.toArray⟩) (.string ⟨b.toArray⟩)).run P w=.ok R w:=λh1 h2 g=>⟨_,_,h1,h2,g⟩
 cases op<;>simp only[strK]at h
 case add=>
  obtain⟨s,h1,h2⟩:=ah h;unfold cat at h1;split at h1
  ·rename_i f;simp only[af]at h1;subst h1;refine d h2 rfl ?_;simp only[binOp,Op.stringOp];have e:(ByteArray.mk a.toArray).size=a.length:=rfl;have hs':(ByteArray.mk b.toArray).size=b.length:=rfl;rw[ab (by simp only[e,hs',IntKind.max,IntKind.signed,IntKind.bits];simp;omega),yg];rfl
  ·cases h1
 all_goals first
  | cases h
  | exact d h rfl (by simp only[binOp,Op.stringOp,sD];rfl)
def KU{α:Type}{ι:Inj}{op:BinOp}{t:TypeId}{x y:V}{X Y:Value}{c:V->Option α}{z:α}(h:binK P op t x y c=some z)(f:VR ι x X)(e:VR ι y Y)(p q:Operand)(w:World):
  ∃v R,c v=some z/\VR ι v R/\(eqGuard op t p q X Y).run P w=.ok () w/\(binOp op t X Y).run P w=.ok R w:=by
 unfold binK at h;split at h
 ·rename_i k a k' b;simp only[VR]at f e;subst f e;have g:=iZ (P:=P) (op:=op) (t:=t) (x:=p) (y:=q) (a:=.int k a) (b:=.int k' b) (.inl (by simp)) (.inl (by simp)) w;split at h
  ·obtain⟨v,R,h1,h2,d⟩:=xJ (P:=P) (ι:=ι) (t:=t) (k':=k') (.inl rfl) h w;exact⟨v,R,h1,h2,g,d⟩
  ·obtain⟨v,R,h1,h2,d⟩:=xJ (P:=P) (ι:=ι) (t:=t) (k':=k') (.inr rfl) h w;exact⟨v,R,h1,h2,g,d⟩
  ·split at h
   ·rename_i j;have j:=io j;subst j;obtain⟨v,R,h1,h2,d⟩:=Jj (P:=P) (ι:=ι) (t:=t) h w;exact⟨v,R,h1,h2,g,d⟩
   ·cases h
 ·rename_i a b;simp only[VR]at f e;subst f e;have g:=iZ (P:=P) (op:=op) (t:=t) (x:=p) (y:=q) (a:=.string ⟨a.toArray⟩) (b:=.string ⟨b.toArray⟩) (.inl (by simp)) (.inl (by simp)) w;obtain⟨v,R,h1,h2,d⟩:=KI (P:=P) (ι:=ι) (t:=t) h w;exact⟨v,R,h1,h2,g,d⟩
 ·split at h
  ·split at h
   ·rename_i r i;obtain⟨h1,h2⟩:=CY i f e p q w;exact⟨_,_,h,by simp only[VR],h1.1,h1.2⟩
   ·cases h
  ·split at h
   ·rename_i r i;obtain⟨h1,h2⟩:=CY i f e p q w;exact⟨_,_,h,by simp only[VR],h2.1,h2.2⟩
   ·cases h
  ·cases h
end Go.Abs
