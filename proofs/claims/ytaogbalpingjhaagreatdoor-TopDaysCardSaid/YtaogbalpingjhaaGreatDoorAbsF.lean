
/- The abstract effect of an operation is what the model's own operation does.
   Conditions: none; generic over the program. -/
import Derived.Test.YtaogbalpingjhaaGreatDoorAbsE
import Derived.Laws.Slices
set_option linter.unusedSimpArgs false
set_option linter.unusedVariables false
namespace Go.Abs
variable {P:Program}
inductive NextR (ι:Inj) (v:Option V):Next->Prop
 | skip (h:v=none):NextR ι v .skip
 | value (x:Value) (h:∀u,v=some u->VR ι u x):NextR ι v (.value x)
def dt (P:Program) (ι:Inj) (f:Nat) (o:Oper) (a:Act) (w:World) (e:Eff):Prop:=
 match e.wr with
 | none=>∃x,(execOp a.eval o).run P w=.ok x w/\NextR ι e.val x
 | some (b,blk)=>match e.new with
  | false=>∃q,ι b=some (some q)/\(q.fz=false->∃ob x,(execOp a.eval o).run P w=.ok x (setObj w q.r ob)/\BR ι q blk ob/\NextR ι e.val x)
  | true=>b=f/\∃d q ob x,(execOp a.eval o).run P w=.ok x ((World.alloc { w with drawn:=d } ob))/\q.r=w.heap.size/\q.fz=false/\BR (upd ι f (some q)) q blk ob/\NextR (upd ι f (some q)) e.val x
theorem dt.val {ι:Inj} {f:Nat} {o:Oper} {a:Act} {w:World} {v:V} {x:Value} {rd:List Nat} (C:(execOp a.eval o).run P w=.ok (.value x) w) (E:VR ι v x):
  dt P ι f o a w { val:=some v,rd:=rd }:=by
 unfold dt;exact ⟨_,C,.value x λu A=>by cases A;exact E⟩
theorem dt.mkR {ι:Inj} {f:Nat} {o:Oper} {a:Act} {w:World} {v:V} {x:Value} {rd:List Nat} {blk:Blk} {ob:Obj} {d:Nat} {q:Rf} (C:(execOp a.eval o).run P w=.ok (.value x) (World.alloc { w with drawn:=d } ob))
  (J:q.r=w.heap.size) (A:q.fz=false) (E:BR (upd ι f (some q)) q blk ob) (F:VR (upd ι f (some q)) v x):
  dt P ι f o a w { val:=some v,rd:=rd,wr:=some (f,blk),new:=true }:=by
 unfold dt;exact ⟨rfl,d,q,ob,_,C,J,A,E,.value x λu G=>by cases G;exact F⟩
theorem dt.mk {ι:Inj} {f:Nat} {o:Oper} {a:Act} {w:World} {v:V} {x:Value} {rd:List Nat} {blk:Blk} {ob:Obj} (A:(execOp a.eval o).run P w=.ok (.value x) (w.alloc ob))
  (C:BR (upd ι f (some (Rf.of w.heap.size (0) (0)))) (Rf.of w.heap.size (0) (0)) blk ob) (E:VR (upd ι f (some (Rf.of w.heap.size (0) (0)))) v x):
  dt P ι f o a w { val:=some v,rd:=rd,wr:=some (f,blk),new:=true }:=.mkR (d:=w.drawn) A rfl rfl C E
theorem bK (ι:Inj) (f:Nat) (r:Option Rf):upd ι f r f=some r:=by simp [upd]
theorem gZ {op:BinOp} {t:TypeId} {x y:Operand} {a b:Value} (d:a≠.nilIface\/b≠.nilIface) (e:(∀c,a≠.agg c)\/(∀c,b≠.agg c)) (w:World):
  (eqGuard op t x y a b).run P w=.ok () w:=by
 unfold eqGuard;cases op<;>simp<;>(cases a<;>cases b<;>simp_all)
theorem ks {t:TypeId} {X Y:Value} {b:Bool} {w:World} (p q:Operand) (c:X≠.nilIface\/Y≠.nilIface) (d:(∀a,X≠.agg a)\/(∀a,Y≠.agg a))
  (e:(∀k n,X≠.int k n)/\(∀s,X≠.string s)/\(∀k n,X≠.float k n)/\(∀k n m,X≠.complex k n m)) (h:(Op.equal t X Y).run P w=.ok b w):
  ((eqGuard .eql t p q X Y).run P w=.ok () w/\(binOp .eql t X Y).run P w=.ok (.bool b) w)/\
  ((eqGuard .neq t p q X Y).run P w=.ok () w/\(binOp .neq t X Y).run P w=.ok (.bool (!b)) w):=by
 obtain ⟨i,f,j,g⟩:=e;refine ⟨⟨gZ c d w,?_⟩,gZ c d w,?_⟩
 ·cases X<;>simp_all [binOp]
 ·cases X<;>simp_all [binOp]
theorem oN {t:TypeId} {a c:Array Value} {b:Bool} {w:World} (p q:Operand) (d:P.eqGuardType P.depth t=false) (h:(Op.equalIn 10000 t (.agg a) (.agg c)).run P w=.ok b w):
  ((eqGuard .eql t p q (.agg a) (.agg c)).run P w=.ok () w/\(binOp .eql t (.agg a) (.agg c)).run P w=.ok (.bool b) w)/\
  ((eqGuard .neq t p q (.agg a) (.agg c)).run P w=.ok () w/\(binOp .neq t (.agg a) (.agg c)).run P w=.ok (.bool (!b)) w):=by
 refine ⟨⟨run_eqGuard_agg w _ t p q a c d,?_⟩,run_eqGuard_agg w _ t p q a c d,?_⟩
 ·rw [run_eql_struct,h];rfl
 ·rw [run_neq_struct,h];rfl
theorem co (t:TypeId) (x y:Value):Op.equal t x y=Op.equalIn (9999+1) t x y:=rfl
theorem vD (P:Program) (d:Nat) {e:TypeId} {k':IntKind} (m:P.underlying e=some (.int k')) (k:IntKind):∀(a b:List Int) (n j:Nat) (A B:List Int),A.drop j=a->B.drop j=b->
  a.length=n->b.length=n->eqAr (eqC P (d+1) e) 1 (A.map (V.i k)) (B.map (V.i k)) n j=some (a==b)
 | [],b,n,j,A,B,_,_,c,f=>by
  simp only [jC] at c;subst c;have:b=[]:=sH f;subst this;simp [eqAr]
 | x::a,[],n,j,A,B,_,_,c,f=>by simp at c f;omega
 | x::a,y::b,0,j,A,B,_,_,c,f=>by simp at c
 | x::a,y::b,n+1,j,A,B,l,h,c,f=>by
  have o:A.drop (j+1)=a:=by rw [<-su,l];rfl
  have q:B.drop (j+1)=b:=by rw [<-su,h];rfl
  have ih:=vD P d m k a b n (j+1) A B o q (by simpa using c) (by simpa using f);have s:((A.map (V.i k)).drop (j*1)).take 1=[V.i k x]:=by
   rw [o0,<-List.map_drop,l];rfl
  have r:((B.map (V.i k)).drop (j*1)).take 1=[V.i k y]:=by
   rw [o0,<-List.map_drop,h];rfl
  have p:keq k k=true:=by cases k<;>rfl
  have g:eqC P (d+1) e [V.i k x] [V.i k y]=some (x==y):=by simp [eqC,m,p]
  simp only [eqAr,s,r,ih,g];congr 1
theorem Bj {ι:Inj} {t:TypeId} {x y:V} {X Y:Value} {b:Bool} (h:eqlV P t x y=some b) (f:VR ι x X) (d:VR ι y Y) (p q:Operand) (w:World):
  ((eqGuard .eql t p q X Y).run P w=.ok () w/\(binOp .eql t X Y).run P w=.ok (.bool b) w)/\
  ((eqGuard .neq t p q X Y).run P w=.ok () w/\(binOp .neq t X Y).run P w=.ok (.bool (!b)) w):=by
 unfold eqlV at h;split at h
 ·rename_i g;split at h
  ·simp only [ae] at h;subst h;simp only [VR] at f d;subst f d;exact ks p q (.inl (by simp)) (.inl (by simp)) (by simp) (by rw [co,Op.equalIn];simp [aH g])
  ·cases h
 ·rename_i e g;split at h
  case h_4=>cases h
  all_goals
   simp only [ae] at h;subst h;simp only [VR] at f d
  ·subst f d;exact ks p q (.inl (by simp)) (.inl (by simp)) (by simp) (by rw [co,Op.equalIn];simp [aH g])
  ·obtain ⟨r,_,rfl⟩:=d;subst f;exact ks p q (.inl (by simp)) (.inl (by simp)) (by simp) (by rw [co,Op.equalIn];simp [aH g])
  ·obtain ⟨r,_,rfl⟩:=f;subst d;exact ks p q (.inl (by simp)) (.inl (by simp)) (by simp) (by rw [co,Op.equalIn];simp [aH g])
 ·rename_i e M K g;split at h
  case h_4=>cases h
  all_goals
   simp only [ae] at h;subst h;simp only [VR] at f d
  ·subst f d;exact ks p q (.inl (by simp)) (.inl (by simp)) (by simp) (by rw [co,Op.equalIn];simp [aH g])
  ·obtain ⟨r,rfl,_⟩:=d;obtain ⟨E,I,F,B⟩:=tj _ r;rw [B];subst f;exact ks p q (.inl (by simp)) (.inl (by simp)) (by simp) (by rw [co,Op.equalIn];simp [aH g])
  ·obtain ⟨r,rfl,_⟩:=f;obtain ⟨E,I,F,B⟩:=tj _ r;rw [B];subst d;exact ks p q (.inl (by simp)) (.inl (by simp)) (by simp) (by rw [co,Op.equalIn];simp [aH g])
 ·rename_i e g;split at h
  case h_4=>cases h
  all_goals
   simp only [ae] at h;subst h;simp only [VR] at f d
  ·subst f d;exact ks p q (.inl (by simp)) (.inl (by simp)) (by simp) (by rw [co,Op.equalIn];simp [aH g])
  ·obtain ⟨r,c,_,_,_,rfl⟩:=d;subst f;exact ks p q (.inl (by simp)) (.inl (by simp)) (by simp) (by rw [co,Op.equalIn];simp [aH g])
  ·obtain ⟨r,c,_,_,_,rfl⟩:=f;subst d;exact ks p q (.inl (by simp)) (.inl (by simp)) (by simp) (by rw [co,Op.equalIn];simp [aH g])
 ·rename_i e g;split at h
  case h_3=>cases h
  all_goals
   simp only [ae] at h;subst h;simp only [VR] at f d
  ·obtain ⟨r,rfl,_⟩:=d;subst f;exact ks p q (.inr (by simp)) (.inl (by simp)) (by simp) (by rw [co,Op.equalIn];simp [aH g])
  ·obtain ⟨r,rfl,_⟩:=f;subst d;exact ks p q (.inl (by simp)) (.inl (by simp)) (by simp) (by rw [co,Op.equalIn];simp [aH g])
 ·rename_i m e g;have l:∀X,i6 P t X=.agg X:=λX=>by simp [i6,bc,g]
  split at h
  ·rename_i k n a k' L j;split at h
   ·rename_i o;simp only [av,eM] at o;obtain ⟨C,D⟩:=o;have C:=gm C;subst C D;split at h
    ·rename_i k2 G;split at h
     ·rename_i o;simp only [av,eM] at o;obtain ⟨J,H⟩:=o;subst J;split at h
      ·cases h
      ·rename_i s;simp only [ae] at h;subst h;simp only [VR] at f d;obtain ⟨z,rfl⟩:=f;obtain ⟨A,rfl⟩:=d;refine oN p q s ?_;have:=xR (P:=P) (ι:=ι) 3 9997 t (a.map (V.i k)) (j.map (V.i k)) (a==j) (a.map (Value.int k)).toArray (j.map (Value.int k)).toArray
        (by unfold eqC;rw [g];simp only [H];exact vD P 1 G k a j m 0 a j rfl rfl z A) (VRs.ints k a) (VRs.ints k j)
       have:=this.2.2 w;rwa [l,l] at this
     ·cases h
    ·cases h
   ·cases h
  ·rename_i a j;split at h
   ·cases h
   ·rename_i s;simp only [VR] at f d;obtain ⟨v,rfl,f⟩:=f;obtain ⟨u,rfl,d⟩:=d;refine oN p q s ?_;have:=(xR (P:=P) (ι:=ι) 6 9994 t a j b v u h f d).2.2 w;rwa [l,l] at this
  ·cases h
 ·rename_i N g;have l:∀X,i6 P t X=.agg X:=λX=>by simp [i6,bc,g]
  split at h
  ·rename_i a j;split at h
   ·cases h
   ·rename_i s;simp only [VR] at f d;obtain ⟨v,rfl,f⟩:=f;obtain ⟨u,rfl,d⟩:=d;refine oN p q s ?_;have:=(xR (P:=P) (ι:=ι) 6 9994 t a j b v u h f d).2.2 w;rwa [l,l] at this
  ·cases h
 ·cases h
theorem HK {α:Type} {ι:Inj} {op:BinOp} {t:TypeId} {k:IntKind} {a b:Int} {c:V->Option α} {z:α} (h:intK op k a b c=some z) (w:World):
  ∃v R,c v=some z/\VR ι v R/\(binOp op t (.int k a) (.int k b)).run P w=.ok R w:=by
 have d:∀{v:V} {R:Value},c v=some z->VR ι v R->(binOp op t (.int k a) (.int k b)).run P w=.ok R w->
   ∃v R,c v=some z/\VR ι v R/\(binOp op t (.int k a) (.int k b)).run P w=.ok R w:=λg f e=>⟨_,_,g,f,e⟩
 cases op<;>simp only [intK] at h
 case add=>exact d h rfl (by simp [binOp,Op.intArith])
 case sub=>exact d h rfl (by simp [binOp,Op.intArith])
 case mul=>exact d h rfl (by simp [binOp,Op.intArith])
 case quo=>
  cases hc:b==0 with
  | true=>simp [hc] at h
  | false=>
   simp only [hc,af] at h;have:¬b=0:=by simpa using hc
   exact d h rfl (by simp [binOp,Op.intDiv,this])
 case rem=>
  cases hc:b==0 with
  | true=>simp [hc] at h
  | false=>
   simp only [hc,af] at h;have:¬b=0:=by simpa using hc
   exact d h rfl (by simp [binOp,Op.intDiv,this])
 case and=>exact d h rfl (by simp only [binOp,ne_eq,oK,aE];rfl)
 case or=>exact d h rfl (by simp only [binOp,ne_eq,oK,aE];rfl)
 case xor=>exact d h rfl (by simp only [binOp,ne_eq,oK,aE];rfl)
 case andNot=>exact d h rfl (by simp only [binOp,ne_eq,oK,aE];rfl)
 case shl=>
  cases hc:decide (b<0) with
  | true=>simp [hc] at h
  | false=>
   simp only [hc,af] at h;have:¬b<0:=by simpa using hc
   exact d h rfl (by simp [binOp,Op.shift,this])
 case shr=>
  cases hc:decide (b<0) with
  | true=>simp [hc] at h
  | false=>
   simp only [hc,af] at h;have:¬b<0:=by simpa using hc
   exact d h rfl (by simp [binOp,Op.shift,this])
 all_goals exact d h rfl (by simp [binOp,Op.intCmp])
theorem vb {α:Type} {ι:Inj} {op:BinOp} (d:op=.shl\/op=.shr) {t:TypeId} {k k':IntKind} {a b:Int} {c:V->Option α} {z:α} (h:intK op k a b c=some z) (w:World):
  ∃v R,c v=some z/\VR ι v R/\(binOp op t (.int k a) (.int k' b)).run P w=.ok R w:=by
 rcases d with rfl | rfl<;>simp only [intK] at h
 all_goals
  cases hc:decide (b<0) with
  | true=>simp [hc] at h
  | false=>
   simp only [hc,af] at h;have:¬b<0:=by simpa using hc
   exact ⟨_,_,h,rfl,by simp [binOp,Op.shift,this]⟩
theorem vJ (a b:aa):(ByteArray.mk a.toArray)++(ByteArray.mk b.toArray)=ByteArray.mk (a++b).toArray:=by
 apply Ds;rw [ByteArray.data_append];simp
theorem Hz {α:Type} {ι:Inj} {op:BinOp} {t:TypeId} {a b:aa} {c:V->Option α} {z:α} (h:strK op a b c=some z) (w:World):
  ∃v R,c v=some z/\VR ι v R/\(binOp op t (.string ⟨a.toArray⟩) (.string ⟨b.toArray⟩)).run P w=.ok R w:=by
 have e:∀{v:V} {R:Value},c v=some z->VR ι v R->(binOp op t (.string ⟨a.toArray⟩) (.string ⟨b.toArray⟩)).run P w=.ok R w->
   ∃v R,c v=some z/\VR ι v R/\(binOp op t (.string ⟨a.toArray⟩) (.string ⟨b.toArray⟩)).run P w=.ok R w:=λd f g=>⟨_,_,d,f,g⟩
 cases op<;>simp only [strK] at h
 case add=>
  obtain ⟨s,d,f⟩:=ah h;unfold cat at d;split at d
  ·rename_i i;simp only [ae] at d;subst d;refine e f rfl ?_;simp only [binOp,Op.stringOp];have j:(ByteArray.mk a.toArray).size=a.length:=rfl;have hs':(ByteArray.mk b.toArray).size=b.length:=rfl;rw [ab (by simp only [j,hs',IntKind.max,IntKind.signed,IntKind.bits];simp;omega),vJ];rfl
  ·cases d
 all_goals first
  | cases h
  | exact e h rfl (by simp only [binOp,Op.stringOp,rQ];rfl)
theorem HO {α:Type} {ι:Inj} {op:BinOp} {t:TypeId} {x y:V} {X Y:Value} {c:V->Option α} {z:α} (h:binK P op t x y c=some z) (j:VR ι x X) (i:VR ι y Y) (p q:Operand) (w:World):
  ∃v R,c v=some z/\VR ι v R/\(eqGuard op t p q X Y).run P w=.ok () w/\(binOp op t X Y).run P w=.ok R w:=by
 unfold binK at h;split at h
 ·rename_i k a k' b;simp only [VR] at j i;subst j i;have g:=gZ (P:=P) (op:=op) (t:=t) (x:=p) (y:=q) (a:=.int k a) (b:=.int k' b) (.inl (by simp)) (.inl (by simp)) w;split at h
  ·obtain ⟨v,R,d,e,f⟩:=vb (P:=P) (ι:=ι) (t:=t) (k':=k') (.inl rfl) h w;exact ⟨v,R,d,e,g,f⟩
  ·obtain ⟨v,R,d,e,f⟩:=vb (P:=P) (ι:=ι) (t:=t) (k':=k') (.inr rfl) h w;exact ⟨v,R,d,e,g,f⟩
  ·split at h
   ·rename_i m;have m:=gm m;subst m;obtain ⟨v,R,d,e,f⟩:=HK (P:=P) (ι:=ι) (t:=t) h w;exact ⟨v,R,d,e,g,f⟩
   ·cases h
 ·rename_i a b;simp only [VR] at j i;subst j i;have g:=gZ (P:=P) (op:=op) (t:=t) (x:=p) (y:=q) (a:=.string ⟨a.toArray⟩) (b:=.string ⟨b.toArray⟩) (.inl (by simp)) (.inl (by simp)) w;obtain ⟨v,R,d,e,f⟩:=Hz (P:=P) (ι:=ι) (t:=t) h w;exact ⟨v,R,d,e,g,f⟩
 ·split at h
  ·split at h
   ·rename_i r l;obtain ⟨d,e⟩:=Bj l j i p q w;exact ⟨_,_,h,by simp only [VR],d.1,d.2⟩
   ·cases h
  ·split at h
   ·rename_i r l;obtain ⟨d,e⟩:=Bj l j i p q w;exact ⟨_,_,h,by simp only [VR],e.1,e.2⟩
   ·cases h
  ·cases h
end Go.Abs
