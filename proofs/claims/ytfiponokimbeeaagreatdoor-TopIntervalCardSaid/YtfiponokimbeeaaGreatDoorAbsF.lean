
/- The abstract effect of an operation is what the model's own operation does.
   Conditions: none; generic over the program. -/
import Derived.Test.YtfiponokimbeeaaGreatDoorAbsE
import Derived.Laws.Slices
set_option linter.unusedSimpArgs false
set_option linter.unusedVariables false
namespace Go.Abs
variable {P:Program}
inductive NextR (ι:Inj) (v:Option V):Next->Prop
 | skip (h:v=none):NextR ι v .skip
 | value (x:Value) (h:∀u,v=some u->VR ι u x):NextR ι v (.value x)
def fO (P:Program) (ι:Inj) (f:Nat) (o:Oper) (a:Act) (w:World) (e:Eff):Prop:=
 match e.wr with
 | none=>∃x,(execOp a.eval o).run P w=.ok x w/\NextR ι e.val x
 | some (b,blk)=>match e.new with
  | false=>∃q,ι b=some (some q)/\(q.fz=false->∃ob x,(execOp a.eval o).run P w=.ok x (setObj w q.r ob)/\BR ι q blk ob/\NextR ι e.val x)
  | true=>b=f/\∃d q ob x,(execOp a.eval o).run P w=.ok x ((World.alloc { w with drawn:=d } ob))/\q.r=w.heap.size/\q.fz=false/\BR (upd ι f (some q)) q blk ob/\NextR (upd ι f (some q)) e.val x
theorem fO.val {ι:Inj} {f:Nat} {o:Oper} {a:Act} {w:World} {v:V} {x:Value} {rd:List Nat} (E:(execOp a.eval o).run P w=.ok (.value x) w) (F:VR ι v x):
  fO P ι f o a w { val:=some v,rd:=rd }:=by
 unfold fO;exact ⟨_,E,.value x λu C=>by cases C;exact F⟩
theorem fO.mkR {ι:Inj} {f:Nat} {o:Oper} {a:Act} {w:World} {v:V} {x:Value} {rd:List Nat} {blk:Blk} {ob:Obj} {d:Nat} {q:Rf} (E:(execOp a.eval o).run P w=.ok (.value x) (World.alloc { w with drawn:=d } ob))
  (J:q.r=w.heap.size) (C:q.fz=false) (F:BR (upd ι f (some q)) q blk ob) (G:VR (upd ι f (some q)) v x):
  fO P ι f o a w { val:=some v,rd:=rd,wr:=some (f,blk),new:=true }:=by
 unfold fO;exact ⟨rfl,d,q,ob,_,E,J,C,F,.value x λu O=>by cases O;exact G⟩
theorem fO.mk {ι:Inj} {f:Nat} {o:Oper} {a:Act} {w:World} {v:V} {x:Value} {rd:List Nat} {blk:Blk} {ob:Obj} (C:(execOp a.eval o).run P w=.ok (.value x) (w.alloc ob))
  (F:BR (upd ι f (some (Rf.of w.heap.size (0) (0)))) (Rf.of w.heap.size (0) (0)) blk ob) (E:VR (upd ι f (some (Rf.of w.heap.size (0) (0)))) v x):
  fO P ι f o a w { val:=some v,rd:=rd,wr:=some (f,blk),new:=true }:=.mkR (d:=w.drawn) C rfl rfl F E
theorem cX (ι:Inj) (f:Nat) (r:Option Rf):upd ι f r f=some r:=by simp [upd]
theorem kz {op:BinOp} {t:TypeId} {x y:Operand} {a b:Value} (e:a≠.nilIface\/b≠.nilIface) (d:(∀c,a≠.agg c)\/(∀c,b≠.agg c)) (w:World):
  (eqGuard op t x y a b).run P w=.ok () w:=by
 unfold eqGuard;cases op<;>simp<;>(cases a<;>cases b<;>simp_all)
theorem mR {t:TypeId} {X Y:Value} {b:Bool} {w:World} (p q:Operand) (c:X≠.nilIface\/Y≠.nilIface) (d:(∀a,X≠.agg a)\/(∀a,Y≠.agg a))
  (e:(∀k n,X≠.int k n)/\(∀s,X≠.string s)/\(∀k n,X≠.float k n)/\(∀k n m,X≠.complex k n m)) (h:(Op.equal t X Y).run P w=.ok b w):
  ((eqGuard .eql t p q X Y).run P w=.ok () w/\(binOp .eql t X Y).run P w=.ok (.bool b) w)/\
  ((eqGuard .neq t p q X Y).run P w=.ok () w/\(binOp .neq t X Y).run P w=.ok (.bool (!b)) w):=by
 obtain ⟨a1,a2,g,f⟩:=e;refine ⟨⟨kz c d w,?_⟩,kz c d w,?_⟩
 ·cases X<;>simp_all [binOp]
 ·cases X<;>simp_all [binOp]
theorem sy {t:TypeId} {c a:Array Value} {b:Bool} {w:World} (p q:Operand) (d:P.eqGuardType P.depth t=false) (h:(Op.equalIn 10000 t (.agg c) (.agg a)).run P w=.ok b w):
  ((eqGuard .eql t p q (.agg c) (.agg a)).run P w=.ok () w/\(binOp .eql t (.agg c) (.agg a)).run P w=.ok (.bool b) w)/\
  ((eqGuard .neq t p q (.agg c) (.agg a)).run P w=.ok () w/\(binOp .neq t (.agg c) (.agg a)).run P w=.ok (.bool (!b)) w):=by
 refine ⟨⟨run_eqGuard_agg w _ t p q c a d,?_⟩,run_eqGuard_agg w _ t p q c a d,?_⟩
 ·rw [run_eql_struct,h];rfl
 ·rw [run_neq_struct,h];rfl
theorem dT (t:TypeId) (x y:Value):Op.equal t x y=Op.equalIn (9999+1) t x y:=rfl
theorem Bd (P:Program) (d:Nat) {e:TypeId} {k':IntKind} (l:P.underlying e=some (.int k')) (k:IntKind):∀(a b:List Int) (n j:Nat) (A B:List Int),A.drop j=a->B.drop j=b->
  a.length=n->b.length=n->eqAr (eqC P (d+1) e) 1 (A.map (V.i k)) (B.map (V.i k)) n j=some (a==b)
 | [],b,n,j,A,B,_,_,c,f=>by
  simp only [dm] at c;subst c;have:b=[]:=pq f;subst this;simp [eqAr]
 | x::a,[],n,j,A,B,_,_,c,f=>by simp at c f;omega
 | x::a,y::b,0,j,A,B,_,_,c,f=>by simp at c
 | x::a,y::b,n+1,j,A,B,m,h,c,f=>by
  have q:A.drop (j+1)=a:=by rw [<-gV,m];rfl
  have s:B.drop (j+1)=b:=by rw [<-gV,h];rfl
  have ih:=Bd P d l k a b n (j+1) A B q s (by simpa using c) (by simpa using f);have r:((A.map (V.i k)).drop (j*1)).take 1=[V.i k x]:=by
   rw [sT,<-List.map_drop,m];rfl
  have o:((B.map (V.i k)).drop (j*1)).take 1=[V.i k y]:=by
   rw [sT,<-List.map_drop,h];rfl
  have p:keq k k=true:=by cases k<;>rfl
  have g:eqC P (d+1) e [V.i k x] [V.i k y]=some (x==y):=by simp [eqC,l,p]
  simp only [eqAr,r,o,ih,g];congr 1
theorem KG {ι:Inj} {t:TypeId} {x y:V} {X Y:Value} {b:Bool} (h:eqlV P t x y=some b) (hx:VR ι x X) (hy:VR ι y Y) (p q:Operand) (w:World):
  ((eqGuard .eql t p q X Y).run P w=.ok () w/\(binOp .eql t X Y).run P w=.ok (.bool b) w)/\
  ((eqGuard .neq t p q X Y).run P w=.ok () w/\(binOp .neq t X Y).run P w=.ok (.bool (!b)) w):=by
 unfold eqlV at h;split at h
 ·rename_i d;split at h
  ·simp only [ak] at h;subst h;simp only [VR] at hx hy;subst hx hy;exact mR p q (.inl (by simp)) (.inl (by simp)) (by simp) (by rw [dT,Op.equalIn];simp [aR d])
  ·cases h
 ·rename_i e d;split at h
  case h_4=>cases h
  all_goals
   simp only [ak] at h;subst h;simp only [VR] at hx hy
  ·subst hx hy;exact mR p q (.inl (by simp)) (.inl (by simp)) (by simp) (by rw [dT,Op.equalIn];simp [aR d])
  ·obtain ⟨r,_,rfl⟩:=hy;subst hx;exact mR p q (.inl (by simp)) (.inl (by simp)) (by simp) (by rw [dT,Op.equalIn];simp [aR d])
  ·obtain ⟨r,_,rfl⟩:=hx;subst hy;exact mR p q (.inl (by simp)) (.inl (by simp)) (by simp) (by rw [dT,Op.equalIn];simp [aR d])
 ·rename_i e L H d;split at h
  case h_4=>cases h
  all_goals
   simp only [ak] at h;subst h;simp only [VR] at hx hy
  ·subst hx hy;exact mR p q (.inl (by simp)) (.inl (by simp)) (by simp) (by rw [dT,Op.equalIn];simp [aR d])
  ·obtain ⟨r,rfl,_⟩:=hy;obtain ⟨C,B,D,s⟩:=xx _ r;rw [s];subst hx;exact mR p q (.inl (by simp)) (.inl (by simp)) (by simp) (by rw [dT,Op.equalIn];simp [aR d])
  ·obtain ⟨r,rfl,_⟩:=hx;obtain ⟨C,B,D,s⟩:=xx _ r;rw [s];subst hy;exact mR p q (.inl (by simp)) (.inl (by simp)) (by simp) (by rw [dT,Op.equalIn];simp [aR d])
 ·rename_i e d;split at h
  case h_4=>cases h
  all_goals
   simp only [ak] at h;subst h;simp only [VR] at hx hy
  ·subst hx hy;exact mR p q (.inl (by simp)) (.inl (by simp)) (by simp) (by rw [dT,Op.equalIn];simp [aR d])
  ·obtain ⟨r,c,_,_,_,rfl⟩:=hy;subst hx;exact mR p q (.inl (by simp)) (.inl (by simp)) (by simp) (by rw [dT,Op.equalIn];simp [aR d])
  ·obtain ⟨r,c,_,_,_,rfl⟩:=hx;subst hy;exact mR p q (.inl (by simp)) (.inl (by simp)) (by simp) (by rw [dT,Op.equalIn];simp [aR d])
 ·rename_i e d;split at h
  case h_3=>cases h
  all_goals
   simp only [ak] at h;subst h;simp only [VR] at hx hy
  ·obtain ⟨r,rfl,_⟩:=hy;subst hx;exact mR p q (.inr (by simp)) (.inl (by simp)) (by simp) (by rw [dT,Op.equalIn];simp [aR d])
  ·obtain ⟨r,rfl,_⟩:=hx;subst hy;exact mR p q (.inl (by simp)) (.inl (by simp)) (by simp) (by rw [dT,Op.equalIn];simp [aR d])
 ·rename_i m e d;have g:∀X,lK P t X=.agg X:=λX=>by simp [lK,bI,d]
  split at h
  ·rename_i k n a k' J f;split at h
   ·rename_i l;simp only [aB,ig] at l;obtain ⟨A,F⟩:=l;have A:=jE A;subst A F;split at h
    ·rename_i k2 E;split at h
     ·rename_i l;simp only [aB,ig] at l;obtain ⟨G,I⟩:=l;subst G;split at h
      ·cases h
      ·rename_i j;simp only [ak] at h;subst h;simp only [VR] at hx hy;obtain ⟨z,rfl⟩:=hx;obtain ⟨o,rfl⟩:=hy;refine sy p q j ?_;have:=Ef (P:=P) (ι:=ι) 3 9997 t (a.map (V.i k)) (f.map (V.i k)) (a==f) (a.map (Value.int k)).toArray (f.map (Value.int k)).toArray
        (by unfold eqC;rw [d];simp only [I];exact Bd P 1 E k a f m 0 a f rfl rfl z o) (VRs.ints k a) (VRs.ints k f)
       have:=this.2.2 w;rwa [g,g] at this
     ·cases h
    ·cases h
   ·cases h
  ·rename_i a f;split at h
   ·cases h
   ·rename_i j;simp only [VR] at hx hy;obtain ⟨u,rfl,hx⟩:=hx;obtain ⟨v,rfl,hy⟩:=hy;refine sy p q j ?_;have:=(Ef (P:=P) (ι:=ι) 6 9994 t a f b u v h hx hy).2.2 w;rwa [g,g] at this
  ·cases h
 ·rename_i K d;have g:∀X,lK P t X=.agg X:=λX=>by simp [lK,bI,d]
  split at h
  ·rename_i a f;split at h
   ·cases h
   ·rename_i j;simp only [VR] at hx hy;obtain ⟨u,rfl,hx⟩:=hx;obtain ⟨v,rfl,hy⟩:=hy;refine sy p q j ?_;have:=(Ef (P:=P) (ι:=ι) 6 9994 t a f b u v h hx hy).2.2 w;rwa [g,g] at this
  ·cases h
 ·cases h
theorem OJ {α:Type} {ι:Inj} {op:BinOp} {t:TypeId} {k:IntKind} {a b:Int} {c:V->Option α} {z:α} (h:intK op k a b c=some z) (w:World):
  ∃v R,c v=some z/\VR ι v R/\(binOp op t (.int k a) (.int k b)).run P w=.ok R w:=by
 have d:∀{v:V} {R:Value},c v=some z->VR ι v R->(binOp op t (.int k a) (.int k b)).run P w=.ok R w->
   ∃v R,c v=some z/\VR ι v R/\(binOp op t (.int k a) (.int k b)).run P w=.ok R w:=λf e g=>⟨_,_,f,e,g⟩
 cases op<;>simp only [intK] at h
 case add=>exact d h rfl (by simp [binOp,Op.intArith])
 case sub=>exact d h rfl (by simp [binOp,Op.intArith])
 case mul=>exact d h rfl (by simp [binOp,Op.intArith])
 case quo=>
  cases hc:b==0 with
  | true=>simp [hc] at h
  | false=>
   simp only [hc,af] at h;have:¬b=0:=by simpa using hc
   exact d h rfl (by simp [binOp,Op.intDiv,this])
 case rem=>
  cases hc:b==0 with
  | true=>simp [hc] at h
  | false=>
   simp only [hc,af] at h;have:¬b=0:=by simpa using hc
   exact d h rfl (by simp [binOp,Op.intDiv,this])
 case and=>exact d h rfl (by simp only [binOp,ne_eq,sQ,aE];rfl)
 case or=>exact d h rfl (by simp only [binOp,ne_eq,sQ,aE];rfl)
 case xor=>exact d h rfl (by simp only [binOp,ne_eq,sQ,aE];rfl)
 case andNot=>exact d h rfl (by simp only [binOp,ne_eq,sQ,aE];rfl)
 case shl=>
  cases hc:decide (b<0) with
  | true=>simp [hc] at h
  | false=>
   simp only [hc,af] at h;have:¬b<0:=by simpa using hc
   exact d h rfl (by simp [binOp,Op.shift,this])
 case shr=>
  cases hc:decide (b<0) with
  | true=>simp [hc] at h
  | false=>
   simp only [hc,af] at h;have:¬b<0:=by simpa using hc
   exact d h rfl (by simp [binOp,Op.shift,this])
 all_goals exact d h rfl (by simp [binOp,Op.intCmp])
theorem Bl {α:Type} {ι:Inj} {op:BinOp} (d:op=.shl\/op=.shr) {t:TypeId} {k k':IntKind} {a b:Int} {c:V->Option α} {z:α} (h:intK op k a b c=some z) (w:World):
  ∃v R,c v=some z/\VR ι v R/\(binOp op t (.int k a) (.int k' b)).run P w=.ok R w:=by
 rcases d with rfl | rfl<;>simp only [intK] at h
 all_goals
  cases hc:decide (b<0) with
  | true=>simp [hc] at h
  | false=>
   simp only [hc,af] at h;have:¬b<0:=by simpa using hc
   exact ⟨_,_,h,rfl,by simp [binOp,Op.shift,this]⟩
theorem BP (a b:aa):(ByteArray.mk a.toArray)++(ByteArray.mk b.toArray)=ByteArray.mk (a++b).toArray:=by
 apply Kw;rw [ByteArray.data_append];simp
theorem Pg {α:Type} {ι:Inj} {op:BinOp} {t:TypeId} {a b:aa} {c:V->Option α} {z:α} (h:strK op a b c=some z) (w:World):
  ∃v R,c v=some z/\VR ι v R/\(binOp op t (.string ⟨a.toArray⟩) (.string ⟨b.toArray⟩)).run P w=.ok R w:=by
 have e:∀{v:V} {R:Value},c v=some z->VR ι v R->(binOp op t (.string ⟨a.toArray⟩) (.string ⟨b.toArray⟩)).run P w=.ok R w->
   ∃v R,c v=some z/\VR ι v R/\(binOp op t (.string ⟨a.toArray⟩) (.string ⟨b.toArray⟩)).run P w=.ok R w:=λd f g=>⟨_,_,d,f,g⟩
 cases op<;>simp only [strK] at h
 case add=>
  obtain ⟨s,d,f⟩:=au h;unfold cat at d;split at d
  ·rename_i i;simp only [ak] at d;subst d;refine e f rfl ?_;simp only [binOp,Op.stringOp];have hs:(ByteArray.mk a.toArray).size=a.length:=rfl;have hs':(ByteArray.mk b.toArray).size=b.length:=rfl;rw [ab (by simp only [hs,hs',IntKind.max,IntKind.signed,IntKind.bits];simp;omega),BP];rfl
  ·cases d
 all_goals first
  | cases h
  | exact e h rfl (by simp only [binOp,Op.stringOp,wG];rfl)
theorem Qr {α:Type} {ι:Inj} {op:BinOp} {t:TypeId} {x y:V} {X Y:Value} {c:V->Option α} {z:α} (h:binK P op t x y c=some z) (hx:VR ι x X) (hy:VR ι y Y) (p q:Operand) (w:World):
  ∃v R,c v=some z/\VR ι v R/\(eqGuard op t p q X Y).run P w=.ok () w/\(binOp op t X Y).run P w=.ok R w:=by
 unfold binK at h;split at h
 ·rename_i k a k' b;simp only [VR] at hx hy;subst hx hy;have g:=kz (P:=P) (op:=op) (t:=t) (x:=p) (y:=q) (a:=.int k a) (b:=.int k' b) (.inl (by simp)) (.inl (by simp)) w;split at h
  ·obtain ⟨v,R,d,e,f⟩:=Bl (P:=P) (ι:=ι) (t:=t) (k':=k') (.inl rfl) h w;exact ⟨v,R,d,e,g,f⟩
  ·obtain ⟨v,R,d,e,f⟩:=Bl (P:=P) (ι:=ι) (t:=t) (k':=k') (.inr rfl) h w;exact ⟨v,R,d,e,g,f⟩
  ·split at h
   ·rename_i i;have i:=jE i;subst i;obtain ⟨v,R,d,e,f⟩:=OJ (P:=P) (ι:=ι) (t:=t) h w;exact ⟨v,R,d,e,g,f⟩
   ·cases h
 ·rename_i a b;simp only [VR] at hx hy;subst hx hy;have g:=kz (P:=P) (op:=op) (t:=t) (x:=p) (y:=q) (a:=.string ⟨a.toArray⟩) (b:=.string ⟨b.toArray⟩) (.inl (by simp)) (.inl (by simp)) w;obtain ⟨v,R,d,e,f⟩:=Pg (P:=P) (ι:=ι) (t:=t) h w;exact ⟨v,R,d,e,g,f⟩
 ·split at h
  ·split at h
   ·rename_i r j;obtain ⟨d,e⟩:=KG j hx hy p q w;exact ⟨_,_,h,by simp only [VR],d.1,d.2⟩
   ·cases h
  ·split at h
   ·rename_i r j;obtain ⟨d,e⟩:=KG j hx hy p q w;exact ⟨_,_,h,by simp only [VR],e.1,e.2⟩
   ·cases h
  ·cases h
end Go.Abs
