
/- The abstract effect of an operation is what the model's own operation does.
   Conditions: none; generic over the program. -/
import Derived.Test.YthemneooekobkaaGreatDoorAbsE
import Derived.Laws.Slices
set_option linter.unusedSimpArgs false
set_option linter.unusedVariables false
namespace Go.Abs
variable {P:Program}
inductive NextR (ι:Inj) (v:Option V):Next->Prop
 | skip (h:v=none):NextR ι v .skip
 | value (x:Value) (h:∀u,v=some u->VR ι u x):NextR ι v (.value x)
def fK (P:Program) (ι:Inj) (f:Nat) (o:Oper) (a:Act) (w:World) (e:Eff):Prop:=
 match e.wr with
 | none=>∃x,(execOp a.eval o).run P w=.ok x w/\NextR ι e.val x
 | some (b,blk)=>match e.new with
  | false=>∃q,ι b=some (some q)/\(q.fz=false->∃ob x,(execOp a.eval o).run P w=.ok x (setObj w q.r ob)/\BR ι q blk ob/\NextR ι e.val x)
  | true=>b=f/\∃d q ob x,(execOp a.eval o).run P w=.ok x ((World.alloc { w with drawn:=d } ob))/\q.r=w.heap.size/\q.fz=false/\BR (upd ι f (some q)) q blk ob/\NextR (upd ι f (some q)) e.val x
theorem fK.val {ι:Inj} {f:Nat} {o:Oper} {a:Act} {w:World} {v:V} {x:Value} {rd:List Nat} (E:(execOp a.eval o).run P w=.ok (.value x) w) (F:VR ι v x):
  fK P ι f o a w { val:=some v,rd:=rd }:=by
 unfold fK;exact ⟨_,E,.value x λu C=>by cases C;exact F⟩
theorem fK.mkR {ι:Inj} {f:Nat} {o:Oper} {a:Act} {w:World} {v:V} {x:Value} {rd:List Nat} {blk:Blk} {ob:Obj} {d:Nat} {q:Rf} (C:(execOp a.eval o).run P w=.ok (.value x) (World.alloc { w with drawn:=d } ob))
  (F:q.r=w.heap.size) (E:q.fz=false) (J:BR (upd ι f (some q)) q blk ob) (K:VR (upd ι f (some q)) v x):
  fK P ι f o a w { val:=some v,rd:=rd,wr:=some (f,blk),new:=true }:=by
 unfold fK;exact ⟨rfl,d,q,ob,_,C,F,E,J,.value x λu G=>by cases G;exact K⟩
theorem fK.mk {ι:Inj} {f:Nat} {o:Oper} {a:Act} {w:World} {v:V} {x:Value} {rd:List Nat} {blk:Blk} {ob:Obj} (E:(execOp a.eval o).run P w=.ok (.value x) (w.alloc ob))
  (C:BR (upd ι f (some (Rf.of w.heap.size (0) (0)))) (Rf.of w.heap.size (0) (0)) blk ob) (F:VR (upd ι f (some (Rf.of w.heap.size (0) (0)))) v x):
  fK P ι f o a w { val:=some v,rd:=rd,wr:=some (f,blk),new:=true }:=.mkR (d:=w.drawn) E rfl rfl C F
theorem cX (ι:Inj) (f:Nat) (r:Option Rf):upd ι f r f=some r:=by simp [upd]
theorem kg {op:BinOp} {t:TypeId} {x y:Operand} {a b:Value} (e:a≠.nilIface\/b≠.nilIface) (d:(∀c,a≠.agg c)\/(∀c,b≠.agg c)) (w:World):
  (eqGuard op t x y a b).run P w=.ok () w:=by
 unfold eqGuard;cases op<;>simp<;>(cases a<;>cases b<;>simp_all)
theorem mC {t:TypeId} {X Y:Value} {b:Bool} {w:World} (p q:Operand) (d:X≠.nilIface\/Y≠.nilIface) (c:(∀a,X≠.agg a)\/(∀a,Y≠.agg a))
  (e:(∀k n,X≠.int k n)/\(∀s,X≠.string s)/\(∀k n,X≠.float k n)/\(∀k n m,X≠.complex k n m)) (h:(Op.equal t X Y).run P w=.ok b w):
  ((eqGuard .eql t p q X Y).run P w=.ok () w/\(binOp .eql t X Y).run P w=.ok (.bool b) w)/\
  ((eqGuard .neq t p q X Y).run P w=.ok () w/\(binOp .neq t X Y).run P w=.ok (.bool (!b)) w):=by
 obtain ⟨a1,a2,f,g⟩:=e;refine ⟨⟨kg d c w,?_⟩,kg d c w,?_⟩
 ·cases X<;>simp_all [binOp]
 ·cases X<;>simp_all [binOp]
theorem rM {t:TypeId} {a c:Array Value} {b:Bool} {w:World} (p q:Operand) (d:P.eqGuardType P.depth t=false) (h:(Op.equalIn 10000 t (.agg a) (.agg c)).run P w=.ok b w):
  ((eqGuard .eql t p q (.agg a) (.agg c)).run P w=.ok () w/\(binOp .eql t (.agg a) (.agg c)).run P w=.ok (.bool b) w)/\
  ((eqGuard .neq t p q (.agg a) (.agg c)).run P w=.ok () w/\(binOp .neq t (.agg a) (.agg c)).run P w=.ok (.bool (!b)) w):=by
 refine ⟨⟨run_eqGuard_agg w _ t p q a c d,?_⟩,run_eqGuard_agg w _ t p q a c d,?_⟩
 ·rw [run_eql_struct,h];rfl
 ·rw [run_neq_struct,h];rfl
theorem dO (t:TypeId) (x y:Value):Op.equal t x y=Op.equalIn (9999+1) t x y:=rfl
theorem zA (P:Program) (d:Nat) {e:TypeId} {k':IntKind} (h:P.underlying e=some (.int k')) (k:IntKind):∀(a b:List Int) (n j:Nat) (A B:List Int),A.drop j=a->B.drop j=b->
  a.length=n->b.length=n->eqAr (eqC P (d+1) e) 1 (A.map (V.i k)) (B.map (V.i k)) n j=some (a==b)
 | [],b,n,j,A,B,_,_,c,f=>by
  simp only [dR] at c;subst c;have:b=[]:=uI f;subst this;simp [eqAr]
 | x::a,[],n,j,A,B,_,_,c,f=>by simp at c f;omega
 | x::a,y::b,0,j,A,B,_,_,c,f=>by simp at c
 | x::a,y::b,n+1,j,A,B,m,l,c,f=>by
  have r:A.drop (j+1)=a:=by rw [<-iL,m];rfl
  have p:B.drop (j+1)=b:=by rw [<-iL,l];rfl
  have ih:=zA P d h k a b n (j+1) A B r p (by simpa using c) (by simpa using f);have s:((A.map (V.i k)).drop (j*1)).take 1=[V.i k x]:=by
   rw [oU,<-List.map_drop,m];rfl
  have o:((B.map (V.i k)).drop (j*1)).take 1=[V.i k y]:=by
   rw [oU,<-List.map_drop,l];rfl
  have q:keq k k=true:=by cases k<;>rfl
  have g:eqC P (d+1) e [V.i k x] [V.i k y]=some (x==y):=by simp [eqC,h,q]
  simp only [eqAr,s,o,ih,g];congr 1
theorem H5 {ι:Inj} {t:TypeId} {x y:V} {X Y:Value} {b:Bool} (h:eqlV P t x y=some b) (f:VR ι x X) (d:VR ι y Y) (p q:Operand) (w:World):
  ((eqGuard .eql t p q X Y).run P w=.ok () w/\(binOp .eql t X Y).run P w=.ok (.bool b) w)/\
  ((eqGuard .neq t p q X Y).run P w=.ok () w/\(binOp .neq t X Y).run P w=.ok (.bool (!b)) w):=by
 unfold eqlV at h;split at h
 ·rename_i g;split at h
  ·simp only [aq] at h;subst h;simp only [VR] at f d;subst f d;exact mC p q (.inl (by simp)) (.inl (by simp)) (by simp) (by rw [dO,Op.equalIn];simp [aS g])
  ·cases h
 ·rename_i e g;split at h
  case h_4=>cases h
  all_goals
   simp only [aq] at h;subst h;simp only [VR] at f d
  ·subst f d;exact mC p q (.inl (by simp)) (.inl (by simp)) (by simp) (by rw [dO,Op.equalIn];simp [aS g])
  ·obtain ⟨r,_,rfl⟩:=d;subst f;exact mC p q (.inl (by simp)) (.inl (by simp)) (by simp) (by rw [dO,Op.equalIn];simp [aS g])
  ·obtain ⟨r,_,rfl⟩:=f;subst d;exact mC p q (.inl (by simp)) (.inl (by simp)) (by simp) (by rw [dO,Op.equalIn];simp [aS g])
 ·rename_i e N I g;split at h
  case h_4=>cases h
  all_goals
   simp only [aq] at h;subst h;simp only [VR] at f d
  ·subst f d;exact mC p q (.inl (by simp)) (.inl (by simp)) (by simp) (by rw [dO,Op.equalIn];simp [aS g])
  ·obtain ⟨r,rfl,_⟩:=d;obtain ⟨K,J,E,z⟩:=wI _ r;rw [z];subst f;exact mC p q (.inl (by simp)) (.inl (by simp)) (by simp) (by rw [dO,Op.equalIn];simp [aS g])
  ·obtain ⟨r,rfl,_⟩:=f;obtain ⟨K,J,E,z⟩:=wI _ r;rw [z];subst d;exact mC p q (.inl (by simp)) (.inl (by simp)) (by simp) (by rw [dO,Op.equalIn];simp [aS g])
 ·rename_i e g;split at h
  case h_4=>cases h
  all_goals
   simp only [aq] at h;subst h;simp only [VR] at f d
  ·subst f d;exact mC p q (.inl (by simp)) (.inl (by simp)) (by simp) (by rw [dO,Op.equalIn];simp [aS g])
  ·obtain ⟨r,c,_,_,_,rfl⟩:=d;subst f;exact mC p q (.inl (by simp)) (.inl (by simp)) (by simp) (by rw [dO,Op.equalIn];simp [aS g])
  ·obtain ⟨r,c,_,_,_,rfl⟩:=f;subst d;exact mC p q (.inl (by simp)) (.inl (by simp)) (by simp) (by rw [dO,Op.equalIn];simp [aS g])
 ·rename_i e g;split at h
  case h_3=>cases h
  all_goals
   simp only [aq] at h;subst h;simp only [VR] at f d
  ·obtain ⟨r,rfl,_⟩:=d;subst f;exact mC p q (.inr (by simp)) (.inl (by simp)) (by simp) (by rw [dO,Op.equalIn];simp [aS g])
  ·obtain ⟨r,rfl,_⟩:=f;subst d;exact mC p q (.inl (by simp)) (.inl (by simp)) (by simp) (by rw [dO,Op.equalIn];simp [aS g])
 ·rename_i m e g;have l:∀X,kT P t X=.agg X:=λX=>by simp [kT,bJ,g]
  split at h
  ·rename_i k n a k' M j;split at h
   ·rename_i o;simp only [aA,ia] at o;obtain ⟨B,G⟩:=o;have B:=jo B;subst B G;split at h
    ·rename_i k2 D;split at h
     ·rename_i o;simp only [aA,ia] at o;obtain ⟨F,H⟩:=o;subst F;split at h
      ·cases h
      ·rename_i s;simp only [aq] at h;subst h;simp only [VR] at f d;obtain ⟨C,rfl⟩:=f;obtain ⟨A,rfl⟩:=d;refine rM p q s ?_;have:=Dl (P:=P) (ι:=ι) 3 9997 t (a.map (V.i k)) (j.map (V.i k)) (a==j) (a.map (Value.int k)).toArray (j.map (Value.int k)).toArray
        (by unfold eqC;rw [g];simp only [H];exact zA P 1 D k a j m 0 a j rfl rfl C A) (VRs.ints k a) (VRs.ints k j)
       have:=this.2.2 w;rwa [l,l] at this
     ·cases h
    ·cases h
   ·cases h
  ·rename_i a j;split at h
   ·cases h
   ·rename_i s;simp only [VR] at f d;obtain ⟨u,rfl,f⟩:=f;obtain ⟨v,rfl,d⟩:=d;refine rM p q s ?_;have:=(Dl (P:=P) (ι:=ι) 6 9994 t a j b u v h f d).2.2 w;rwa [l,l] at this
  ·cases h
 ·rename_i L g;have l:∀X,kT P t X=.agg X:=λX=>by simp [kT,bJ,g]
  split at h
  ·rename_i a j;split at h
   ·cases h
   ·rename_i s;simp only [VR] at f d;obtain ⟨u,rfl,f⟩:=f;obtain ⟨v,rfl,d⟩:=d;refine rM p q s ?_;have:=(Dl (P:=P) (ι:=ι) 6 9994 t a j b u v h f d).2.2 w;rwa [l,l] at this
  ·cases h
 ·cases h
theorem Om {α:Type} {ι:Inj} {op:BinOp} {t:TypeId} {k:IntKind} {a b:Int} {c:V->Option α} {z:α} (h:intK op k a b c=some z) (w:World):
  ∃v R,c v=some z/\VR ι v R/\(binOp op t (.int k a) (.int k b)).run P w=.ok R w:=by
 have d:∀{v:V} {R:Value},c v=some z->VR ι v R->(binOp op t (.int k a) (.int k b)).run P w=.ok R w->
   ∃v R,c v=some z/\VR ι v R/\(binOp op t (.int k a) (.int k b)).run P w=.ok R w:=λg f e=>⟨_,_,g,f,e⟩
 cases op<;>simp only [intK] at h
 case add=>exact d h rfl (by simp [binOp,Op.intArith])
 case sub=>exact d h rfl (by simp [binOp,Op.intArith])
 case mul=>exact d h rfl (by simp [binOp,Op.intArith])
 case quo=>
  cases hc:b==0 with
  | true=>simp [hc] at h
  | false=>
   simp only [hc,af] at h;have:¬b=0:=by simpa using hc
   exact d h rfl (by simp [binOp,Op.intDiv,this])
 case rem=>
  cases hc:b==0 with
  | true=>simp [hc] at h
  | false=>
   simp only [hc,af] at h;have:¬b=0:=by simpa using hc
   exact d h rfl (by simp [binOp,Op.intDiv,this])
 case and=>exact d h rfl (by simp only [binOp,ne_eq,rI,aE];rfl)
 case or=>exact d h rfl (by simp only [binOp,ne_eq,rI,aE];rfl)
 case xor=>exact d h rfl (by simp only [binOp,ne_eq,rI,aE];rfl)
 case andNot=>exact d h rfl (by simp only [binOp,ne_eq,rI,aE];rfl)
 case shl=>
  cases hc:decide (b<0) with
  | true=>simp [hc] at h
  | false=>
   simp only [hc,af] at h;have:¬b<0:=by simpa using hc
   exact d h rfl (by simp [binOp,Op.shift,this])
 case shr=>
  cases hc:decide (b<0) with
  | true=>simp [hc] at h
  | false=>
   simp only [hc,af] at h;have:¬b<0:=by simpa using hc
   exact d h rfl (by simp [binOp,Op.shift,this])
 all_goals exact d h rfl (by simp [binOp,Op.intCmp])
theorem Ar {α:Type} {ι:Inj} {op:BinOp} (d:op=.shl\/op=.shr) {t:TypeId} {k k':IntKind} {a b:Int} {c:V->Option α} {z:α} (h:intK op k a b c=some z) (w:World):
  ∃v R,c v=some z/\VR ι v R/\(binOp op t (.int k a) (.int k' b)).run P w=.ok R w:=by
 rcases d with rfl | rfl<;>simp only [intK] at h
 all_goals
  cases hc:decide (b<0) with
  | true=>simp [hc] at h
  | false=>
   simp only [hc,af] at h;have:¬b<0:=by simpa using hc
   exact ⟨_,_,h,rfl,by simp [binOp,Op.shift,this]⟩
theorem zL (a b:aa):(ByteArray.mk a.toArray)++(ByteArray.mk b.toArray)=ByteArray.mk (a++b).toArray:=by
 apply G2;rw [ByteArray.data_append];simp
theorem O4 {α:Type} {ι:Inj} {op:BinOp} {t:TypeId} {a b:aa} {c:V->Option α} {z:α} (h:strK op a b c=some z) (w:World):
  ∃v R,c v=some z/\VR ι v R/\(binOp op t (.string ⟨a.toArray⟩) (.string ⟨b.toArray⟩)).run P w=.ok R w:=by
 have e:∀{v:V} {R:Value},c v=some z->VR ι v R->(binOp op t (.string ⟨a.toArray⟩) (.string ⟨b.toArray⟩)).run P w=.ok R w->
   ∃v R,c v=some z/\VR ι v R/\(binOp op t (.string ⟨a.toArray⟩) (.string ⟨b.toArray⟩)).run P w=.ok R w:=λd f i=>⟨_,_,d,f,i⟩
 cases op<;>simp only [strK] at h
 case add=>
  obtain ⟨s,d,f⟩:=av h;unfold cat at d;split at d
  ·rename_i g;simp only [aq] at d;subst d;refine e f rfl ?_;simp only [binOp,Op.stringOp];have j:(ByteArray.mk a.toArray).size=a.length:=rfl;have hs':(ByteArray.mk b.toArray).size=b.length:=rfl;rw [ab (by simp only [j,hs',IntKind.max,IntKind.signed,IntKind.bits];simp;omega),zL];rfl
  ·cases d
 all_goals first
  | cases h
  | exact e h rfl (by simp only [binOp,Op.stringOp,vA];rfl)
theorem NZ {α:Type} {ι:Inj} {op:BinOp} {t:TypeId} {x y:V} {X Y:Value} {c:V->Option α} {z:α} (h:binK P op t x y c=some z) (j:VR ι x X) (i:VR ι y Y) (p q:Operand) (w:World):
  ∃v R,c v=some z/\VR ι v R/\(eqGuard op t p q X Y).run P w=.ok () w/\(binOp op t X Y).run P w=.ok R w:=by
 unfold binK at h;split at h
 ·rename_i k a k' b;simp only [VR] at j i;subst j i;have g:=kg (P:=P) (op:=op) (t:=t) (x:=p) (y:=q) (a:=.int k a) (b:=.int k' b) (.inl (by simp)) (.inl (by simp)) w;split at h
  ·obtain ⟨v,R,e,d,f⟩:=Ar (P:=P) (ι:=ι) (t:=t) (k':=k') (.inl rfl) h w;exact ⟨v,R,e,d,g,f⟩
  ·obtain ⟨v,R,e,d,f⟩:=Ar (P:=P) (ι:=ι) (t:=t) (k':=k') (.inr rfl) h w;exact ⟨v,R,e,d,g,f⟩
  ·split at h
   ·rename_i m;have m:=jo m;subst m;obtain ⟨v,R,e,d,f⟩:=Om (P:=P) (ι:=ι) (t:=t) h w;exact ⟨v,R,e,d,g,f⟩
   ·cases h
 ·rename_i a b;simp only [VR] at j i;subst j i;have g:=kg (P:=P) (op:=op) (t:=t) (x:=p) (y:=q) (a:=.string ⟨a.toArray⟩) (b:=.string ⟨b.toArray⟩) (.inl (by simp)) (.inl (by simp)) w;obtain ⟨v,R,e,d,f⟩:=O4 (P:=P) (ι:=ι) (t:=t) h w;exact ⟨v,R,e,d,g,f⟩
 ·split at h
  ·split at h
   ·rename_i r l;obtain ⟨e,d⟩:=H5 l j i p q w;exact ⟨_,_,h,by simp only [VR],e.1,e.2⟩
   ·cases h
  ·split at h
   ·rename_i r l;obtain ⟨e,d⟩:=H5 l j i p q w;exact ⟨_,_,h,by simp only [VR],d.1,d.2⟩
   ·cases h
  ·cases h
end Go.Abs
