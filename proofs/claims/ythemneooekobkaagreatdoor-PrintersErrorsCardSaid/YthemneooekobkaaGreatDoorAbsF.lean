
/- The abstract effect of an operation is what the model's own operation does.
   Conditions: none; generic over the program. -/
import Derived.Test.YthemneooekobkaaGreatDoorAbsE
import Derived.Laws.Slices
set_option linter.unusedSimpArgs false
set_option linter.unusedVariables false
namespace Go.Abs
variable {P:Program}
inductive NextR (ι:Inj) (v:Option V):Next->Prop
 | skip (h:v=none):NextR ι v .skip
 | value (x:Value) (h:∀u,v=some u->VR ι u x):NextR ι v (.value x)
def fp (P:Program) (ι:Inj) (f:Nat) (o:Oper) (a:Act) (w:World) (e:Eff):Prop:=
 match e.wr with
 | none=>∃x,(execOp a.eval o).run P w=.ok x w/\NextR ι e.val x
 | some (b,blk)=>match e.new with
  | false=>∃q,ι b=some (some q)/\(q.fz=false->∃ob x,(execOp a.eval o).run P w=.ok x (setObj w q.r ob)/\BR ι q blk ob/\NextR ι e.val x)
  | true=>b=f/\∃d q ob x,(execOp a.eval o).run P w=.ok x ((World.alloc { w with drawn:=d } ob))/\q.r=w.heap.size/\q.fz=false/\BR (upd ι f (some q)) q blk ob/\NextR (upd ι f (some q)) e.val x
theorem fp.val {ι:Inj} {f:Nat} {o:Oper} {a:Act} {w:World} {v:V} {x:Value} {rd:List Nat} (C:(execOp a.eval o).run P w=.ok (.value x) w) (A:VR ι v x):
  fp P ι f o a w { val:=some v,rd:=rd }:=by
 unfold fp;exact ⟨_,C,.value x λu E=>by cases E;exact A⟩
theorem fp.mkR {ι:Inj} {f:Nat} {o:Oper} {a:Act} {w:World} {v:V} {x:Value} {rd:List Nat} {blk:Blk} {ob:Obj} {d:Nat} {q:Rf} (F:(execOp a.eval o).run P w=.ok (.value x) (World.alloc { w with drawn:=d } ob))
  (E:q.r=w.heap.size) (G:q.fz=false) (J:BR (upd ι f (some q)) q blk ob) (C:VR (upd ι f (some q)) v x):
  fp P ι f o a w { val:=some v,rd:=rd,wr:=some (f,blk),new:=true }:=by
 unfold fp;exact ⟨rfl,d,q,ob,_,F,E,G,J,.value x λu A=>by cases A;exact C⟩
theorem fp.mk {ι:Inj} {f:Nat} {o:Oper} {a:Act} {w:World} {v:V} {x:Value} {rd:List Nat} {blk:Blk} {ob:Obj} (E:(execOp a.eval o).run P w=.ok (.value x) (w.alloc ob))
  (A:BR (upd ι f (some (Rf.of w.heap.size (0) (0)))) (Rf.of w.heap.size (0) (0)) blk ob) (C:VR (upd ι f (some (Rf.of w.heap.size (0) (0)))) v x):
  fp P ι f o a w { val:=some v,rd:=rd,wr:=some (f,blk),new:=true }:=.mkR (d:=w.drawn) E rfl rfl A C
theorem cT (ι:Inj) (f:Nat) (r:Option Rf):upd ι f r f=some r:=by simp [upd]
theorem kJ {op:BinOp} {t:TypeId} {x y:Operand} {a b:Value} (e:a≠.nilIface\/b≠.nilIface) (d:(∀c,a≠.agg c)\/(∀c,b≠.agg c)) (w:World):
  (eqGuard op t x y a b).run P w=.ok () w:=by
 unfold eqGuard;cases op<;>simp<;>(cases a<;>cases b<;>simp_all)
theorem mW {t:TypeId} {X Y:Value} {b:Bool} {w:World} (p q:Operand) (d:X≠.nilIface\/Y≠.nilIface) (c:(∀a,X≠.agg a)\/(∀a,Y≠.agg a))
  (e:(∀k n,X≠.int k n)/\(∀s,X≠.string s)/\(∀k n,X≠.float k n)/\(∀k n m,X≠.complex k n m)) (h:(Op.equal t X Y).run P w=.ok b w):
  ((eqGuard .eql t p q X Y).run P w=.ok () w/\(binOp .eql t X Y).run P w=.ok (.bool b) w)/\
  ((eqGuard .neq t p q X Y).run P w=.ok () w/\(binOp .neq t X Y).run P w=.ok (.bool (!b)) w):=by
 obtain ⟨i,f,g,j⟩:=e;refine ⟨⟨kJ d c w,?_⟩,kJ d c w,?_⟩
 ·cases X<;>simp_all [binOp]
 ·cases X<;>simp_all [binOp]
theorem sB {t:TypeId} {a c:Array Value} {b:Bool} {w:World} (p q:Operand) (d:P.eqGuardType P.depth t=false) (h:(Op.equalIn 10000 t (.agg a) (.agg c)).run P w=.ok b w):
  ((eqGuard .eql t p q (.agg a) (.agg c)).run P w=.ok () w/\(binOp .eql t (.agg a) (.agg c)).run P w=.ok (.bool b) w)/\
  ((eqGuard .neq t p q (.agg a) (.agg c)).run P w=.ok () w/\(binOp .neq t (.agg a) (.agg c)).run P w=.ok (.bool (!b)) w):=by
 refine ⟨⟨run_eqGuard_agg w _ t p q a c d,?_⟩,run_eqGuard_agg w _ t p q a c d,?_⟩
 ·rw [run_eql_struct,h];rfl
 ·rw [run_neq_struct,h];rfl
theorem dJ (t:TypeId) (x y:Value):Op.equal t x y=Op.equalIn (9999+1) t x y:=rfl
theorem AN (P:Program) (d:Nat) {e:TypeId} {k':IntKind} (l:P.underlying e=some (.int k')) (k:IntKind):∀(a b:List Int) (n j:Nat) (A B:List Int),A.drop j=a->B.drop j=b->
  a.length=n->b.length=n->eqAr (eqC P (d+1) e) 1 (A.map (V.i k)) (B.map (V.i k)) n j=some (a==b)
 | [],b,n,j,A,B,_,_,c,f=>by
  simp only [bg] at c;subst c;have:b=[]:=uu f;subst this;simp [eqAr]
 | x::a,[],n,j,A,B,_,_,c,f=>by simp at c f;omega
 | x::a,y::b,0,j,A,B,_,_,c,f=>by simp at c
 | x::a,y::b,n+1,j,A,B,h,m,c,f=>by
  have s:A.drop (j+1)=a:=by rw [<-wN,h];rfl
  have p:B.drop (j+1)=b:=by rw [<-wN,m];rfl
  have ih:=AN P d l k a b n (j+1) A B s p (by simpa using c) (by simpa using f);have r:((A.map (V.i k)).drop (j*1)).take 1=[V.i k x]:=by
   rw [ow,<-List.map_drop,h];rfl
  have o:((B.map (V.i k)).drop (j*1)).take 1=[V.i k y]:=by
   rw [ow,<-List.map_drop,m];rfl
  have q:keq k k=true:=by cases k<;>rfl
  have g:eqC P (d+1) e [V.i k x] [V.i k y]=some (x==y):=by simp [eqC,l,q]
  simp only [eqAr,r,o,ih,g];congr 1
theorem He {ι:Inj} {t:TypeId} {x y:V} {X Y:Value} {b:Bool} (h:eqlV P t x y=some b) (hx:VR ι x X) (hy:VR ι y Y) (p q:Operand) (w:World):
  ((eqGuard .eql t p q X Y).run P w=.ok () w/\(binOp .eql t X Y).run P w=.ok (.bool b) w)/\
  ((eqGuard .neq t p q X Y).run P w=.ok () w/\(binOp .neq t X Y).run P w=.ok (.bool (!b)) w):=by
 unfold eqlV at h;split at h
 ·rename_i d;split at h
  ·simp only [am] at h;subst h;simp only [VR] at hx hy;subst hx hy;exact mW p q (.inl (by simp)) (.inl (by simp)) (by simp) (by rw [dJ,Op.equalIn];simp [aV d])
  ·cases h
 ·rename_i e d;split at h
  case h_4=>cases h
  all_goals
   simp only [am] at h;subst h;simp only [VR] at hx hy
  ·subst hx hy;exact mW p q (.inl (by simp)) (.inl (by simp)) (by simp) (by rw [dJ,Op.equalIn];simp [aV d])
  ·obtain ⟨r,_,rfl⟩:=hy;subst hx;exact mW p q (.inl (by simp)) (.inl (by simp)) (by simp) (by rw [dJ,Op.equalIn];simp [aV d])
  ·obtain ⟨r,_,rfl⟩:=hx;subst hy;exact mW p q (.inl (by simp)) (.inl (by simp)) (by simp) (by rw [dJ,Op.equalIn];simp [aV d])
 ·rename_i e K E d;split at h
  case h_4=>cases h
  all_goals
   simp only [am] at h;subst h;simp only [VR] at hx hy
  ·subst hx hy;exact mW p q (.inl (by simp)) (.inl (by simp)) (by simp) (by rw [dJ,Op.equalIn];simp [aV d])
  ·obtain ⟨r,rfl,_⟩:=hy;obtain ⟨D,G,C,A⟩:=wI _ r;rw [A];subst hx;exact mW p q (.inl (by simp)) (.inl (by simp)) (by simp) (by rw [dJ,Op.equalIn];simp [aV d])
  ·obtain ⟨r,rfl,_⟩:=hx;obtain ⟨D,G,C,A⟩:=wI _ r;rw [A];subst hy;exact mW p q (.inl (by simp)) (.inl (by simp)) (by simp) (by rw [dJ,Op.equalIn];simp [aV d])
 ·rename_i e d;split at h
  case h_4=>cases h
  all_goals
   simp only [am] at h;subst h;simp only [VR] at hx hy
  ·subst hx hy;exact mW p q (.inl (by simp)) (.inl (by simp)) (by simp) (by rw [dJ,Op.equalIn];simp [aV d])
  ·obtain ⟨r,c,_,_,_,rfl⟩:=hy;subst hx;exact mW p q (.inl (by simp)) (.inl (by simp)) (by simp) (by rw [dJ,Op.equalIn];simp [aV d])
  ·obtain ⟨r,c,_,_,_,rfl⟩:=hx;subst hy;exact mW p q (.inl (by simp)) (.inl (by simp)) (by simp) (by rw [dJ,Op.equalIn];simp [aV d])
 ·rename_i e d;split at h
  case h_3=>cases h
  all_goals
   simp only [am] at h;subst h;simp only [VR] at hx hy
  ·obtain ⟨r,rfl,_⟩:=hy;subst hx;exact mW p q (.inr (by simp)) (.inl (by simp)) (by simp) (by rw [dJ,Op.equalIn];simp [aV d])
  ·obtain ⟨r,rfl,_⟩:=hx;subst hy;exact mW p q (.inl (by simp)) (.inl (by simp)) (by simp) (by rw [dJ,Op.equalIn];simp [aV d])
 ·rename_i m e d;have g:∀X,lS P t X=.agg X:=λX=>by simp [lS,bG,d]
  split at h
  ·rename_i k n a k' J f;split at h
   ·rename_i l;simp only [ay,io] at l;obtain ⟨s,F⟩:=l;have s:=jL s;subst s F;split at h
    ·rename_i k2 B;split at h
     ·rename_i l;simp only [ay,io] at l;obtain ⟨I,H⟩:=l;subst I;split at h
      ·cases h
      ·rename_i j;simp only [am] at h;subst h;simp only [VR] at hx hy;obtain ⟨u,rfl⟩:=hx;obtain ⟨o,rfl⟩:=hy;refine sB p q j ?_;have:=C3 (P:=P) (ι:=ι) 3 9997 t (a.map (V.i k)) (f.map (V.i k)) (a==f) (a.map (Value.int k)).toArray (f.map (Value.int k)).toArray
        (by unfold eqC;rw [d];simp only [H];exact AN P 1 B k a f m 0 a f rfl rfl u o) (VRs.ints k a) (VRs.ints k f)
       have:=this.2.2 w;rwa [g,g] at this
     ·cases h
    ·cases h
   ·cases h
  ·rename_i a f;split at h
   ·cases h
   ·rename_i j;simp only [VR] at hx hy;obtain ⟨z,rfl,hx⟩:=hx;obtain ⟨v,rfl,hy⟩:=hy;refine sB p q j ?_;have:=(C3 (P:=P) (ι:=ι) 6 9994 t a f b z v h hx hy).2.2 w;rwa [g,g] at this
  ·cases h
 ·rename_i L d;have g:∀X,lS P t X=.agg X:=λX=>by simp [lS,bG,d]
  split at h
  ·rename_i a f;split at h
   ·cases h
   ·rename_i j;simp only [VR] at hx hy;obtain ⟨z,rfl,hx⟩:=hx;obtain ⟨v,rfl,hy⟩:=hy;refine sB p q j ?_;have:=(C3 (P:=P) (ι:=ι) 6 9994 t a f b z v h hx hy).2.2 w;rwa [g,g] at this
  ·cases h
 ·cases h
theorem Po {α:Type} {ι:Inj} {op:BinOp} {t:TypeId} {k:IntKind} {a b:Int} {c:V->Option α} {z:α} (h:intK op k a b c=some z) (w:World):
  ∃v R,c v=some z/\VR ι v R/\(binOp op t (.int k a) (.int k b)).run P w=.ok R w:=by
 have d:∀{v:V} {R:Value},c v=some z->VR ι v R->(binOp op t (.int k a) (.int k b)).run P w=.ok R w->
   ∃v R,c v=some z/\VR ι v R/\(binOp op t (.int k a) (.int k b)).run P w=.ok R w:=λg e f=>⟨_,_,g,e,f⟩
 cases op<;>simp only [intK] at h
 case add=>exact d h rfl (by simp [binOp,Op.intArith])
 case sub=>exact d h rfl (by simp [binOp,Op.intArith])
 case mul=>exact d h rfl (by simp [binOp,Op.intArith])
 case quo=>
  cases hc:b==0 with
  | true=>simp [hc] at h
  | false=>
   simp only [hc,ae] at h;have:¬b=0:=by simpa using hc
   exact d h rfl (by simp [binOp,Op.intDiv,this])
 case rem=>
  cases hc:b==0 with
  | true=>simp [hc] at h
  | false=>
   simp only [hc,ae] at h;have:¬b=0:=by simpa using hc
   exact d h rfl (by simp [binOp,Op.intDiv,this])
 case and=>exact d h rfl (by simp only [binOp,ne_eq,sG,aG];rfl)
 case or=>exact d h rfl (by simp only [binOp,ne_eq,sG,aG];rfl)
 case xor=>exact d h rfl (by simp only [binOp,ne_eq,sG,aG];rfl)
 case andNot=>exact d h rfl (by simp only [binOp,ne_eq,sG,aG];rfl)
 case shl=>
  cases hc:decide (b<0) with
  | true=>simp [hc] at h
  | false=>
   simp only [hc,ae] at h;have:¬b<0:=by simpa using hc
   exact d h rfl (by simp [binOp,Op.shift,this])
 case shr=>
  cases hc:decide (b<0) with
  | true=>simp [hc] at h
  | false=>
   simp only [hc,ae] at h;have:¬b<0:=by simpa using hc
   exact d h rfl (by simp [binOp,Op.shift,this])
 all_goals exact d h rfl (by simp [binOp,Op.intCmp])
theorem Az {α:Type} {ι:Inj} {op:BinOp} (d:op=.shl\/op=.shr) {t:TypeId} {k k':IntKind} {a b:Int} {c:V->Option α} {z:α} (h:intK op k a b c=some z) (w:World):
  ∃v R,c v=some z/\VR ι v R/\(binOp op t (.int k a) (.int k' b)).run P w=.ok R w:=by
 rcases d with rfl | rfl<;>simp only [intK] at h
 all_goals
  cases hc:decide (b<0) with
  | true=>simp [hc] at h
  | false=>
   simp only [hc,ae] at h;have:¬b<0:=by simpa using hc
   exact ⟨_,_,h,rfl,by simp [binOp,Op.shift,this]⟩
theorem AK (a b:aa):(ByteArray.mk a.toArray)++(ByteArray.mk b.toArray)=ByteArray.mk (a++b).toArray:=by
 apply IP;rw [ByteArray.data_append];simp
theorem NV {α:Type} {ι:Inj} {op:BinOp} {t:TypeId} {a b:aa} {c:V->Option α} {z:α} (h:strK op a b c=some z) (w:World):
  ∃v R,c v=some z/\VR ι v R/\(binOp op t (.string ⟨a.toArray⟩) (.string ⟨b.toArray⟩)).run P w=.ok R w:=by
 have e:∀{v:V} {R:Value},c v=some z->VR ι v R->(binOp op t (.string ⟨a.toArray⟩) (.string ⟨b.toArray⟩)).run P w=.ok R w->
   ∃v R,c v=some z/\VR ι v R/\(binOp op t (.string ⟨a.toArray⟩) (.string ⟨b.toArray⟩)).run P w=.ok R w:=λd f g=>⟨_,_,d,f,g⟩
 cases op<;>simp only [strK] at h
 case add=>
  obtain ⟨s,d,f⟩:=au h;unfold cat at d;split at d
  ·rename_i i;simp only [am] at d;subst d;refine e f rfl ?_;simp only [binOp,Op.stringOp];have hs:(ByteArray.mk a.toArray).size=a.length:=rfl;have hs':(ByteArray.mk b.toArray).size=b.length:=rfl;rw [ab (by simp only [hs,hs',IntKind.max,IntKind.signed,IntKind.bits];simp;omega),AK];rfl
  ·cases d
 all_goals first
  | cases h
  | exact e h rfl (by simp only [binOp,Op.stringOp,vO];rfl)
theorem Pn {α:Type} {ι:Inj} {op:BinOp} {t:TypeId} {x y:V} {X Y:Value} {c:V->Option α} {z:α} (h:binK P op t x y c=some z) (hx:VR ι x X) (hy:VR ι y Y) (p q:Operand) (w:World):
  ∃v R,c v=some z/\VR ι v R/\(eqGuard op t p q X Y).run P w=.ok () w/\(binOp op t X Y).run P w=.ok R w:=by
 unfold binK at h;split at h
 ·rename_i k a k' b;simp only [VR] at hx hy;subst hx hy;have g:=kJ (P:=P) (op:=op) (t:=t) (x:=p) (y:=q) (a:=.int k a) (b:=.int k' b) (.inl (by simp)) (.inl (by simp)) w;split at h
  ·obtain ⟨v,R,e,d,f⟩:=Az (P:=P) (ι:=ι) (t:=t) (k':=k') (.inl rfl) h w;exact ⟨v,R,e,d,g,f⟩
  ·obtain ⟨v,R,e,d,f⟩:=Az (P:=P) (ι:=ι) (t:=t) (k':=k') (.inr rfl) h w;exact ⟨v,R,e,d,g,f⟩
  ·split at h
   ·rename_i i;have i:=jL i;subst i;obtain ⟨v,R,e,d,f⟩:=Po (P:=P) (ι:=ι) (t:=t) h w;exact ⟨v,R,e,d,g,f⟩
   ·cases h
 ·rename_i a b;simp only [VR] at hx hy;subst hx hy;have g:=kJ (P:=P) (op:=op) (t:=t) (x:=p) (y:=q) (a:=.string ⟨a.toArray⟩) (b:=.string ⟨b.toArray⟩) (.inl (by simp)) (.inl (by simp)) w;obtain ⟨v,R,e,d,f⟩:=NV (P:=P) (ι:=ι) (t:=t) h w;exact ⟨v,R,e,d,g,f⟩
 ·split at h
  ·split at h
   ·rename_i r j;obtain ⟨e,d⟩:=He j hx hy p q w;exact ⟨_,_,h,by simp only [VR],e.1,e.2⟩
   ·cases h
  ·split at h
   ·rename_i r j;obtain ⟨e,d⟩:=He j hx hy p q w;exact ⟨_,_,h,by simp only [VR],d.1,d.2⟩
   ·cases h
  ·cases h
end Go.Abs
