
/- The abstract effect of an operation is what the model's own operation does.
   Conditions: none; generic over the program. -/
import Derived.Test.YtfiponokimbeeaaGreatDoorAbsE
import Derived.Laws.Slices
set_option linter.unusedSimpArgs false
set_option linter.unusedVariables false
namespace Go.Abs
variable {P:Program}
inductive NextR (ι:Inj) (v:Option V):Next->Prop
 | skip (h:v=none):NextR ι v .skip
 | value (x:Value) (h:∀u,v=some u->VR ι u x):NextR ι v (.value x)
def gJ (P:Program) (ι:Inj) (f:Nat) (o:Oper) (a:Act) (w:World) (e:Eff):Prop:=
 match e.wr with
 | none=>∃x,(execOp a.eval o).run P w=.ok x w/\NextR ι e.val x
 | some (b,blk)=>match e.new with
  | false=>∃q,ι b=some (some q)/\(q.fz=false->∃ob x,(execOp a.eval o).run P w=.ok x (setObj w q.r ob)/\BR ι q blk ob/\NextR ι e.val x)
  | true=>b=f/\∃d q ob x,(execOp a.eval o).run P w=.ok x ((World.alloc { w with drawn:=d } ob))/\q.r=w.heap.size/\q.fz=false/\BR (upd ι f (some q)) q blk ob/\NextR (upd ι f (some q)) e.val x
theorem gJ.val {ι:Inj} {f:Nat} {o:Oper} {a:Act} {w:World} {v:V} {x:Value} {rd:List Nat} (F:(execOp a.eval o).run P w=.ok (.value x) w) (E:VR ι v x):
  gJ P ι f o a w { val:=some v,rd:=rd }:=by
 unfold gJ;exact ⟨_,F,.value x λu C=>by cases C;exact E⟩
theorem gJ.mkR {ι:Inj} {f:Nat} {o:Oper} {a:Act} {w:World} {v:V} {x:Value} {rd:List Nat} {blk:Blk} {ob:Obj} {d:Nat} {q:Rf} (F:(execOp a.eval o).run P w=.ok (.value x) (World.alloc { w with drawn:=d } ob))
  (E:q.r=w.heap.size) (O:q.fz=false) (C:BR (upd ι f (some q)) q blk ob) (J:VR (upd ι f (some q)) v x):
  gJ P ι f o a w { val:=some v,rd:=rd,wr:=some (f,blk),new:=true }:=by
 unfold gJ;exact ⟨rfl,d,q,ob,_,F,E,O,C,.value x λu G=>by cases G;exact J⟩
theorem gJ.mk {ι:Inj} {f:Nat} {o:Oper} {a:Act} {w:World} {v:V} {x:Value} {rd:List Nat} {blk:Blk} {ob:Obj} (F:(execOp a.eval o).run P w=.ok (.value x) (w.alloc ob))
  (C:BR (upd ι f (some (Rf.of w.heap.size (0) (0)))) (Rf.of w.heap.size (0) (0)) blk ob) (E:VR (upd ι f (some (Rf.of w.heap.size (0) (0)))) v x):
  gJ P ι f o a w { val:=some v,rd:=rd,wr:=some (f,blk),new:=true }:=.mkR (d:=w.drawn) F rfl rfl C E
theorem dF (ι:Inj) (f:Nat) (r:Option Rf):upd ι f r f=some r:=by simp [upd]
theorem lY {op:BinOp} {t:TypeId} {x y:Operand} {a b:Value} (d:a≠.nilIface\/b≠.nilIface) (e:(∀c,a≠.agg c)\/(∀c,b≠.agg c)) (w:World):
  (eqGuard op t x y a b).run P w=.ok () w:=by
 unfold eqGuard;cases op<;>simp<;>(cases a<;>cases b<;>simp_all)
theorem oS {t:TypeId} {X Y:Value} {b:Bool} {w:World} (p q:Operand) (c:X≠.nilIface\/Y≠.nilIface) (d:(∀a,X≠.agg a)\/(∀a,Y≠.agg a))
  (e:(∀k n,X≠.int k n)/\(∀s,X≠.string s)/\(∀k n,X≠.float k n)/\(∀k n m,X≠.complex k n m)) (h:(Op.equal t X Y).run P w=.ok b w):
  ((eqGuard .eql t p q X Y).run P w=.ok () w/\(binOp .eql t X Y).run P w=.ok (.bool b) w)/\
  ((eqGuard .neq t p q X Y).run P w=.ok () w/\(binOp .neq t X Y).run P w=.ok (.bool (!b)) w):=by
 obtain ⟨a1,a2,g,f⟩:=e;refine ⟨⟨lY c d w,?_⟩,lY c d w,?_⟩
 ·cases X<;>simp_all [binOp]
 ·cases X<;>simp_all [binOp]
theorem ul {t:TypeId} {c a:Array Value} {b:Bool} {w:World} (p q:Operand) (d:P.eqGuardType P.depth t=false) (h:(Op.equalIn 10000 t (.agg c) (.agg a)).run P w=.ok b w):
  ((eqGuard .eql t p q (.agg c) (.agg a)).run P w=.ok () w/\(binOp .eql t (.agg c) (.agg a)).run P w=.ok (.bool b) w)/\
  ((eqGuard .neq t p q (.agg c) (.agg a)).run P w=.ok () w/\(binOp .neq t (.agg c) (.agg a)).run P w=.ok (.bool (!b)) w):=by
 refine ⟨⟨run_eqGuard_agg w _ t p q c a d,?_⟩,run_eqGuard_agg w _ t p q c a d,?_⟩
 ·rw [run_eql_struct,h];rfl
 ·rw [run_neq_struct,h];rfl
theorem eU (t:TypeId) (x y:Value):Op.equal t x y=Op.equalIn (9999+1) t x y:=rfl
theorem Ef (P:Program) (d:Nat) {e:TypeId} {k':IntKind} (l:P.underlying e=some (.int k')) (k:IntKind):∀(a b:List Int) (n j:Nat) (A B:List Int),A.drop j=a->B.drop j=b->
  a.length=n->b.length=n->eqAr (eqC P (d+1) e) 1 (A.map (V.i k)) (B.map (V.i k)) n j=some (a==b)
 | [],b,n,j,A,B,_,_,c,f=>by
  simp only [ba] at c;subst c;have:b=[]:=wG f;subst this;simp [eqAr]
 | x::a,[],n,j,A,B,_,_,c,f=>by simp at c f;omega
 | x::a,y::b,0,j,A,B,_,_,c,f=>by simp at c
 | x::a,y::b,n+1,j,A,B,h,m,c,f=>by
  have o:A.drop (j+1)=a:=by rw [<-iR,h];rfl
  have s:B.drop (j+1)=b:=by rw [<-iR,m];rfl
  have ih:=Ef P d l k a b n (j+1) A B o s (by simpa using c) (by simpa using f);have r:((A.map (V.i k)).drop (j*1)).take 1=[V.i k x]:=by
   rw [qD,<-List.map_drop,h];rfl
  have p:((B.map (V.i k)).drop (j*1)).take 1=[V.i k y]:=by
   rw [qD,<-List.map_drop,m];rfl
  have q:keq k k=true:=by cases k<;>rfl
  have g:eqC P (d+1) e [V.i k x] [V.i k y]=some (x==y):=by simp [eqC,l,q]
  simp only [eqAr,r,p,ih,g];congr 1
theorem Jg {ι:Inj} {t:TypeId} {x y:V} {X Y:Value} {b:Bool} (h:eqlV P t x y=some b) (hx:VR ι x X) (hy:VR ι y Y) (p q:Operand) (w:World):
  ((eqGuard .eql t p q X Y).run P w=.ok () w/\(binOp .eql t X Y).run P w=.ok (.bool b) w)/\
  ((eqGuard .neq t p q X Y).run P w=.ok () w/\(binOp .neq t X Y).run P w=.ok (.bool (!b)) w):=by
 unfold eqlV at h;split at h
 ·rename_i d;split at h
  ·simp only [au] at h;subst h;simp only [VR] at hx hy;subst hx hy;exact oS p q (.inl (by simp)) (.inl (by simp)) (by simp) (by rw [eU,Op.equalIn];simp [aV d])
  ·cases h
 ·rename_i e d;split at h
  case h_4=>cases h
  all_goals
   simp only [au] at h;subst h;simp only [VR] at hx hy
  ·subst hx hy;exact oS p q (.inl (by simp)) (.inl (by simp)) (by simp) (by rw [eU,Op.equalIn];simp [aV d])
  ·obtain ⟨r,_,rfl⟩:=hy;subst hx;exact oS p q (.inl (by simp)) (.inl (by simp)) (by simp) (by rw [eU,Op.equalIn];simp [aV d])
  ·obtain ⟨r,_,rfl⟩:=hx;subst hy;exact oS p q (.inl (by simp)) (.inl (by simp)) (by simp) (by rw [eU,Op.equalIn];simp [aV d])
 ·rename_i e L C d;split at h
  case h_4=>cases h
  all_goals
   simp only [au] at h;subst h;simp only [VR] at hx hy
  ·subst hx hy;exact oS p q (.inl (by simp)) (.inl (by simp)) (by simp) (by rw [eU,Op.equalIn];simp [aV d])
  ·obtain ⟨r,rfl,_⟩:=hy;obtain ⟨F,G,E,o⟩:=y6 _ r;rw [o];subst hx;exact oS p q (.inl (by simp)) (.inl (by simp)) (by simp) (by rw [eU,Op.equalIn];simp [aV d])
  ·obtain ⟨r,rfl,_⟩:=hx;obtain ⟨F,G,E,o⟩:=y6 _ r;rw [o];subst hy;exact oS p q (.inl (by simp)) (.inl (by simp)) (by simp) (by rw [eU,Op.equalIn];simp [aV d])
 ·rename_i e d;split at h
  case h_4=>cases h
  all_goals
   simp only [au] at h;subst h;simp only [VR] at hx hy
  ·subst hx hy;exact oS p q (.inl (by simp)) (.inl (by simp)) (by simp) (by rw [eU,Op.equalIn];simp [aV d])
  ·obtain ⟨r,c,_,_,_,rfl⟩:=hy;subst hx;exact oS p q (.inl (by simp)) (.inl (by simp)) (by simp) (by rw [eU,Op.equalIn];simp [aV d])
  ·obtain ⟨r,c,_,_,_,rfl⟩:=hx;subst hy;exact oS p q (.inl (by simp)) (.inl (by simp)) (by simp) (by rw [eU,Op.equalIn];simp [aV d])
 ·rename_i e d;split at h
  case h_3=>cases h
  all_goals
   simp only [au] at h;subst h;simp only [VR] at hx hy
  ·obtain ⟨r,rfl,_⟩:=hy;subst hx;exact oS p q (.inr (by simp)) (.inl (by simp)) (by simp) (by rw [eU,Op.equalIn];simp [aV d])
  ·obtain ⟨r,rfl,_⟩:=hx;subst hy;exact oS p q (.inl (by simp)) (.inl (by simp)) (by simp) (by rw [eU,Op.equalIn];simp [aV d])
 ·rename_i m e d;have g:∀X,mY P t X=.agg X:=λX=>by simp [mY,bW,d]
  split at h
  ·rename_i k n a k' J f;split at h
   ·rename_i j;simp only [az,jt] at j;obtain ⟨s,H⟩:=j;have s:=kY s;subst s H;split at h
    ·rename_i k2 I;split at h
     ·rename_i j;simp only [az,jt] at j;obtain ⟨B,D⟩:=j;subst B;split at h
      ·cases h
      ·rename_i l;simp only [au] at h;subst h;simp only [VR] at hx hy;obtain ⟨u,rfl⟩:=hx;obtain ⟨A,rfl⟩:=hy;refine ul p q l ?_;have:=GF (P:=P) (ι:=ι) 3 9997 t (a.map (V.i k)) (f.map (V.i k)) (a==f) (a.map (Value.int k)).toArray (f.map (Value.int k)).toArray
        (by unfold eqC;rw [d];simp only [D];exact Ef P 1 I k a f m 0 a f rfl rfl u A) (VRs.ints k a) (VRs.ints k f)
       have:=this.2.2 w;rwa [g,g] at this
     ·cases h
    ·cases h
   ·cases h
  ·rename_i a f;split at h
   ·cases h
   ·rename_i l;simp only [VR] at hx hy;obtain ⟨v,rfl,hx⟩:=hx;obtain ⟨z,rfl,hy⟩:=hy;refine ul p q l ?_;have:=(GF (P:=P) (ι:=ι) 6 9994 t a f b v z h hx hy).2.2 w;rwa [g,g] at this
  ·cases h
 ·rename_i K d;have g:∀X,mY P t X=.agg X:=λX=>by simp [mY,bW,d]
  split at h
  ·rename_i a f;split at h
   ·cases h
   ·rename_i l;simp only [VR] at hx hy;obtain ⟨v,rfl,hx⟩:=hx;obtain ⟨z,rfl,hy⟩:=hy;refine ul p q l ?_;have:=(GF (P:=P) (ι:=ι) 6 9994 t a f b v z h hx hy).2.2 w;rwa [g,g] at this
  ·cases h
 ·cases h
theorem SI {α:Type} {ι:Inj} {op:BinOp} {t:TypeId} {k:IntKind} {a b:Int} {c:V->Option α} {z:α} (h:intK op k a b c=some z) (w:World):
  ∃v R,c v=some z/\VR ι v R/\(binOp op t (.int k a) (.int k b)).run P w=.ok R w:=by
 have d:∀{v:V} {R:Value},c v=some z->VR ι v R->(binOp op t (.int k a) (.int k b)).run P w=.ok R w->
   ∃v R,c v=some z/\VR ι v R/\(binOp op t (.int k a) (.int k b)).run P w=.ok R w:=λf g e=>⟨_,_,f,g,e⟩
 cases op<;>simp only [intK] at h
 case add=>exact d h rfl (by simp [binOp,Op.intArith])
 case sub=>exact d h rfl (by simp [binOp,Op.intArith])
 case mul=>exact d h rfl (by simp [binOp,Op.intArith])
 case quo=>
  cases hc:b==0 with
  | true=>simp [hc] at h
  | false=>
   simp only [hc,af] at h;have:¬b=0:=by simpa using hc
   exact d h rfl (by simp [binOp,Op.intDiv,this])
 case rem=>
  cases hc:b==0 with
  | true=>simp [hc] at h
  | false=>
   simp only [hc,af] at h;have:¬b=0:=by simpa using hc
   exact d h rfl (by simp [binOp,Op.intDiv,this])
 case and=>exact d h rfl (by simp only [binOp,ne_eq,uX,aA];rfl)
 case or=>exact d h rfl (by simp only [binOp,ne_eq,uX,aA];rfl)
 case xor=>exact d h rfl (by simp only [binOp,ne_eq,uX,aA];rfl)
 case andNot=>exact d h rfl (by simp only [binOp,ne_eq,uX,aA];rfl)
 case shl=>
  cases hc:decide (b<0) with
  | true=>simp [hc] at h
  | false=>
   simp only [hc,af] at h;have:¬b<0:=by simpa using hc
   exact d h rfl (by simp [binOp,Op.shift,this])
 case shr=>
  cases hc:decide (b<0) with
  | true=>simp [hc] at h
  | false=>
   simp only [hc,af] at h;have:¬b<0:=by simpa using hc
   exact d h rfl (by simp [binOp,Op.shift,this])
 all_goals exact d h rfl (by simp [binOp,Op.intCmp])
theorem Ec {α:Type} {ι:Inj} {op:BinOp} (d:op=.shl\/op=.shr) {t:TypeId} {k k':IntKind} {a b:Int} {c:V->Option α} {z:α} (h:intK op k a b c=some z) (w:World):
  ∃v R,c v=some z/\VR ι v R/\(binOp op t (.int k a) (.int k' b)).run P w=.ok R w:=by
 rcases d with rfl | rfl<;>simp only [intK] at h
 all_goals
  cases hc:decide (b<0) with
  | true=>simp [hc] at h
  | false=>
   simp only [hc,af] at h;have:¬b<0:=by simpa using hc
   exact ⟨_,_,h,rfl,by simp [binOp,Op.shift,this]⟩
theorem Ce (a b:aa):(ByteArray.mk a.toArray)++(ByteArray.mk b.toArray)=ByteArray.mk (a++b).toArray:=by
 apply K8;rw [ByteArray.data_append];simp
theorem SB {α:Type} {ι:Inj} {op:BinOp} {t:TypeId} {a b:aa} {c:V->Option α} {z:α} (h:strK op a b c=some z) (w:World):
  ∃v R,c v=some z/\VR ι v R/\(binOp op t (.string ⟨a.toArray⟩) (.string ⟨b.toArray⟩)).run P w=.ok R w:=by
 have e:∀{v:V} {R:Value},c v=some z->VR ι v R->(binOp op t (.string ⟨a.toArray⟩) (.string ⟨b.toArray⟩)).run P w=.ok R w->
   ∃v R,c v=some z/\VR ι v R/\(binOp op t (.string ⟨a.toArray⟩) (.string ⟨b.toArray⟩)).run P w=.ok R w:=λd f g=>⟨_,_,d,f,g⟩
 cases op<;>simp only [strK] at h
 case add=>
  obtain ⟨s,d,f⟩:=av h;unfold cat at d;split at d
  ·rename_i i;simp only [au] at d;subst d;refine e f rfl ?_;simp only [binOp,Op.stringOp];have hs:(ByteArray.mk a.toArray).size=a.length:=rfl;have hs':(ByteArray.mk b.toArray).size=b.length:=rfl;rw [ab (by simp only [hs,hs',IntKind.max,IntKind.signed,IntKind.bits];simp;omega),Ce];rfl
  ·cases d
 all_goals first
  | cases h
  | exact e h rfl (by simp only [binOp,Op.stringOp,yj];rfl)
theorem R7 {α:Type} {ι:Inj} {op:BinOp} {t:TypeId} {x y:V} {X Y:Value} {c:V->Option α} {z:α} (h:binK P op t x y c=some z) (hx:VR ι x X) (hy:VR ι y Y) (p q:Operand) (w:World):
  ∃v R,c v=some z/\VR ι v R/\(eqGuard op t p q X Y).run P w=.ok () w/\(binOp op t X Y).run P w=.ok R w:=by
 unfold binK at h;split at h
 ·rename_i k a k' b;simp only [VR] at hx hy;subst hx hy;have g:=lY (P:=P) (op:=op) (t:=t) (x:=p) (y:=q) (a:=.int k a) (b:=.int k' b) (.inl (by simp)) (.inl (by simp)) w;split at h
  ·obtain ⟨v,R,d,e,f⟩:=Ec (P:=P) (ι:=ι) (t:=t) (k':=k') (.inl rfl) h w;exact ⟨v,R,d,e,g,f⟩
  ·obtain ⟨v,R,d,e,f⟩:=Ec (P:=P) (ι:=ι) (t:=t) (k':=k') (.inr rfl) h w;exact ⟨v,R,d,e,g,f⟩
  ·split at h
   ·rename_i j;have j:=kY j;subst j;obtain ⟨v,R,d,e,f⟩:=SI (P:=P) (ι:=ι) (t:=t) h w;exact ⟨v,R,d,e,g,f⟩
   ·cases h
 ·rename_i a b;simp only [VR] at hx hy;subst hx hy;have g:=lY (P:=P) (op:=op) (t:=t) (x:=p) (y:=q) (a:=.string ⟨a.toArray⟩) (b:=.string ⟨b.toArray⟩) (.inl (by simp)) (.inl (by simp)) w;obtain ⟨v,R,d,e,f⟩:=SB (P:=P) (ι:=ι) (t:=t) h w;exact ⟨v,R,d,e,g,f⟩
 ·split at h
  ·split at h
   ·rename_i r i;obtain ⟨d,e⟩:=Jg i hx hy p q w;exact ⟨_,_,h,by simp only [VR],d.1,d.2⟩
   ·cases h
  ·split at h
   ·rename_i r i;obtain ⟨d,e⟩:=Jg i hx hy p q w;exact ⟨_,_,h,by simp only [VR],e.1,e.2⟩
   ·cases h
  ·cases h
end Go.Abs
