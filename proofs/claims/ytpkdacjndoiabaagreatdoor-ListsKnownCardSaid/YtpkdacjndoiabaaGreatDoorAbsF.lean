/- The abstract effect of an operation is what the model's own operation does.
   Conditions: none; generic over the program. -/
import Derived.Test.YtpkdacjndoiabaaGreatDoorAbsE
import Derived.Laws.Slices
set_option linter.unusedSimpArgs false
namespace Go.Abs
variable {P:Program}
inductive NextR (ι:Inj) (v:Option V):Next->Prop
 | skip (h:v=none):NextR ι v .skip
 | value (x:Value) (h:∀u,v=some u->VR ι u x):NextR ι v (.value x)
def gz (P:Program) (ι:Inj) (f:Nat) (o:Oper) (a:Act) (w:World) (e:Eff):Prop:=
 match e.wr with
 | none=>∃x,(execOp a.eval o).run P w=.ok x w/\NextR ι e.val x
 | some (b,blk)=>match e.new with
  | false=>∃q,ι b=some (some q)/\(q.fz=false->∃ob x,(execOp a.eval o).run P w=.ok x (setObj w q.r ob)/\BR ι q blk ob/\NextR ι e.val x)
  | true=>b=f/\∃d q ob x,(execOp a.eval o).run P w=.ok x ((World.alloc { w with drawn:=d } ob))/\q.r=w.heap.size/\q.fz=false/\BR (upd ι f (some q)) q blk ob/\NextR (upd ι f (some q)) e.val x
theorem gz.val {ι:Inj} {f:Nat} {o:Oper} {a:Act} {w:World} {v:V} {x:Value} {rd:List Nat} (hr:(execOp a.eval o).run P w=.ok (.value x) w) (hv:VR ι v x):
  gz P ι f o a w { val:=some v,rd:=rd }:=by
 unfold gz
 exact ⟨_,hr,.value x λu hu=>by cases hu;exact hv⟩
theorem gz.mkR {ι:Inj} {f:Nat} {o:Oper} {a:Act} {w:World} {v:V} {x:Value} {rd:List Nat} {blk:Blk} {ob:Obj} {d:Nat} {q:Rf} (hr:(execOp a.eval o).run P w=.ok (.value x) (World.alloc { w with drawn:=d } ob))
  (hq:q.r=w.heap.size) (hz:q.fz=false) (hb:BR (upd ι f (some q)) q blk ob) (hv:VR (upd ι f (some q)) v x):
  gz P ι f o a w { val:=some v,rd:=rd,wr:=some (f,blk),new:=true }:=by
 unfold gz
 exact ⟨rfl,d,q,ob,_,hr,hq,hz,hb,.value x λu hu=>by cases hu;exact hv⟩
theorem gz.mk {ι:Inj} {f:Nat} {o:Oper} {a:Act} {w:World} {v:V} {x:Value} {rd:List Nat} {blk:Blk} {ob:Obj} (hr:(execOp a.eval o).run P w=.ok (.value x) (w.alloc ob))
  (hb:BR (upd ι f (some (Rf.of w.heap.size (0) (0)))) (Rf.of w.heap.size (0) (0)) blk ob) (hv:VR (upd ι f (some (Rf.of w.heap.size (0) (0)))) v x):
  gz P ι f o a w { val:=some v,rd:=rd,wr:=some (f,blk),new:=true }:=.mkR (d:=w.drawn) hr rfl rfl hb hv
theorem dk (ι:Inj) (f:Nat) (r:Option Rf):upd ι f r f=some r:=by simp [upd]
theorem ly {op:BinOp} {t:TypeId} {x y:Operand} {a b:Value} (h1:a≠.nilIface\/b≠.nilIface) (h2:(∀cs,a≠.agg cs)\/(∀cs,b≠.agg cs)) (w:World):
  (eqGuard op t x y a b).run P w=.ok () w:=by
 unfold eqGuard
 cases op<;>simp<;>(cases a<;>cases b<;>simp_all)
theorem og {t:TypeId} {X Y:Value} {b:Bool} {w:World} (p q:Operand) (h1:X≠.nilIface\/Y≠.nilIface) (h2:(∀cs,X≠.agg cs)\/(∀cs,Y≠.agg cs))
  (h3:(∀k n,X≠.int k n)/\(∀s,X≠.string s)/\(∀k n,X≠.float k n)/\(∀k n m,X≠.complex k n m)) (h:(Op.equal t X Y).run P w=.ok b w):
  ((eqGuard .eql t p q X Y).run P w=.ok () w/\(binOp .eql t X Y).run P w=.ok (.bool b) w)/\
  ((eqGuard .neq t p q X Y).run P w=.ok () w/\(binOp .neq t X Y).run P w=.ok (.bool (!b)) w):=by
 obtain ⟨a1,a2,a3,a4⟩:=h3
 refine ⟨⟨ly h1 h2 w,?_⟩,ly h1 h2 w,?_⟩
 ·cases X<;>simp_all [binOp]
 ·cases X<;>simp_all [binOp]
theorem uq {t:TypeId} {xs ys:Array Value} {b:Bool} {w:World} (p q:Operand) (hg:P.eqGuardType P.depth t=false) (h:(Op.equalIn 10000 t (.agg xs) (.agg ys)).run P w=.ok b w):
  ((eqGuard .eql t p q (.agg xs) (.agg ys)).run P w=.ok () w/\(binOp .eql t (.agg xs) (.agg ys)).run P w=.ok (.bool b) w)/\
  ((eqGuard .neq t p q (.agg xs) (.agg ys)).run P w=.ok () w/\(binOp .neq t (.agg xs) (.agg ys)).run P w=.ok (.bool (!b)) w):=by
 refine ⟨⟨run_eqGuard_agg w _ t p q xs ys hg,?_⟩,run_eqGuard_agg w _ t p q xs ys hg,?_⟩
 ·rw [run_eql_struct,h];rfl
 ·rw [run_neq_struct,h];rfl
theorem eu (t:TypeId) (x y:Value):Op.equal t x y=Op.equalIn (9999+1) t x y:=rfl
theorem Bn (P:Program) (d:Nat) {e:TypeId} {k':IntKind} (he:P.underlying e=some (.int k')) (k:IntKind):∀(a b:List Int) (n j:Nat) (A B:List Int),A.drop j=a->B.drop j=b->
  a.length=n->b.length=n->eqAr (eqC P (d+1) e) 1 (A.map (V.i k)) (B.map (V.i k)) n j=some (a==b)
 | [],b,n,j,A,B,_,_,ha,hb=>by
  simp only [bj] at ha;subst ha
  have:b=[]:=yx hb
  subst this
  simp [eqAr]
 | x::a,[],n,j,A,B,_,_,ha,hb=>by simp at ha hb;omega
 | x::a,y::b,0,j,A,B,_,_,ha,hb=>by simp at ha
 | x::a,y::b,n+1,j,A,B,hA,hB,ha,hb=>by
  have h1:A.drop (j+1)=a:=by rw [<-kR,hA];rfl
  have h2:B.drop (j+1)=b:=by rw [<-kR,hB];rfl
  have ih:=Bn P d he k a b n (j+1) A B h1 h2 (by simpa using ha) (by simpa using hb)
  have e1:((A.map (V.i k)).drop (j*1)).take 1=[V.i k x]:=by
   rw [qf,<-List.map_drop,hA];rfl
  have e2:((B.map (V.i k)).drop (j*1)).take 1=[V.i k y]:=by
   rw [qf,<-List.map_drop,hB];rfl
  have hk:keq k k=true:=by cases k<;>rfl
  have he1:eqC P (d+1) e [V.i k x] [V.i k y]=some (x==y):=by simp [eqC,he,hk]
  simp only [eqAr,e1,e2,ih,he1]
  congr 1
theorem KL {ι:Inj} {t:TypeId} {x y:V} {X Y:Value} {b:Bool} (h:eqlV P t x y=some b) (hx:VR ι x X) (hy:VR ι y Y) (p q:Operand) (w:World):
  ((eqGuard .eql t p q X Y).run P w=.ok () w/\(binOp .eql t X Y).run P w=.ok (.bool b) w)/\
  ((eqGuard .neq t p q X Y).run P w=.ok () w/\(binOp .neq t X Y).run P w=.ok (.bool (!b)) w):=by
 unfold eqlV at h
 split at h
 ·rename_i hd
  split at h
  ·simp only [aq] at h;subst h
   simp only [VR] at hx hy;subst hx hy
   exact og p q (.inl (by simp)) (.inl (by simp)) (by simp) (by rw [eu,Op.equalIn];simp [aW hd])
  ·cases h
 ·rename_i e hd
  split at h
  case h_4=>cases h
  all_goals
   simp only [aq] at h;subst h
   simp only [VR] at hx hy
  ·subst hx hy
   exact og p q (.inl (by simp)) (.inl (by simp)) (by simp) (by rw [eu,Op.equalIn];simp [aW hd])
  ·obtain ⟨r,_,rfl⟩:=hy
   subst hx
   exact og p q (.inl (by simp)) (.inl (by simp)) (by simp) (by rw [eu,Op.equalIn];simp [aW hd])
  ·obtain ⟨r,_,rfl⟩:=hx
   subst hy
   exact og p q (.inl (by simp)) (.inl (by simp)) (by simp) (by rw [eu,Op.equalIn];simp [aW hd])
 ·rename_i e e' e'' hd
  split at h
  case h_4=>cases h
  all_goals
   simp only [aq] at h;subst h
   simp only [VR] at hx hy
  ·subst hx hy
   exact og p q (.inl (by simp)) (.inl (by simp)) (by simp) (by rw [eu,Op.equalIn];simp [aW hd])
  ·obtain ⟨r,rfl,_⟩:=hy
   obtain ⟨g',b',c',e9⟩:=ye _ r
   rw [e9]
   subst hx
   exact og p q (.inl (by simp)) (.inl (by simp)) (by simp) (by rw [eu,Op.equalIn];simp [aW hd])
  ·obtain ⟨r,rfl,_⟩:=hx
   obtain ⟨g',b',c',e9⟩:=ye _ r
   rw [e9]
   subst hy
   exact og p q (.inl (by simp)) (.inl (by simp)) (by simp) (by rw [eu,Op.equalIn];simp [aW hd])
 ·rename_i e hd
  split at h
  case h_4=>cases h
  all_goals
   simp only [aq] at h;subst h
   simp only [VR] at hx hy
  ·subst hx hy
   exact og p q (.inl (by simp)) (.inl (by simp)) (by simp) (by rw [eu,Op.equalIn];simp [aW hd])
  ·obtain ⟨r,c,_,_,_,rfl⟩:=hy
   subst hx
   exact og p q (.inl (by simp)) (.inl (by simp)) (by simp) (by rw [eu,Op.equalIn];simp [aW hd])
  ·obtain ⟨r,c,_,_,_,rfl⟩:=hx
   subst hy
   exact og p q (.inl (by simp)) (.inl (by simp)) (by simp) (by rw [eu,Op.equalIn];simp [aW hd])
 ·rename_i e hd
  split at h
  case h_3=>cases h
  all_goals
   simp only [aq] at h;subst h
   simp only [VR] at hx hy
  ·obtain ⟨r,rfl,_⟩:=hy
   subst hx
   exact og p q (.inr (by simp)) (.inl (by simp)) (by simp) (by rw [eu,Op.equalIn];simp [aW hd])
  ·obtain ⟨r,rfl,_⟩:=hx
   subst hy
   exact og p q (.inl (by simp)) (.inl (by simp)) (by simp) (by rw [eu,Op.equalIn];simp [aW hd])
 ·rename_i m e hd
  have hv:∀X,mG P t X=.agg X:=λX=>by simp [mG,bQ,hd]
  split at h
  ·rename_i k n a k' n' a'
   split at h
   ·rename_i hb
    simp only [az,iV] at hb
    obtain ⟨hk,hn⟩:=hb
    have hk:=kG hk
    subst hk hn
    split at h
    ·rename_i k2 he
     split at h
     ·rename_i hb
      simp only [az,iV] at hb
      obtain ⟨h1,h2⟩:=hb
      subst h1
      split at h
      ·cases h
      ·rename_i hg
       simp only [aq] at h;subst h
       simp only [VR] at hx hy
       obtain ⟨hx1,rfl⟩:=hx
       obtain ⟨hy1,rfl⟩:=hy
       refine uq p q hg ?_
       have:=Gv (P:=P) (ι:=ι) 3 9997 t (a.map (V.i k)) (a'.map (V.i k)) (a==a') (a.map (Value.int k)).toArray (a'.map (Value.int k)).toArray
        (by unfold eqC;rw [hd];simp only [h2];exact Bn P 1 he k a a' m 0 a a' rfl rfl hx1 hy1) (VRs.ints k a) (VRs.ints k a')
       have:=this.2.2 w
       rwa [hv,hv] at this
     ·cases h
    ·cases h
   ·cases h
  ·rename_i a a'
   split at h
   ·cases h
   ·rename_i hg
    simp only [VR] at hx hy
    obtain ⟨cs,rfl,hx⟩:=hx
    obtain ⟨ds,rfl,hy⟩:=hy
    refine uq p q hg ?_
    have:=(Gv (P:=P) (ι:=ι) 6 9994 t a a' b cs ds h hx hy).2.2 w
    rwa [hv,hv] at this
  ·cases h
 ·rename_i fs hd
  have hv:∀X,mG P t X=.agg X:=λX=>by simp [mG,bQ,hd]
  split at h
  ·rename_i a a'
   split at h
   ·cases h
   ·rename_i hg
    simp only [VR] at hx hy
    obtain ⟨cs,rfl,hx⟩:=hx
    obtain ⟨ds,rfl,hy⟩:=hy
    refine uq p q hg ?_
    have:=(Gv (P:=P) (ι:=ι) 6 9994 t a a' b cs ds h hx hy).2.2 w
    rwa [hv,hv] at this
  ·cases h
 ·cases h
theorem QD {α:Type} {ι:Inj} {op:BinOp} {t:TypeId} {k:IntKind} {a b:Int} {c:V->Option α} {z:α} (h:intK op k a b c=some z) (w:World):
  ∃v R,c v=some z/\VR ι v R/\(binOp op t (.int k a) (.int k b)).run P w=.ok R w:=by
 have fin:∀{v:V} {R:Value},c v=some z->VR ι v R->(binOp op t (.int k a) (.int k b)).run P w=.ok R w->
   ∃v R,c v=some z/\VR ι v R/\(binOp op t (.int k a) (.int k b)).run P w=.ok R w:=λh1 h2 h3=>⟨_,_,h1,h2,h3⟩
 cases op<;>simp only [intK] at h
 case add=>exact fin h rfl (by simp [binOp,Op.intArith])
 case sub=>exact fin h rfl (by simp [binOp,Op.intArith])
 case mul=>exact fin h rfl (by simp [binOp,Op.intArith])
 case quo=>
  cases hc:b==0 with
  | true=>simp [hc] at h
  | false=>
   simp only [hc,af] at h
   have:¬b=0:=by simpa using hc
   exact fin h rfl (by simp [binOp,Op.intDiv,this])
 case rem=>
  cases hc:b==0 with
  | true=>simp [hc] at h
  | false=>
   simp only [hc,af] at h
   have:¬b=0:=by simpa using hc
   exact fin h rfl (by simp [binOp,Op.intDiv,this])
 case and=>exact fin h rfl (by simp only [binOp,ne_eq,um,aE];rfl)
 case or=>exact fin h rfl (by simp only [binOp,ne_eq,um,aE];rfl)
 case xor=>exact fin h rfl (by simp only [binOp,ne_eq,um,aE];rfl)
 case andNot=>exact fin h rfl (by simp only [binOp,ne_eq,um,aE];rfl)
 case shl=>
  cases hc:decide (b<0) with
  | true=>simp [hc] at h
  | false=>
   simp only [hc,af] at h
   have:¬b<0:=by simpa using hc
   exact fin h rfl (by simp [binOp,Op.shift,this])
 case shr=>
  cases hc:decide (b<0) with
  | true=>simp [hc] at h
  | false=>
   simp only [hc,af] at h
   have:¬b<0:=by simpa using hc
   exact fin h rfl (by simp [binOp,Op.shift,this])
 all_goals exact fin h rfl (by simp [binOp,Op.intCmp])
theorem Be {α:Type} {ι:Inj} {op:BinOp} (ho:op=.shl\/op=.shr) {t:TypeId} {k k':IntKind} {a b:Int} {c:V->Option α} {z:α} (h:intK op k a b c=some z) (w:World):
  ∃v R,c v=some z/\VR ι v R/\(binOp op t (.int k a) (.int k' b)).run P w=.ok R w:=by
 rcases ho with rfl | rfl<;>simp only [intK] at h
 all_goals
  cases hc:decide (b<0) with
  | true=>simp [hc] at h
  | false=>
   simp only [hc,af] at h
   have:¬b<0:=by simpa using hc
   exact ⟨_,_,h,rfl,by simp [binOp,Op.shift,this]⟩
theorem Bf (a b:aa):(ByteArray.mk a.toArray)++(ByteArray.mk b.toArray)=ByteArray.mk (a++b).toArray:=by
 apply iO9
 rw [ByteArray.data_append]
 simp
theorem PU {α:Type} {ι:Inj} {op:BinOp} {t:TypeId} {a b:aa} {c:V->Option α} {z:α} (h:strK op a b c=some z) (w:World):
  ∃v R,c v=some z/\VR ι v R/\(binOp op t (.string ⟨a.toArray⟩) (.string ⟨b.toArray⟩)).run P w=.ok R w:=by
 have fin:∀{v:V} {R:Value},c v=some z->VR ι v R->(binOp op t (.string ⟨a.toArray⟩) (.string ⟨b.toArray⟩)).run P w=.ok R w->
   ∃v R,c v=some z/\VR ι v R/\(binOp op t (.string ⟨a.toArray⟩) (.string ⟨b.toArray⟩)).run P w=.ok R w:=λh1 h2 h3=>⟨_,_,h1,h2,h3⟩
 cases op<;>simp only [strK] at h
 case add=>
  obtain ⟨s,h1,h2⟩:=av h
  unfold cat at h1
  split at h1
  ·rename_i hle
   simp only [aq] at h1;subst h1
   refine fin h2 rfl ?_
   simp only [binOp,Op.stringOp]
   have hs:(ByteArray.mk a.toArray).size=a.length:=rfl
   have hs':(ByteArray.mk b.toArray).size=b.length:=rfl
   rw [ab (by simp only [hs,hs',IntKind.max,IntKind.signed,IntKind.bits];simp;omega),Bf]
   rfl
  ·cases h1
 all_goals first
  | cases h
  | exact fin h rfl (by simp only [binOp,Op.stringOp,xG];rfl)
theorem PK {α:Type} {ι:Inj} {op:BinOp} {t:TypeId} {x y:V} {X Y:Value} {c:V->Option α} {z:α} (h:binK P op t x y c=some z) (hx:VR ι x X) (hy:VR ι y Y) (p q:Operand) (w:World):
  ∃v R,c v=some z/\VR ι v R/\(eqGuard op t p q X Y).run P w=.ok () w/\(binOp op t X Y).run P w=.ok R w:=by
 unfold binK at h
 split at h
 ·rename_i k a k' b
  simp only [VR] at hx hy
  subst hx hy
  have g:=ly (P:=P) (op:=op) (t:=t) (x:=p) (y:=q) (a:=.int k a) (b:=.int k' b) (.inl (by simp)) (.inl (by simp)) w
  split at h
  ·obtain ⟨v,R,h1,h2,h3⟩:=Be (P:=P) (ι:=ι) (t:=t) (k':=k') (.inl rfl) h w
   exact ⟨v,R,h1,h2,g,h3⟩
  ·obtain ⟨v,R,h1,h2,h3⟩:=Be (P:=P) (ι:=ι) (t:=t) (k':=k') (.inr rfl) h w
   exact ⟨v,R,h1,h2,g,h3⟩
  ·split at h
   ·rename_i hk
    have hk:=kG hk
    subst hk
    obtain ⟨v,R,h1,h2,h3⟩:=QD (P:=P) (ι:=ι) (t:=t) h w
    exact ⟨v,R,h1,h2,g,h3⟩
   ·cases h
 ·rename_i a b
  simp only [VR] at hx hy
  subst hx hy
  have g:=ly (P:=P) (op:=op) (t:=t) (x:=p) (y:=q) (a:=.string ⟨a.toArray⟩) (b:=.string ⟨b.toArray⟩) (.inl (by simp)) (.inl (by simp)) w
  obtain ⟨v,R,h1,h2,h3⟩:=PU (P:=P) (ι:=ι) (t:=t) h w
  exact ⟨v,R,h1,h2,g,h3⟩
 ·split at h
  ·split at h
   ·rename_i r hr
    obtain ⟨h1,h2⟩:=KL hr hx hy p q w
    exact ⟨_,_,h,by simp only [VR],h1.1,h1.2⟩
   ·cases h
  ·split at h
   ·rename_i r hr
    obtain ⟨h1,h2⟩:=KL hr hx hy p q w
    exact ⟨_,_,h,by simp only [VR],h2.1,h2.2⟩
   ·cases h
  ·cases h
end Go.Abs
