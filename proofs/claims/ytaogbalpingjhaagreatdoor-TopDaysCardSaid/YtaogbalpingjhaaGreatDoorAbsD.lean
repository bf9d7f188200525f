
/- Stores, composite values and comparisons: what the abstract effect says of the model's own operation.
   Conditions: none; generic over the program. -/
import Derived.Test.YtaogbalpingjhaaGreatDoorAbsC
import Derived.Laws.StructEq
set_option linter.unusedVariables false
set_option linter.unusedSimpArgs false
namespace Go.Abs
variable {P:Program}
def splA (b:Array Value) (k:Nat) (a:List Value):Array Value:=(b.toList.take k++(a++b.toList.drop (k+a.length))).toArray
theorem yv (a:Array Value) (k:Nat):splA a k []=a:=by
 unfold splA;apply gz;simp
theorem qW {a:Array Value} {k:Nat} {b:List Value} (h:k+b.length<=a.size):(splA a k b).size=a.size:=by
 unfold splA;simp;omega
theorem vU (a:Array Value) (k:Nat) (v:Value) (b:List Value) (h:k<a.size):splA (a.setIfInBounds k v) (k+1) b=splA a k (v::b):=by
 unfold splA;apply gz;simp only [Array.toList_setIfInBounds,ci];have c:(a.toList.set k v).take (k+1)=a.toList.take k++[v]:=by
  rw [AS (by simpa using h)];simp [List.take_set_of_le]
 rw [c,List.drop_set_of_lt (by omega)];simp [fN,oq 1]
theorem iY (r o j:Nat):(⟨r,o,none⟩:Addr).add j=⟨r,o+j,none⟩:=by
 unfold Addr.add;split
 ·rename_i a;subst a;rfl
 ·rfl
theorem gf (r o:Nat) (e:TypeId) (fr:Nat×Nat):∀(b:List Value) (i:Nat) (a:Array Value) (w:World),w.heap[r]?=some (.cells a e fr)->NF fr a.size->
  o+i+b.length<=a.size->(∀v∈b,v.oneCell'=true)->(storeCells ⟨r,o,none⟩ b i).run P w=.ok () (setObj w r (.cells (splA a (o+i) b) e fr))
 | [],i,a,w,h,_,_,_=>by simp [storeCells,yv,wP h]
 | v::b,i,a,w,h,g,j,f=>by
  simp only [ci] at j;have c:o+i<a.size:=by omega
  have ih:=gf r o e fr b (i+1) (a.setIfInBounds (o+i) v) (setObj w r (.cells (a.setIfInBounds (o+i) v) e fr)) (qS h) (by simpa using g)
   (by simp;omega) (λu k=>f u (iL _ k))
  have hc:w.cell? ⟨r,o+i,none⟩=some a[o+i]:=by rw [aO h];simp [c]
  have d:=lI h g c;simp only [storeCells,ak,iY,run_store P w _ v _ (f v (by simp)),hc,d,bT,aE,aq,vH h,ih,ua];rw [show o+(i+1)=o+i+1 by omega,vU a (o+i) v b c]
theorem VRs.spl {ι:Inj} {l m:List V} {E:Array Value} {C:List Value} (o:Nat) (h:VRs ι l E.toList) (A:VRs ι m C):VRs ι (spl l o m) (splA E o C).toList:=by
 unfold Abs.spl splA;rw [<-A.length];exact (h.take o).append (A.append (h.drop _))
theorem VRs.one {ι:Inj}:∀{m:List V} {vs:List Value},VRs ι m vs->m.all oneV=true->∀v∈vs,v.oneCell'=true
 | [],_,h,_,v,A=>by simp only [VRs] at h;subst h;cases A
 | _::_,_,h,C,v,A=>by
  simp only [VRs] at h;obtain ⟨y,G,rfl,F,E⟩:=h;simp only [kg,av] at C;rcases cY.1 A with rfl | A
  ·exact uQ F C.1
  ·exact VRs.one E C.2 v A
theorem kS {t:TypeId} {i:TypeInfo} (hi:P.info? t=some i) {w:World} {r o:Nat} {a:Array Value} {e:TypeId} {fr:Nat×Nat} (h:w.heap[r]?=some (.cells a e fr))
  (c:NF fr a.size) {x:Value} (f:x.cells.size=P.cellsOf t) (d:o+x.cells.size<=a.size) (b:∀v∈x.cells.toList,v.oneCell'=true):
  (Instr.storeAt t (.pointer (some ⟨r,o,none⟩)) x).run P w=.ok () (setObj w r (.cells (splA a o x.cells.toList) e fr)):=by
 simp only [Instr.storeAt,Instr.sureAddr,storeVar,ak,au,aq,db hi,f,ne_eq,oK,aE];have:=gf (P:=P) r o e fr x.cells.toList 0 a w h c (by simpa using d) b;simpa using this
theorem BJ {α:Type} {ι:Inj} {H:List (Nat×Blk)} {nb b o:Nat} {w:World} (G:WR ι H nb w) {blk:Blk} (I:look H b=some blk) {t:TypeId} {v:V} {x:Value}
  (g:VR ι v x) {c:Blk->Option α} {z:α} (h:lV P t blk o v c=some z):
  ∃j ob r,c j=some z/\ι b=some (some r)/\(Instr.storeAt t (.pointer (some ⟨r.r,o,none⟩)) x).run P w=.ok () (setObj w r.r ob)/\BR ι r j ob:=by
 have q:=jd g;have K:x.cells.size=(cellsOf v).length:=by simpa using q.length
 unfold lV at h;split at h
 ·split at h
  ·rename_i f;simp only [av,eM] at f;obtain ⟨E,u,B,D⟩:=f;obtain ⟨i,hi⟩:=bg E;obtain ⟨r,F,e,fr,A,y,a,p⟩:=ln G I;have L:F.size=F.toList.length:=by simp
   have M:=a.length;have N:=ax B;refine ⟨_,_,r,h,A,kS hi y p (by omega) (by omega) (q.one D),?_⟩;exact ⟨_,e,fr,rfl,a.spl o q,by rw [qW (by simp;omega)];exact p⟩
  ·cases h
 ·rename_i k n l;obtain ⟨r,e,fr,A,y,a,p⟩:=pV G I;split at h
  ·rename_i k' m;split at h
   ·rename_i f;simp only [av,eM] at f;obtain ⟨s,u⟩:=f;have s:=gm s;subst s;obtain ⟨B,D⟩:=ca h;have B:o<n:=ax B;obtain ⟨i,hi⟩:=bg (P:=P) (t:=t) (by rw [u];rfl);simp only [VR] at g;subst g;have C:=kS hi (o:=o) y (by simpa [a] using p) (x:=.int k m) (by simpa [Value.cells] using u.symm) (by simp [Value.cells,a];omega) (by simp [Value.cells,Value.oneCell']);refine ⟨_,_,r,D,A,C,e,fr,?_,by simpa using a,p⟩;congr 1;unfold splA;apply gz;simp only [Value.cells,List.map_set];rw [BV,ad (by simp;omega)];simp
   ·cases h
  ·rename_i k' O J;split at h
   ·rename_i f;simp only [av,eM] at f;obtain ⟨s,rfl,rfl,E,u⟩:=f;have s:=gm s;subst s;obtain ⟨i,hi⟩:=bg (P:=P) (t:=t) (by rw [u];exact E);simp only [VR] at g;obtain ⟨d,rfl⟩:=g
    have C:=kS hi (o:=0) y (by simpa [a] using p) (x:=.agg (J.map (Value.int k)).toArray) (by simp [Value.cells,d,u]) (by simp [Value.cells,a,d]) (by
     intro v g;simp only [Value.cells,eC] at g;obtain ⟨n,_,rfl⟩:=g;rfl)
    refine ⟨_,_,r,h,A,C,e,fr,?_,d,p⟩;congr 1;unfold splA;apply gz;simp [Value.cells,d,a]
   ·cases h
  ·cases h
 ·cases h
theorem GN {b:Array Value} {base o n:Nat} {c:List Value} (h:o+c.length<=n) (g:base+n<=b.size):
  splA b (base+o) c=splA b base (((b.toList.drop base).take n).take o++(c++((b.toList.drop base).take n).drop (o+c.length))):=by
 unfold splA;congr 1;apply vu;intro i;have a:b.toList.length=b.size:=by simp
 by_cases d:i<base
 ·rw [jl (by simp;omega),jl (by simp;omega)];simp [d,show i<base+o by omega]
 ·obtain ⟨j,rfl⟩:∃j,i=base+j:=⟨i - base,by omega⟩;rw [la (l₁:=b.toList.take base) (by simp;omega)];simp only [eH,a,mY (by omega:base<=b.size),wY];by_cases e:j<o
  ·rw [jl (by simp;omega),jl (by simp;omega),jl (by simp;omega)];simp [e,show base+j<base+o by omega,show j<n by omega,lS,iP]
  ·by_cases f:j<o+c.length
   ·rw [la (by simp;omega),jl (by simp;omega),jl (by simp;omega),la (by simp;omega),jl (by simp;omega)];simp only [eH,km,a];congr 1;omega
   ·rw [la (by simp;omega),la (by simp;omega)];simp only [eH,km,a];by_cases k:j<n
    ·rw [jl (by simp;omega),la (by simp;omega),la (by simp;omega)];simp only [eH,km,a,iP];rw [lS (by omega),iP];congr 1;omega
    ·rw [la (by simp;omega)];simp only [iQ,eH,km,a,iP];congr 1;omega
theorem C9 {α:Type} {ι:Inj} {w:World} {r o base:Nat} {a:Array Value} {e:TypeId} {fr:Nat×Nat} {l:List V} (y:w.heap[r]?=some (.cells a e fr))
  (q:VRs ι l ((a.toList.drop base).take l.length)) (d:base+l.length<=a.size) {t:TypeId} {v:V} {x:Value} (A:VR ι v x) {c:Blk->Option α} {z:α}
  (h:lV P t (.cells l) o v c=some z):
  ∃k X,c (.cells k)=some z/\X.length=l.length/\VRs ι k X/\(NF fr a.size->(Instr.storeAt t (.pointer (some ⟨r,base+o,none⟩)) x).run P w=.ok () (setObj w r (.cells (splA a base X) e fr))):=by
 have b:=jd A;have j:x.cells.size=(cellsOf v).length:=by simpa using b.length
 simp only [lV] at h;split at h
 ·rename_i m;simp only [av,eM] at m;obtain ⟨B,D,C,s⟩:=m;obtain ⟨i,hi⟩:=bg B;have u:=ax C;have f:x.cells.toList.length=(cellsOf v).length:=by simpa using j
  refine ⟨_,_,h,?_,?_,λg=>by
   have p:=kS hi y g (o:=base+o) (x:=x) (by omega) (by omega) (b.one s);rw [GN (n:=l.length) (by omega) d] at p;exact p⟩
  ·simp only [iQ,eH,km,f];have:a.toList.length=a.size:=by simp
   omega
  ·unfold Abs.spl;rw [f];exact (q.take o).append (b.append (q.drop _))
 ·cases h
theorem qz {t:List Lf}:∀(l:List (den t)) (j:Nat),(l.take j).flatMap (vals t)=(l.flatMap (vals t)).take (j*t.length)
 | [],j=>by simp
 | y::l,0=>by simp
 | y::l,j+1=>by
  have b:=fK t y;simp only [lz,lE,qz l j,dB,Nat.one_mul];have a:(vals t y).take (j*t.length+t.length)=vals t y:=fO (by omega);rw [xj (l₁:=vals t y),a,b,wH]
theorem qO {t:List Lf}:∀(l:List (den t)) (j:Nat),(l.drop j).flatMap (vals t)=(l.flatMap (vals t)).drop (j*t.length)
 | [],j=>by simp
 | y::l,0=>by simp
 | y::l,j+1=>by
  have b:=fK t y;simp only [sZ,lE,qO l j,dB,Nat.one_mul];have a:(vals t y).drop (j*t.length+t.length)=[]:=nv (by omega);rw [yg (l₁:=vals t y),a,b,wH,jt]
theorem DZ {t:List Lf} (l:List (den t)) (j:Nat) (x:den t) (h:j<l.length):
  (l.set j x).flatMap (vals t)=(l.flatMap (vals t)).take (j*t.length)++(vals t x++(l.flatMap (vals t)).drop (j*t.length+t.length)):=by
 rw [BV,ad h,B7,lE,qz,qO,dB,Nat.one_mul]
theorem vn {a:Array Value} {o k:Nat} {c:List Value} (h:o+k<=a.size):
  (splA a (o+k) c).toList.drop o=(a.toList.drop o).take k++(c++(a.toList.drop o).drop (k+c.length)):=by
 have b:a.toList.length=a.size:=by simp
 unfold splA;simp only;rw [yg,eH,b,mY h,vc,wY,Nat.sub_eq_zero_of_le (Nat.le_add_right o k),ie,su,fN]
theorem Ed {t:List Lf} {l:List (den t)} {a:Array Value} {o:Nat} (f:o+l.length*t.length<=a.size) (h:(a.toList.drop o).take (l.length*t.length)=l.flatMap (vals t)) {j:Nat} (x:den t) (b:j<l.length):
  ((splA a (o+j*t.length) (vals t x)).toList.drop o).take ((l.set j x).length*t.length)=(l.set j x).flatMap (vals t):=by
 have d:j*t.length+t.length<=l.length*t.length:=by
  have:=jV t.length (show j+1<=l.length from b);rw [dB] at this;omega
 rw [DZ l j x b,<-h,List.length_set,vn (by omega)];generalize c:a.toList.drop o=L;have e:l.length*t.length<=L.length:=by rw [<-c];simp;omega
 rw [fK,xj,uq,eH,xj,vc,fK];rw [Nat.min_eq_right (by omega:j*t.length<=l.length*t.length),mY (by omega:j*t.length<=L.length)];congr 1
 ·rw [uq,mY (by omega)]
 ·congr 1
  ·rw [fO (by rw [fK];omega)]
  ·congr 1;omega
theorem vj (off:Nat):∀(b:List Value) (j:Nat) (a:Array Value),off+j+b.length<=a.size->
  (b.zipIdx j).foldl (λa (p:Value×Nat)=>a.setIfInBounds (off+p.2) p.1) a=splA a (off+j) b
 | [],j,a,_=>by simp [yv]
 | v::b,j,a,h=>by
  simp only [ci] at h;simp only [List.zipIdx_cons,pd];rw [vj off b (j+1) _ (by simp;omega),show off+(j+1)=off+j+1 by omega,vU a (off+j) v b (by omega)]
theorem pS {ι:Inj} (c:Nat->Option (Nat×Nat)):∀(parts:List (Nat×V)) (f:List (Nat×Value)) (cells l:List V) (d:Array Value),VRs ι cells d.toList->
  f.map (·.1)=parts.map (·.1)->VRs ι [] []->(∀(j i:Nat) (v:V) (x:Value),parts[j]?=some (i,v)->f[j]?=some (i,x)->VR ι v x)->wE c cells parts=some l->
  ∃o:Array Value,Instr.fill c d f=some o/\VRs ι l o.toList
 | [],f,cells,l,d,hc,e,_,_,h=>by
  simp only [wE,ae] at h;subst h;have:f=[]:=by simpa using e
  subst this;exact ⟨d,rfl,hc⟩
 | (i,v)::parts,[],cells,l,d,hc,e,_,_,h=>by simp at e
 | (i,v)::parts,(s,x)::f,cells,l,d,hc,e,y,r,h=>by
  simp only [fU,List.cons.injEq] at e;obtain ⟨hi,e⟩:=e;subst hi;have t:=r 0 s v x (by simp) (by simp);have g:=jd t;have u:x.cells.size=(cellsOf v).length:=by simpa using g.length
  have w:d.size=cells.length:=by simpa using hc.length
  simp only [wE] at h;simp only [Instr.fill];split at h
  ·cases h
  ·rename_i off size n;rw [n];split at h
   ·rename_i p;simp only [av,eM] at p;obtain ⟨z,q⟩:=p;have q:=ax q;have k:(decide (x.cells.size≠size)||decide (off+x.cells.size>d.size))=false:=by
     simp only [ne_eq,gt_iff_lt,xM,ug,Decidable.not_not];omega
    have m:=vj off x.cells.toList 0 d (by simp;omega);rw [<-Array.toList_zipIdx,Array.foldl_toList] at m;simp only [dG] at m;simp only [k,bT,aE,m];exact pS c parts f _ l _ (hc.spl off g) e y (λj i v x a b=>r (j+1) i v x (by simpa using a) (by simpa using b)) h
   ·cases h
theorem o7 {ι:Inj} {T:List (Nat×Option V)} {a:Act} (d:TR ι T a.tmps):∀(ps:List (Nat×Operand)) (l:List (Nat×V)),kO (opd T) ps=some l->
  (ps.map λ(i,x)=>(i,a.eval x)).map (·.1)=l.map (·.1)/\∀(j i:Nat) (v:V) (x:Value),l[j]?=some (i,v)->(ps.map λ(i,x)=>(i,a.eval x))[j]?=some (i,x)->VR ι v x
 | [],l,h=>by
  simp only [kO,ae] at h;subst h;simp
 | (i,x)::ps,l,h=>by
  simp only [kO] at h;split at h
  ·rename_i v k;split at h
   ·rename_i m e;simp only [ae] at h;subst h;obtain ⟨g,n⟩:=o7 d ps m e;refine ⟨by simp [<-g],λj f u y c b=>?_⟩;cases j with
    | zero=>
     simp only [il,ae,bX] at c;obtain ⟨rfl,rfl⟩:=c;simp only [fU,il,ae,bX,kT] at b;subst b;exact aP d k
    | succ j=>exact n j f u y (by simpa using c) (by simpa using b)
   ·cases h
  ·cases h
theorem pW (ι:Inj) {t:TypeId} {v:V} (h:Ah P t=some v):∃z i,P.info? t=some i/\i.zero=some z/\VR ι v z/\∀w,(zeroValue t).run P w=.ok z w:=by
 unfold Ah at h;split at h
 ·rename_i i hi;split at h
  ·rename_i z a;exact ⟨z,i,hi,a,xA ι h,λw=>by simp [zeroValue,typeInfo,hi,a]⟩
  ·cases h
 ·cases h
end Go.Abs
