
/- Stores, composite values and comparisons: what the abstract effect says of the model's own operation.
   Conditions: none; generic over the program. -/
import Derived.Test.YthemneooekobkaaGreatDoorAbsC
import Derived.Laws.StructEq
set_option linter.unusedVariables false
set_option linter.unusedSimpArgs false
namespace Go.Abs
variable {P:Program}
def splA (a:Array Value) (k:Nat) (b:List Value):Array Value:=(a.toList.take k++(b++a.toList.drop (k+b.length))).toArray
theorem EX (a:Array Value) (k:Nat):splA a k []=a:=by
 unfold splA;apply kY;simp
theorem tX {a:Array Value} {k:Nat} {b:List Value} (h:k+b.length<=a.size):(splA a k b).size=a.size:=by
 unfold splA;simp;omega
theorem Au (a:Array Value) (k:Nat) (v:Value) (b:List Value) (h:k<a.size):splA (a.setIfInBounds k v) (k+1) b=splA a k (v::b):=by
 unfold splA;apply kY;simp only [Array.toList_setIfInBounds,bf];have c:(a.toList.set k v).take (k+1)=a.toList.take k++[v]:=by
  rw [IF (by simpa using h)];simp [List.take_set_of_le]
 rw [c,List.drop_set_of_lt (by omega)];simp [gh,nB 1]
theorem kV (r o j:Nat):(⟨r,o,none⟩:Addr).add j=⟨r,o+j,none⟩:=by
 unfold Addr.add;split
 ·rename_i a;subst a;rfl
 ·rfl
theorem jz (r o:Nat) (e:TypeId) (fr:Nat×Nat):∀(b:List Value) (i:Nat) (a:Array Value) (w:World),w.heap[r]?=some (.cells a e fr)->NF fr a.size->
  o+i+b.length<=a.size->(∀v∈b,v.oneCell'=true)->(storeCells ⟨r,o,none⟩ b i).run P w=.ok () (setObj w r (.cells (splA a (o+i) b) e fr))
 | [],i,a,w,h,_,_,_=>by simp [storeCells,EX,B8 h]
 | v::b,i,a,w,h,f,k,g=>by
  simp only [bf] at k;have c:o+i<a.size:=by omega
  have ih:=jz r o e fr b (i+1) (a.setIfInBounds (o+i) v) (setObj w r (.cells (a.setIfInBounds (o+i) v) e fr)) (vp h) (by simpa using f)
   (by simp;omega) (λu j=>g u (gk _ j))
  have hc:w.cell? ⟨r,o+i,none⟩=some a[o+i]:=by rw [bz h];simp [c]
  have d:=oO h f c;simp only [storeCells,ax,kV,run_store P w _ v _ (g v (by simp)),hc,d,bq,aE,az,zn h,ih,yC];rw [show o+(i+1)=o+i+1 by omega,Au a (o+i) v b c]
theorem VRs.spl {ι:Inj} {l m:List V} {C:Array Value} {E:List Value} (o:Nat) (h:VRs ι l C.toList) (F:VRs ι m E):VRs ι (spl l o m) (splA C o E).toList:=by
 unfold Abs.spl splA;rw [<-F.length];exact (h.take o).append (F.append (h.drop _))
theorem VRs.one {ι:Inj}:∀{m:List V} {vs:List Value},VRs ι m vs->m.all oneV=true->∀v∈vs,v.oneCell'=true
 | [],_,h,_,v,C=>by simp only [VRs] at h;subst h;cases C
 | _::_,_,h,E,v,C=>by
  simp only [VRs] at h;obtain ⟨y,J,rfl,F,G⟩:=h;simp only [kR,aA] at E;rcases cq.1 C with rfl | C
  ·exact AV F E.1
  ·exact VRs.one G E.2 v C
theorem mW {t:TypeId} {i:TypeInfo} (hi:P.info? t=some i) {w:World} {r o:Nat} {a:Array Value} {e:TypeId} {fr:Nat×Nat} (h:w.heap[r]?=some (.cells a e fr))
  (b:NF fr a.size) {x:Value} (c:x.cells.size=P.cellsOf t) (f:o+x.cells.size<=a.size) (d:∀v∈x.cells.toList,v.oneCell'=true):
  (Instr.storeAt t (.pointer (some ⟨r,o,none⟩)) x).run P w=.ok () (setObj w r (.cells (splA a o x.cells.toList) e fr)):=by
 simp only [Instr.storeAt,Instr.sureAddr,storeVar,ax,aC,az,fb hi,c,ne_eq,rI,aE];have:=jz (P:=P) r o e fr x.cells.toList 0 a w h b (by simpa using f) d;simpa using this
theorem Hy {α:Type} {ι:Inj} {H:List (Nat×Blk)} {nb b o:Nat} {w:World} (I:WR ι H nb w) {blk:Blk} (G:look H b=some blk) {t:TypeId} {v:V} {x:Value}
  (g:VR ι v x) {c:Blk->Option α} {z:α} (h:n6 P t blk o v c=some z):
  ∃j ob r,c j=some z/\ι b=some (some r)/\(Instr.storeAt t (.pointer (some ⟨r.r,o,none⟩)) x).run P w=.ok () (setObj w r.r ob)/\BR ι r j ob:=by
 have q:=lq g;have N:x.cells.size=(cellsOf v).length:=by simpa using q.length
 unfold n6 at h;split at h
 ·split at h
  ·rename_i f;simp only [aA,ia] at f;obtain ⟨E,u,y,C⟩:=f;obtain ⟨i,hi⟩:=bM E;obtain ⟨r,F,e,fr,A,B,a,p⟩:=oY I G;have K:F.size=F.toList.length:=by simp
   have M:=a.length;have L:=aH y;refine ⟨_,_,r,h,A,mW hi B p (by omega) (by omega) (q.one C),?_⟩;exact ⟨_,e,fr,rfl,a.spl o q,by rw [tX (by simp;omega)];exact p⟩
  ·cases h
 ·rename_i k n l;obtain ⟨r,e,fr,A,B,a,p⟩:=tq I G;split at h
  ·rename_i k' m;split at h
   ·rename_i f;simp only [aA,ia] at f;obtain ⟨s,u⟩:=f;have s:=jo s;subst s;obtain ⟨y,C⟩:=dX h;have y:o<n:=aH y;obtain ⟨i,hi⟩:=bM (P:=P) (t:=t) (by rw [u];rfl);simp only [VR] at g;subst g;have D:=mW hi (o:=o) B (by simpa [a] using p) (x:=.int k m) (by simpa [Value.cells] using u.symm) (by simp [Value.cells,a];omega) (by simp [Value.cells,Value.oneCell']);refine ⟨_,_,r,C,A,D,e,fr,?_,by simpa using a,p⟩;congr 1;unfold splA;apply kY;simp only [Value.cells,List.map_set];rw [Hh,ae (by simp;omega)];simp
   ·cases h
  ·rename_i k' O J;split at h
   ·rename_i f;simp only [aA,ia] at f;obtain ⟨s,rfl,rfl,E,u⟩:=f;have s:=jo s;subst s;obtain ⟨i,hi⟩:=bM (P:=P) (t:=t) (by rw [u];exact E);simp only [VR] at g;obtain ⟨d,rfl⟩:=g
    have D:=mW hi (o:=0) B (by simpa [a] using p) (x:=.agg (J.map (Value.int k)).toArray) (by simp [Value.cells,d,u]) (by simp [Value.cells,a,d]) (by
     intro v g;simp only [Value.cells,du] at g;obtain ⟨n,_,rfl⟩:=g;rfl)
    refine ⟨_,_,r,h,A,D,e,fr,?_,d,p⟩;congr 1;unfold splA;apply kY;simp [Value.cells,d,a]
   ·cases h
  ·cases h
 ·cases h
theorem PK {b:Array Value} {base o n:Nat} {c:List Value} (h:o+c.length<=n) (k:base+n<=b.size):
  splA b (base+o) c=splA b base (((b.toList.drop base).take n).take o++(c++((b.toList.drop base).take n).drop (o+c.length))):=by
 unfold splA;congr 1;apply AZ;intro i;have a:b.toList.length=b.size:=by simp
 by_cases e:i<base
 ·rw [lJ (by simp;omega),lJ (by simp;omega)];simp [e,show i<base+o by omega]
 ·obtain ⟨j,rfl⟩:∃j,i=base+j:=⟨i - base,by omega⟩;rw [nT (l₁:=b.toList.take base) (by simp;omega)];simp only [cN,a,qo (by omega:base<=b.size),BM];by_cases d:j<o
  ·rw [lJ (by simp;omega),lJ (by simp;omega),lJ (by simp;omega)];simp [d,show base+j<base+o by omega,show j<n by omega,oV,lw]
  ·by_cases g:j<o+c.length
   ·rw [nT (by simp;omega),lJ (by simp;omega),lJ (by simp;omega),nT (by simp;omega),lJ (by simp;omega)];simp only [cN,cZ,a];congr 1;omega
   ·rw [nT (by simp;omega),nT (by simp;omega)];simp only [cN,cZ,a];by_cases f:j<n
    ·rw [lJ (by simp;omega),nT (by simp;omega),nT (by simp;omega)];simp only [cN,cZ,a,lw];rw [oV (by omega),lw];congr 1;omega
    ·rw [nT (by simp;omega)];simp only [bV,cN,cZ,a,lw];congr 1;omega
theorem Ir {α:Type} {ι:Inj} {w:World} {r o base:Nat} {b:Array Value} {e:TypeId} {fr:Nat×Nat} {l:List V} (B:w.heap[r]?=some (.cells b e fr))
  (p:VRs ι l ((b.toList.drop base).take l.length)) (f:base+l.length<=b.size) {t:TypeId} {v:V} {x:Value} (C:VR ι v x) {c:Blk->Option α} {z:α}
  (h:n6 P t (.cells l) o v c=some z):
  ∃k X,c (.cells k)=some z/\X.length=l.length/\VRs ι k X/\(NF fr b.size->(Instr.storeAt t (.pointer (some ⟨r,base+o,none⟩)) x).run P w=.ok () (setObj w r (.cells (splA b base X) e fr))):=by
 have a:=lq C;have g:x.cells.size=(cellsOf v).length:=by simpa using a.length
 simp only [n6] at h;split at h
 ·rename_i m;simp only [aA,ia] at m;obtain ⟨s,D,u,A⟩:=m;obtain ⟨i,hi⟩:=bM s;have y:=aH u;have d:x.cells.toList.length=(cellsOf v).length:=by simpa using g
  refine ⟨_,_,h,?_,?_,λj=>by
   have q:=mW hi B j (o:=base+o) (x:=x) (by omega) (by omega) (a.one A);rw [PK (n:=l.length) (by omega) f] at q;exact q⟩
  ·simp only [bV,cN,cZ,d];have:b.toList.length=b.size:=by simp
   omega
  ·unfold Abs.spl;rw [d];exact (p.take o).append (a.append (p.drop _))
 ·cases h
theorem vF {t:List Lf}:∀(l:List (den t)) (j:Nat),(l.take j).flatMap (vals t)=(l.flatMap (vals t)).take (j*t.length)
 | [],j=>by simp
 | y::l,0=>by simp
 | y::l,j+1=>by
  have b:=i6 t y;simp only [mg,oc,vF l j,fV,uT];have a:(vals t y).take (j*t.length+t.length)=vals t y:=hZ (by omega);rw [BG (l₁:=vals t y),a,b,Bm]
theorem vo {t:List Lf}:∀(l:List (den t)) (j:Nat),(l.drop j).flatMap (vals t)=(l.flatMap (vals t)).drop (j*t.length)
 | [],j=>by simp
 | y::l,0=>by simp
 | y::l,j+1=>by
  have b:=i6 t y;simp only [oH,oc,vo l j,fV,uT];have a:(vals t y).drop (j*t.length+t.length)=[]:=iD (by omega);rw [Ej (l₁:=vals t y),a,b,Bm,ek]
theorem MW {t:List Lf} (l:List (den t)) (j:Nat) (x:den t) (h:j<l.length):
  (l.set j x).flatMap (vals t)=(l.flatMap (vals t)).take (j*t.length)++(vals t x++(l.flatMap (vals t)).drop (j*t.length+t.length)):=by
 rw [Hh,ae h,JU,oc,vF,vo,fV,uT]
theorem zr {a:Array Value} {o k:Nat} {c:List Value} (h:o+k<=a.size):
  (splA a (o+k) c).toList.drop o=(a.toList.drop o).take k++(c++(a.toList.drop o).drop (k+c.length)):=by
 have b:a.toList.length=a.size:=by simp
 unfold splA;simp only;rw [Ej,cN,b,qo h,uB,BM,Nat.sub_eq_zero_of_le (yY o k),cP,iL,gh]
theorem Ly {t:List Lf} {l:List (den t)} {a:Array Value} {o:Nat} (f:o+l.length*t.length<=a.size) (h:(a.toList.drop o).take (l.length*t.length)=l.flatMap (vals t)) {j:Nat} (x:den t) (b:j<l.length):
  ((splA a (o+j*t.length) (vals t x)).toList.drop o).take ((l.set j x).length*t.length)=(l.set j x).flatMap (vals t):=by
 have e:j*t.length+t.length<=l.length*t.length:=by
  have:=mc t.length (show j+1<=l.length from b);rw [fV] at this;omega
 rw [MW l j x b,<-h,List.length_set,zr (by omega)];generalize d:a.toList.drop o=L;have c:l.length*t.length<=L.length:=by rw [<-d];simp;omega
 rw [i6,BG,yX,cN,BG,uB,i6];rw [Nat.min_eq_right (by omega:j*t.length<=l.length*t.length),qo (by omega:j*t.length<=L.length)];congr 1
 ·rw [yX,qo (by omega)]
 ·congr 1
  ·rw [hZ (by rw [i6];omega)]
  ·congr 1;omega
theorem AO (off:Nat):∀(b:List Value) (j:Nat) (a:Array Value),off+j+b.length<=a.size->
  (b.zipIdx j).foldl (λa (p:Value×Nat)=>a.setIfInBounds (off+p.2) p.1) a=splA a (off+j) b
 | [],j,a,_=>by simp [EX]
 | v::b,j,a,h=>by
  simp only [bf] at h;simp only [List.zipIdx_cons,sG];rw [AO off b (j+1) _ (by simp;omega),show off+(j+1)=off+j+1 by omega,Au a (off+j) v b (by omega)]
theorem tA {ι:Inj} (c:Nat->Option (Nat×Nat)):∀(parts:List (Nat×V)) (f:List (Nat×Value)) (cells l:List V) (d:Array Value),VRs ι cells d.toList->
  f.map (·.1)=parts.map (·.1)->VRs ι [] []->(∀(j i:Nat) (v:V) (x:Value),parts[j]?=some (i,v)->f[j]?=some (i,x)->VR ι v x)->C2 c cells parts=some l->
  ∃r:Array Value,Instr.fill c d f=some r/\VRs ι l r.toList
 | [],f,cells,l,d,hc,e,_,_,h=>by
  simp only [C2,aq] at h;subst h;have:f=[]:=by simpa using e
  subst this;exact ⟨d,rfl,hc⟩
 | (i,v)::parts,[],cells,l,d,hc,e,_,_,h=>by simp at e
 | (i,v)::parts,(w,x)::f,cells,l,d,hc,e,s,p,h=>by
  simp only [fC,List.cons.injEq] at e;obtain ⟨hi,e⟩:=e;subst hi;have t:=p 0 w v x (by simp) (by simp);have g:=lq t;have y:x.cells.size=(cellsOf v).length:=by simpa using g.length
  have u:d.size=cells.length:=by simpa using hc.length
  simp only [C2] at h;simp only [Instr.fill];split at h
  ·cases h
  ·rename_i off size k;rw [k];split at h
   ·rename_i q;simp only [aA,ia] at q;obtain ⟨z,o⟩:=q;have o:=aH o;have n:(decide (x.cells.size≠size)||decide (off+x.cells.size>d.size))=false:=by
     simp only [ne_eq,gt_iff_lt,mB,rH,Decidable.not_not];omega
    have m:=AO off x.cells.toList 0 d (by simp;omega);rw [<-Array.toList_zipIdx,Array.foldl_toList] at m;simp only [cf] at m;simp only [n,bq,aE,m];exact tA c parts f _ l _ (hc.spl off g) e s (λj i v x a b=>p (j+1) i v x (by simpa using a) (by simpa using b)) h
   ·cases h
theorem rR {ι:Inj} {T:List (Nat×Option V)} {a:Act} (d:TR ι T a.tmps):∀(ps:List (Nat×Operand)) (l:List (Nat×V)),nG (opd T) ps=some l->
  (ps.map λ(i,x)=>(i,a.eval x)).map (·.1)=l.map (·.1)/\∀(j i:Nat) (v:V) (x:Value),l[j]?=some (i,v)->(ps.map λ(i,x)=>(i,a.eval x))[j]?=some (i,x)->VR ι v x
 | [],l,h=>by
  simp only [nG,aq] at h;subst h;simp
 | (i,x)::ps,l,h=>by
  simp only [nG] at h;split at h
  ·rename_i v n;split at h
   ·rename_i m g;simp only [aq] at h;subst h;obtain ⟨k,e⟩:=rR d ps m g;refine ⟨by simp [<-k],λj f u y c b=>?_⟩;cases j with
    | zero=>
     simp only [kD,aq,bw] at c;obtain ⟨rfl,rfl⟩:=c;simp only [fC,kD,aq,bw,ke] at b;subst b;exact bh d n
    | succ j=>exact e j f u y (by simpa using c) (by simpa using b)
   ·cases h
  ·cases h
theorem sY (ι:Inj) {t:TypeId} {v:V} (h:FX P t=some v):∃z i,P.info? t=some i/\i.zero=some z/\VR ι v z/\∀w,(zeroValue t).run P w=.ok z w:=by
 unfold FX at h;split at h
 ·rename_i i hi;split at h
  ·rename_i z a;exact ⟨z,i,hi,a,DK ι h,λw=>by simp [zeroValue,typeInfo,hi,a]⟩
  ·cases h
 ·cases h
end Go.Abs
