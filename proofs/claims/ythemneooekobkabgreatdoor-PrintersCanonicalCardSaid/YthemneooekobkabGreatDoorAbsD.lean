
/- Stores, composite values and comparisons: what the abstract effect says of the model's own operation.
   Conditions: none; generic over the program. -/
import Derived.Test.YthemneooekobkabGreatDoorAbsC
import Derived.Laws.StructEq
set_option linter.unusedVariables false
set_option linter.unusedSimpArgs false
namespace Go.Abs
variable {P:Program}
def splA (a:Array Value) (k:Nat) (b:List Value):Array Value:=(a.toList.take k++(b++a.toList.drop (k+b.length))).toArray
theorem Ir (a:Array Value) (k:Nat):splA a k []=a:=by
 unfold splA;apply lG;simp
theorem w9 {a:Array Value} {k:Nat} {b:List Value} (h:k+b.length<=a.size):(splA a k b).size=a.size:=by
 unfold splA;simp;omega
theorem CQ (a:Array Value) (k:Nat) (v:Value) (b:List Value) (h:k<a.size):splA (a.setIfInBounds k v) (k+1) b=splA a k (v::b):=by
 unfold splA;apply lG;simp only [Array.toList_setIfInBounds,az];have c:(a.toList.set k v).take (k+1)=a.toList.take k++[v]:=by
  rw [KN (by simpa using h)];simp [List.take_set_of_le]
 rw [c,List.drop_set_of_lt (by omega)];simp [iO,qL 1]
theorem ny (r o j:Nat):(⟨r,o,none⟩:Addr).add j=⟨r,o+j,none⟩:=by
 unfold Addr.add;split
 ·rename_i a;subst a;rfl
 ·rfl
theorem kU (r o:Nat) (e:TypeId) (fr:Nat×Nat):∀(c:List Value) (i:Nat) (a:Array Value) (w:World),w.heap[r]?=some (.cells a e fr)->NF fr a.size->
  o+i+c.length<=a.size->(∀v∈c,v.oneCell'=true)->(storeCells ⟨r,o,none⟩ c i).run P w=.ok () (setObj w r (.cells (splA a (o+i) c) e fr))
 | [],i,a,w,h,_,_,_=>by simp [storeCells,Ir,Fv h]
 | v::c,i,a,w,h,g,k,f=>by
  simp only [az] at k;have b:o+i<a.size:=by omega
  have ih:=kU r o e fr c (i+1) (a.setIfInBounds (o+i) v) (setObj w r (.cells (a.setIfInBounds (o+i) v) e fr)) (yx h) (by simpa using g)
   (by simp;omega) (λu j=>f u (fN _ j))
  have hc:w.cell? ⟨r,o+i,none⟩=some a[o+i]:=by rw [bu h];simp [b]
  have d:=qJ h g b;simp only [storeCells,aw,ny,run_store P w _ v _ (f v (by simp)),hc,d,br,aB,ay,Dy h,ih,Ae];rw [show o+(i+1)=o+i+1 by omega,CQ a (o+i) v c b]
theorem VRs.spl {ι:Inj} {l m:List V} {E:Array Value} {F:List Value} (o:Nat) (h:VRs ι l E.toList) (C:VRs ι m F):VRs ι (spl l o m) (splA E o F).toList:=by
 unfold Abs.spl splA;rw [<-C.length];exact (h.take o).append (C.append (h.drop _))
theorem VRs.one {ι:Inj}:∀{m:List V} {vs:List Value},VRs ι m vs->m.all oneV=true->∀v∈vs,v.oneCell'=true
 | [],_,h,_,v,C=>by simp only [VRs] at h;subst h;cases C
 | _::_,_,h,E,v,C=>by
  simp only [VRs] at h;obtain ⟨y,J,rfl,F,G⟩:=h;simp only [m6,aA] at E;rcases dr.1 C with rfl | C
  ·exact DZ F E.1
  ·exact VRs.one G E.2 v C
theorem pM {t:TypeId} {i:TypeInfo} (hi:P.info? t=some i) {w:World} {r o:Nat} {a:Array Value} {e:TypeId} {fr:Nat×Nat} (h:w.heap[r]?=some (.cells a e fr))
  (d:NF fr a.size) {x:Value} (hx:x.cells.size=P.cellsOf t) (b:o+x.cells.size<=a.size) (c:∀v∈x.cells.toList,v.oneCell'=true):
  (Instr.storeAt t (.pointer (some ⟨r,o,none⟩)) x).run P w=.ok () (setObj w r (.cells (splA a o x.cells.toList) e fr)):=by
 simp only [Instr.storeAt,Instr.sureAddr,storeVar,aw,aD,ay,gq hi,hx,ne_eq,vg,aB];have:=kU (P:=P) r o e fr x.cells.toList 0 a w h d (by simpa using b) c;simpa using this
theorem LR {α:Type} {ι:Inj} {H:List (Nat×Blk)} {nb b o:Nat} {w:World} (F:WR ι H nb w) {blk:Blk} (E:look H b=some blk) {t:TypeId} {v:V} {x:Value}
  (j:VR ι v x) {c:Blk->Option α} {z:α} (h:qP P t blk o v c=some z):
  ∃f ob r,c f=some z/\ι b=some (some r)/\(Instr.storeAt t (.pointer (some ⟨r.r,o,none⟩)) x).run P w=.ok () (setObj w r.r ob)/\BR ι r f ob:=by
 have q:=nI j;have M:x.cells.size=(cellsOf v).length:=by simpa using q.length
 unfold qP at h;split at h
 ·split at h
  ·rename_i g;simp only [aA,ju] at g;obtain ⟨D,u,A,C⟩:=g;obtain ⟨i,hi⟩:=ca D;obtain ⟨r,G,e,fr,y,B,a,p⟩:=rk F E;have L:G.size=G.toList.length:=by simp
   have K:=a.length;have J:=aI A;refine ⟨_,_,r,h,y,pM hi B p (by omega) (by omega) (q.one C),?_⟩;exact ⟨_,e,fr,rfl,a.spl o q,by rw [w9 (by simp;omega)];exact p⟩
  ·cases h
 ·rename_i k n l;obtain ⟨r,e,fr,y,B,a,p⟩:=vQ F E;split at h
  ·rename_i k' m;split at h
   ·rename_i g;simp only [aA,ju] at g;obtain ⟨s,u⟩:=g;have s:=lu s;subst s;obtain ⟨A,C⟩:=dY h;have A:o<n:=aI A;obtain ⟨i,hi⟩:=ca (P:=P) (t:=t) (by rw [u];rfl);simp only [VR] at j;subst j;have hs:=pM hi (o:=o) B (by simpa [a] using p) (x:=.int k m) (by simpa [Value.cells] using u.symm) (by simp [Value.cells,a];omega) (by simp [Value.cells,Value.oneCell']);refine ⟨_,_,r,C,y,hs,e,fr,?_,by simpa using a,p⟩;congr 1;unfold splA;apply lG;simp only [Value.cells,List.map_set];rw [Oj,ae (by simp;omega)];simp
   ·cases h
  ·rename_i k' N I;split at h
   ·rename_i g;simp only [aA,ju] at g;obtain ⟨s,rfl,rfl,D,u⟩:=g;have s:=lu s;subst s;obtain ⟨i,hi⟩:=ca (P:=P) (t:=t) (by rw [u];exact D);simp only [VR] at j;obtain ⟨d,rfl⟩:=j
    have hs:=pM hi (o:=0) B (by simpa [a] using p) (x:=.agg (I.map (Value.int k)).toArray) (by simp [Value.cells,d,u]) (by simp [Value.cells,a,d]) (by
     intro v j;simp only [Value.cells,fe] at j;obtain ⟨n,_,rfl⟩:=j;rfl)
    refine ⟨_,_,r,h,y,hs,e,fr,?_,d,p⟩;congr 1;unfold splA;apply lG;simp [Value.cells,d,a]
   ·cases h
  ·cases h
 ·cases h
theorem TB {b:Array Value} {base o n:Nat} {c:List Value} (h:o+c.length<=n) (f:base+n<=b.size):
  splA b (base+o) c=splA b base (((b.toList.drop base).take n).take o++(c++((b.toList.drop base).take n).drop (o+c.length))):=by
 unfold splA;congr 1;apply Ee;intro i;have a:b.toList.length=b.size:=by simp
 by_cases e:i<base
 ·rw [oc (by simp;omega),oc (by simp;omega)];simp [e,show i<base+o by omega]
 ·obtain ⟨j,rfl⟩:∃j,i=base+j:=⟨i - base,by omega⟩;rw [qA (l₁:=b.toList.take base) (by simp;omega)];simp only [db,a,tg (by omega:base<=b.size),FD];by_cases d:j<o
  ·rw [oc (by simp;omega),oc (by simp;omega),oc (by simp;omega)];simp [d,show base+j<base+o by omega,show j<n by omega,qC,mZ]
  ·by_cases g:j<o+c.length
   ·rw [qA (by simp;omega),oc (by simp;omega),oc (by simp;omega),qA (by simp;omega),oc (by simp;omega)];simp only [db,bL,a];congr 1;omega
   ·rw [qA (by simp;omega),qA (by simp;omega)];simp only [db,bL,a];by_cases k:j<n
    ·rw [oc (by simp;omega),qA (by simp;omega),qA (by simp;omega)];simp only [db,bL,a,mZ];rw [qC (by omega),mZ];congr 1;omega
    ·rw [qA (by simp;omega)];simp only [aU,db,bL,a,mZ];congr 1;omega
theorem Kq {α:Type} {ι:Inj} {w:World} {r o base:Nat} {a:Array Value} {e:TypeId} {fr:Nat×Nat} {l:List V} (q:w.heap[r]?=some (.cells a e fr))
  (p:VRs ι l ((a.toList.drop base).take l.length)) (f:base+l.length<=a.size) {t:TypeId} {v:V} {x:Value} (s:VR ι v x) {c:Blk->Option α} {z:α}
  (h:qP P t (.cells l) o v c=some z):
  ∃m X,c (.cells m)=some z/\X.length=l.length/\VRs ι m X/\(NF fr a.size->(Instr.storeAt t (.pointer (some ⟨r,base+o,none⟩)) x).run P w=.ok () (setObj w r (.cells (splA a base X) e fr))):=by
 have b:=nI s;have g:x.cells.size=(cellsOf v).length:=by simpa using b.length
 simp only [qP] at h;split at h
 ·rename_i k;simp only [aA,ju] at k;obtain ⟨B,C,u,y⟩:=k;obtain ⟨i,hi⟩:=ca B;have A:=aI u;have d:x.cells.toList.length=(cellsOf v).length:=by simpa using g
  refine ⟨_,_,h,?_,?_,λj=>by
   have hs:=pM hi q j (o:=base+o) (x:=x) (by omega) (by omega) (b.one y);rw [TB (n:=l.length) (by omega) f] at hs;exact hs⟩
  ·simp only [aU,db,bL,d];have:a.toList.length=a.size:=by simp
   omega
  ·unfold Abs.spl;rw [d];exact (p.take o).append (b.append (p.drop _))
 ·cases h
theorem xh {t:List Lf}:∀(l:List (den t)) (j:Nat),(l.take j).flatMap (vals t)=(l.flatMap (vals t)).take (j*t.length)
 | [],j=>by simp
 | y::l,0=>by simp
 | y::l,j+1=>by
  have a:=kj t y;simp only [n6,qx,xh l j,hO,yw];have b:(vals t y).take (j*t.length+t.length)=vals t y:=ji (by omega);rw [E3 (l₁:=vals t y),b,a,EH]
theorem yp {t:List Lf}:∀(l:List (den t)) (j:Nat),(l.drop j).flatMap (vals t)=(l.flatMap (vals t)).drop (j*t.length)
 | [],j=>by simp
 | y::l,0=>by simp
 | y::l,j+1=>by
  have a:=kj t y;simp only [nO,qx,yp l j,hO,yw];have b:(vals t y).drop (j*t.length+t.length)=[]:=jr (by omega);rw [Hy (l₁:=vals t y),b,a,EH,dW]
theorem Oq {t:List Lf} (l:List (den t)) (j:Nat) (x:den t) (h:j<l.length):
  (l.set j x).flatMap (vals t)=(l.flatMap (vals t)).take (j*t.length)++(vals t x++(l.flatMap (vals t)).drop (j*t.length+t.length)):=by
 rw [Oj,ae h,MH,qx,xh,yp,hO,yw]
theorem CU {a:Array Value} {o k:Nat} {b:List Value} (h:o+k<=a.size):
  (splA a (o+k) b).toList.drop o=(a.toList.drop o).take k++(b++(a.toList.drop o).drop (k+b.length)):=by
 have c:a.toList.length=a.size:=by simp
 unfold splA;simp only;rw [Hy,db,c,tg h,xw,FD,Nat.sub_eq_zero_of_le (BQ o k),cf,jp,iO]
theorem Pq {t:List Lf} {l:List (den t)} {a:Array Value} {o:Nat} (hs:o+l.length*t.length<=a.size) (h:(a.toList.drop o).take (l.length*t.length)=l.flatMap (vals t)) {j:Nat} (x:den t) (b:j<l.length):
  ((splA a (o+j*t.length) (vals t x)).toList.drop o).take ((l.set j x).length*t.length)=(l.set j x).flatMap (vals t):=by
 have d:j*t.length+t.length<=l.length*t.length:=by
  have:=oz t.length (show j+1<=l.length from b);rw [hO] at this;omega
 rw [Oq l j x b,<-h,List.length_set,CU (by omega)];generalize e:a.toList.drop o=L;have c:l.length*t.length<=L.length:=by rw [<-e];simp;omega
 rw [kj,E3,AZ,db,E3,xw,kj];rw [Nat.min_eq_right (by omega:j*t.length<=l.length*t.length),tg (by omega:j*t.length<=L.length)];congr 1
 ·rw [AZ,tg (by omega)]
 ·congr 1
  ·rw [ji (by rw [kj];omega)]
  ·congr 1;omega
theorem Es (off:Nat):∀(b:List Value) (j:Nat) (a:Array Value),off+j+b.length<=a.size->
  (b.zipIdx j).foldl (λa (p:Value×Nat)=>a.setIfInBounds (off+p.2) p.1) a=splA a (off+j) b
 | [],j,a,_=>by simp [Ir]
 | v::b,j,a,h=>by
  simp only [az] at h;simp only [List.zipIdx_cons,vG];rw [Es off b (j+1) _ (by simp;omega),show off+(j+1)=off+j+1 by omega,CQ a (off+j) v b (by omega)]
theorem vZ {ι:Inj} (c:Nat->Option (Nat×Nat)):∀(parts:List (Nat×V)) (f:List (Nat×Value)) (cells l:List V) (d:Array Value),VRs ι cells d.toList->
  f.map (·.1)=parts.map (·.1)->VRs ι [] []->(∀(j i:Nat) (v:V) (x:Value),parts[j]?=some (i,v)->f[j]?=some (i,x)->VR ι v x)->EJ c cells parts=some l->
  ∃q:Array Value,Instr.fill c d f=some q/\VRs ι l q.toList
 | [],f,cells,l,d,hc,e,_,_,h=>by
  simp only [EJ,au] at h;subst h;have:f=[]:=by simpa using e
  subst this;exact ⟨d,rfl,hc⟩
 | (i,v)::parts,[],cells,l,d,hc,e,_,_,h=>by simp at e
 | (i,v)::parts,(r,x)::f,cells,l,d,hc,e,s,hp,h=>by
  simp only [ga,List.cons.injEq] at e;obtain ⟨hi,e⟩:=e;subst hi;have w:=hp 0 r v x (by simp) (by simp);have g:=nI w;have u:x.cells.size=(cellsOf v).length:=by simpa using g.length
  have t:d.size=cells.length:=by simpa using hc.length
  simp only [EJ] at h;simp only [Instr.fill];split at h
  ·cases h
  ·rename_i off size n;rw [n];split at h
   ·rename_i o;simp only [aA,ju] at o;obtain ⟨y,p⟩:=o;have p:=aI p;have k:(decide (x.cells.size≠size)||decide (off+x.cells.size>d.size))=false:=by
     simp only [ne_eq,gt_iff_lt,pw,uU,Ns];omega
    have m:=Es off x.cells.toList 0 d (by simp;omega);rw [<-Array.toList_zipIdx,Array.foldl_toList] at m;simp only [cS] at m;simp only [k,br,aB,m];exact vZ c parts f _ l _ (hc.spl off g) e s (λj i v x a b=>hp (j+1) i v x (by simpa using a) (by simpa using b)) h
   ·cases h
theorem ve {ι:Inj} {T:List (Nat×Option V)} {a:Act} (d:TR ι T a.tmps):∀(ps:List (Nat×Operand)) (l:List (Nat×V)),pL (opd T) ps=some l->
  (ps.map λ(i,x)=>(i,a.eval x)).map (·.1)=l.map (·.1)/\∀(j i:Nat) (v:V) (x:Value),l[j]?=some (i,v)->(ps.map λ(i,x)=>(i,a.eval x))[j]?=some (i,x)->VR ι v x
 | [],l,h=>by
  simp only [pL,au] at h;subst h;simp
 | (i,x)::ps,l,h=>by
  simp only [pL] at h;split at h
  ·rename_i v f;split at h
   ·rename_i m k;simp only [au] at h;subst h;obtain ⟨n,g⟩:=ve d ps m k;refine ⟨by simp [<-n],λj e u y c b=>?_⟩;cases j with
    | zero=>
     simp only [my,au,aY] at c;obtain ⟨rfl,rfl⟩:=c;simp only [ga,my,au,aY,jT] at b;subst b;exact bv d f
    | succ j=>exact g j e u y (by simpa using c) (by simpa using b)
   ·cases h
  ·cases h
theorem vP (ι:Inj) {t:TypeId} {v:V} (h:Jb P t=some v):∃z i,P.info? t=some i/\i.zero=some z/\VR ι v z/\∀w,(zeroValue t).run P w=.ok z w:=by
 unfold Jb at h;split at h
 ·rename_i i hi;split at h
  ·rename_i z a;exact ⟨z,i,hi,a,Ib ι h,λw=>by simp [zeroValue,typeInfo,hi,a]⟩
  ·cases h
 ·cases h
end Go.Abs
