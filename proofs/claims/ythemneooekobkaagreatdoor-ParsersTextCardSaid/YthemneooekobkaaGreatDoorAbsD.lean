
/- Stores, composite values and comparisons: what the abstract effect says of the model's own operation.
   Conditions: none; generic over the program. -/
import Derived.Test.YthemneooekobkaaGreatDoorAbsC
import Derived.Laws.StructEq
set_option linter.unusedVariables false
set_option linter.unusedSimpArgs false
namespace Go.Abs
variable {P:Program}
def splA (b:Array Value) (k:Nat) (a:List Value):Array Value:=(b.toList.take k++(a++b.toList.drop (k+a.length))).toArray
theorem Hk (a:Array Value) (k:Nat):splA a k []=a:=by
 unfold splA;apply m6;simp
theorem ye {a:Array Value} {k:Nat} {b:List Value} (h:k+b.length<=a.size):(splA a k b).size=a.size:=by
 unfold splA;simp;omega
theorem DO (a:Array Value) (k:Nat) (v:Value) (b:List Value) (h:k<a.size):splA (a.setIfInBounds k v) (k+1) b=splA a k (v::b):=by
 unfold splA;apply m6;simp only [Array.toList_setIfInBounds,aV];have c:(a.toList.set k v).take (k+1)=a.toList.take k++[v]:=by
  rw [Lx (by simpa using h)];simp [List.take_set_of_le]
 rw [c,List.drop_set_of_lt (by omega)];simp [gq,oG 1]
theorem nl (r o j:Nat):(⟨r,o,none⟩:Addr).add j=⟨r,o+j,none⟩:=by
 unfold Addr.add;split
 ·rename_i a;subst a;rfl
 ·rfl
theorem kS (r o:Nat) (e:TypeId) (fr:Nat×Nat):∀(c:List Value) (i:Nat) (a:Array Value) (w:World),w.heap[r]?=some (.cells a e fr)->NF fr a.size->
  o+i+c.length<=a.size->(∀v∈c,v.oneCell'=true)->(storeCells ⟨r,o,none⟩ c i).run P w=.ok () (setObj w r (.cells (splA a (o+i) c) e fr))
 | [],i,a,w,h,_,_,_=>by simp [storeCells,Hk,Ge h]
 | v::c,i,a,w,h,f,k,g=>by
  simp only [aV] at k;have b:o+i<a.size:=by omega
  have ih:=kS r o e fr c (i+1) (a.setIfInBounds (o+i) v) (setObj w r (.cells (a.setIfInBounds (o+i) v) e fr)) (xy h) (by simpa using f)
   (by simp;omega) (λu j=>g u (fN _ j))
  have hc:w.cell? ⟨r,o+i,none⟩=some a[o+i]:=by rw [bA h];simp [b]
  have d:=rG h f b;simp only [storeCells,az,nl,run_store P w _ v _ (g v (by simp)),hc,d,bs,aG,aB,Dm h,ih,Cf];rw [show o+(i+1)=o+i+1 by omega,DO a (o+i) v c b]
theorem VRs.spl {ι:Inj} {l m:List V} {C:Array Value} {E:List Value} (o:Nat) (h:VRs ι l C.toList) (F:VRs ι m E):VRs ι (spl l o m) (splA C o E).toList:=by
 unfold Abs.spl splA;rw [<-F.length];exact (h.take o).append (F.append (h.drop _))
theorem VRs.one {ι:Inj}:∀{m:List V} {vs:List Value},VRs ι m vs->m.all oneV=true->∀v∈vs,v.oneCell'=true
 | [],_,h,_,v,C=>by simp only [VRs] at h;subst h;cases C
 | _::_,_,h,E,v,C=>by
  simp only [VRs] at h;obtain ⟨y,J,rfl,F,G⟩:=h;simp only [mU,aD] at E;rcases cq.1 C with rfl | C
  ·exact C3 F E.1
  ·exact VRs.one G E.2 v C
theorem qw {t:TypeId} {i:TypeInfo} (hi:P.info? t=some i) {w:World} {r o:Nat} {a:Array Value} {e:TypeId} {fr:Nat×Nat} (h:w.heap[r]?=some (.cells a e fr))
  (b:NF fr a.size) {x:Value} (hx:x.cells.size=P.cellsOf t) (c:o+x.cells.size<=a.size) (d:∀v∈x.cells.toList,v.oneCell'=true):
  (Instr.storeAt t (.pointer (some ⟨r,o,none⟩)) x).run P w=.ok () (setObj w r (.cells (splA a o x.cells.toList) e fr)):=by
 simp only [Instr.storeAt,Instr.sureAddr,storeVar,az,aF,aB,gj hi,hx,ne_eq,vw,aG];have:=kS (P:=P) r o e fr x.cells.toList 0 a w h b (by simpa using c) d;simpa using this
theorem Nv {α:Type} {ι:Inj} {H:List (Nat×Blk)} {nb b o:Nat} {w:World} (F:WR ι H nb w) {blk:Blk} (G:look H b=some blk) {t:TypeId} {v:V} {x:Value}
  (g:VR ι v x) {c:Blk->Option α} {z:α} (h:rc P t blk o v c=some z):
  ∃j ob r,c j=some z/\ι b=some (some r)/\(Instr.storeAt t (.pointer (some ⟨r.r,o,none⟩)) x).run P w=.ok () (setObj w r.r ob)/\BR ι r j ob:=by
 have p:=ny g;have L:x.cells.size=(cellsOf v).length:=by simpa using p.length
 unfold rc at h;split at h
 ·split at h
  ·rename_i f;simp only [aD,jq] at f;obtain ⟨D,u,B,C⟩:=f;obtain ⟨i,hi⟩:=ci D;obtain ⟨r,E,e,fr,A,y,d,q⟩:=rr F G;have M:E.size=E.toList.length:=by simp
   have K:=d.length;have J:=aN B;refine ⟨_,_,r,h,A,qw hi y q (by omega) (by omega) (p.one C),?_⟩;exact ⟨_,e,fr,rfl,d.spl o p,by rw [ye (by simp;omega)];exact q⟩
  ·cases h
 ·rename_i k n l;obtain ⟨r,e,fr,A,y,d,q⟩:=wk F G;split at h
  ·rename_i k' m;split at h
   ·rename_i f;simp only [aD,jq] at f;obtain ⟨s,u⟩:=f;have s:=lc s;subst s;obtain ⟨B,C⟩:=fb h;have B:o<n:=aN B;obtain ⟨i,hi⟩:=ci (P:=P) (t:=t) (by rw [u];rfl);simp only [VR] at g;subst g;have hs:=qw hi (o:=o) y (by simpa [d] using q) (x:=.int k m) (by simpa [Value.cells] using u.symm) (by simp [Value.cells,d];omega) (by simp [Value.cells,Value.oneCell']);refine ⟨_,_,r,C,A,hs,e,fr,?_,by simpa using d,q⟩;congr 1;unfold splA;apply m6;simp only [Value.cells,List.map_set];rw [Ob,ae (by simp;omega)];simp
   ·cases h
  ·rename_i k' N I;split at h
   ·rename_i f;simp only [aD,jq] at f;obtain ⟨s,rfl,rfl,D,u⟩:=f;have s:=lc s;subst s;obtain ⟨i,hi⟩:=ci (P:=P) (t:=t) (by rw [u];exact D);simp only [VR] at g;obtain ⟨a,rfl⟩:=g
    have hs:=qw hi (o:=0) y (by simpa [d] using q) (x:=.agg (I.map (Value.int k)).toArray) (by simp [Value.cells,a,u]) (by simp [Value.cells,d,a]) (by
     intro v g;simp only [Value.cells,ek] at g;obtain ⟨n,_,rfl⟩:=g;rfl)
    refine ⟨_,_,r,h,A,hs,e,fr,?_,a,q⟩;congr 1;unfold splA;apply m6;simp [Value.cells,a,d]
   ·cases h
  ·cases h
 ·cases h
theorem UV {b:Array Value} {base o n:Nat} {c:List Value} (h:o+c.length<=n) (f:base+n<=b.size):
  splA b (base+o) c=splA b base (((b.toList.drop base).take n).take o++(c++((b.toList.drop base).take n).drop (o+c.length))):=by
 unfold splA;congr 1;apply zZ;intro i;have a:b.toList.length=b.size:=by simp
 by_cases e:i<base
 ·rw [nT (by simp;omega),nT (by simp;omega)];simp [e,show i<base+o by omega]
 ·obtain ⟨j,rfl⟩:∃j,i=base+j:=⟨i - base,by omega⟩;rw [qA (l₁:=b.toList.take base) (by simp;omega)];simp only [cP,a,tj (by omega:base<=b.size),Fv];by_cases d:j<o
  ·rw [nT (by simp;omega),nT (by simp;omega),nT (by simp;omega)];simp [d,show base+j<base+o by omega,show j<n by omega,qF,mw]
  ·by_cases g:j<o+c.length
   ·rw [qA (by simp;omega),nT (by simp;omega),nT (by simp;omega),qA (by simp;omega),nT (by simp;omega)];simp only [cP,bN,a];congr 1;omega
   ·rw [qA (by simp;omega),qA (by simp;omega)];simp only [cP,bN,a];by_cases k:j<n
    ·rw [nT (by simp;omega),qA (by simp;omega),qA (by simp;omega)];simp only [cP,bN,a,mw];rw [qF (by omega),mw];congr 1;omega
    ·rw [qA (by simp;omega)];simp only [bv,cP,bN,a,mw];congr 1;omega
theorem Or {α:Type} {ι:Inj} {w:World} {r o base:Nat} {a:Array Value} {e:TypeId} {fr:Nat×Nat} {l:List V} (B:w.heap[r]?=some (.cells a e fr))
  (p:VRs ι l ((a.toList.drop base).take l.length)) (f:base+l.length<=a.size) {t:TypeId} {v:V} {x:Value} (u:VR ι v x) {c:Blk->Option α} {z:α}
  (h:rc P t (.cells l) o v c=some z):
  ∃k X,c (.cells k)=some z/\X.length=l.length/\VRs ι k X/\(NF fr a.size->(Instr.storeAt t (.pointer (some ⟨r,base+o,none⟩)) x).run P w=.ok () (setObj w r (.cells (splA a base X) e fr))):=by
 have b:=ny u;have g:x.cells.size=(cellsOf v).length:=by simpa using b.length
 simp only [rc] at h;split at h
 ·rename_i m;simp only [aD,jq] at m;obtain ⟨q,C,y,A⟩:=m;obtain ⟨i,hi⟩:=ci q;have s:=aN y;have d:x.cells.toList.length=(cellsOf v).length:=by simpa using g
  refine ⟨_,_,h,?_,?_,λj=>by
   have hs:=qw hi B j (o:=base+o) (x:=x) (by omega) (by omega) (b.one A);rw [UV (n:=l.length) (by omega) f] at hs;exact hs⟩
  ·simp only [bv,cP,bN,d];have:a.toList.length=a.size:=by simp
   omega
  ·unfold Abs.spl;rw [d];exact (p.take o).append (b.append (p.drop _))
 ·cases h
theorem wU {t:List Lf}:∀(l:List (den t)) (j:Nat),(l.take j).flatMap (vals t)=(l.flatMap (vals t)).take (j*t.length)
 | [],j=>by simp
 | y::l,0=>by simp
 | y::l,j+1=>by
  have a:=gO t y;simp only [oI,om,wU l j,ic,yk];have b:(vals t y).take (j*t.length+t.length)=vals t y:=jB (by omega);rw [Gm (l₁:=vals t y),b,a,GO]
theorem yn {t:List Lf}:∀(l:List (den t)) (j:Nat),(l.drop j).flatMap (vals t)=(l.flatMap (vals t)).drop (j*t.length)
 | [],j=>by simp
 | y::l,0=>by simp
 | y::l,j+1=>by
  have a:=gO t y;simp only [pj,om,yn l j,ic,yk];have b:(vals t y).drop (j*t.length+t.length)=[]:=jk (by omega);rw [Ig (l₁:=vals t y),b,a,GO,dW]
theorem PT {t:List Lf} (l:List (den t)) (j:Nat) (x:den t) (h:j<l.length):
  (l.set j x).flatMap (vals t)=(l.flatMap (vals t)).take (j*t.length)++(vals t x++(l.flatMap (vals t)).drop (j*t.length+t.length)):=by
 rw [Ob,ae h,Hf,om,wU,yn,ic,yk]
theorem CV {a:Array Value} {o k:Nat} {c:List Value} (h:o+k<=a.size):
  (splA a (o+k) c).toList.drop o=(a.toList.drop o).take k++(c++(a.toList.drop o).drop (k+c.length)):=by
 have b:a.toList.length=a.size:=by simp
 unfold splA;simp only;rw [Ig,cP,b,tj h,xB,Fv,Nat.sub_eq_zero_of_le (B7 o k),cO,jm,gq]
theorem O3 {t:List Lf} {l:List (den t)} {a:Array Value} {o:Nat} (hs:o+l.length*t.length<=a.size) (h:(a.toList.drop o).take (l.length*t.length)=l.flatMap (vals t)) {j:Nat} (x:den t) (b:j<l.length):
  ((splA a (o+j*t.length) (vals t x)).toList.drop o).take ((l.set j x).length*t.length)=(l.set j x).flatMap (vals t):=by
 have d:j*t.length+t.length<=l.length*t.length:=by
  have:=oH t.length (show j+1<=l.length from b);rw [ic] at this;omega
 rw [PT l j x b,<-h,FV,CV (by omega)];generalize c:a.toList.drop o=L;have e:l.length*t.length<=L.length:=by rw [<-c];simp;omega
 rw [gO,Gm,A9,cP,Gm,xB,gO];rw [Nat.min_eq_right (by omega:j*t.length<=l.length*t.length),tj (by omega:j*t.length<=L.length)];congr 1
 ·rw [A9,tj (by omega)]
 ·congr 1
  ·rw [jB (by rw [gO];omega)]
  ·congr 1;omega
theorem Dz (off:Nat):∀(b:List Value) (j:Nat) (a:Array Value),off+j+b.length<=a.size->
  (b.zipIdx j).foldl (λa (p:Value×Nat)=>a.setIfInBounds (off+p.2) p.1) a=splA a (off+j) b
 | [],j,a,_=>by simp [Hk]
 | v::b,j,a,h=>by
  simp only [aV] at h;simp only [List.zipIdx_cons,vP];rw [Dz off b (j+1) _ (by simp;omega),show off+(j+1)=off+j+1 by omega,DO a (off+j) v b (by omega)]
theorem wq {ι:Inj} (c:Nat->Option (Nat×Nat)):∀(parts:List (Nat×V)) (f:List (Nat×Value)) (cells l:List V) (d:Array Value),VRs ι cells d.toList->
  f.map (·.1)=parts.map (·.1)->VRs ι [] []->(∀(j i:Nat) (v:V) (x:Value),parts[j]?=some (i,v)->f[j]?=some (i,x)->VR ι v x)->Gw c cells parts=some l->
  ∃q:Array Value,Instr.fill c d f=some q/\VRs ι l q.toList
 | [],f,cells,l,d,hc,e,_,_,h=>by
  simp only [Gw,aw] at h;subst h;have:f=[]:=by simpa using e
  subst this;exact ⟨d,rfl,hc⟩
 | (i,v)::parts,[],cells,l,d,hc,e,_,_,h=>by simp at e
 | (i,v)::parts,(r,x)::f,cells,l,d,hc,e,t,hp,h=>by
  simp only [fW,D1] at e;obtain ⟨hi,e⟩:=e;subst hi;have u:=hp 0 r v x (by simp) (by simp);have g:=ny u;have s:x.cells.size=(cellsOf v).length:=by simpa using g.length
  have w:d.size=cells.length:=by simpa using hc.length
  simp only [Gw] at h;simp only [Instr.fill];split at h
  ·cases h
  ·rename_i off size m;rw [m];split at h
   ·rename_i p;simp only [aD,jq] at p;obtain ⟨y,o⟩:=p;have o:=aN o;have n:(decide (x.cells.size≠size)||decide (off+x.cells.size>d.size))=false:=by
     simp only [ne_eq,gt_iff_lt,ox,ta,Ld];omega
    have k:=Dz off x.cells.toList 0 d (by simp;omega);rw [<-Array.toList_zipIdx,Array.foldl_toList] at k;simp only [cH] at k;simp only [n,bs,aG,k];exact wq c parts f _ l _ (hc.spl off g) e t (λj i v x a b=>hp (j+1) i v x (by simpa using a) (by simpa using b)) h
   ·cases h
theorem vz {ι:Inj} {T:List (Nat×Option V)} {a:Act} (d:TR ι T a.tmps):∀(ps:List (Nat×Operand)) (l:List (Nat×V)),qk (opd T) ps=some l->
  (ps.map λ(i,x)=>(i,a.eval x)).map (·.1)=l.map (·.1)/\∀(j i:Nat) (v:V) (x:Value),l[j]?=some (i,v)->(ps.map λ(i,x)=>(i,a.eval x))[j]?=some (i,x)->VR ι v x
 | [],l,h=>by
  simp only [qk,aw] at h;subst h;simp
 | (i,x)::ps,l,h=>by
  simp only [qk] at h;split at h
  ·rename_i v g;split at h
   ·rename_i m f;simp only [aw] at h;subst h;obtain ⟨n,k⟩:=vz d ps m f;refine ⟨by simp [<-n],λj e u y c b=>?_⟩;cases j with
    | zero=>
     simp only [lC,aw,bG] at c;obtain ⟨rfl,rfl⟩:=c;simp only [fW,lC,aw,bG,ku] at b;subst b;exact bu d g
    | succ j=>exact k j e u y (by simpa using c) (by simpa using b)
   ·cases h
  ·cases h
theorem wa (ι:Inj) {t:TypeId} {v:V} (h:Jn P t=some v):∃z i,P.info? t=some i/\i.zero=some z/\VR ι v z/\∀w,(zeroValue t).run P w=.ok z w:=by
 unfold Jn at h;split at h
 ·rename_i i hi;split at h
  ·rename_i z a;exact ⟨z,i,hi,a,GV ι h,λw=>by simp [zeroValue,typeInfo,hi,a]⟩
  ·cases h
 ·cases h
end Go.Abs
