
/- Stores, composite values and comparisons: what the abstract effect says of the model's own operation.
   Conditions: none; generic over the program. -/
import Derived.Test.YthemneooekobkabGreatDoorAbsC
import Derived.Laws.StructEq
set_option linter.unusedVariables false
set_option linter.unusedSimpArgs false
namespace Go.Abs
variable {P:Program}
def splA (b:Array Value) (k:Nat) (a:List Value):Array Value:=(b.toList.take k++(a++b.toList.drop (k+a.length))).toArray
theorem G8 (a:Array Value) (k:Nat):splA a k []=a:=by
 unfold splA;apply lh;simp
theorem xc {a:Array Value} {k:Nat} {b:List Value} (h:k+b.length<=a.size):(splA a k b).size=a.size:=by
 unfold splA;simp;omega
theorem EL (a:Array Value) (k:Nat) (v:Value) (b:List Value) (h:k<a.size):splA (a.setIfInBounds k v) (k+1) b=splA a k (v::b):=by
 unfold splA;apply lh;simp only [Array.toList_setIfInBounds,aE];have c:(a.toList.set k v).take (k+1)=a.toList.take k++[v]:=by
  rw [Ky (by simpa using h)];simp [List.take_set_of_le]
 rw [c,List.drop_set_of_lt (by omega)];simp [ib,qb 1]
theorem nl (r o j:Nat):(⟨r,o,none⟩:Addr).add j=⟨r,o+j,none⟩:=by
 unfold Addr.add;split
 ·rename_i a;subst a;rfl
 ·rfl
theorem kC (r o:Nat) (e:TypeId) (fr:Nat×Nat):∀(c:List Value) (i:Nat) (a:Array Value) (w:World),w.heap[r]?=some (.cells a e fr)->NF fr a.size->
  o+i+c.length<=a.size->(∀v∈c,v.oneCell'=true)->(storeCells ⟨r,o,none⟩ c i).run P w=.ok () (setObj w r (.cells (splA a (o+i) c) e fr))
 | [],i,a,w,h,_,_,_=>by simp [storeCells,G8,F7 h]
 | v::c,i,a,w,h,f,j,g=>by
  simp only [aE] at j;have b:o+i<a.size:=by omega
  have ih:=kC r o e fr c (i+1) (a.setIfInBounds (o+i) v) (setObj w r (.cells (a.setIfInBounds (o+i) v) e fr)) (yv h) (by simpa using f)
   (by simp;omega) (λu k=>g u (fi _ k))
  have hc:w.cell? ⟨r,o+i,none⟩=some a[o+i]:=by rw [bv h];simp [b]
  have d:=qZ h f b;simp only [storeCells,ax,nl,run_store P w _ v _ (g v (by simp)),hc,d,bw,aC,az,Dx h,ih,Aw];rw [show o+(i+1)=o+i+1 by omega,EL a (o+i) v c b]
theorem VRs.spl {ι:Inj} {l m:List V} {F:Array Value} {C:List Value} (o:Nat) (h:VRs ι l F.toList) (E:VRs ι m C):VRs ι (spl l o m) (splA F o C).toList:=by
 unfold Abs.spl splA;rw [<-E.length];exact (h.take o).append (E.append (h.drop _))
theorem VRs.one {ι:Inj}:∀{m:List V} {vs:List Value},VRs ι m vs->m.all oneV=true->∀v∈vs,v.oneCell'=true
 | [],_,h,_,v,C=>by simp only [VRs] at h;subst h;cases C
 | _::_,_,h,E,v,C=>by
  simp only [VRs] at h;obtain ⟨y,J,rfl,F,G⟩:=h;simp only [mO,aA] at E;rcases cf.1 C with rfl | C
  ·exact EJ F E.1
  ·exact VRs.one G E.2 v C
theorem qd {t:TypeId} {i:TypeInfo} (hi:P.info? t=some i) {w:World} {r o:Nat} {a:Array Value} {e:TypeId} {fr:Nat×Nat} (h:w.heap[r]?=some (.cells a e fr))
  (b:NF fr a.size) {x:Value} (hx:x.cells.size=P.cellsOf t) (c:o+x.cells.size<=a.size) (d:∀v∈x.cells.toList,v.oneCell'=true):
  (Instr.storeAt t (.pointer (some ⟨r,o,none⟩)) x).run P w=.ok () (setObj w r (.cells (splA a o x.cells.toList) e fr)):=by
 simp only [Instr.storeAt,Instr.sureAddr,storeVar,ax,aD,az,gi hi,hx,ne_eq,u0,aC];have:=kC (P:=P) r o e fr x.cells.toList 0 a w h b (by simpa using c) d;simpa using this
theorem K9 {α:Type} {ι:Inj} {H:List (Nat×Blk)} {nb b o:Nat} {w:World} (F:WR ι H nb w) {blk:Blk} (E:look H b=some blk) {t:TypeId} {v:V} {x:Value}
  (g:VR ι v x) {c:Blk->Option α} {z:α} (h:rj P t blk o v c=some z):
  ∃f ob r,c f=some z/\ι b=some (some r)/\(Instr.storeAt t (.pointer (some ⟨r.r,o,none⟩)) x).run P w=.ok () (setObj w r.r ob)/\BR ι r f ob:=by
 have p:=nF g;have L:x.cells.size=(cellsOf v).length:=by simpa using p.length
 unfold rj at h;split at h
 ·split at h
  ·rename_i j;simp only [aA,jk] at j;obtain ⟨D,u,B,C⟩:=j;obtain ⟨i,hi⟩:=ca D;obtain ⟨r,G,e,fr,A,y,a,s⟩:=ru F E;have J:G.size=G.toList.length:=by simp
   have M:=a.length;have I:=aL B;refine ⟨_,_,r,h,A,qd hi y s (by omega) (by omega) (p.one C),?_⟩;exact ⟨_,e,fr,rfl,a.spl o p,by rw [xc (by simp;omega)];exact s⟩
  ·cases h
 ·rename_i k n l;obtain ⟨r,e,fr,A,y,a,s⟩:=wz F E;split at h
  ·rename_i k' m;split at h
   ·rename_i j;simp only [aA,jk] at j;obtain ⟨q,u⟩:=j;have q:=kG q;subst q;obtain ⟨B,C⟩:=dZ h;have B:o<n:=aL B;obtain ⟨i,hi⟩:=ca (P:=P) (t:=t) (by rw [u];rfl);simp only [VR] at g;subst g;have hs:=qd hi (o:=o) y (by simpa [a] using s) (x:=.int k m) (by simpa [Value.cells] using u.symm) (by simp [Value.cells,a];omega) (by simp [Value.cells,Value.oneCell']);refine ⟨_,_,r,C,A,hs,e,fr,?_,by simpa using a,s⟩;congr 1;unfold splA;apply lh;simp only [Value.cells,List.map_set];rw [MD,ae (by simp;omega)];simp
   ·cases h
  ·rename_i k' N K;split at h
   ·rename_i j;simp only [aA,jk] at j;obtain ⟨q,rfl,rfl,D,u⟩:=j;have q:=kG q;subst q;obtain ⟨i,hi⟩:=ca (P:=P) (t:=t) (by rw [u];exact D);simp only [VR] at g;obtain ⟨d,rfl⟩:=g
    have hs:=qd hi (o:=0) y (by simpa [a] using s) (x:=.agg (K.map (Value.int k)).toArray) (by simp [Value.cells,d,u]) (by simp [Value.cells,a,d]) (by
     intro v g;simp only [Value.cells,ej] at g;obtain ⟨n,_,rfl⟩:=g;rfl)
    refine ⟨_,_,r,h,A,hs,e,fr,?_,d,s⟩;congr 1;unfold splA;apply lh;simp [Value.cells,d,a]
   ·cases h
  ·cases h
 ·cases h
theorem S1 {b:Array Value} {base o n:Nat} {c:List Value} (h:o+c.length<=n) (g:base+n<=b.size):
  splA b (base+o) c=splA b base (((b.toList.drop base).take n).take o++(c++((b.toList.drop base).take n).drop (o+c.length))):=by
 unfold splA;congr 1;apply CS;intro i;have a:b.toList.length=b.size:=by simp
 by_cases e:i<base
 ·rw [nN (by simp;omega),nN (by simp;omega)];simp [e,show i<base+o by omega]
 ·obtain ⟨j,rfl⟩:∃j,i=base+j:=⟨i - base,by omega⟩;rw [qF (l₁:=b.toList.take base) (by simp;omega)];simp only [dq,a,th (by omega:base<=b.size),GA];by_cases d:j<o
  ·rw [nN (by simp;omega),nN (by simp;omega),nN (by simp;omega)];simp [d,show base+j<base+o by omega,show j<n by omega,qE,mY]
  ·by_cases f:j<o+c.length
   ·rw [qF (by simp;omega),nN (by simp;omega),nN (by simp;omega),qF (by simp;omega),nN (by simp;omega)];simp only [dq,bP,a];congr 1;omega
   ·rw [qF (by simp;omega),qF (by simp;omega)];simp only [dq,bP,a];by_cases k:j<n
    ·rw [nN (by simp;omega),qF (by simp;omega),qF (by simp;omega)];simp only [dq,bP,a,mY];rw [qE (by omega),mY];congr 1;omega
    ·rw [qF (by simp;omega)];simp only [aR,dq,bP,a,mY];congr 1;omega
theorem Nn {α:Type} {ι:Inj} {w:World} {r o base:Nat} {b:Array Value} {e:TypeId} {fr:Nat×Nat} {l:List V} (B:w.heap[r]?=some (.cells b e fr))
  (k:VRs ι l ((b.toList.drop base).take l.length)) (f:base+l.length<=b.size) {t:TypeId} {v:V} {x:Value} (q:VR ι v x) {c:Blk->Option α} {z:α}
  (h:rj P t (.cells l) o v c=some z):
  ∃p X,c (.cells p)=some z/\X.length=l.length/\VRs ι p X/\(NF fr b.size->(Instr.storeAt t (.pointer (some ⟨r,base+o,none⟩)) x).run P w=.ok () (setObj w r (.cells (splA b base X) e fr))):=by
 have a:=nF q;have g:x.cells.size=(cellsOf v).length:=by simpa using a.length
 simp only [rj] at h;split at h
 ·rename_i m;simp only [aA,jk] at m;obtain ⟨y,C,s,A⟩:=m;obtain ⟨i,hi⟩:=ca y;have u:=aL s;have d:x.cells.toList.length=(cellsOf v).length:=by simpa using g
  refine ⟨_,_,h,?_,?_,λj=>by
   have hs:=qd hi B j (o:=base+o) (x:=x) (by omega) (by omega) (a.one A);rw [S1 (n:=l.length) (by omega) f] at hs;exact hs⟩
  ·simp only [aR,dq,bP,d];have:b.toList.length=b.size:=by simp
   omega
  ·unfold Abs.spl;rw [d];exact (k.take o).append (a.append (k.drop _))
 ·cases h
theorem wP {t:List Lf}:∀(l:List (den t)) (j:Nat),(l.take j).flatMap (vals t)=(l.flatMap (vals t)).take (j*t.length)
 | [],j=>by simp
 | y::l,0=>by simp
 | y::l,j+1=>by
  have b:=jZ t y;simp only [mK,ou,wP l j,gW,yf];have a:(vals t y).take (j*t.length+t.length)=vals t y:=jf (by omega);rw [FO (l₁:=vals t y),a,b,E0]
theorem yc {t:List Lf}:∀(l:List (den t)) (j:Nat),(l.drop j).flatMap (vals t)=(l.flatMap (vals t)).drop (j*t.length)
 | [],j=>by simp
 | y::l,0=>by simp
 | y::l,j+1=>by
  have b:=jZ t y;simp only [nJ,ou,yc l j,gW,yf];have a:(vals t y).drop (j*t.length+t.length)=[]:=jE (by omega);rw [IL (l₁:=vals t y),a,b,E0,dJ]
theorem PS {t:List Lf} (l:List (den t)) (j:Nat) (x:den t) (h:j<l.length):
  (l.set j x).flatMap (vals t)=(l.flatMap (vals t)).take (j*t.length)++(vals t x++(l.flatMap (vals t)).drop (j*t.length+t.length)):=by
 rw [MD,ae h,Nw,ou,wP,yc,gW,yf]
theorem EH {a:Array Value} {o k:Nat} {c:List Value} (h:o+k<=a.size):
  (splA a (o+k) c).toList.drop o=(a.toList.drop o).take k++(c++(a.toList.drop o).drop (k+c.length)):=by
 have b:a.toList.length=a.size:=by simp
 unfold splA;simp only;rw [IL,dq,b,th h,xx,GA,Nat.sub_eq_zero_of_le (AD o k),cw,jg,ib]
theorem QP {t:List Lf} {l:List (den t)} {a:Array Value} {o:Nat} (hs:o+l.length*t.length<=a.size) (h:(a.toList.drop o).take (l.length*t.length)=l.flatMap (vals t)) {j:Nat} (x:den t) (b:j<l.length):
  ((splA a (o+j*t.length) (vals t x)).toList.drop o).take ((l.set j x).length*t.length)=(l.set j x).flatMap (vals t):=by
 have e:j*t.length+t.length<=l.length*t.length:=by
  have:=oC t.length (show j+1<=l.length from b);rw [gW] at this;omega
 rw [PS l j x b,<-h,List.length_set,EH (by omega)];generalize c:a.toList.drop o=L;have d:l.length*t.length<=L.length:=by rw [<-c];simp;omega
 rw [jZ,FO,BS,dq,FO,xx,jZ];rw [Nat.min_eq_right (by omega:j*t.length<=l.length*t.length),th (by omega:j*t.length<=L.length)];congr 1
 ·rw [BS,th (by omega)]
 ·congr 1
  ·rw [jf (by rw [jZ];omega)]
  ·congr 1;omega
theorem Df (off:Nat):∀(b:List Value) (j:Nat) (a:Array Value),off+j+b.length<=a.size->
  (b.zipIdx j).foldl (λa (p:Value×Nat)=>a.setIfInBounds (off+p.2) p.1) a=splA a (off+j) b
 | [],j,a,_=>by simp [G8]
 | v::b,j,a,h=>by
  simp only [aE] at h;simp only [List.zipIdx_cons,vw];rw [Df off b (j+1) _ (by simp;omega),show off+(j+1)=off+j+1 by omega,EL a (off+j) v b (by omega)]
theorem wj {ι:Inj} (c:Nat->Option (Nat×Nat)):∀(parts:List (Nat×V)) (f:List (Nat×Value)) (cells l:List V) (d:Array Value),VRs ι cells d.toList->
  f.map (·.1)=parts.map (·.1)->VRs ι [] []->(∀(j i:Nat) (v:V) (x:Value),parts[j]?=some (i,v)->f[j]?=some (i,x)->VR ι v x)->Gs c cells parts=some l->
  ∃q:Array Value,Instr.fill c d f=some q/\VRs ι l q.toList
 | [],f,cells,l,d,hc,e,_,_,h=>by
  simp only [Gs,av] at h;subst h;have:f=[]:=by simpa using e
  subst this;exact ⟨d,rfl,hc⟩
 | (i,v)::parts,[],cells,l,d,hc,e,_,_,h=>by simp at e
 | (i,v)::parts,(s,x)::f,cells,l,d,hc,e,u,hp,h=>by
  simp only [fV,List.cons.injEq] at e;obtain ⟨hi,e⟩:=e;subst hi;have r:=hp 0 s v x (by simp) (by simp);have g:=nF r;have w:x.cells.size=(cellsOf v).length:=by simpa using g.length
  have t:d.size=cells.length:=by simpa using hc.length
  simp only [Gs] at h;simp only [Instr.fill];split at h
  ·cases h
  ·rename_i off size n;rw [n];split at h
   ·rename_i o;simp only [aA,jk] at o;obtain ⟨y,p⟩:=o;have p:=aL p;have m:(decide (x.cells.size≠size)||decide (off+x.cells.size>d.size))=false:=by
     simp only [ne_eq,gt_iff_lt,pi,vo,M8];omega
    have k:=Df off x.cells.toList 0 d (by simp;omega);rw [<-Array.toList_zipIdx,Array.foldl_toList] at k;simp only [cP] at k;simp only [m,bw,aC,k];exact wj c parts f _ l _ (hc.spl off g) e u (λj i v x a b=>hp (j+1) i v x (by simpa using a) (by simpa using b)) h
   ·cases h
theorem vi {ι:Inj} {T:List (Nat×Option V)} {a:Act} (d:TR ι T a.tmps):∀(ps:List (Nat×Operand)) (l:List (Nat×V)),qe (opd T) ps=some l->
  (ps.map λ(i,x)=>(i,a.eval x)).map (·.1)=l.map (·.1)/\∀(j i:Nat) (v:V) (x:Value),l[j]?=some (i,v)->(ps.map λ(i,x)=>(i,a.eval x))[j]?=some (i,x)->VR ι v x
 | [],l,h=>by
  simp only [qe,av] at h;subst h;simp
 | (i,x)::ps,l,h=>by
  simp only [qe] at h;split at h
  ·rename_i v e;split at h
   ·rename_i m f;simp only [av] at h;subst h;obtain ⟨n,k⟩:=vi d ps m f;refine ⟨by simp [<-n],λj g u y c b=>?_⟩;cases j with
    | zero=>
     simp only [mz,av,bV] at c;obtain ⟨rfl,rfl⟩:=c;simp only [fV,mz,av,bV,jG] at b;subst b;exact bA d e
    | succ j=>exact k j g u y (by simpa using c) (by simpa using b)
   ·cases h
  ·cases h
theorem wg (ι:Inj) {t:TypeId} {v:V} (h:IY P t=some v):∃z i,P.info? t=some i/\i.zero=some z/\VR ι v z/\∀w,(zeroValue t).run P w=.ok z w:=by
 unfold IY at h;split at h
 ·rename_i i hi;split at h
  ·rename_i z a;exact ⟨z,i,hi,a,Ik ι h,λw=>by simp [zeroValue,typeInfo,hi,a]⟩
  ·cases h
 ·cases h
end Go.Abs
