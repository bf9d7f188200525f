
/- Stores, composite values and comparisons: what the abstract effect says of the model's own operation.
   Conditions: none; generic over the program. -/
import Derived.Test.YthemneooekobkaaGreatDoorAbsC
import Derived.Laws.StructEq
set_option linter.unusedVariables false
set_option linter.unusedSimpArgs false
namespace Go.Abs
variable {P:Program}
def splA (a:Array Value) (k:Nat) (b:List Value):Array Value:=(a.toList.take k++(b++a.toList.drop (k+b.length))).toArray
theorem Is (a:Array Value) (k:Nat):splA a k []=a:=by
 unfold splA;apply lP;simp
theorem za {a:Array Value} {k:Nat} {b:List Value} (h:k+b.length<=a.size):(splA a k b).size=a.size:=by
 unfold splA;simp;omega
theorem DY (a:Array Value) (k:Nat) (v:Value) (b:List Value) (h:k<a.size):splA (a.setIfInBounds k v) (k+1) b=splA a k (v::b):=by
 unfold splA;apply lP;simp only [Array.toList_setIfInBounds,aC];have c:(a.toList.set k v).take (k+1)=a.toList.take k++[v]:=by
  rw [K3 (by simpa using h)];simp [List.take_set_of_le]
 rw [c,List.drop_set_of_lt (by omega)];simp [gO,pw 1]
theorem nV (r o j:Nat):(⟨r,o,none⟩:Addr).add j=⟨r,o+j,none⟩:=by
 unfold Addr.add;split
 ·rename_i a;subst a;rfl
 ·rfl
theorem lz (r o:Nat) (e:TypeId) (fr:Nat×Nat):∀(c:List Value) (i:Nat) (a:Array Value) (w:World),w.heap[r]?=some (.cells a e fr)->NF fr a.size->
  o+i+c.length<=a.size->(∀v∈c,v.oneCell'=true)->(storeCells ⟨r,o,none⟩ c i).run P w=.ok () (setObj w r (.cells (splA a (o+i) c) e fr))
 | [],i,a,w,h,_,_,_=>by simp [storeCells,Is,Hi h]
 | v::c,i,a,w,h,f,k,g=>by
  simp only [aC] at k;have b:o+i<a.size:=by omega
  have ih:=lz r o e fr c (i+1) (a.setIfInBounds (o+i) v) (setObj w r (.cells (a.setIfInBounds (o+i) v) e fr)) (zk h) (by simpa using f)
   (by simp;omega) (λu j=>g u (f7 _ j))
  have hc:w.cell? ⟨r,o+i,none⟩=some a[o+i]:=by rw [bi h];simp [b]
  have d:=rS h f b;simp only [storeCells,ay,nV,run_store P w _ v _ (g v (by simp)),hc,d,bz,aE,aA,DV h,ih,Bz];rw [show o+(i+1)=o+i+1 by omega,DY a (o+i) v c b]
theorem VRs.spl {ι:Inj} {l m:List V} {C:Array Value} {F:List Value} (o:Nat) (h:VRs ι l C.toList) (E:VRs ι m F):VRs ι (spl l o m) (splA C o F).toList:=by
 unfold Abs.spl splA;rw [<-E.length];exact (h.take o).append (E.append (h.drop _))
theorem VRs.one {ι:Inj}:∀{m:List V} {vs:List Value},VRs ι m vs->m.all oneV=true->∀v∈vs,v.oneCell'=true
 | [],_,h,_,v,C=>by simp only [VRs] at h;subst h;cases C
 | _::_,_,h,E,v,C=>by
  simp only [VRs] at h;obtain ⟨y,J,rfl,F,G⟩:=h;simp only [nz,az] at E;rcases cN.1 C with rfl | C
  ·exact Du F E.1
  ·exact VRs.one G E.2 v C
theorem qh {t:TypeId} {i:TypeInfo} (hi:P.info? t=some i) {w:World} {r o:Nat} {a:Array Value} {e:TypeId} {fr:Nat×Nat} (h:w.heap[r]?=some (.cells a e fr))
  (b:NF fr a.size) {x:Value} (hx:x.cells.size=P.cellsOf t) (d:o+x.cells.size<=a.size) (c:∀v∈x.cells.toList,v.oneCell'=true):
  (Instr.storeAt t (.pointer (some ⟨r,o,none⟩)) x).run P w=.ok () (setObj w r (.cells (splA a o x.cells.toList) e fr)):=by
 simp only [Instr.storeAt,Instr.sureAddr,storeVar,ay,aF,aA,gn hi,hx,ne_eq,vj,aE];have:=lz (P:=P) r o e fr x.cells.toList 0 a w h b (by simpa using d) c;simpa using this
theorem MP {α:Type} {ι:Inj} {H:List (Nat×Blk)} {nb b o:Nat} {w:World} (E:WR ι H nb w) {blk:Blk} (F:look H b=some blk) {t:TypeId} {v:V} {x:Value}
  (f:VR ι v x) {c:Blk->Option α} {z:α} (h:sA P t blk o v c=some z):
  ∃j ob r,c j=some z/\ι b=some (some r)/\(Instr.storeAt t (.pointer (some ⟨r.r,o,none⟩)) x).run P w=.ok () (setObj w r.r ob)/\BR ι r j ob:=by
 have q:=nZ f;have I:x.cells.size=(cellsOf v).length:=by simpa using q.length
 unfold sA at h;split at h
 ·split at h
  ·rename_i g;simp only [az,jG] at g;obtain ⟨C,u,y,D⟩:=g;obtain ⟨i,hi⟩:=cf C;obtain ⟨r,G,e,fr,A,B,d,s⟩:=rB E F;have M:G.size=G.toList.length:=by simp
   have J:=d.length;have L:=aL y;refine ⟨_,_,r,h,A,qh hi B s (by omega) (by omega) (q.one D),?_⟩;exact ⟨_,e,fr,rfl,d.spl o q,by rw [za (by simp;omega)];exact s⟩
  ·cases h
 ·rename_i k n l;obtain ⟨r,e,fr,A,B,d,s⟩:=wN E F;split at h
  ·rename_i k' m;split at h
   ·rename_i g;simp only [az,jG] at g;obtain ⟨p,u⟩:=g;have p:=lB p;subst p;obtain ⟨y,D⟩:=dZ h;have y:o<n:=aL y;obtain ⟨i,hi⟩:=cf (P:=P) (t:=t) (by rw [u];rfl);simp only [VR] at f;subst f;have hs:=qh hi (o:=o) B (by simpa [d] using s) (x:=.int k m) (by simpa [Value.cells] using u.symm) (by simp [Value.cells,d];omega) (by simp [Value.cells,Value.oneCell']);refine ⟨_,_,r,D,A,hs,e,fr,?_,by simpa using d,s⟩;congr 1;unfold splA;apply lP;simp only [Value.cells,List.map_set];rw [MA,ae (by simp;omega)];simp
   ·cases h
  ·rename_i k' N K;split at h
   ·rename_i g;simp only [az,jG] at g;obtain ⟨p,rfl,rfl,C,u⟩:=g;have p:=lB p;subst p;obtain ⟨i,hi⟩:=cf (P:=P) (t:=t) (by rw [u];exact C);simp only [VR] at f;obtain ⟨a,rfl⟩:=f
    have hs:=qh hi (o:=0) B (by simpa [d] using s) (x:=.agg (K.map (Value.int k)).toArray) (by simp [Value.cells,a,u]) (by simp [Value.cells,d,a]) (by
     intro v f;simp only [Value.cells,eG] at f;obtain ⟨n,_,rfl⟩:=f;rfl)
    refine ⟨_,_,r,h,A,hs,e,fr,?_,a,s⟩;congr 1;unfold splA;apply lP;simp [Value.cells,a,d]
   ·cases h
  ·cases h
 ·cases h
theorem UU {b:Array Value} {base o n:Nat} {c:List Value} (h:o+c.length<=n) (g:base+n<=b.size):
  splA b (base+o) c=splA b base (((b.toList.drop base).take n).take o++(c++((b.toList.drop base).take n).drop (o+c.length))):=by
 unfold splA;congr 1;apply zP;intro i;have a:b.toList.length=b.size:=by simp
 by_cases d:i<base
 ·rw [oe (by simp;omega),oe (by simp;omega)];simp [d,show i<base+o by omega]
 ·obtain ⟨j,rfl⟩:∃j,i=base+j:=⟨i - base,by omega⟩;rw [ra (l₁:=b.toList.take base) (by simp;omega)];simp only [cV,a,tL (by omega:base<=b.size),Gg];by_cases e:j<o
  ·rw [oe (by simp;omega),oe (by simp;omega),oe (by simp;omega)];simp [e,show base+j<base+o by omega,show j<n by omega,qf,lV]
  ·by_cases k:j<o+c.length
   ·rw [ra (by simp;omega),oe (by simp;omega),oe (by simp;omega),ra (by simp;omega),oe (by simp;omega)];simp only [cV,bN,a];congr 1;omega
   ·rw [ra (by simp;omega),ra (by simp;omega)];simp only [cV,bN,a];by_cases f:j<n
    ·rw [oe (by simp;omega),ra (by simp;omega),ra (by simp;omega)];simp only [cV,bN,a,lV];rw [qf (by omega),lV];congr 1;omega
    ·rw [ra (by simp;omega)];simp only [aO,cV,bN,a,lV];congr 1;omega
theorem MX {α:Type} {ι:Inj} {w:World} {r o base:Nat} {a:Array Value} {e:TypeId} {fr:Nat×Nat} {l:List V} (s:w.heap[r]?=some (.cells a e fr))
  (p:VRs ι l ((a.toList.drop base).take l.length)) (f:base+l.length<=a.size) {t:TypeId} {v:V} {x:Value} (q:VR ι v x) {c:Blk->Option α} {z:α}
  (h:sA P t (.cells l) o v c=some z):
  ∃k X,c (.cells k)=some z/\X.length=l.length/\VRs ι k X/\(NF fr a.size->(Instr.storeAt t (.pointer (some ⟨r,base+o,none⟩)) x).run P w=.ok () (setObj w r (.cells (splA a base X) e fr))):=by
 have b:=nZ q;have j:x.cells.size=(cellsOf v).length:=by simpa using b.length
 simp only [sA] at h;split at h
 ·rename_i m;simp only [az,jG] at m;obtain ⟨u,C,y,B⟩:=m;obtain ⟨i,hi⟩:=cf u;have A:=aL y;have d:x.cells.toList.length=(cellsOf v).length:=by simpa using j
  refine ⟨_,_,h,?_,?_,λg=>by
   have hs:=qh hi s g (o:=base+o) (x:=x) (by omega) (by omega) (b.one B);rw [UU (n:=l.length) (by omega) f] at hs;exact hs⟩
  ·simp only [aO,cV,bN,d];have:a.toList.length=a.size:=by simp
   omega
  ·unfold Abs.spl;rw [d];exact (p.take o).append (b.append (p.drop _))
 ·cases h
theorem yW {t:List Lf}:∀(l:List (den t)) (j:Nat),(l.take j).flatMap (vals t)=(l.flatMap (vals t)).take (j*t.length)
 | [],j=>by simp
 | y::l,0=>by simp
 | y::l,j+1=>by
  have a:=g9 t y;simp only [np,pV,yW l j,iq,xH];have b:(vals t y).take (j*t.length+t.length)=vals t y:=js (by omega);rw [Hg (l₁:=vals t y),b,a,Gv]
theorem yR {t:List Lf}:∀(l:List (den t)) (j:Nat),(l.drop j).flatMap (vals t)=(l.flatMap (vals t)).drop (j*t.length)
 | [],j=>by simp
 | y::l,0=>by simp
 | y::l,j+1=>by
  have a:=g9 t y;simp only [oM,pV,yR l j,iq,xH];have b:(vals t y).drop (j*t.length+t.length)=[]:=jt (by omega);rw [iO9 (l₁:=vals t y),b,a,Gv,dS]
theorem RJ {t:List Lf} (l:List (den t)) (j:Nat) (x:den t) (h:j<l.length):
  (l.set j x).flatMap (vals t)=(l.flatMap (vals t)).take (j*t.length)++(vals t x++(l.flatMap (vals t)).drop (j*t.length+t.length)):=by
 rw [MA,ae h,Ik,pV,yW,yR,iq,xH]
theorem DX {a:Array Value} {o k:Nat} {c:List Value} (h:o+k<=a.size):
  (splA a (o+k) c).toList.drop o=(a.toList.drop o).take k++(c++(a.toList.drop o).drop (k+c.length)):=by
 have b:a.toList.length=a.size:=by simp
 unfold splA;simp only;rw [iO9,cV,b,tL h,xZ,Gg,Nat.sub_eq_zero_of_le (Da o k),cU,jv,gO]
theorem PP {t:List Lf} {l:List (den t)} {a:Array Value} {o:Nat} (hs:o+l.length*t.length<=a.size) (h:(a.toList.drop o).take (l.length*t.length)=l.flatMap (vals t)) {j:Nat} (x:den t) (b:j<l.length):
  ((splA a (o+j*t.length) (vals t x)).toList.drop o).take ((l.set j x).length*t.length)=(l.set j x).flatMap (vals t):=by
 have e:j*t.length+t.length<=l.length*t.length:=by
  have:=o8 t.length (show j+1<=l.length from b);rw [iq] at this;omega
 rw [RJ l j x b,<-h,FU,DX (by omega)];generalize c:a.toList.drop o=L;have d:l.length*t.length<=L.length:=by rw [<-c];simp;omega
 rw [g9,Hg,A9,cV,Hg,xZ,g9];rw [Nat.min_eq_right (by omega:j*t.length<=l.length*t.length),tL (by omega:j*t.length<=L.length)];congr 1
 ·rw [A9,tL (by omega)]
 ·congr 1
  ·rw [js (by rw [g9];omega)]
  ·congr 1;omega
theorem E7 (off:Nat):∀(b:List Value) (j:Nat) (a:Array Value),off+j+b.length<=a.size->
  (b.zipIdx j).foldl (λa (p:Value×Nat)=>a.setIfInBounds (off+p.2) p.1) a=splA a (off+j) b
 | [],j,a,_=>by simp [Is]
 | v::b,j,a,h=>by
  simp only [aC] at h;simp only [List.zipIdx_cons,vU];rw [E7 off b (j+1) _ (by simp;omega),show off+(j+1)=off+j+1 by omega,DY a (off+j) v b (by omega)]
theorem wB {ι:Inj} (c:Nat->Option (Nat×Nat)):∀(parts:List (Nat×V)) (f:List (Nat×Value)) (cells l:List V) (d:Array Value),VRs ι cells d.toList->
  f.map (·.1)=parts.map (·.1)->VRs ι [] []->(∀(j i:Nat) (v:V) (x:Value),parts[j]?=some (i,v)->f[j]?=some (i,x)->VR ι v x)->F4 c cells parts=some l->
  ∃o:Array Value,Instr.fill c d f=some o/\VRs ι l o.toList
 | [],f,cells,l,d,hc,e,_,_,h=>by
  simp only [F4,av] at h;subst h;have:f=[]:=by simpa using e
  subst this;exact ⟨d,rfl,hc⟩
 | (i,v)::parts,[],cells,l,d,hc,e,_,_,h=>by simp at e
 | (i,v)::parts,(r,x)::f,cells,l,d,hc,e,w,hp,h=>by
  simp only [ge,DC] at e;obtain ⟨hi,e⟩:=e;subst hi;have s:=hp 0 r v x (by simp) (by simp);have g:=nZ s;have u:x.cells.size=(cellsOf v).length:=by simpa using g.length
  have t:d.size=cells.length:=by simpa using hc.length
  simp only [F4] at h;simp only [Instr.fill];split at h
  ·cases h
  ·rename_i off size m;rw [m];split at h
   ·rename_i p;simp only [az,jG] at p;obtain ⟨y,q⟩:=p;have q:=aL q;have n:(decide (x.cells.size≠size)||decide (off+x.cells.size>d.size))=false:=by
     simp only [ne_eq,gt_iff_lt,oV,tN,Lx];omega
    have k:=E7 off x.cells.toList 0 d (by simp;omega);rw [<-Array.toList_zipIdx,Array.foldl_toList] at k;simp only [cM] at k;simp only [n,bz,aE,k];exact wB c parts f _ l _ (hc.spl off g) e w (λj i v x a b=>hp (j+1) i v x (by simpa using a) (by simpa using b)) h
   ·cases h
theorem vN {ι:Inj} {T:List (Nat×Option V)} {a:Act} (d:TR ι T a.tmps):∀(ps:List (Nat×Operand)) (l:List (Nat×V)),qV (opd T) ps=some l->
  (ps.map λ(i,x)=>(i,a.eval x)).map (·.1)=l.map (·.1)/\∀(j i:Nat) (v:V) (x:Value),l[j]?=some (i,v)->(ps.map λ(i,x)=>(i,a.eval x))[j]?=some (i,x)->VR ι v x
 | [],l,h=>by
  simp only [qV,av] at h;subst h;simp
 | (i,x)::ps,l,h=>by
  simp only [qV] at h;split at h
  ·rename_i v f;split at h
   ·rename_i m k;simp only [av] at h;subst h;obtain ⟨g,n⟩:=vN d ps m k;refine ⟨by simp [<-g],λj e u y c b=>?_⟩;cases j with
    | zero=>
     simp only [lR,av,bM] at c;obtain ⟨rfl,rfl⟩:=c;simp only [ge,lR,av,bM,kP] at b;subst b;exact bu d f
    | succ j=>exact n j e u y (by simpa using c) (by simpa using b)
   ·cases h
  ·cases h
theorem wP (ι:Inj) {t:TypeId} {v:V} (h:Ky P t=some v):∃z i,P.info? t=some i/\i.zero=some z/\VR ι v z/\∀w,(zeroValue t).run P w=.ok z w:=by
 unfold Ky at h;split at h
 ·rename_i i hi;split at h
  ·rename_i z a;exact ⟨z,i,hi,a,IN ι h,λw=>by simp [zeroValue,typeInfo,hi,a]⟩
  ·cases h
 ·cases h
end Go.Abs
