
/- Stores, composite values and comparisons: what the abstract effect says of the model's own operation.
   Conditions: none; generic over the program. -/
import Derived.Test.YtfiponokimbeeaaGreatDoorAbsC
import Derived.Laws.StructEq
set_option linter.unusedVariables false
set_option linter.unusedSimpArgs false
namespace Go.Abs
variable {P:Program}
def splA (b:Array Value) (k:Nat) (a:List Value):Array Value:=(b.toList.take k++(a++b.toList.drop (k+a.length))).toArray
theorem FK (a:Array Value) (k:Nat):splA a k []=a:=by
 unfold splA;apply jK;simp
theorem vw {a:Array Value} {k:Nat} {b:List Value} (h:k+b.length<=a.size):(splA a k b).size=a.size:=by
 unfold splA;simp;omega
theorem AB (a:Array Value) (k:Nat) (v:Value) (b:List Value) (h:k<a.size):splA (a.setIfInBounds k v) (k+1) b=splA a k (v::b):=by
 unfold splA;apply jK;simp only [Array.toList_setIfInBounds,aJ];have c:(a.toList.set k v).take (k+1)=a.toList.take k++[v]:=by
  rw [HC (by simpa using h)];simp [List.take_set_of_le]
 rw [c,List.drop_set_of_lt (by omega)];simp [gj,nL 1]
theorem lw (r o j:Nat):(⟨r,o,none⟩:Addr).add j=⟨r,o+j,none⟩:=by
 unfold Addr.add;split
 ·rename_i a;subst a;rfl
 ·rfl
theorem jv (r o:Nat) (e:TypeId) (fr:Nat×Nat):∀(c:List Value) (i:Nat) (a:Array Value) (w:World),w.heap[r]?=some (.cells a e fr)->NF fr a.size->
  o+i+c.length<=a.size->(∀v∈c,v.oneCell'=true)->(storeCells ⟨r,o,none⟩ c i).run P w=.ok () (setObj w r (.cells (splA a (o+i) c) e fr))
 | [],i,a,w,h,_,_,_=>by simp [storeCells,FK,Dm h]
 | v::c,i,a,w,h,f,j,g=>by
  simp only [aJ] at j;have b:o+i<a.size:=by omega
  have ih:=jv r o e fr c (i+1) (a.setIfInBounds (o+i) v) (setObj w r (.cells (a.setIfInBounds (o+i) v) e fr)) (vH h) (by simpa using f)
   (by simp;omega) (λu k=>g u (eS _ k))
  have hc:w.cell? ⟨r,o+i,none⟩=some a[o+i]:=by rw [be h];simp [b]
  have d:=oS h f b;simp only [storeCells,aw,lw,run_store P w _ v _ (g v (by simp)),hc,d,bj,aE,az,Bi h,ih,zQ];rw [show o+(i+1)=o+i+1 by omega,AB a (o+i) v c b]
theorem VRs.spl {ι:Inj} {l m:List V} {F:Array Value} {E:List Value} (o:Nat) (h:VRs ι l F.toList) (C:VRs ι m E):VRs ι (spl l o m) (splA F o E).toList:=by
 unfold Abs.spl splA;rw [<-C.length];exact (h.take o).append (C.append (h.drop _))
theorem VRs.one {ι:Inj}:∀{m:List V} {vs:List Value},VRs ι m vs->m.all oneV=true->∀v∈vs,v.oneCell'=true
 | [],_,h,_,v,C=>by simp only [VRs] at h;subst h;cases C
 | _::_,_,h,E,v,C=>by
  simp only [VRs] at h;obtain ⟨y,J,rfl,F,G⟩:=h;simp only [lg,aB] at E;rcases cf.1 C with rfl | C
  ·exact B5 F E.1
  ·exact VRs.one G E.2 v C
theorem ot {t:TypeId} {i:TypeInfo} (hi:P.info? t=some i) {w:World} {r o:Nat} {a:Array Value} {e:TypeId} {fr:Nat×Nat} (h:w.heap[r]?=some (.cells a e fr))
  (d:NF fr a.size) {x:Value} (hx:x.cells.size=P.cellsOf t) (b:o+x.cells.size<=a.size) (c:∀v∈x.cells.toList,v.oneCell'=true):
  (Instr.storeAt t (.pointer (some ⟨r,o,none⟩)) x).run P w=.ok () (setObj w r (.cells (splA a o x.cells.toList) e fr)):=by
 simp only [Instr.storeAt,Instr.sureAddr,storeVar,aw,aD,az,fk hi,hx,ne_eq,sQ,aE];have:=jv (P:=P) r o e fr x.cells.toList 0 a w h d (by simpa using b) c;simpa using this
theorem HG {α:Type} {ι:Inj} {H:List (Nat×Blk)} {nb b o:Nat} {w:World} (G:WR ι H nb w) {blk:Blk} (E:look H b=some blk) {t:TypeId} {v:V} {x:Value}
  (j:VR ι v x) {c:Blk->Option α} {z:α} (h:pp P t blk o v c=some z):
  ∃f ob r,c f=some z/\ι b=some (some r)/\(Instr.storeAt t (.pointer (some ⟨r.r,o,none⟩)) x).run P w=.ok () (setObj w r.r ob)/\BR ι r f ob:=by
 have q:=lM j;have L:x.cells.size=(cellsOf v).length:=by simpa using q.length
 unfold pp at h;split at h
 ·split at h
  ·rename_i g;simp only [aB,ig] at g;obtain ⟨D,u,B,C⟩:=g;obtain ⟨i,hi⟩:=bL D;obtain ⟨r,F,e,fr,y,A,d,p⟩:=o8 G E;have J:F.size=F.toList.length:=by simp
   have K:=d.length;have M:=aG B;refine ⟨_,_,r,h,y,ot hi A p (by omega) (by omega) (q.one C),?_⟩;exact ⟨_,e,fr,rfl,d.spl o q,by rw [vw (by simp;omega)];exact p⟩
  ·cases h
 ·rename_i k n l;obtain ⟨r,e,fr,y,A,d,p⟩:=uf G E;split at h
  ·rename_i k' m;split at h
   ·rename_i g;simp only [aB,ig] at g;obtain ⟨s,u⟩:=g;have s:=jE s;subst s;obtain ⟨B,C⟩:=dr h;have B:o<n:=aG B;obtain ⟨i,hi⟩:=bL (P:=P) (t:=t) (by rw [u];rfl);simp only [VR] at j;subst j;have hs:=ot hi (o:=o) A (by simpa [d] using p) (x:=.int k m) (by simpa [Value.cells] using u.symm) (by simp [Value.cells,d];omega) (by simp [Value.cells,Value.oneCell']);refine ⟨_,_,r,C,y,hs,e,fr,?_,by simpa using d,p⟩;congr 1;unfold splA;apply jK;simp only [Value.cells,List.map_set];rw [IH,ae (by simp;omega)];simp
   ·cases h
  ·rename_i k' N I;split at h
   ·rename_i g;simp only [aB,ig] at g;obtain ⟨s,rfl,rfl,D,u⟩:=g;have s:=jE s;subst s;obtain ⟨i,hi⟩:=bL (P:=P) (t:=t) (by rw [u];exact D);simp only [VR] at j;obtain ⟨a,rfl⟩:=j
    have hs:=ot hi (o:=0) A (by simpa [d] using p) (x:=.agg (I.map (Value.int k)).toArray) (by simp [Value.cells,a,u]) (by simp [Value.cells,d,a]) (by
     intro v j;simp only [Value.cells,ek] at j;obtain ⟨n,_,rfl⟩:=j;rfl)
    refine ⟨_,_,r,h,y,hs,e,fr,?_,a,p⟩;congr 1;unfold splA;apply jK;simp [Value.cells,a,d]
   ·cases h
  ·cases h
 ·cases h
theorem Pm {b:Array Value} {base o n:Nat} {c:List Value} (h:o+c.length<=n) (g:base+n<=b.size):
  splA b (base+o) c=splA b base (((b.toList.drop base).take n).take o++(c++((b.toList.drop base).take n).drop (o+c.length))):=by
 unfold splA;congr 1;apply Bg;intro i;have a:b.toList.length=b.size:=by simp
 by_cases d:i<base
 ·rw [mg (by simp;omega),mg (by simp;omega)];simp [d,show i<base+o by omega]
 ·obtain ⟨j,rfl⟩:∃j,i=base+j:=⟨i - base,by omega⟩;rw [ox (l₁:=b.toList.take base) (by simp;omega)];simp only [e7,a,qJ (by omega:base<=b.size),CJ];by_cases e:j<o
  ·rw [mg (by simp;omega),mg (by simp;omega),mg (by simp;omega)];simp [e,show base+j<base+o by omega,show j<n by omega,ov,ll]
  ·by_cases k:j<o+c.length
   ·rw [ox (by simp;omega),mg (by simp;omega),mg (by simp;omega),ox (by simp;omega),mg (by simp;omega)];simp only [e7,cu,a];congr 1;omega
   ·rw [ox (by simp;omega),ox (by simp;omega)];simp only [e7,cu,a];by_cases f:j<n
    ·rw [mg (by simp;omega),ox (by simp;omega),ox (by simp;omega)];simp only [e7,cu,a,ll];rw [ov (by omega),ll];congr 1;omega
    ·rw [ox (by simp;omega)];simp only [bE,e7,cu,a,ll];congr 1;omega
theorem Jc {α:Type} {ι:Inj} {w:World} {r o base:Nat} {b:Array Value} {e:TypeId} {fr:Nat×Nat} {l:List V} (A:w.heap[r]?=some (.cells b e fr))
  (k:VRs ι l ((b.toList.drop base).take l.length)) (d:base+l.length<=b.size) {t:TypeId} {v:V} {x:Value} (u:VR ι v x) {c:Blk->Option α} {z:α}
  (h:pp P t (.cells l) o v c=some z):
  ∃p X,c (.cells p)=some z/\X.length=l.length/\VRs ι p X/\(NF fr b.size->(Instr.storeAt t (.pointer (some ⟨r,base+o,none⟩)) x).run P w=.ok () (setObj w r (.cells (splA b base X) e fr))):=by
 have a:=lM u;have g:x.cells.size=(cellsOf v).length:=by simpa using a.length
 simp only [pp] at h;split at h
 ·rename_i m;simp only [aB,ig] at m;obtain ⟨q,C,s,B⟩:=m;obtain ⟨i,hi⟩:=bL q;have y:=aG s;have f:x.cells.toList.length=(cellsOf v).length:=by simpa using g
  refine ⟨_,_,h,?_,?_,λj=>by
   have hs:=ot hi A j (o:=base+o) (x:=x) (by omega) (by omega) (a.one B);rw [Pm (n:=l.length) (by omega) d] at hs;exact hs⟩
  ·simp only [bE,e7,cu,f];have:b.toList.length=b.size:=by simp
   omega
  ·unfold Abs.spl;rw [f];exact (k.take o).append (a.append (k.drop _))
 ·cases h
theorem vB {t:List Lf}:∀(l:List (den t)) (j:Nat),(l.take j).flatMap (vals t)=(l.flatMap (vals t)).take (j*t.length)
 | [],j=>by simp
 | y::l,0=>by simp
 | y::l,j+1=>by
  have a:=iW t y;simp only [kn,pB,vB l j,fY,Nat.one_mul];have b:(vals t y).take (j*t.length+t.length)=vals t y:=jc (by omega);rw [Dq (l₁:=vals t y),b,a,DC]
theorem vK {t:List Lf}:∀(l:List (den t)) (j:Nat),(l.drop j).flatMap (vals t)=(l.flatMap (vals t)).drop (j*t.length)
 | [],j=>by simp
 | y::l,0=>by simp
 | y::l,j+1=>by
  have a:=iW t y;simp only [mq,pB,vK l j,fY,Nat.one_mul];have b:(vals t y).drop (j*t.length+t.length)=[]:=iD (by omega);rw [E0 (l₁:=vals t y),b,a,DC,dn]
theorem Nj {t:List Lf} (l:List (den t)) (j:Nat) (x:den t) (h:j<l.length):
  (l.set j x).flatMap (vals t)=(l.flatMap (vals t)).take (j*t.length)++(vals t x++(l.flatMap (vals t)).drop (j*t.length+t.length)):=by
 rw [IH,ae h,HK,pB,vB,vK,fY,Nat.one_mul]
theorem Bz {a:Array Value} {o k:Nat} {c:List Value} (h:o+k<=a.size):
  (splA a (o+k) c).toList.drop o=(a.toList.drop o).take k++(c++(a.toList.drop o).drop (k+c.length)):=by
 have b:a.toList.length=a.size:=by simp
 unfold splA;simp only;rw [E0,e7,b,qJ h,wu,CJ,Nat.sub_eq_zero_of_le (yV o k),cg,gV,gj]
theorem LD {t:List Lf} {l:List (den t)} {a:Array Value} {o:Nat} (hs:o+l.length*t.length<=a.size) (h:(a.toList.drop o).take (l.length*t.length)=l.flatMap (vals t)) {j:Nat} (x:den t) (b:j<l.length):
  ((splA a (o+j*t.length) (vals t x)).toList.drop o).take ((l.set j x).length*t.length)=(l.set j x).flatMap (vals t):=by
 have e:j*t.length+t.length<=l.length*t.length:=by
  have:=mH t.length (show j+1<=l.length from b);rw [fY] at this;omega
 rw [Nj l j x b,<-h,List.length_set,Bz (by omega)];generalize d:a.toList.drop o=L;have c:l.length*t.length<=L.length:=by rw [<-d];simp;omega
 rw [iW,Dq,yW,e7,Dq,wu,iW];rw [Nat.min_eq_right (by omega:j*t.length<=l.length*t.length),qJ (by omega:j*t.length<=L.length)];congr 1
 ·rw [yW,qJ (by omega)]
 ·congr 1
  ·rw [jc (by rw [iW];omega)]
  ·congr 1;omega
theorem AD (off:Nat):∀(b:List Value) (j:Nat) (a:Array Value),off+j+b.length<=a.size->
  (b.zipIdx j).foldl (λa (p:Value×Nat)=>a.setIfInBounds (off+p.2) p.1) a=splA a (off+j) b
 | [],j,a,_=>by simp [FK]
 | v::b,j,a,h=>by
  simp only [aJ] at h;simp only [List.zipIdx_cons,tz];rw [AD off b (j+1) _ (by simp;omega),show off+(j+1)=off+j+1 by omega,AB a (off+j) v b (by omega)]
theorem tV {ι:Inj} (c:Nat->Option (Nat×Nat)):∀(parts:List (Nat×V)) (f:List (Nat×Value)) (cells l:List V) (d:Array Value),VRs ι cells d.toList->
  f.map (·.1)=parts.map (·.1)->VRs ι [] []->(∀(j i:Nat) (v:V) (x:Value),parts[j]?=some (i,v)->f[j]?=some (i,x)->VR ι v x)->CY c cells parts=some l->
  ∃q:Array Value,Instr.fill c d f=some q/\VRs ι l q.toList
 | [],f,cells,l,d,hc,e,_,_,h=>by
  simp only [CY,ak] at h;subst h;have:f=[]:=by simpa using e
  subst this;exact ⟨d,rfl,hc⟩
 | (i,v)::parts,[],cells,l,d,hc,e,_,_,h=>by simp at e
 | (i,v)::parts,(r,x)::f,cells,l,d,hc,e,u,hp,h=>by
  simp only [iC,List.cons.injEq] at e;obtain ⟨hi,e⟩:=e;subst hi;have w:=hp 0 r v x (by simp) (by simp);have g:=lM w;have s:x.cells.size=(cellsOf v).length:=by simpa using g.length
  have t:d.size=cells.length:=by simpa using hc.length
  simp only [CY] at h;simp only [Instr.fill];split at h
  ·cases h
  ·rename_i off size k;rw [k];split at h
   ·rename_i p;simp only [aB,ig] at p;obtain ⟨y,o⟩:=p;have o:=aG o;have n:(decide (x.cells.size≠size)||decide (off+x.cells.size>d.size))=false:=by
     simp only [ne_eq,gt_iff_lt,mW,so,JO];omega
    have m:=AD off x.cells.toList 0 d (by simp;omega);rw [<-Array.toList_zipIdx,Array.foldl_toList] at m;simp only [bZ] at m;simp only [n,bj,aE,m];exact tV c parts f _ l _ (hc.spl off g) e u (λj i v x a b=>hp (j+1) i v x (by simpa using a) (by simpa using b)) h
   ·cases h
theorem sj {ι:Inj} {T:List (Nat×Option V)} {a:Act} (d:TR ι T a.tmps):∀(ps:List (Nat×Operand)) (l:List (Nat×V)),n8 (opd T) ps=some l->
  (ps.map λ(i,x)=>(i,a.eval x)).map (·.1)=l.map (·.1)/\∀(j i:Nat) (v:V) (x:Value),l[j]?=some (i,v)->(ps.map λ(i,x)=>(i,a.eval x))[j]?=some (i,x)->VR ι v x
 | [],l,h=>by
  simp only [n8,ak] at h;subst h;simp
 | (i,x)::ps,l,h=>by
  simp only [n8] at h;split at h
  ·rename_i v k;split at h
   ·rename_i m e;simp only [ak] at h;subst h;obtain ⟨g,n⟩:=sj d ps m e;refine ⟨by simp [<-g],λj f u y c b=>?_⟩;cases j with
    | zero=>
     simp only [kV,ak,bz] at c;obtain ⟨rfl,rfl⟩:=c;simp only [iC,kV,ak,bz,ku] at b;subst b;exact bh d k
    | succ j=>exact n j f u y (by simpa using c) (by simpa using b)
   ·cases h
  ·cases h
theorem uo (ι:Inj) {t:TypeId} {v:V} (h:GH P t=some v):∃z i,P.info? t=some i/\i.zero=some z/\VR ι v z/\∀w,(zeroValue t).run P w=.ok z w:=by
 unfold GH at h;split at h
 ·rename_i i hi;split at h
  ·rename_i z a;exact ⟨z,i,hi,a,Ee ι h,λw=>by simp [zeroValue,typeInfo,hi,a]⟩
  ·cases h
 ·cases h
end Go.Abs
