
/- Stores, composite values and comparisons: what the abstract effect says of the model's own operation.
   Conditions: none; generic over the program. -/
import Derived.Test.YtfiponokimbeeaaGreatDoorAbsC
import Derived.Laws.StructEq
set_option linter.unusedVariables false
set_option linter.unusedSimpArgs false
namespace Go.Abs
variable {P:Program}
def splA (b:Array Value) (k:Nat) (a:List Value):Array Value:=(b.toList.take k++(a++b.toList.drop (k+a.length))).toArray
theorem Hi (a:Array Value) (k:Nat):splA a k []=a:=by
 unfold splA;apply ll;simp
theorem xO {a:Array Value} {k:Nat} {b:List Value} (h:k+b.length<=a.size):(splA a k b).size=a.size:=by
 unfold splA;simp;omega
theorem Cb (a:Array Value) (k:Nat) (v:Value) (b:List Value) (h:k<a.size):splA (a.setIfInBounds k v) (k+1) b=splA a k (v::b):=by
 unfold splA;apply ll;simp only [Array.toList_setIfInBounds,aC];have c:(a.toList.set k v).take (k+1)=a.toList.take k++[v]:=by
  rw [Lh (by simpa using h)];simp [List.take_set_of_le]
 rw [c,List.drop_set_of_lt (by omega)];simp [gY,pi 1]
theorem mZ (r o j:Nat):(⟨r,o,none⟩:Addr).add j=⟨r,o+j,none⟩:=by
 unfold Addr.add;split
 ·rename_i a;subst a;rfl
 ·rfl
theorem kL (r o:Nat) (e:TypeId) (fr:Nat×Nat):∀(c:List Value) (i:Nat) (a:Array Value) (w:World),w.heap[r]?=some (.cells a e fr)->NF fr a.size->
  o+i+c.length<=a.size->(∀v∈c,v.oneCell'=true)->(storeCells ⟨r,o,none⟩ c i).run P w=.ok () (setObj w r (.cells (splA a (o+i) c) e fr))
 | [],i,a,w,h,_,_,_=>by simp [storeCells,Hi,Fv h]
 | v::c,i,a,w,h,g,j,f=>by
  simp only [aC] at j;have b:o+i<a.size:=by omega
  have ih:=kL r o e fr c (i+1) (a.setIfInBounds (o+i) v) (setObj w r (.cells (a.setIfInBounds (o+i) v) e fr)) (wI h) (by simpa using g)
   (by simp;omega) (λu k=>f u (gy _ k))
  have hc:w.cell? ⟨r,o+i,none⟩=some a[o+i]:=by rw [bp h];simp [b]
  have d:=qP h g b;simp only [storeCells,aw,mZ,run_store P w _ v _ (f v (by simp)),hc,d,br,aA,ay,CH h,ih,Ad];rw [show o+(i+1)=o+i+1 by omega,Cb a (o+i) v c b]
theorem VRs.spl {ι:Inj} {l m:List V} {F:Array Value} {E:List Value} (o:Nat) (h:VRs ι l F.toList) (C:VRs ι m E):VRs ι (spl l o m) (splA F o E).toList:=by
 unfold Abs.spl splA;rw [<-C.length];exact (h.take o).append (C.append (h.drop _))
theorem VRs.one {ι:Inj}:∀{m:List V} {vs:List Value},VRs ι m vs->m.all oneV=true->∀v∈vs,v.oneCell'=true
 | [],_,h,_,v,C=>by simp only [VRs] at h;subst h;cases C
 | _::_,_,h,E,v,C=>by
  simp only [VRs] at h;obtain ⟨y,J,rfl,G,F⟩:=h;simp only [mK,az] at E;rcases dr.1 C with rfl | C
  ·exact C6 G E.1
  ·exact VRs.one F E.2 v C
theorem pB {t:TypeId} {i:TypeInfo} (hi:P.info? t=some i) {w:World} {r o:Nat} {a:Array Value} {e:TypeId} {fr:Nat×Nat} (h:w.heap[r]?=some (.cells a e fr))
  (d:NF fr a.size) {x:Value} (hx:x.cells.size=P.cellsOf t) (b:o+x.cells.size<=a.size) (c:∀v∈x.cells.toList,v.oneCell'=true):
  (Instr.storeAt t (.pointer (some ⟨r,o,none⟩)) x).run P w=.ok () (setObj w r (.cells (splA a o x.cells.toList) e fr)):=by
 simp only [Instr.storeAt,Instr.sureAddr,storeVar,aw,aD,ay,gj hi,hx,ne_eq,uX,aA];have:=kL (P:=P) r o e fr x.cells.toList 0 a w h d (by simpa using b) c;simpa using this
theorem Kp {α:Type} {ι:Inj} {H:List (Nat×Blk)} {nb b o:Nat} {w:World} (G:WR ι H nb w) {blk:Blk} (F:look H b=some blk) {t:TypeId} {v:V} {x:Value}
  (f:VR ι v x) {c:Blk->Option α} {z:α} (h:qI P t blk o v c=some z):
  ∃j ob r,c j=some z/\ι b=some (some r)/\(Instr.storeAt t (.pointer (some ⟨r.r,o,none⟩)) x).run P w=.ok () (setObj w r.r ob)/\BR ι r j ob:=by
 have s:=nr f;have K:x.cells.size=(cellsOf v).length:=by simpa using s.length
 unfold qI at h;split at h
 ·split at h
  ·rename_i g;simp only [az,jt] at g;obtain ⟨D,u,A,C⟩:=g;obtain ⟨i,hi⟩:=bZ D;obtain ⟨r,E,e,fr,y,B,a,q⟩:=qN G F;have L:E.size=E.toList.length:=by simp
   have M:=a.length;have J:=aI A;refine ⟨_,_,r,h,y,pB hi B q (by omega) (by omega) (s.one C),?_⟩;exact ⟨_,e,fr,rfl,a.spl o s,by rw [xO (by simp;omega)];exact q⟩
  ·cases h
 ·rename_i k n l;obtain ⟨r,e,fr,y,B,a,q⟩:=vF G F;split at h
  ·rename_i k' m;split at h
   ·rename_i g;simp only [az,jt] at g;obtain ⟨p,u⟩:=g;have p:=kY p;subst p;obtain ⟨A,C⟩:=dZ h;have A:o<n:=aI A;obtain ⟨i,hi⟩:=bZ (P:=P) (t:=t) (by rw [u];rfl);simp only [VR] at f;subst f;have hs:=pB hi (o:=o) B (by simpa [a] using q) (x:=.int k m) (by simpa [Value.cells] using u.symm) (by simp [Value.cells,a];omega) (by simp [Value.cells,Value.oneCell']);refine ⟨_,_,r,C,y,hs,e,fr,?_,by simpa using a,q⟩;congr 1;unfold splA;apply ll;simp only [Value.cells,List.map_set];rw [JA,ae (by simp;omega)];simp
   ·cases h
  ·rename_i k' N I;split at h
   ·rename_i g;simp only [az,jt] at g;obtain ⟨p,rfl,rfl,D,u⟩:=g;have p:=kY p;subst p;obtain ⟨i,hi⟩:=bZ (P:=P) (t:=t) (by rw [u];exact D);simp only [VR] at f;obtain ⟨d,rfl⟩:=f
    have hs:=pB hi (o:=0) B (by simpa [a] using q) (x:=.agg (I.map (Value.int k)).toArray) (by simp [Value.cells,d,u]) (by simp [Value.cells,a,d]) (by
     intro v f;simp only [Value.cells,eZ] at f;obtain ⟨n,_,rfl⟩:=f;rfl)
    refine ⟨_,_,r,h,y,hs,e,fr,?_,d,q⟩;congr 1;unfold splA;apply ll;simp [Value.cells,d,a]
   ·cases h
  ·cases h
 ·cases h
theorem S5 {b:Array Value} {base o n:Nat} {c:List Value} (h:o+c.length<=n) (g:base+n<=b.size):
  splA b (base+o) c=splA b base (((b.toList.drop base).take n).take o++(c++((b.toList.drop base).take n).drop (o+c.length))):=by
 unfold splA;congr 1;apply D2;intro i;have a:b.toList.length=b.size:=by simp
 by_cases d:i<base
 ·rw [nG (by simp;omega),nG (by simp;omega)];simp [d,show i<base+o by omega]
 ·obtain ⟨j,rfl⟩:∃j,i=base+j:=⟨i - base,by omega⟩;rw [qd (l₁:=b.toList.take base) (by simp;omega)];simp only [da,a,sO (by omega:base<=b.size),Ep];by_cases e:j<o
  ·rw [nG (by simp;omega),nG (by simp;omega),nG (by simp;omega)];simp [e,show base+j<base+o by omega,show j<n by omega,qf,mL]
  ·by_cases f:j<o+c.length
   ·rw [qd (by simp;omega),nG (by simp;omega),nG (by simp;omega),qd (by simp;omega),nG (by simp;omega)];simp only [da,bR,a];congr 1;omega
   ·rw [qd (by simp;omega),qd (by simp;omega)];simp only [da,bR,a];by_cases k:j<n
    ·rw [nG (by simp;omega),qd (by simp;omega),qd (by simp;omega)];simp only [da,bR,a,mL];rw [qf (by omega),mL];congr 1;omega
    ·rw [qd (by simp;omega)];simp only [aL,da,bR,a,mL];congr 1;omega
theorem Jl {α:Type} {ι:Inj} {w:World} {r o base:Nat} {b:Array Value} {e:TypeId} {fr:Nat×Nat} {l:List V} (u:w.heap[r]?=some (.cells b e fr))
  (p:VRs ι l ((b.toList.drop base).take l.length)) (d:base+l.length<=b.size) {t:TypeId} {v:V} {x:Value} (A:VR ι v x) {c:Blk->Option α} {z:α}
  (h:qI P t (.cells l) o v c=some z):
  ∃m X,c (.cells m)=some z/\X.length=l.length/\VRs ι m X/\(NF fr b.size->(Instr.storeAt t (.pointer (some ⟨r,base+o,none⟩)) x).run P w=.ok () (setObj w r (.cells (splA b base X) e fr))):=by
 have a:=nr A;have g:x.cells.size=(cellsOf v).length:=by simpa using a.length
 simp only [qI] at h;split at h
 ·rename_i k;simp only [az,jt] at k;obtain ⟨s,C,B,q⟩:=k;obtain ⟨i,hi⟩:=bZ s;have y:=aI B;have f:x.cells.toList.length=(cellsOf v).length:=by simpa using g
  refine ⟨_,_,h,?_,?_,λj=>by
   have hs:=pB hi u j (o:=base+o) (x:=x) (by omega) (by omega) (a.one q);rw [S5 (n:=l.length) (by omega) d] at hs;exact hs⟩
  ·simp only [aL,da,bR,f];have:b.toList.length=b.size:=by simp
   omega
  ·unfold Abs.spl;rw [f];exact (p.take o).append (a.append (p.drop _))
 ·cases h
theorem yy {t:List Lf}:∀(l:List (den t)) (j:Nat),(l.take j).flatMap (vals t)=(l.flatMap (vals t)).take (j*t.length)
 | [],j=>by simp
 | y::l,0=>by simp
 | y::l,j+1=>by
  have b:=ke t y;simp only [nF,qi,yy l j,gU,yo];have a:(vals t y).take (j*t.length+t.length)=vals t y:=i7 (by omega);rw [FO (l₁:=vals t y),a,b,Fz]
theorem wB {t:List Lf}:∀(l:List (den t)) (j:Nat),(l.drop j).flatMap (vals t)=(l.flatMap (vals t)).drop (j*t.length)
 | [],j=>by simp
 | y::l,0=>by simp
 | y::l,j+1=>by
  have b:=ke t y;simp only [oJ,qi,wB l j,gU,yo];have a:(vals t y).drop (j*t.length+t.length)=[]:=jm (by omega);rw [G9 (l₁:=vals t y),a,b,Fz,eK]
theorem Ql {t:List Lf} (l:List (den t)) (j:Nat) (x:den t) (h:j<l.length):
  (l.set j x).flatMap (vals t)=(l.flatMap (vals t)).take (j*t.length)++(vals t x++(l.flatMap (vals t)).drop (j*t.length+t.length)):=by
 rw [JA,ae h,Kq,qi,yy,wB,gU,yo]
theorem CV {a:Array Value} {o k:Nat} {b:List Value} (h:o+k<=a.size):
  (splA a (o+k) b).toList.drop o=(a.toList.drop o).take k++(b++(a.toList.drop o).drop (k+b.length)):=by
 have c:a.toList.length=a.size:=by simp
 unfold splA;simp only;rw [G9,da,c,sO h,wu,Ep,Nat.sub_eq_zero_of_le (AD o k),cM,iR,gY]
theorem Ox {t:List Lf} {l:List (den t)} {a:Array Value} {o:Nat} (hs:o+l.length*t.length<=a.size) (h:(a.toList.drop o).take (l.length*t.length)=l.flatMap (vals t)) {j:Nat} (x:den t) (b:j<l.length):
  ((splA a (o+j*t.length) (vals t x)).toList.drop o).take ((l.set j x).length*t.length)=(l.set j x).flatMap (vals t):=by
 have e:j*t.length+t.length<=l.length*t.length:=by
  have:=ot t.length (show j+1<=l.length from b);rw [gU] at this;omega
 rw [Ql l j x b,<-h,List.length_set,CV (by omega)];generalize c:a.toList.drop o=L;have d:l.length*t.length<=L.length:=by rw [<-c];simp;omega
 rw [ke,FO,Ac,da,FO,wu,ke];rw [Nat.min_eq_right (by omega:j*t.length<=l.length*t.length),sO (by omega:j*t.length<=L.length)];congr 1
 ·rw [Ac,sO (by omega)]
 ·congr 1
  ·rw [i7 (by rw [ke];omega)]
  ·congr 1;omega
theorem Dv (off:Nat):∀(b:List Value) (j:Nat) (a:Array Value),off+j+b.length<=a.size->
  (b.zipIdx j).foldl (λa (p:Value×Nat)=>a.setIfInBounds (off+p.2) p.1) a=splA a (off+j) b
 | [],j,a,_=>by simp [Hi]
 | v::b,j,a,h=>by
  simp only [aC] at h;simp only [List.zipIdx_cons,vf];rw [Dv off b (j+1) _ (by simp;omega),show off+(j+1)=off+j+1 by omega,Cb a (off+j) v b (by omega)]
theorem vQ {ι:Inj} (c:Nat->Option (Nat×Nat)):∀(parts:List (Nat×V)) (f:List (Nat×Value)) (cells l:List V) (d:Array Value),VRs ι cells d.toList->
  f.map (·.1)=parts.map (·.1)->VRs ι [] []->(∀(j i:Nat) (v:V) (x:Value),parts[j]?=some (i,v)->f[j]?=some (i,x)->VR ι v x)->FD c cells parts=some l->
  ∃o:Array Value,Instr.fill c d f=some o/\VRs ι l o.toList
 | [],f,cells,l,d,hc,e,_,_,h=>by
  simp only [FD,au] at h;subst h;have:f=[]:=by simpa using e
  subst this;exact ⟨d,rfl,hc⟩
 | (i,v)::parts,[],cells,l,d,hc,e,_,_,h=>by simp at e
 | (i,v)::parts,(s,x)::f,cells,l,d,hc,e,u,hp,h=>by
  simp only [fX,List.cons.injEq] at e;obtain ⟨hi,e⟩:=e;subst hi;have w:=hp 0 s v x (by simp) (by simp);have g:=nr w;have r:x.cells.size=(cellsOf v).length:=by simpa using g.length
  have t:d.size=cells.length:=by simpa using hc.length
  simp only [FD] at h;simp only [Instr.fill];split at h
  ·cases h
  ·rename_i off size n;rw [n];split at h
   ·rename_i p;simp only [az,jt] at p;obtain ⟨y,q⟩:=p;have q:=aI q;have k:(decide (x.cells.size≠size)||decide (off+x.cells.size>d.size))=false:=by
     simp only [ne_eq,gt_iff_lt,oV,uK,NW];omega
    have m:=Dv off x.cells.toList 0 d (by simp;omega);rw [<-Array.toList_zipIdx,Array.foldl_toList] at m;simp only [cN] at m;simp only [k,br,aA,m];exact vQ c parts f _ l _ (hc.spl off g) e u (λj i v x a b=>hp (j+1) i v x (by simpa using a) (by simpa using b)) h
   ·cases h
theorem ux {ι:Inj} {T:List (Nat×Option V)} {a:Act} (d:TR ι T a.tmps):∀(ps:List (Nat×Operand)) (l:List (Nat×V)),pY (opd T) ps=some l->
  (ps.map λ(i,x)=>(i,a.eval x)).map (·.1)=l.map (·.1)/\∀(j i:Nat) (v:V) (x:Value),l[j]?=some (i,v)->(ps.map λ(i,x)=>(i,a.eval x))[j]?=some (i,x)->VR ι v x
 | [],l,h=>by
  simp only [pY,au] at h;subst h;simp
 | (i,x)::ps,l,h=>by
  simp only [pY] at h;split at h
  ·rename_i v k;split at h
   ·rename_i m g;simp only [au] at h;subst h;obtain ⟨e,n⟩:=ux d ps m g;refine ⟨by simp [<-e],λj f u y c b=>?_⟩;cases j with
    | zero=>
     simp only [mB,au,bC] at c;obtain ⟨rfl,rfl⟩:=c;simp only [fX,mB,au,bC,jI] at b;subst b;exact bu d k
    | succ j=>exact n j f u y (by simpa using c) (by simpa using b)
   ·cases h
  ·cases h
theorem vT (ι:Inj) {t:TypeId} {v:V} (h:IG P t=some v):∃z i,P.info? t=some i/\i.zero=some z/\VR ι v z/\∀w,(zeroValue t).run P w=.ok z w:=by
 unfold IG at h;split at h
 ·rename_i i hi;split at h
  ·rename_i z a;exact ⟨z,i,hi,a,Hk ι h,λw=>by simp [zeroValue,typeInfo,hi,a]⟩
  ·cases h
 ·cases h
end Go.Abs
