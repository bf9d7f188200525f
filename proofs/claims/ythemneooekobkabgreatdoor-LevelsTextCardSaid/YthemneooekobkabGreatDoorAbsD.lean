
/- Stores, composite values and comparisons: what the abstract effect says of the model's own operation.
   Conditions: none; generic over the program. -/
import Derived.Test.YthemneooekobkabGreatDoorAbsC
import Derived.Laws.StructEq
set_option linter.unusedVariables false
set_option linter.unusedSimpArgs false
namespace Go.Abs
variable {P:Program}
def splA (b:Array Value) (k:Nat) (a:List Value):Array Value:=(b.toList.take k++(a++b.toList.drop (k+a.length))).toArray
theorem Gx (a:Array Value) (k:Nat):splA a k []=a:=by
 unfold splA;apply lG;simp
theorem xk {a:Array Value} {k:Nat} {b:List Value} (h:k+b.length<=a.size):(splA a k b).size=a.size:=by
 unfold splA;simp;omega
theorem Em (a:Array Value) (k:Nat) (v:Value) (b:List Value) (h:k<a.size):splA (a.setIfInBounds k v) (k+1) b=splA a k (v::b):=by
 unfold splA;apply lG;simp only [Array.toList_setIfInBounds,aE];have c:(a.toList.set k v).take (k+1)=a.toList.take k++[v]:=by
  rw [Lm (by simpa using h)];simp [List.take_set_of_le]
 rw [c,List.drop_set_of_lt (by omega)];simp [iP,qY 1]
theorem nk (r o j:Nat):(⟨r,o,none⟩:Addr).add j=⟨r,o+j,none⟩:=by
 unfold Addr.add;split
 ·rename_i a;subst a;rfl
 ·rfl
theorem kR (r o:Nat) (e:TypeId) (fr:Nat×Nat):∀(b:List Value) (i:Nat) (a:Array Value) (w:World),w.heap[r]?=some (.cells a e fr)->NF fr a.size->
  o+i+b.length<=a.size->(∀v∈b,v.oneCell'=true)->(storeCells ⟨r,o,none⟩ b i).run P w=.ok () (setObj w r (.cells (splA a (o+i) b) e fr))
 | [],i,a,w,h,_,_,_=>by simp [storeCells,Gx,Gk h]
 | v::b,i,a,w,h,g,k,f=>by
  simp only [aE] at k;have c:o+i<a.size:=by omega
  have ih:=kR r o e fr b (i+1) (a.setIfInBounds (o+i) v) (setObj w r (.cells (a.setIfInBounds (o+i) v) e fr)) (yy h) (by simpa using g)
   (by simp;omega) (λu j=>f u (fY _ j))
  have hc:w.cell? ⟨r,o+i,none⟩=some a[o+i]:=by rw [bw h];simp [c]
  have d:=ru h g c;simp only [storeCells,aw,nk,run_store P w _ v _ (f v (by simp)),hc,d,bv,aB,az,CV h,ih,Cb];rw [show o+(i+1)=o+i+1 by omega,Em a (o+i) v b c]
theorem VRs.spl {ι:Inj} {l m:List V} {E:Array Value} {C:List Value} (o:Nat) (h:VRs ι l E.toList) (F:VRs ι m C):VRs ι (spl l o m) (splA E o C).toList:=by
 unfold Abs.spl splA;rw [<-F.length];exact (h.take o).append (F.append (h.drop _))
theorem VRs.one {ι:Inj}:∀{m:List V} {vs:List Value},VRs ι m vs->m.all oneV=true->∀v∈vs,v.oneCell'=true
 | [],_,h,_,v,C=>by simp only [VRs] at h;subst h;cases C
 | _::_,_,h,E,v,C=>by
  simp only [VRs] at h;obtain ⟨y,J,rfl,G,F⟩:=h;simp only [mY,aA] at E;rcases cL.1 C with rfl | C
  ·exact Dz G E.1
  ·exact VRs.one F E.2 v C
theorem qe {t:TypeId} {i:TypeInfo} (hi:P.info? t=some i) {w:World} {r o:Nat} {a:Array Value} {e:TypeId} {fr:Nat×Nat} (h:w.heap[r]?=some (.cells a e fr))
  (b:NF fr a.size) {x:Value} (hx:x.cells.size=P.cellsOf t) (c:o+x.cells.size<=a.size) (d:∀v∈x.cells.toList,v.oneCell'=true):
  (Instr.storeAt t (.pointer (some ⟨r,o,none⟩)) x).run P w=.ok () (setObj w r (.cells (splA a o x.cells.toList) e fr)):=by
 simp only [Instr.storeAt,Instr.sureAddr,storeVar,aw,aD,az,gv hi,hx,ne_eq,vr,aB];have:=kR (P:=P) r o e fr x.cells.toList 0 a w h b (by simpa using c) d;simpa using this
theorem M6 {α:Type} {ι:Inj} {H:List (Nat×Blk)} {nb b o:Nat} {w:World} (E:WR ι H nb w) {blk:Blk} (G:look H b=some blk) {t:TypeId} {v:V} {x:Value}
  (j:VR ι v x) {c:Blk->Option α} {z:α} (h:rA P t blk o v c=some z):
  ∃f ob r,c f=some z/\ι b=some (some r)/\(Instr.storeAt t (.pointer (some ⟨r.r,o,none⟩)) x).run P w=.ok () (setObj w r.r ob)/\BR ι r f ob:=by
 have s:=nJ j;have J:x.cells.size=(cellsOf v).length:=by simpa using s.length
 unfold rA at h;split at h
 ·split at h
  ·rename_i g;simp only [aA,jn] at g;obtain ⟨D,u,B,C⟩:=g;obtain ⟨i,hi⟩:=cf D;obtain ⟨r,F,e,fr,y,A,d,q⟩:=rG E G;have L:F.size=F.toList.length:=by simp
   have K:=d.length;have M:=aJ B;refine ⟨_,_,r,h,y,qe hi A q (by omega) (by omega) (s.one C),?_⟩;exact ⟨_,e,fr,rfl,d.spl o s,by rw [xk (by simp;omega)];exact q⟩
  ·cases h
 ·rename_i k n l;obtain ⟨r,e,fr,y,A,d,q⟩:=wj E G;split at h
  ·rename_i k' m;split at h
   ·rename_i g;simp only [aA,jn] at g;obtain ⟨p,u⟩:=g;have p:=li p;subst p;obtain ⟨B,C⟩:=dY h;have B:o<n:=aJ B;obtain ⟨i,hi⟩:=cf (P:=P) (t:=t) (by rw [u];rfl);simp only [VR] at j;subst j;have hs:=qe hi (o:=o) A (by simpa [d] using q) (x:=.int k m) (by simpa [Value.cells] using u.symm) (by simp [Value.cells,d];omega) (by simp [Value.cells,Value.oneCell']);refine ⟨_,_,r,C,y,hs,e,fr,?_,by simpa using d,q⟩;congr 1;unfold splA;apply lG;simp only [Value.cells,List.map_set];rw [N4,ae (by simp;omega)];simp
   ·cases h
  ·rename_i k' N I;split at h
   ·rename_i g;simp only [aA,jn] at g;obtain ⟨p,rfl,rfl,D,u⟩:=g;have p:=li p;subst p;obtain ⟨i,hi⟩:=cf (P:=P) (t:=t) (by rw [u];exact D);simp only [VR] at j;obtain ⟨a,rfl⟩:=j
    have hs:=qe hi (o:=0) A (by simpa [d] using q) (x:=.agg (I.map (Value.int k)).toArray) (by simp [Value.cells,a,u]) (by simp [Value.cells,d,a]) (by
     intro v j;simp only [Value.cells,eY] at j;obtain ⟨n,_,rfl⟩:=j;rfl)
    refine ⟨_,_,r,h,y,hs,e,fr,?_,a,q⟩;congr 1;unfold splA;apply lG;simp [Value.cells,a,d]
   ·cases h
  ·cases h
 ·cases h
theorem Tm {b:Array Value} {base o n:Nat} {c:List Value} (h:o+c.length<=n) (k:base+n<=b.size):
  splA b (base+o) c=splA b base (((b.toList.drop base).take n).take o++(c++((b.toList.drop base).take n).drop (o+c.length))):=by
 unfold splA;congr 1;apply DZ;intro i;have a:b.toList.length=b.size:=by simp
 by_cases d:i<base
 ·rw [od (by simp;omega),od (by simp;omega)];simp [d,show i<base+o by omega]
 ·obtain ⟨j,rfl⟩:∃j,i=base+j:=⟨i - base,by omega⟩;rw [qG (l₁:=b.toList.take base) (by simp;omega)];simp only [dG,a,sY (by omega:base<=b.size),F4];by_cases e:j<o
  ·rw [od (by simp;omega),od (by simp;omega),od (by simp;omega)];simp [e,show base+j<base+o by omega,show j<n by omega,qA,na]
  ·by_cases f:j<o+c.length
   ·rw [qG (by simp;omega),od (by simp;omega),od (by simp;omega),qG (by simp;omega),od (by simp;omega)];simp only [dG,bN,a];congr 1;omega
   ·rw [qG (by simp;omega),qG (by simp;omega)];simp only [dG,bN,a];by_cases g:j<n
    ·rw [od (by simp;omega),qG (by simp;omega),qG (by simp;omega)];simp only [dG,bN,a,na];rw [qA (by omega),na];congr 1;omega
    ·rw [qG (by simp;omega)];simp only [bg,dG,bN,a,na];congr 1;omega
theorem LX {α:Type} {ι:Inj} {w:World} {r o base:Nat} {a:Array Value} {e:TypeId} {fr:Nat×Nat} {l:List V} (y:w.heap[r]?=some (.cells a e fr))
  (m:VRs ι l ((a.toList.drop base).take l.length)) (d:base+l.length<=a.size) {t:TypeId} {v:V} {x:Value} (s:VR ι v x) {c:Blk->Option α} {z:α}
  (h:rA P t (.cells l) o v c=some z):
  ∃p X,c (.cells p)=some z/\X.length=l.length/\VRs ι p X/\(NF fr a.size->(Instr.storeAt t (.pointer (some ⟨r,base+o,none⟩)) x).run P w=.ok () (setObj w r (.cells (splA a base X) e fr))):=by
 have b:=nJ s;have g:x.cells.size=(cellsOf v).length:=by simpa using b.length
 simp only [rA] at h;split at h
 ·rename_i k;simp only [aA,jn] at k;obtain ⟨A,C,u,q⟩:=k;obtain ⟨i,hi⟩:=cf A;have B:=aJ u;have f:x.cells.toList.length=(cellsOf v).length:=by simpa using g
  refine ⟨_,_,h,?_,?_,λj=>by
   have hs:=qe hi y j (o:=base+o) (x:=x) (by omega) (by omega) (b.one q);rw [Tm (n:=l.length) (by omega) d] at hs;exact hs⟩
  ·simp only [bg,dG,bN,f];have:a.toList.length=a.size:=by simp
   omega
  ·unfold Abs.spl;rw [f];exact (m.take o).append (b.append (m.drop _))
 ·cases h
theorem yI {t:List Lf}:∀(l:List (den t)) (j:Nat),(l.take j).flatMap (vals t)=(l.flatMap (vals t)).take (j*t.length)
 | [],j=>by simp
 | y::l,0=>by simp
 | y::l,j+1=>by
  have b:=kh t y;simp only [oc,oC,yI l j,gY,xn];have a:(vals t y).take (j*t.length+t.length)=vals t y:=jd (by omega);rw [FQ (l₁:=vals t y),a,b,Fp]
theorem wO {t:List Lf}:∀(l:List (den t)) (j:Nat),(l.drop j).flatMap (vals t)=(l.flatMap (vals t)).drop (j*t.length)
 | [],j=>by simp
 | y::l,0=>by simp
 | y::l,j+1=>by
  have b:=kh t y;simp only [og,oC,wO l j,gY,xn];have a:(vals t y).drop (j*t.length+t.length)=[]:=js (by omega);rw [ID (l₁:=vals t y),a,b,Fp,dX]
theorem OZ {t:List Lf} (l:List (den t)) (j:Nat) (x:den t) (h:j<l.length):
  (l.set j x).flatMap (vals t)=(l.flatMap (vals t)).take (j*t.length)++(vals t x++(l.flatMap (vals t)).drop (j*t.length+t.length)):=by
 rw [N4,ae h,NY,oC,yI,wO,gY,xn]
theorem CH {a:Array Value} {o k:Nat} {b:List Value} (h:o+k<=a.size):
  (splA a (o+k) b).toList.drop o=(a.toList.drop o).take k++(b++(a.toList.drop o).drop (k+b.length)):=by
 have c:a.toList.length=a.size:=by simp
 unfold splA;simp only;rw [ID,dG,c,sY h,xH,F4,Nat.sub_eq_zero_of_le (A9 o k),bV,jw,iP]
theorem O0 {t:List Lf} {l:List (den t)} {a:Array Value} {o:Nat} (hs:o+l.length*t.length<=a.size) (h:(a.toList.drop o).take (l.length*t.length)=l.flatMap (vals t)) {j:Nat} (x:den t) (b:j<l.length):
  ((splA a (o+j*t.length) (vals t x)).toList.drop o).take ((l.set j x).length*t.length)=(l.set j x).flatMap (vals t):=by
 have d:j*t.length+t.length<=l.length*t.length:=by
  have:=oS t.length (show j+1<=l.length from b);rw [gY] at this;omega
 rw [OZ l j x b,<-h,List.length_set,CH (by omega)];generalize e:a.toList.drop o=L;have c:l.length*t.length<=L.length:=by rw [<-e];simp;omega
 rw [kh,FQ,Bm,dG,FQ,xH,kh];rw [Nat.min_eq_right (by omega:j*t.length<=l.length*t.length),sY (by omega:j*t.length<=L.length)];congr 1
 ·rw [Bm,sY (by omega)]
 ·congr 1
  ·rw [jd (by rw [kh];omega)]
  ·congr 1;omega
theorem Eu (off:Nat):∀(b:List Value) (j:Nat) (a:Array Value),off+j+b.length<=a.size->
  (b.zipIdx j).foldl (λa (p:Value×Nat)=>a.setIfInBounds (off+p.2) p.1) a=splA a (off+j) b
 | [],j,a,_=>by simp [Gx]
 | v::b,j,a,h=>by
  simp only [aE] at h;simp only [List.zipIdx_cons,vC];rw [Eu off b (j+1) _ (by simp;omega),show off+(j+1)=off+j+1 by omega,Em a (off+j) v b (by omega)]
theorem wq {ι:Inj} (c:Nat->Option (Nat×Nat)):∀(parts:List (Nat×V)) (f:List (Nat×Value)) (cells l:List V) (d:Array Value),VRs ι cells d.toList->
  f.map (·.1)=parts.map (·.1)->VRs ι [] []->(∀(j i:Nat) (v:V) (x:Value),parts[j]?=some (i,v)->f[j]?=some (i,x)->VR ι v x)->FY c cells parts=some l->
  ∃q:Array Value,Instr.fill c d f=some q/\VRs ι l q.toList
 | [],f,cells,l,d,hc,e,_,_,h=>by
  simp only [FY,au] at h;subst h;have:f=[]:=by simpa using e
  subst this;exact ⟨d,rfl,hc⟩
 | (i,v)::parts,[],cells,l,d,hc,e,_,_,h=>by simp at e
 | (i,v)::parts,(w,x)::f,cells,l,d,hc,e,u,hp,h=>by
  simp only [gf,List.cons.injEq] at e;obtain ⟨hi,e⟩:=e;subst hi;have r:=hp 0 w v x (by simp) (by simp);have g:=nJ r;have t:x.cells.size=(cellsOf v).length:=by simpa using g.length
  have s:d.size=cells.length:=by simpa using hc.length
  simp only [FY] at h;simp only [Instr.fill];split at h
  ·cases h
  ·rename_i off size k;rw [k];split at h
   ·rename_i p;simp only [aA,jn] at p;obtain ⟨y,o⟩:=p;have o:=aJ o;have n:(decide (x.cells.size≠size)||decide (off+x.cells.size>d.size))=false:=by
     simp only [ne_eq,gt_iff_lt,pM,uT,Nh];omega
    have m:=Eu off x.cells.toList 0 d (by simp;omega);rw [<-Array.toList_zipIdx,Array.foldl_toList] at m;simp only [cP] at m;simp only [n,bv,aB,m];exact wq c parts f _ l _ (hc.spl off g) e u (λj i v x a b=>hp (j+1) i v x (by simpa using a) (by simpa using b)) h
   ·cases h
theorem uV {ι:Inj} {T:List (Nat×Option V)} {a:Act} (d:TR ι T a.tmps):∀(ps:List (Nat×Operand)) (l:List (Nat×V)),qg (opd T) ps=some l->
  (ps.map λ(i,x)=>(i,a.eval x)).map (·.1)=l.map (·.1)/\∀(j i:Nat) (v:V) (x:Value),l[j]?=some (i,v)->(ps.map λ(i,x)=>(i,a.eval x))[j]?=some (i,x)->VR ι v x
 | [],l,h=>by
  simp only [qg,au] at h;subst h;simp
 | (i,x)::ps,l,h=>by
  simp only [qg] at h;split at h
  ·rename_i v e;split at h
   ·rename_i m g;simp only [au] at h;subst h;obtain ⟨f,k⟩:=uV d ps m g;refine ⟨by simp [<-f],λj n u y c b=>?_⟩;cases j with
    | zero=>
     simp only [mL,au,ba] at c;obtain ⟨rfl,rfl⟩:=c;simp only [gf,mL,au,ba,jN] at b;subst b;exact bA d e
    | succ j=>exact k j n u y (by simpa using c) (by simpa using b)
   ·cases h
  ·cases h
theorem wi (ι:Inj) {t:TypeId} {v:V} (h:Jw P t=some v):∃z i,P.info? t=some i/\i.zero=some z/\VR ι v z/\∀w,(zeroValue t).run P w=.ok z w:=by
 unfold Jw at h;split at h
 ·rename_i i hi;split at h
  ·rename_i z a;exact ⟨z,i,hi,a,Is ι h,λw=>by simp [zeroValue,typeInfo,hi,a]⟩
  ·cases h
 ·cases h
end Go.Abs
