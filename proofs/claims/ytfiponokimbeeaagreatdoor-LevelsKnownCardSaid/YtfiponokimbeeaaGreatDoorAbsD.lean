
/- Stores, composite values and comparisons: what the abstract effect says of the model's own operation.
   Conditions: none; generic over the program. -/
import Derived.Test.YtfiponokimbeeaaGreatDoorAbsC
import Derived.Laws.StructEq
set_option linter.unusedVariables false
set_option linter.unusedSimpArgs false
namespace Go.Abs
variable {P:Program}
def splA (a:Array Value) (k:Nat) (b:List Value):Array Value:=(a.toList.take k++(b++a.toList.drop (k+b.length))).toArray
theorem EF (a:Array Value) (k:Nat):splA a k []=a:=by
 unfold splA;apply jQ;simp
theorem wb {a:Array Value} {k:Nat} {b:List Value} (h:k+b.length<=a.size):(splA a k b).size=a.size:=by
 unfold splA;simp;omega
theorem CG (a:Array Value) (k:Nat) (v:Value) (b:List Value) (h:k<a.size):splA (a.setIfInBounds k v) (k+1) b=splA a k (v::b):=by
 unfold splA;apply jQ;simp only [Array.toList_setIfInBounds,aM];have c:(a.toList.set k v).take (k+1)=a.toList.take k++[v]:=by
  rw [K7 (by simpa using h)];simp [List.take_set_of_le]
 rw [c,List.drop_set_of_lt (by omega)];simp [fY,oN 1]
theorem lV (r o j:Nat):(⟨r,o,none⟩:Addr).add j=⟨r,o+j,none⟩:=by
 unfold Addr.add;split
 ·rename_i a;subst a;rfl
 ·rfl
theorem jH (r o:Nat) (e:TypeId) (fr:Nat×Nat):∀(b:List Value) (i:Nat) (a:Array Value) (w:World),w.heap[r]?=some (.cells a e fr)->NF fr a.size->
  o+i+b.length<=a.size->(∀v∈b,v.oneCell'=true)->(storeCells ⟨r,o,none⟩ b i).run P w=.ok () (setObj w r (.cells (splA a (o+i) b) e fr))
 | [],i,a,w,h,_,_,_=>by simp [storeCells,EF,DV h]
 | v::b,i,a,w,h,g,j,f=>by
  simp only [aM] at j;have c:o+i<a.size:=by omega
  have ih:=jH r o e fr b (i+1) (a.setIfInBounds (o+i) v) (setObj w r (.cells (a.setIfInBounds (o+i) v) e fr)) (vg h) (by simpa using g)
   (by simp;omega) (λu k=>f u (eO _ k))
  have hc:w.cell? ⟨r,o+i,none⟩=some a[o+i]:=by rw [bf h];simp [c]
  have d:=qC h g c;simp only [storeCells,aw,lV,run_store P w _ v _ (f v (by simp)),hc,d,bA,aC,ay,BG h,ih,Au];rw [show o+(i+1)=o+i+1 by omega,CG a (o+i) v b c]
theorem VRs.spl {ι:Inj} {l m:List V} {C:Array Value} {E:List Value} (o:Nat) (h:VRs ι l C.toList) (F:VRs ι m E):VRs ι (spl l o m) (splA C o E).toList:=by
 unfold Abs.spl splA;rw [<-F.length];exact (h.take o).append (F.append (h.drop _))
theorem VRs.one {ι:Inj}:∀{m:List V} {vs:List Value},VRs ι m vs->m.all oneV=true->∀v∈vs,v.oneCell'=true
 | [],_,h,_,v,C=>by simp only [VRs] at h;subst h;cases C
 | _::_,_,h,E,v,C=>by
  simp only [VRs] at h;obtain ⟨y,J,rfl,F,G⟩:=h;simp only [lA,az] at E;rcases cf.1 C with rfl | C
  ·exact Cd F E.1
  ·exact VRs.one G E.2 v C
theorem pC {t:TypeId} {i:TypeInfo} (hi:P.info? t=some i) {w:World} {r o:Nat} {a:Array Value} {e:TypeId} {fr:Nat×Nat} (h:w.heap[r]?=some (.cells a e fr))
  (b:NF fr a.size) {x:Value} (hx:x.cells.size=P.cellsOf t) (c:o+x.cells.size<=a.size) (d:∀v∈x.cells.toList,v.oneCell'=true):
  (Instr.storeAt t (.pointer (some ⟨r,o,none⟩)) x).run P w=.ok () (setObj w r (.cells (splA a o x.cells.toList) e fr)):=by
 simp only [Instr.storeAt,Instr.sureAddr,storeVar,aw,aB,ay,fw hi,hx,ne_eq,ue,aC];have:=jH (P:=P) r o e fr x.cells.toList 0 a w h b (by simpa using c) d;simpa using this
theorem HT {α:Type} {ι:Inj} {H:List (Nat×Blk)} {nb b o:Nat} {w:World} (E:WR ι H nb w) {blk:Blk} (G:look H b=some blk) {t:TypeId} {v:V} {x:Value}
  (j:VR ι v x) {c:Blk->Option α} {z:α} (h:qE P t blk o v c=some z):
  ∃g ob r,c g=some z/\ι b=some (some r)/\(Instr.storeAt t (.pointer (some ⟨r.r,o,none⟩)) x).run P w=.ok () (setObj w r.r ob)/\BR ι r g ob:=by
 have p:=mi j;have M:x.cells.size=(cellsOf v).length:=by simpa using p.length
 unfold qE at h;split at h
 ·split at h
  ·rename_i f;simp only [az,ie] at f;obtain ⟨D,u,A,C⟩:=f;obtain ⟨i,hi⟩:=bK D;obtain ⟨r,F,e,fr,y,B,d,q⟩:=qj E G;have I:F.size=F.toList.length:=by simp
   have K:=d.length;have L:=aE A;refine ⟨_,_,r,h,y,pC hi B q (by omega) (by omega) (p.one C),?_⟩;exact ⟨_,e,fr,rfl,d.spl o p,by rw [wb (by simp;omega)];exact q⟩
  ·cases h
 ·rename_i k n l;obtain ⟨r,e,fr,y,B,d,q⟩:=ve E G;split at h
  ·rename_i k' m;split at h
   ·rename_i f;simp only [az,ie] at f;obtain ⟨s,u⟩:=f;have s:=jy s;subst s;obtain ⟨A,C⟩:=dG h;have A:o<n:=aE A;obtain ⟨i,hi⟩:=bK (P:=P) (t:=t) (by rw [u];rfl);simp only [VR] at j;subst j;have hs:=pC hi (o:=o) B (by simpa [d] using q) (x:=.int k m) (by simpa [Value.cells] using u.symm) (by simp [Value.cells,d];omega) (by simp [Value.cells,Value.oneCell']);refine ⟨_,_,r,C,y,hs,e,fr,?_,by simpa using d,q⟩;congr 1;unfold splA;apply jQ;simp only [Value.cells,List.map_set];rw [H3,ae (by simp;omega)];simp
   ·cases h
  ·rename_i k' N J;split at h
   ·rename_i f;simp only [az,ie] at f;obtain ⟨s,rfl,rfl,D,u⟩:=f;have s:=jy s;subst s;obtain ⟨i,hi⟩:=bK (P:=P) (t:=t) (by rw [u];exact D);simp only [VR] at j;obtain ⟨a,rfl⟩:=j
    have hs:=pC hi (o:=0) B (by simpa [d] using q) (x:=.agg (J.map (Value.int k)).toArray) (by simp [Value.cells,a,u]) (by simp [Value.cells,d,a]) (by
     intro v j;simp only [Value.cells,fq] at j;obtain ⟨n,_,rfl⟩:=j;rfl)
    refine ⟨_,_,r,h,y,hs,e,fr,?_,a,q⟩;congr 1;unfold splA;apply jQ;simp [Value.cells,a,d]
   ·cases h
  ·cases h
 ·cases h
theorem Qj {b:Array Value} {base o n:Nat} {c:List Value} (h:o+c.length<=n) (k:base+n<=b.size):
  splA b (base+o) c=splA b base (((b.toList.drop base).take n).take o++(c++((b.toList.drop base).take n).drop (o+c.length))):=by
 unfold splA;congr 1;apply Bg;intro i;have a:b.toList.length=b.size:=by simp
 by_cases d:i<base
 ·rw [mQ (by simp;omega),mQ (by simp;omega)];simp [d,show i<base+o by omega]
 ·obtain ⟨j,rfl⟩:∃j,i=base+j:=⟨i - base,by omega⟩;rw [pN (l₁:=b.toList.take base) (by simp;omega)];simp only [fZ,a,sy (by omega:base<=b.size),D2];by_cases e:j<o
  ·rw [mQ (by simp;omega),mQ (by simp;omega),mQ (by simp;omega)];simp [e,show base+j<base+o by omega,show j<n by omega,pS,lO]
  ·by_cases g:j<o+c.length
   ·rw [pN (by simp;omega),mQ (by simp;omega),mQ (by simp;omega),pN (by simp;omega),mQ (by simp;omega)];simp only [fZ,cY,a];congr 1;omega
   ·rw [pN (by simp;omega),pN (by simp;omega)];simp only [fZ,cY,a];by_cases f:j<n
    ·rw [mQ (by simp;omega),pN (by simp;omega),pN (by simp;omega)];simp only [fZ,cY,a,lO];rw [pS (by omega),lO];congr 1;omega
    ·rw [pN (by simp;omega)];simp only [bH,fZ,cY,a,lO];congr 1;omega
theorem Ls {α:Type} {ι:Inj} {w:World} {r o base:Nat} {a:Array Value} {e:TypeId} {fr:Nat×Nat} {l:List V} (q:w.heap[r]?=some (.cells a e fr))
  (k:VRs ι l ((a.toList.drop base).take l.length)) (f:base+l.length<=a.size) {t:TypeId} {v:V} {x:Value} (u:VR ι v x) {c:Blk->Option α} {z:α}
  (h:qE P t (.cells l) o v c=some z):
  ∃p X,c (.cells p)=some z/\X.length=l.length/\VRs ι p X/\(NF fr a.size->(Instr.storeAt t (.pointer (some ⟨r,base+o,none⟩)) x).run P w=.ok () (setObj w r (.cells (splA a base X) e fr))):=by
 have b:=mi u;have j:x.cells.size=(cellsOf v).length:=by simpa using b.length
 simp only [qE] at h;split at h
 ·rename_i m;simp only [az,ie] at m;obtain ⟨s,C,A,B⟩:=m;obtain ⟨i,hi⟩:=bK s;have y:=aE A;have d:x.cells.toList.length=(cellsOf v).length:=by simpa using j
  refine ⟨_,_,h,?_,?_,λg=>by
   have hs:=pC hi q g (o:=base+o) (x:=x) (by omega) (by omega) (b.one B);rw [Qj (n:=l.length) (by omega) f] at hs;exact hs⟩
  ·simp only [bH,fZ,cY,d];have:a.toList.length=a.size:=by simp
   omega
  ·unfold Abs.spl;rw [d];exact (k.take o).append (b.append (k.drop _))
 ·cases h
theorem vj {t:List Lf}:∀(l:List (den t)) (j:Nat),(l.take j).flatMap (vals t)=(l.flatMap (vals t)).take (j*t.length)
 | [],j=>by simp
 | y::l,0=>by simp
 | y::l,j+1=>by
  have b:=jc t y;simp only [mz,na,vj l j,f9,Nat.one_mul];have a:(vals t y).take (j*t.length+t.length)=vals t y:=lu (by omega);rw [DG (l₁:=vals t y),a,b,Dj]
theorem vP {t:List Lf}:∀(l:List (den t)) (j:Nat),(l.drop j).flatMap (vals t)=(l.flatMap (vals t)).drop (j*t.length)
 | [],j=>by simp
 | y::l,0=>by simp
 | y::l,j+1=>by
  have b:=jc t y;simp only [mU,na,vP l j,f9,Nat.one_mul];have a:(vals t y).drop (j*t.length+t.length)=[]:=iP (by omega);rw [ET (l₁:=vals t y),a,b,Dj,dD]
theorem NS {t:List Lf} (l:List (den t)) (j:Nat) (x:den t) (h:j<l.length):
  (l.set j x).flatMap (vals t)=(l.flatMap (vals t)).take (j*t.length)++(vals t x++(l.flatMap (vals t)).drop (j*t.length+t.length)):=by
 rw [H3,ae h,H6,na,vj,vP,f9,Nat.one_mul]
theorem Bi {a:Array Value} {o k:Nat} {c:List Value} (h:o+k<=a.size):
  (splA a (o+k) c).toList.drop o=(a.toList.drop o).take k++(c++(a.toList.drop o).drop (k+c.length)):=by
 have b:a.toList.length=a.size:=by simp
 unfold splA;simp only;rw [ET,fZ,b,sy h,wP,D2,Nat.sub_eq_zero_of_le (za o k),ch,iL,fY]
theorem MS {t:List Lf} {l:List (den t)} {a:Array Value} {o:Nat} (hs:o+l.length*t.length<=a.size) (h:(a.toList.drop o).take (l.length*t.length)=l.flatMap (vals t)) {j:Nat} (x:den t) (b:j<l.length):
  ((splA a (o+j*t.length) (vals t x)).toList.drop o).take ((l.set j x).length*t.length)=(l.set j x).flatMap (vals t):=by
 have e:j*t.length+t.length<=l.length*t.length:=by
  have:=nF t.length (show j+1<=l.length from b);rw [f9] at this;omega
 rw [NS l j x b,<-h,List.length_set,Bi (by omega)];generalize d:a.toList.drop o=L;have c:l.length*t.length<=L.length:=by rw [<-d];simp;omega
 rw [jc,DG,zY,fZ,DG,wP,jc];rw [Nat.min_eq_right (by omega:j*t.length<=l.length*t.length),sy (by omega:j*t.length<=L.length)];congr 1
 ·rw [zY,sy (by omega)]
 ·congr 1
  ·rw [lu (by rw [jc];omega)]
  ·congr 1;omega
theorem B8 (off:Nat):∀(b:List Value) (j:Nat) (a:Array Value),off+j+b.length<=a.size->
  (b.zipIdx j).foldl (λa (p:Value×Nat)=>a.setIfInBounds (off+p.2) p.1) a=splA a (off+j) b
 | [],j,a,_=>by simp [EF]
 | v::b,j,a,h=>by
  simp only [aM] at h;simp only [List.zipIdx_cons,uq];rw [B8 off b (j+1) _ (by simp;omega),show off+(j+1)=off+j+1 by omega,CG a (off+j) v b (by omega)]
theorem uZ {ι:Inj} (c:Nat->Option (Nat×Nat)):∀(parts:List (Nat×V)) (f:List (Nat×Value)) (cells l:List V) (d:Array Value),VRs ι cells d.toList->
  f.map (·.1)=parts.map (·.1)->VRs ι [] []->(∀(j i:Nat) (v:V) (x:Value),parts[j]?=some (i,v)->f[j]?=some (i,x)->VR ι v x)->D6 c cells parts=some l->
  ∃o:Array Value,Instr.fill c d f=some o/\VRs ι l o.toList
 | [],f,cells,l,d,hc,e,_,_,h=>by
  simp only [D6,ak] at h;subst h;have:f=[]:=by simpa using e
  subst this;exact ⟨d,rfl,hc⟩
 | (i,v)::parts,[],cells,l,d,hc,e,_,_,h=>by simp at e
 | (i,v)::parts,(t,x)::f,cells,l,d,hc,e,s,hp,h=>by
  simp only [fk,List.cons.injEq] at e;obtain ⟨hi,e⟩:=e;subst hi;have u:=hp 0 t v x (by simp) (by simp);have g:=mi u;have w:x.cells.size=(cellsOf v).length:=by simpa using g.length
  have r:d.size=cells.length:=by simpa using hc.length
  simp only [D6] at h;simp only [Instr.fill];split at h
  ·cases h
  ·rename_i off size n;rw [n];split at h
   ·rename_i q;simp only [az,ie] at q;obtain ⟨y,p⟩:=q;have p:=aE p;have m:(decide (x.cells.size≠size)||decide (off+x.cells.size>d.size))=false:=by
     simp only [ne_eq,gt_iff_lt,n8,vX,ID];omega
    have k:=B8 off x.cells.toList 0 d (by simp;omega);rw [<-Array.toList_zipIdx,Array.foldl_toList] at k;simp only [cn] at k;simp only [m,bA,aC,k];exact uZ c parts f _ l _ (hc.spl off g) e s (λj i v x a b=>hp (j+1) i v x (by simpa using a) (by simpa using b)) h
   ·cases h
theorem uf {ι:Inj} {T:List (Nat×Option V)} {a:Act} (d:TR ι T a.tmps):∀(ps:List (Nat×Operand)) (l:List (Nat×V)),oU (opd T) ps=some l->
  (ps.map λ(i,x)=>(i,a.eval x)).map (·.1)=l.map (·.1)/\∀(j i:Nat) (v:V) (x:Value),l[j]?=some (i,v)->(ps.map λ(i,x)=>(i,a.eval x))[j]?=some (i,x)->VR ι v x
 | [],l,h=>by
  simp only [oU,ak] at h;subst h;simp
 | (i,x)::ps,l,h=>by
  simp only [oU] at h;split at h
  ·rename_i v n;split at h
   ·rename_i m g;simp only [ak] at h;subst h;obtain ⟨f,k⟩:=uf d ps m g;refine ⟨by simp [<-f],λj e u y c b=>?_⟩;cases j with
    | zero=>
     simp only [kU,ak,bE] at c;obtain ⟨rfl,rfl⟩:=c;simp only [fk,kU,ak,bE,mN] at b;subst b;exact bg d n
    | succ j=>exact k j e u y (by simpa using c) (by simpa using b)
   ·cases h
  ·cases h
theorem u0 (ι:Inj) {t:TypeId} {v:V} (h:Hu P t=some v):∃z i,P.info? t=some i/\i.zero=some z/\VR ι v z/\∀w,(zeroValue t).run P w=.ok z w:=by
 unfold Hu at h;split at h
 ·rename_i i hi;split at h
  ·rename_i z a;exact ⟨z,i,hi,a,EX ι h,λw=>by simp [zeroValue,typeInfo,hi,a]⟩
  ·cases h
 ·cases h
end Go.Abs
