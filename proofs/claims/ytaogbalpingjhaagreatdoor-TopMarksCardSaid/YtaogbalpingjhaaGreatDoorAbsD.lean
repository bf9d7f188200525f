
/- Stores, composite values and comparisons: what the abstract effect says of the model's own operation.
   Conditions: none; generic over the program. -/
import Derived.Test.YtaogbalpingjhaaGreatDoorAbsC
import Derived.Laws.StructEq
set_option linter.unusedVariables false
set_option linter.unusedSimpArgs false
namespace Go.Abs
variable {P:Program}
def splA (a:Array Value) (k:Nat) (b:List Value):Array Value:=(a.toList.take k++(b++a.toList.drop (k+b.length))).toArray
theorem Ej (a:Array Value) (k:Nat):splA a k []=a:=by
 unfold splA;apply jv;simp
theorem ue {a:Array Value} {k:Nat} {b:List Value} (h:k+b.length<=a.size):(splA a k b).size=a.size:=by
 unfold splA;simp;omega
theorem zL (a:Array Value) (k:Nat) (v:Value) (b:List Value) (h:k<a.size):splA (a.setIfInBounds k v) (k+1) b=splA a k (v::b):=by
 unfold splA;apply jv;simp only [Array.toList_setIfInBounds,aG];have c:(a.toList.set k v).take (k+1)=a.toList.take k++[v]:=by
  rw [IJ (by simpa using h)];simp [List.take_set_of_le]
 rw [c,List.drop_set_of_lt (by omega)];simp [gG,nz 1]
theorem kW (r o j:Nat):(⟨r,o,none⟩:Addr).add j=⟨r,o+j,none⟩:=by
 unfold Addr.add;split
 ·rename_i a;subst a;rfl
 ·rfl
theorem ju (r o:Nat) (e:TypeId) (fr:Nat×Nat):∀(b:List Value) (i:Nat) (a:Array Value) (w:World),w.heap[r]?=some (.cells a e fr)->NF fr a.size->
  o+i+b.length<=a.size->(∀v∈b,v.oneCell'=true)->(storeCells ⟨r,o,none⟩ b i).run P w=.ok () (setObj w r (.cells (splA a (o+i) b) e fr))
 | [],i,a,w,h,_,_,_=>by simp [storeCells,Ej,Ce h]
 | v::b,i,a,w,h,g,k,f=>by
  simp only [aG] at k;have c:o+i<a.size:=by omega
  have ih:=ju r o e fr b (i+1) (a.setIfInBounds (o+i) v) (setObj w r (.cells (a.setIfInBounds (o+i) v) e fr)) (ud h) (by simpa using g)
   (by simp;omega) (λu j=>f u (eC _ j))
  have hc:w.cell? ⟨r,o+i,none⟩=some a[o+i]:=by rw [aV h];simp [c]
  have d:=oM h g c;simp only [storeCells,aq,kW,run_store P w _ v _ (f v (by simp)),hc,d,bE,aC,ax,y8 h,ih,yO];rw [show o+(i+1)=o+i+1 by omega,zL a (o+i) v b c]
theorem VRs.spl {ι:Inj} {l m:List V} {C:Array Value} {E:List Value} (o:Nat) (h:VRs ι l C.toList) (F:VRs ι m E):VRs ι (spl l o m) (splA C o E).toList:=by
 unfold Abs.spl splA;rw [<-F.length];exact (h.take o).append (F.append (h.drop _))
theorem VRs.one {ι:Inj}:∀{m:List V} {vs:List Value},VRs ι m vs->m.all oneV=true->∀v∈vs,v.oneCell'=true
 | [],_,h,_,v,C=>by simp only [VRs] at h;subst h;cases C
 | _::_,_,h,E,v,C=>by
  simp only [VRs] at h;obtain ⟨y,J,rfl,G,F⟩:=h;simp only [kM,az] at E;rcases cq.1 C with rfl | C
  ·exact AM G E.1
  ·exact VRs.one F E.2 v C
theorem np {t:TypeId} {i:TypeInfo} (hi:P.info? t=some i) {w:World} {r o:Nat} {a:Array Value} {e:TypeId} {fr:Nat×Nat} (h:w.heap[r]?=some (.cells a e fr))
  (b:NF fr a.size) {x:Value} (hx:x.cells.size=P.cellsOf t) (c:o+x.cells.size<=a.size) (d:∀v∈x.cells.toList,v.oneCell'=true):
  (Instr.storeAt t (.pointer (some ⟨r,o,none⟩)) x).run P w=.ok () (setObj w r (.cells (splA a o x.cells.toList) e fr)):=by
 simp only [Instr.storeAt,Instr.sureAddr,storeVar,aq,aB,ax,eV hi,hx,ne_eq,rA,aC];have:=ju (P:=P) r o e fr x.cells.toList 0 a w h b (by simpa using c) d;simpa using this
theorem IV {α:Type} {ι:Inj} {H:List (Nat×Blk)} {nb b o:Nat} {w:World} (E:WR ι H nb w) {blk:Blk} (G:look H b=some blk) {t:TypeId} {v:V} {x:Value}
  (f:VR ι v x) {c:Blk->Option α} {z:α} (h:oh P t blk o v c=some z):
  ∃g ob r,c g=some z/\ι b=some (some r)/\(Instr.storeAt t (.pointer (some ⟨r.r,o,none⟩)) x).run P w=.ok () (setObj w r.r ob)/\BR ι r g ob:=by
 have q:=lq f;have K:x.cells.size=(cellsOf v).length:=by simpa using q.length
 unfold oh at h;split at h
 ·split at h
  ·rename_i j;simp only [az,gP] at j;obtain ⟨C,u,B,D⟩:=j;obtain ⟨i,hi⟩:=bz C;obtain ⟨r,F,e,fr,A,y,a,p⟩:=oc E G;have M:F.size=F.toList.length:=by simp
   have I:=a.length;have J:=aD B;refine ⟨_,_,r,h,A,np hi y p (by omega) (by omega) (q.one D),?_⟩;exact ⟨_,e,fr,rfl,a.spl o q,by rw [ue (by simp;omega)];exact p⟩
  ·cases h
 ·rename_i k n l;obtain ⟨r,e,fr,A,y,a,p⟩:=sT E G;split at h
  ·rename_i k' m;split at h
   ·rename_i j;simp only [az,gP] at j;obtain ⟨s,u⟩:=j;have s:=jd s;subst s;obtain ⟨B,D⟩:=dh h;have B:o<n:=aD B;obtain ⟨i,hi⟩:=bz (P:=P) (t:=t) (by rw [u];rfl);simp only [VR] at f;subst f;have hs:=np hi (o:=o) y (by simpa [a] using p) (x:=.int k m) (by simpa [Value.cells] using u.symm) (by simp [Value.cells,a];omega) (by simp [Value.cells,Value.oneCell']);refine ⟨_,_,r,D,A,hs,e,fr,?_,by simpa using a,p⟩;congr 1;unfold splA;apply jv;simp only [Value.cells,List.map_set];rw [Ir,ae (by simp;omega)];simp
   ·cases h
  ·rename_i k' N L;split at h
   ·rename_i j;simp only [az,gP] at j;obtain ⟨s,rfl,rfl,C,u⟩:=j;have s:=jd s;subst s;obtain ⟨i,hi⟩:=bz (P:=P) (t:=t) (by rw [u];exact C);simp only [VR] at f;obtain ⟨d,rfl⟩:=f
    have hs:=np hi (o:=0) y (by simpa [a] using p) (x:=.agg (L.map (Value.int k)).toArray) (by simp [Value.cells,d,u]) (by simp [Value.cells,a,d]) (by
     intro v f;simp only [Value.cells,dH] at f;obtain ⟨n,_,rfl⟩:=f;rfl)
    refine ⟨_,_,r,h,A,hs,e,fr,?_,d,p⟩;congr 1;unfold splA;apply jv;simp [Value.cells,d,a]
   ·cases h
  ·cases h
 ·cases h
theorem OP {b:Array Value} {base o n:Nat} {c:List Value} (h:o+c.length<=n) (f:base+n<=b.size):
  splA b (base+o) c=splA b base (((b.toList.drop base).take n).take o++(c++((b.toList.drop base).take n).drop (o+c.length))):=by
 unfold splA;congr 1;apply xf;intro i;have a:b.toList.length=b.size:=by simp
 by_cases d:i<base
 ·rw [lK (by simp;omega),lK (by simp;omega)];simp [d,show i<base+o by omega]
 ·obtain ⟨j,rfl⟩:∃j,i=base+j:=⟨i - base,by omega⟩;rw [nN (l₁:=b.toList.take base) (by simp;omega)];simp only [eT,a,qm (by omega:base<=b.size),Cd];by_cases e:j<o
  ·rw [lK (by simp;omega),lK (by simp;omega),lK (by simp;omega)];simp [e,show base+j<base+o by omega,show j<n by omega,ow,kO]
  ·by_cases k:j<o+c.length
   ·rw [nN (by simp;omega),lK (by simp;omega),lK (by simp;omega),nN (by simp;omega),lK (by simp;omega)];simp only [eT,cZ,a];congr 1;omega
   ·rw [nN (by simp;omega),nN (by simp;omega)];simp only [eT,cZ,a];by_cases g:j<n
    ·rw [lK (by simp;omega),nN (by simp;omega),nN (by simp;omega)];simp only [eT,cZ,a,kO];rw [ow (by omega),kO];congr 1;omega
    ·rw [nN (by simp;omega)];simp only [bv,eT,cZ,a,kO];congr 1;omega
theorem JR {α:Type} {ι:Inj} {w:World} {r o base:Nat} {a:Array Value} {e:TypeId} {fr:Nat×Nat} {l:List V} (y:w.heap[r]?=some (.cells a e fr))
  (p:VRs ι l ((a.toList.drop base).take l.length)) (f:base+l.length<=a.size) {t:TypeId} {v:V} {x:Value} (u:VR ι v x) {c:Blk->Option α} {z:α}
  (h:oh P t (.cells l) o v c=some z):
  ∃m X,c (.cells m)=some z/\X.length=l.length/\VRs ι m X/\(NF fr a.size->(Instr.storeAt t (.pointer (some ⟨r,base+o,none⟩)) x).run P w=.ok () (setObj w r (.cells (splA a base X) e fr))):=by
 have b:=lq u;have j:x.cells.size=(cellsOf v).length:=by simpa using b.length
 simp only [oh] at h;split at h
 ·rename_i k;simp only [az,gP] at k;obtain ⟨q,C,B,A⟩:=k;obtain ⟨i,hi⟩:=bz q;have s:=aD B;have d:x.cells.toList.length=(cellsOf v).length:=by simpa using j
  refine ⟨_,_,h,?_,?_,λg=>by
   have hs:=np hi y g (o:=base+o) (x:=x) (by omega) (by omega) (b.one A);rw [OP (n:=l.length) (by omega) f] at hs;exact hs⟩
  ·simp only [bv,eT,cZ,d];have:a.toList.length=a.size:=by simp
   omega
  ·unfold Abs.spl;rw [d];exact (p.take o).append (b.append (p.drop _))
 ·cases h
theorem uO {t:List Lf}:∀(l:List (den t)) (j:Nat),(l.take j).flatMap (vals t)=(l.flatMap (vals t)).take (j*t.length)
 | [],j=>by simp
 | y::l,0=>by simp
 | y::l,j+1=>by
  have b:=iK t y;simp only [kE,oa,uO l j,fM,Nat.one_mul];have a:(vals t y).take (j*t.length+t.length)=vals t y:=iP (by omega);rw [Bj (l₁:=vals t y),a,b,Cj]
theorem tP {t:List Lf}:∀(l:List (den t)) (j:Nat),(l.drop j).flatMap (vals t)=(l.flatMap (vals t)).drop (j*t.length)
 | [],j=>by simp
 | y::l,0=>by simp
 | y::l,j+1=>by
  have b:=iK t y;simp only [lE,oa,tP l j,fM,Nat.one_mul];have a:(vals t y).drop (j*t.length+t.length)=[]:=kP (by omega);rw [C2 (l₁:=vals t y),a,b,Cj,da]
theorem Ku {t:List Lf} (l:List (den t)) (j:Nat) (x:den t) (h:j<l.length):
  (l.set j x).flatMap (vals t)=(l.flatMap (vals t)).take (j*t.length)++(vals t x++(l.flatMap (vals t)).drop (j*t.length+t.length)):=by
 rw [Ir,ae h,HQ,oa,uO,tP,fM,Nat.one_mul]
theorem y9 {a:Array Value} {o k:Nat} {c:List Value} (h:o+k<=a.size):
  (splA a (o+k) c).toList.drop o=(a.toList.drop o).take k++(c++(a.toList.drop o).drop (k+c.length)):=by
 have b:a.toList.length=a.size:=by simp
 unfold splA;simp only;rw [C2,eT,b,qm h,wt,Cd,Nat.sub_eq_zero_of_le (yK o k),cH,iV,gG]
theorem MQ {t:List Lf} {l:List (den t)} {a:Array Value} {o:Nat} (hs:o+l.length*t.length<=a.size) (h:(a.toList.drop o).take (l.length*t.length)=l.flatMap (vals t)) {j:Nat} (x:den t) (b:j<l.length):
  ((splA a (o+j*t.length) (vals t x)).toList.drop o).take ((l.set j x).length*t.length)=(l.set j x).flatMap (vals t):=by
 have e:j*t.length+t.length<=l.length*t.length:=by
  have:=l7 t.length (show j+1<=l.length from b);rw [fM] at this;omega
 rw [Ku l j x b,<-h,List.length_set,y9 (by omega)];generalize c:a.toList.drop o=L;have d:l.length*t.length<=L.length:=by rw [<-c];simp;omega
 rw [iK,Bj,yd,eT,Bj,wt,iK];rw [Nat.min_eq_right (by omega:j*t.length<=l.length*t.length),qm (by omega:j*t.length<=L.length)];congr 1
 ·rw [yd,qm (by omega)]
 ·congr 1
  ·rw [iP (by rw [iK];omega)]
  ·congr 1;omega
theorem zl (off:Nat):∀(b:List Value) (j:Nat) (a:Array Value),off+j+b.length<=a.size->
  (b.zipIdx j).foldl (λa (p:Value×Nat)=>a.setIfInBounds (off+p.2) p.1) a=splA a (off+j) b
 | [],j,a,_=>by simp [Ej]
 | v::b,j,a,h=>by
  simp only [aG] at h;simp only [List.zipIdx_cons,sq];rw [zl off b (j+1) _ (by simp;omega),show off+(j+1)=off+j+1 by omega,zL a (off+j) v b (by omega)]
theorem tn {ι:Inj} (c:Nat->Option (Nat×Nat)):∀(parts:List (Nat×V)) (f:List (Nat×Value)) (cells l:List V) (d:Array Value),VRs ι cells d.toList->
  f.map (·.1)=parts.map (·.1)->VRs ι [] []->(∀(j i:Nat) (v:V) (x:Value),parts[j]?=some (i,v)->f[j]?=some (i,x)->VR ι v x)->Bg c cells parts=some l->
  ∃q:Array Value,Instr.fill c d f=some q/\VRs ι l q.toList
 | [],f,cells,l,d,hc,e,_,_,h=>by
  simp only [Bg,ah] at h;subst h;have:f=[]:=by simpa using e
  subst this;exact ⟨d,rfl,hc⟩
 | (i,v)::parts,[],cells,l,d,hc,e,_,_,h=>by simp at e
 | (i,v)::parts,(t,x)::f,cells,l,d,hc,e,r,hp,h=>by
  simp only [fg,List.cons.injEq] at e;obtain ⟨hi,e⟩:=e;subst hi;have s:=hp 0 t v x (by simp) (by simp);have g:=lq s;have w:x.cells.size=(cellsOf v).length:=by simpa using g.length
  have u:d.size=cells.length:=by simpa using hc.length
  simp only [Bg] at h;simp only [Instr.fill];split at h
  ·cases h
  ·rename_i off size n;rw [n];split at h
   ·rename_i o;simp only [az,gP] at o;obtain ⟨y,p⟩:=o;have p:=aD p;have k:(decide (x.cells.size≠size)||decide (off+x.cells.size>d.size))=false:=by
     simp only [ne_eq,gt_iff_lt,ov,rr,JE];omega
    have m:=zl off x.cells.toList 0 d (by simp;omega);rw [<-Array.toList_zipIdx,Array.foldl_toList] at m;simp only [cP] at m;simp only [k,bE,aC,m];exact tn c parts f _ l _ (hc.spl off g) e r (λj i v x a b=>hp (j+1) i v x (by simpa using a) (by simpa using b)) h
   ·cases h
theorem rM {ι:Inj} {T:List (Nat×Option V)} {a:Act} (d:TR ι T a.tmps):∀(ps:List (Nat×Operand)) (l:List (Nat×V)),nl (opd T) ps=some l->
  (ps.map λ(i,x)=>(i,a.eval x)).map (·.1)=l.map (·.1)/\∀(j i:Nat) (v:V) (x:Value),l[j]?=some (i,v)->(ps.map λ(i,x)=>(i,a.eval x))[j]?=some (i,x)->VR ι v x
 | [],l,h=>by
  simp only [nl,ah] at h;subst h;simp
 | (i,x)::ps,l,h=>by
  simp only [nl] at h;split at h
  ·rename_i v e;split at h
   ·rename_i m n;simp only [ah] at h;subst h;obtain ⟨g,k⟩:=rM d ps m n;refine ⟨by simp [<-g],λj f u y c b=>?_⟩;cases j with
    | zero=>
     simp only [kn,ah,bf] at c;obtain ⟨rfl,rfl⟩:=c;simp only [fg,kn,ah,bf,jD] at b;subst b;exact aZ d e
    | succ j=>exact k j f u y (by simpa using c) (by simpa using b)
   ·cases h
  ·cases h
theorem tf (ι:Inj) {t:TypeId} {v:V} (h:Gn P t=some v):∃z i,P.info? t=some i/\i.zero=some z/\VR ι v z/\∀w,(zeroValue t).run P w=.ok z w:=by
 unfold Gn at h;split at h
 ·rename_i i hi;split at h
  ·rename_i z a;exact ⟨z,i,hi,a,Ee ι h,λw=>by simp [zeroValue,typeInfo,hi,a]⟩
  ·cases h
 ·cases h
end Go.Abs
