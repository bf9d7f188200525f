
import Derived.Test.YtadejcglcffgbabGreatDoorAbsC
import Derived.Laws.StructEq
set_option linter.unusedVariables false
set_option linter.unusedSimpArgs false
set_option linter.defProp false
namespace Go.Abs
variable {P:Program}
def splA(b:Array Value)(k:Nat)(a:List Value):Array Value:=(b.toList.take k++(a++b.toList.drop (k+a.length))).toArray
def Ap(a:Array Value)(k:Nat):splA a k []=a:=by
 unfold splA;apply kH;simp
def sc{a:Array Value}{k:Nat}{b:List Value}(h:k+b.length<=a.size):(splA a k b).size=a.size:=by
 unfold splA;simp;omega
def xx(a:Array Value)(k:Nat)(v:Value)(b:List Value)(h:k<a.size):splA (a.setIfInBounds k v) (k+1) b=splA a k (v::b):=by
 unfold splA;apply kH;simp only[Array.toList_setIfInBounds,cU];have c:(a.toList.set k v).take (k+1)=a.toList.take k++[v]:=by
  rw[G5 (by simpa using h)];simp[List.take_set_of_le]
 rw[c,List.drop_set_of_lt (by omega)];simp[gh,oN 1]
def kx(r o j:Nat):(⟨r,o,none⟩:Addr).add j=⟨r,o+j,none⟩:=by
 unfold Addr.add;split
 ·rename_i a;subst a;rfl
 ·rfl
def iW(r o:Nat)(e:TypeId)(fr:Nat×Nat):∀(c:List Value) (i:Nat) (a:Array Value) (w:World),w.heap[r]?=some (.cells a e fr)->NF fr a.size->
  o+i+c.length<=a.size->(∀v∈c,v.oneCell'=true)->(storeCells ⟨r,o,none⟩ c i).run P w=.ok () (setObj w r (.cells (splA a (o+i) c) e fr))
 | [],i,a,w,h,_,_,_=>by simp[storeCells,Ap,Ak h]
 | v::c,i,a,w,h,g,j,f=>by
  simp only[cU]at j;have b:o+i<a.size:=by omega
  have ih:=iW r o e fr c (i+1) (a.setIfInBounds (o+i) v) (setObj w r (.cells (a.setIfInBounds (o+i) v) e fr)) (rV h) (by simpa using g)
   (by simp;omega) (λu k=>f u (gN _ k))
  have hc:w.cell? ⟨r,o+i,none⟩=some a[o+i]:=by rw[bB h];simp[b]
  have d:=mV h g b;simp only[storeCells,ax,kx,run_store P w _ v _ (f v (by simp)),hc,d,cj,aG,az,xG h,ih,vL];rw[show o+(i+1)=o+i+1 by omega,xx a (o+i) v c b]
def VRs.spl{ι:Inj}{l m:List V}{C:Array Value}{A:List Value}(o:Nat)(h:VRs ι l C.toList)(E:VRs ι m A):VRs ι (spl l o m) (splA C o A).toList:=by
 unfold Abs.spl splA;rw[<-E.length];exact(h.take o).append (E.append (h.drop _))
def VRs.one{ι:Inj}:∀{m:List V} {vs:List Value},VRs ι m vs->m.all oneV=true->∀v∈vs,v.oneCell'=true
 | [],_,h,_,v,A=>by simp only[VRs]at h;subst h;cases A
 | _::_,_,h,C,v,A=>by
  simp only[VRs]at h;obtain⟨y,G,rfl,F,E⟩:=h;simp only[lw,aC]at C;rcases bX.1 A with rfl | A
  ·exact xe F C.1
  ·exact VRs.one E C.2 v A
def mw{t:TypeId}{i:TypeInfo}(hi:P.info? t=some i){w:World}{r o:Nat}{a:Array Value}{e:TypeId}{fr:Nat×Nat}(h:w.heap[r]?=some (.cells a e fr))
  (d:NF fr a.size) {x:Value} (hx:x.cells.size=P.cellsOf t) (b:o+x.cells.size<=a.size) (c:∀v∈x.cells.toList,v.oneCell'=true):
  (Instr.storeAt t (.pointer (some ⟨r,o,none⟩)) x).run P w=.ok () (setObj w r (.cells (splA a o x.cells.toList) e fr)):=by
 simp only[Instr.storeAt,Instr.sureAddr,storeVar,ax,aA,az,ei hi,hx,ne_eq,qm,aG];have:=iW (P:=P) r o e fr x.cells.toList 0 a w h d (by simpa using b) c;simpa using this
def Gy{α:Type}{ι:Inj}{H:List (Nat×Blk)}{nb b o:Nat}{w:World}(F:WR ι H nb w){blk:Blk}(E:look H b=some blk){t:TypeId}{v:V}{x:Value}
  (f:VR ι v x) {c:Blk->Option α} {z:α} (h:nC P t blk o v c=some z):
  ∃g ob r,c g=some z/\ι b=some (some r)/\(Instr.storeAt t (.pointer (some ⟨r.r,o,none⟩)) x).run P w=.ok () (setObj w r.r ob)/\BR ι r g ob:=by
 have q:=kB f;have M:x.cells.size=(cellsOf v).length:=by simpa using q.length
 unfold nC at h;split at h
 ·split at h
  ·rename_i j;simp only[aC,iR]at j;obtain⟨C,u,A,D⟩:=j;obtain⟨i,hi⟩:=bC C;obtain⟨r,G,e,fr,B,y,d,p⟩:=m7 F E;have I:G.size=G.toList.length:=by simp
   have K:=d.length;have L:=aJ A;refine⟨_,_,r,h,B,mw hi y p (by omega) (by omega) (q.one D),?_⟩;exact⟨_,e,fr,rfl,d.spl o q,by rw[sc (by simp;omega)];exact p⟩
  ·cases h
 ·rename_i k n l;obtain⟨r,e,fr,B,y,d,p⟩:=rr F E;split at h
  ·rename_i k' m;split at h
   ·rename_i j;simp only[aC,iR]at j;obtain⟨s,u⟩:=j;have s:=iL s;subst s;obtain⟨A,D⟩:=dU h;have A:o<n:=aJ A;obtain⟨i,hi⟩:=bC (P:=P) (t:=t) (by rw[u];rfl);simp only[VR]at f;subst f;have hs:=mw hi (o:=o) y (by simpa[d]using p) (x:=.int k m) (by simpa[Value.cells]using u.symm) (by simp[Value.cells,d];omega) (by simp[Value.cells,Value.oneCell']);refine⟨_,_,r,D,B,hs,e,fr,?_,by simpa using d,p⟩;congr 1;unfold splA;apply kH;simp only[Value.cells,List.map_set];rw[GO,ad (by simp;omega)];simp
   ·cases h
  ·rename_i k' N J;split at h
   ·rename_i j;simp only[aC,iR]at j;obtain⟨s,rfl,rfl,C,u⟩:=j;have s:=iL s;subst s;obtain⟨i,hi⟩:=bC (P:=P) (t:=t) (by rw[u];exact C);simp only[VR]at f;obtain⟨a,rfl⟩:=f
    have hs:=mw hi (o:=0) y (by simpa[d]using p) (x:=.agg (J.map (Value.int k)).toArray) (by simp[Value.cells,a,u]) (by simp[Value.cells,d,a]) (by
     intro v f;simp only[Value.cells,da]at f;obtain⟨n,_,rfl⟩:=f;rfl)
    refine⟨_,_,r,h,B,hs,e,fr,?_,a,p⟩;congr 1;unfold splA;apply kH;simp[Value.cells,a,d]
   ·cases h
  ·cases h
 ·cases h
def Kw{b:Array Value}{base o n:Nat}{c:List Value}(h:o+c.length<=n)(g:base+n<=b.size):
  splA b (base+o) c=splA b base (((b.toList.drop base).take n).take o++(c++((b.toList.drop base).take n).drop (o+c.length))):=by
 unfold splA;congr 1;apply vh;intro i;have a:b.toList.length=b.size:=by simp
 by_cases e:i<base
 ·rw[lb (by simp;omega),lb (by simp;omega)];simp[e,show i<base+o by omega]
 ·obtain⟨j,rfl⟩:∃j,i=base+j:=⟨i - base,by omega⟩;rw[mM (l₁:=b.toList.take base) (by simp;omega)];simp only[dx,a,o7 (by omega:base<=b.size),zo];by_cases d:j<o
  ·rw[lb (by simp;omega),lb (by simp;omega),lb (by simp;omega)];simp[d,show base+j<base+o by omega,show j<n by omega,mR,jK]
  ·by_cases f:j<o+c.length
   ·rw[mM (by simp;omega),lb (by simp;omega),lb (by simp;omega),mM (by simp;omega),lb (by simp;omega)];simp only[dx,lY,a];congr 1;omega
   ·rw[mM (by simp;omega),mM (by simp;omega)];simp only[dx,lY,a];by_cases k:j<n
    ·rw[lb (by simp;omega),mM (by simp;omega),mM (by simp;omega)];simp only[dx,lY,a,jK];rw[mR (by omega),jK];congr 1;omega
    ·rw[mM (by simp;omega)];simp only[gv,dx,lY,a,jK];congr 1;omega
def E9{α:Type}{ι:Inj}{w:World}{r o base:Nat}{b:Array Value}{e:TypeId}{fr:Nat×Nat}{l:List V}(A:w.heap[r]?=some (.cells b e fr))
  (m:VRs ι l ((b.toList.drop base).take l.length)) (f:base+l.length<=b.size) {t:TypeId} {v:V} {x:Value} (B:VR ι v x) {c:Blk->Option α} {z:α}
  (h:nC P t (.cells l) o v c=some z):
  ∃p X,c (.cells p)=some z/\X.length=l.length/\VRs ι p X/\(NF fr b.size->(Instr.storeAt t (.pointer (some ⟨r,base+o,none⟩)) x).run P w=.ok () (setObj w r (.cells (splA b base X) e fr))):=by
 have a:=kB B;have g:x.cells.size=(cellsOf v).length:=by simpa using a.length
 simp only[nC]at h;split at h
 ·rename_i k;simp only[aC,iR]at k;obtain⟨y,C,s,q⟩:=k;obtain⟨i,hi⟩:=bC y;have u:=aJ s;have d:x.cells.toList.length=(cellsOf v).length:=by simpa using g
  refine⟨_,_,h,?_,?_,λj=>by
   have hs:=mw hi A j (o:=base+o) (x:=x) (by omega) (by omega) (a.one q);rw[Kw (n:=l.length) (by omega) f]at hs;exact hs⟩
  ·simp only[gv,dx,lY,d];have:b.toList.length=b.size:=by simp
   omega
  ·unfold Abs.spl;rw[d];exact(m.take o).append (a.append (m.drop _))
 ·cases h
def tQ{t:List Lf}:∀(l:List (den t)) (j:Nat),(l.take j).flatMap (vals t)=(l.flatMap (vals t)).take (j*t.length)
 | [],j=>by simp
 | y::l,0=>by simp
 | y::l,j+1=>by
  have b:=eX t y;simp only[qi,jY,tQ l j,fh,rL];have a:(vals t y).take (j*t.length+t.length)=vals t y:=gg (by omega);rw[zl (l₁:=vals t y),a,b,zm]
def sQ{t:List Lf}:∀(l:List (den t)) (j:Nat),(l.drop j).flatMap (vals t)=(l.flatMap (vals t)).drop (j*t.length)
 | [],j=>by simp
 | y::l,0=>by simp
 | y::l,j+1=>by
  have b:=eX t y;simp only[B2,jY,sQ l j,fh,rL];have a:(vals t y).drop (j*t.length+t.length)=[]:=oi (by omega);rw[BI (l₁:=vals t y),a,b,zm,gP]
def IB{t:List Lf}(l:List (den t))(j:Nat)(x:den t)(h:j<l.length):
  (l.set j x).flatMap (vals t)=(l.flatMap (vals t)).take (j*t.length)++(vals t x++(l.flatMap (vals t)).drop (j*t.length+t.length)):=by
 rw[GO,ad h,CU,jY,tQ,sQ,fh,rL]
def yg{a:Array Value}{o k:Nat}{c:List Value}(h:o+k<=a.size):
  (splA a (o+k) c).toList.drop o=(a.toList.drop o).take k++(c++(a.toList.drop o).drop (k+c.length)):=by
 have b:a.toList.length=a.size:=by simp
 unfold splA;simp only;rw[BI,dx,b,o7 h,yL,zo,Nat.sub_eq_zero_of_le (Nat.le_add_right o k),gk,uT,gh]
def H7{t:List Lf}{l:List (den t)}{a:Array Value}{o:Nat}(hs:o+l.length*t.length<=a.size)(h:(a.toList.drop o).take (l.length*t.length)=l.flatMap (vals t)){j:Nat}(x:den t)(b:j<l.length):
  ((splA a (o+j*t.length) (vals t x)).toList.drop o).take ((l.set j x).length*t.length)=(l.set j x).flatMap (vals t):=by
 have d:j*t.length+t.length<=l.length*t.length:=by
  have:=lz t.length (show j+1<=l.length from b);rw[fh]at this;omega
 rw[IB l j x b,<-h,vV,yg (by omega)];generalize e:a.toList.drop o=L;have c:l.length*t.length<=L.length:=by rw[<-e];simp;omega
 rw[eX,zl,wY,dx,zl,yL,eX];rw[Nat.min_eq_right (by omega:j*t.length<=l.length*t.length),o7 (by omega:j*t.length<=L.length)];congr 1
 ·rw[wY,o7 (by omega)]
 ·congr 1
  ·rw[gg (by rw[eX];omega)]
  ·congr 1;omega
def xq(off:Nat):∀(b:List Value) (j:Nat) (a:Array Value),off+j+b.length<=a.size->
  (b.zipIdx j).foldl (λa (p:Value×Nat)=>a.setIfInBounds (off+p.2) p.1) a=splA a (off+j) b
 | [],j,a,_=>by simp[Ap]
 | v::b,j,a,h=>by
  simp only[cU]at h;simp only[List.zipIdx_cons,qM];rw[xq off b (j+1) _ (by simp;omega),show off+(j+1)=off+j+1 by omega,xx a (off+j) v b (by omega)]
def rh{ι:Inj}(c:Nat->Option (Nat×Nat)):∀(parts:List (Nat×V)) (f:List (Nat×Value)) (cells l:List V) (d:Array Value),VRs ι cells d.toList->
  f.map (·.1)=parts.map (·.1)->VRs ι [] []->(∀(j i:Nat) (v:V) (x:Value),parts[j]?=some (i,v)->f[j]?=some (i,x)->VR ι v x)->zH c cells parts=some l->
  ∃q:Array Value,Instr.fill c d f=some q/\VRs ι l q.toList
 | [],f,cells,l,d,hc,e,_,_,h=>by
  simp only[zH,aq]at h;subst h;have:f=[]:=by simpa using e
  subst this;exact⟨d,rfl,hc⟩
 | (i,v)::parts,[],cells,l,d,hc,e,_,_,h=>by simp at e
 | (i,v)::parts,(r,x)::f,cells,l,d,hc,e,t,hp,h=>by
  simp only[fb,xN]at e;obtain⟨hi,e⟩:=e;subst hi;have u:=hp 0 r v x (by simp) (by simp);have g:=kB u;have w:x.cells.size=(cellsOf v).length:=by simpa using g.length
  have s:d.size=cells.length:=by simpa using hc.length
  simp only[zH]at h;simp only[Instr.fill];split at h
  ·cases h
  ·rename_i off size k;rw[k];split at h
   ·rename_i o;simp only[aC,iR]at o;obtain⟨y,p⟩:=o;have p:=aJ p;have n:(decide (x.cells.size≠size)||decide (off+x.cells.size>d.size))=false:=by
     simp only[ne_eq,gt_iff_lt,Bn,sI,CH];omega
    have m:=xq off x.cells.toList 0 d (by simp;omega);rw[<-Array.toList_zipIdx,Array.foldl_toList]at m;simp only[eJ]at m;simp only[n,cj,aG,m];exact rh c parts f _ l _ (hc.spl off g) e t (λj i v x a b=>hp (j+1) i v x (by simpa using a) (by simpa using b)) h
   ·cases h
def qo{ι:Inj}{T:List (Nat×Option V)}{a:Act}(d:TR ι T a.tmps):∀(ps:List (Nat×Operand)) (l:List (Nat×V)),md (opd T) ps=some l->
  (ps.map λ(i,x)=>(i,a.eval x)).map (·.1)=l.map (·.1)/\∀(j i:Nat) (v:V) (x:Value),l[j]?=some (i,v)->(ps.map λ(i,x)=>(i,a.eval x))[j]?=some (i,x)->VR ι v x
 | [],l,h=>by
  simp only[md,aq]at h;subst h;simp
 | (i,x)::ps,l,h=>by
  simp only[md]at h;split at h
  ·rename_i v n;split at h
   ·rename_i m g;simp only[aq]at h;subst h;obtain⟨k,f⟩:=qo d ps m g;refine⟨by simp[<-k],λj e u y c b=>?_⟩;cases j with
    | zero=>
     simp only[iE,aq,cJ]at c;obtain⟨rfl,rfl⟩:=c;simp only[fb,iE,aq,cJ,ie]at b;subst b;exact aZ d n
    | succ j=>exact f j e u y (by simpa using c) (by simpa using b)
   ·cases h
  ·cases h
def rt(ι:Inj){t:TypeId}{v:V}(h:Df P t=some v):∃z i,P.info? t=some i/\i.zero=some z/\VR ι v z/\∀w,(zeroValue t).run P w=.ok z w:=by
 unfold Df at h;split at h
 ·rename_i i hi;split at h
  ·rename_i z a;exact⟨z,i,hi,a,Cb ι h,λw=>by simp[zeroValue,typeInfo,hi,a]⟩
  ·cases h
 ·cases h
end Go.Abs
