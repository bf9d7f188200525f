
import Derived.Test.YtjkmipianfkncaaGreatDoorAbsC
import Derived.Laws.StructEq
set_option linter.unusedVariables false
set_option linter.unusedSimpArgs false
set_option linter.defProp false
namespace Go.Abs
variable {P:Program}
def splA(a:Array Value)(k:Nat)(b:List Value):Array Value:=(a.toList.take k++(b++a.toList.drop (k+b.length))).toArray
def HJ(a:Array Value)(k:Nat):splA a k []=a:=by
 unfold splA;apply mS;simp
def yb{a:Array Value}{k:Nat}{b:List Value}(h:k+b.length<=a.size):(splA a k b).size=a.size:=by
 unfold splA;simp;omega
def Dz(a:Array Value)(k:Nat)(v:Value)(b:List Value)(h:k<a.size):splA (a.setIfInBounds k v) (k+1) b=splA a k (v::b):=by
 unfold splA;apply mS;simp only[Array.toList_setIfInBounds,aN];have c:(a.toList.set k v).take (k+1)=a.toList.take k++[v]:=by
  rw[J2 (by simpa using h)];simp[List.take_set_of_le]
 rw[c,List.drop_set_of_lt (by omega)];simp[gX,pD 1]
def nc(r o j:Nat):(⟨r,o,none⟩:Addr).add j=⟨r,o+j,none⟩:=by
 unfold Addr.add;split
 ·rename_i a;subst a;rfl
 ·rfl
def kJ(r o:Nat)(e:TypeId)(fr:Nat×Nat):∀(b:List Value) (i:Nat) (a:Array Value) (w:World),w.heap[r]?=some (.cells a e fr)->NF fr a.size->
  o+i+b.length<=a.size->(∀v∈b,v.oneCell'=true)->(storeCells ⟨r,o,none⟩ b i).run P w=.ok () (setObj w r (.cells (splA a (o+i) b) e fr))
 | [],i,a,w,h,_,_,_=>by simp[storeCells,HJ,Ff h]
 | v::b,i,a,w,h,f,j,g=>by
  simp only[aN]at j;have c:o+i<a.size:=by omega
  have ih:=kJ r o e fr b (i+1) (a.setIfInBounds (o+i) v) (setObj w r (.cells (a.setIfInBounds (o+i) v) e fr)) (yp h) (by simpa using f)
   (by simp;omega) (λu k=>g u (gm _ k))
  have hc:w.cell? ⟨r,o+i,none⟩=some a[o+i]:=by rw[bB h];simp[c]
  have d:=qC h f c;simp only[storeCells,aw,nc,run_store P w _ v _ (g v (by simp)),hc,d,bj,az,ay,DY h,ih,Ab];rw[show o+(i+1)=o+i+1 by omega,Dz a (o+i) v b c]
def VRs.spl{ι:Inj}{l m:List V}{E:Array Value}{F:List Value}(o:Nat)(h:VRs ι l E.toList)(C:VRs ι m F):VRs ι (spl l o m) (splA E o F).toList:=by
 unfold Abs.spl splA;rw[<-C.length];exact(h.take o).append (C.append (h.drop _))
def VRs.one{ι:Inj}:∀{m:List V} {vs:List Value},VRs ι m vs->m.all oneV=true->∀v∈vs,v.oneCell'=true
 | [],_,h,_,v,C=>by simp only[VRs]at h;subst h;cases C
 | _::_,_,h,E,v,C=>by
  simp only[VRs]at h;obtain⟨y,ys,rfl,G,F⟩:=h;simp only[mK,aC]at E;rcases de.1 C with rfl | C
  ·exact C9 G E.1
  ·exact VRs.one F E.2 v C
def pa{t:TypeId}{i:TypeInfo}(hi:P.info? t=some i){w:World}{r o:Nat}{a:Array Value}{e:TypeId}{fr:Nat×Nat}(h:w.heap[r]?=some (.cells a e fr))
  (d:NF fr a.size) {x:Value} (hx:x.cells.size=P.cellsOf t) (c:o+x.cells.size<=a.size) (b:∀v∈x.cells.toList,v.oneCell'=true):
  (Instr.storeAt t (.pointer (some ⟨r,o,none⟩)) x).run P w=.ok () (setObj w r (.cells (splA a o x.cells.toList) e fr)):=by
 simp only[Instr.storeAt,Instr.sureAddr,storeVar,aw,aB,ay,f9 hi,hx,ne_eq,ux,az];have:=kJ (P:=P) r o e fr x.cells.toList 0 a w h d (by simpa using c) b;simpa using this
def Jm{α:Type}{ι:Inj}{H:List (Nat×Blk)}{nb b o:Nat}{w:World}(F:WR ι H nb w){blk:Blk}(G:look H b=some blk){t:TypeId}{v:V}{x:Value}
  (j:VR ι v x) {c:Blk->Option α} {z:α} (h:qp P t blk o v c=some z):
  ∃g ob r,c g=some z/\ι b=some (some r)/\(Instr.storeAt t (.pointer (some ⟨r.r,o,none⟩)) x).run P w=.ok () (setObj w r.r ob)/\BR ι r g ob:=by
 have p:=nq j;have M:x.cells.size=(cellsOf v).length:=by simpa using p.length
 unfold qp at h;split at h
 ·split at h
  ·rename_i f;simp only[aC,jn]at f;obtain⟨D,u,y,C⟩:=f;obtain⟨i,hi⟩:=bX D;obtain⟨r,E,e,fr,B,A,a,q⟩:=qI F G;have L:E.size=E.toList.length:=by simp
   have K:=a.length;have I:=aH y;refine⟨_,_,r,h,B,pa hi A q (by omega) (by omega) (p.one C),?_⟩;exact⟨_,e,fr,rfl,a.spl o p,by rw[yb (by simp;omega)];exact q⟩
  ·cases h
 ·rename_i k n l;obtain⟨r,e,fr,B,A,a,q⟩:=vO F G;split at h
  ·rename_i k' m;split at h
   ·rename_i f;simp only[aC,jn]at f;obtain⟨s,u⟩:=f;have s:=k9 s;subst s;obtain⟨y,C⟩:=eZ h;have y:o<n:=aH y;obtain⟨i,hi⟩:=bX (P:=P) (t:=t) (by rw[u];rfl);simp only[VR]at j;subst j;have hs:=pa hi (o:=o) A (by simpa[a]using q) (x:=.int k m) (by simpa[Value.cells]using u.symm) (by simp[Value.cells,a];omega) (by simp[Value.cells,Value.oneCell']);refine⟨_,_,r,C,B,hs,e,fr,?_,by simpa using a,q⟩;congr 1;unfold splA;apply mS;simp only[Value.cells,List.map_set];rw[Kx,ae (by simp;omega)];simp
   ·cases h
  ·rename_i k' N J;split at h
   ·rename_i f;simp only[aC,jn]at f;obtain⟨s,rfl,rfl,D,u⟩:=f;have s:=k9 s;subst s;obtain⟨i,hi⟩:=bX (P:=P) (t:=t) (by rw[u];exact D);simp only[VR]at j;obtain⟨d,rfl⟩:=j
    have hs:=pa hi (o:=0) A (by simpa[a]using q) (x:=.agg (J.map (Value.int k)).toArray) (by simp[Value.cells,d,u]) (by simp[Value.cells,a,d]) (by
     intro v j;simp only[Value.cells,eU]at j;obtain⟨n,_,rfl⟩:=j;rfl)
    refine⟨_,_,r,h,B,hs,e,fr,?_,d,q⟩;congr 1;unfold splA;apply mS;simp[Value.cells,d,a]
   ·cases h
  ·cases h
 ·cases h
def SC{b:Array Value}{base o n:Nat}{c:List Value}(h:o+c.length<=n)(k:base+n<=b.size):
  splA b (base+o) c=splA b base (((b.toList.drop base).take n).take o++(c++((b.toList.drop base).take n).drop (o+c.length))):=by
 unfold splA;congr 1;apply B9;intro i;have a:b.toList.length=b.size:=by simp
 by_cases d:i<base
 ·rw[nF (by simp;omega),nF (by simp;omega)];simp[d,show i<base+o by omega]
 ·obtain⟨j,rfl⟩:∃j,i=base+j:=⟨i - base,by omega⟩;rw[pW (l₁:=b.toList.take base) (by simp;omega)];simp only[dq,a,sO (by omega:base<=b.size),Fg];by_cases e:j<o
  ·rw[nF (by simp;omega),nF (by simp;omega),nF (by simp;omega)];simp[e,show base+j<base+o by omega,show j<n by omega,qm,nv]
  ·by_cases g:j<o+c.length
   ·rw[pW (by simp;omega),nF (by simp;omega),nF (by simp;omega),pW (by simp;omega),nF (by simp;omega)];simp only[dq,ba,a];congr 1;omega
   ·rw[pW (by simp;omega),pW (by simp;omega)];simp only[dq,ba,a];by_cases f:j<n
    ·rw[nF (by simp;omega),pW (by simp;omega),pW (by simp;omega)];simp only[dq,ba,a,nv];rw[qm (by omega),nv];congr 1;omega
    ·rw[pW (by simp;omega)];simp only[bw,dq,ba,a,nv];congr 1;omega
def MZ{α:Type}{ι:Inj}{w:World}{r o base:Nat}{a:Array Value}{e:TypeId}{fr:Nat×Nat}{l:List V}(q:w.heap[r]?=some (.cells a e fr))
  (k:VRs ι l ((a.toList.drop base).take l.length)) (f:base+l.length<=a.size) {t:TypeId} {v:V} {x:Value} (B:VR ι v x) {c:Blk->Option α} {z:α}
  (h:qp P t (.cells l) o v c=some z):
  ∃p X,c (.cells p)=some z/\X.length=l.length/\VRs ι p X/\(NF fr a.size->(Instr.storeAt t (.pointer (some ⟨r,base+o,none⟩)) x).run P w=.ok () (setObj w r (.cells (splA a base X) e fr))):=by
 have b:=nq B;have j:x.cells.size=(cellsOf v).length:=by simpa using b.length
 simp only[qp]at h;split at h
 ·rename_i m;simp only[aC,jn]at m;obtain⟨y,C,A,s⟩:=m;obtain⟨i,hi⟩:=bX y;have u:=aH A;have d:x.cells.toList.length=(cellsOf v).length:=by simpa using j
  refine⟨_,_,h,?_,?_,λg=>by
   have hs:=pa hi q g (o:=base+o) (x:=x) (by omega) (by omega) (b.one s);rw[SC (n:=l.length) (by omega) f]at hs;exact hs⟩
  ·simp only[bw,dq,ba,d];have:a.toList.length=a.size:=by simp
   omega
  ·unfold Abs.spl;rw[d];exact(k.take o).append (b.append (k.drop _))
 ·cases h
def xg{t:List Lf}:∀(l:List (den t)) (j:Nat),(l.take j).flatMap (vals t)=(l.flatMap (vals t)).take (j*t.length)
 | [],j=>by simp
 | y::l,0=>by simp
 | y::l,j+1=>by
  have a:=jN t y;simp only[pf,qK,xg l j,gY,xa];have b:(vals t y).take (j*t.length+t.length)=vals t y:=iR (by omega);rw[EP (l₁:=vals t y),b,a,FC]
def xY{t:List Lf}:∀(l:List (den t)) (j:Nat),(l.drop j).flatMap (vals t)=(l.flatMap (vals t)).drop (j*t.length)
 | [],j=>by simp
 | y::l,0=>by simp
 | y::l,j+1=>by
  have a:=jN t y;simp only[oJ,qK,xY l j,gY,xa];have b:(vals t y).drop (j*t.length+t.length)=[]:=iU (by omega);rw[GW (l₁:=vals t y),b,a,FC,dI]
def OY{t:List Lf}(l:List (den t))(j:Nat)(x:den t)(h:j<l.length):
  (l.set j x).flatMap (vals t)=(l.flatMap (vals t)).take (j*t.length)++(vals t x++(l.flatMap (vals t)).drop (j*t.length+t.length)):=by
 rw[Kx,ae h,LF,qK,xg,xY,gY,xa]
def Dm{a:Array Value}{o k:Nat}{b:List Value}(h:o+k<=a.size):
  (splA a (o+k) b).toList.drop o=(a.toList.drop o).take k++(b++(a.toList.drop o).drop (k+b.length)):=by
 have c:a.toList.length=a.size:=by simp
 unfold splA;simp only;rw[GW,dq,c,sO h,xW,Fg,Nat.sub_eq_zero_of_le (AO o k),bI,i7,gX]
def N5{t:List Lf}{l:List (den t)}{a:Array Value}{o:Nat}(hs:o+l.length*t.length<=a.size)(h:(a.toList.drop o).take (l.length*t.length)=l.flatMap (vals t)){j:Nat}(x:den t)(b:j<l.length):
  ((splA a (o+j*t.length) (vals t x)).toList.drop o).take ((l.set j x).length*t.length)=(l.set j x).flatMap (vals t):=by
 have c:j*t.length+t.length<=l.length*t.length:=by
  have:=n8 t.length (show j+1<=l.length from b);rw[gY]at this;omega
 rw[OY l j x b,<-h,List.length_set,Dm (by omega)];generalize e:a.toList.drop o=L;have d:l.length*t.length<=L.length:=by rw[<-e];simp;omega
 rw[jN,EP,Ad,dq,EP,xW,jN];rw[Nat.min_eq_right (by omega:j*t.length<=l.length*t.length),sO (by omega:j*t.length<=L.length)];congr 1
 ·rw[Ad,sO (by omega)]
 ·congr 1
  ·rw[iR (by rw[jN];omega)]
  ·congr 1;omega
def D5(off:Nat):∀(b:List Value) (j:Nat) (a:Array Value),off+j+b.length<=a.size->
  (b.zipIdx j).foldl (λa (p:Value×Nat)=>a.setIfInBounds (off+p.2) p.1) a=splA a (off+j) b
 | [],j,a,_=>by simp[HJ]
 | v::b,j,a,h=>by
  simp only[aN]at h;simp only[List.zipIdx_cons,vb];rw[D5 off b (j+1) _ (by simp;omega),show off+(j+1)=off+j+1 by omega,Dz a (off+j) v b (by omega)]
def vP{ι:Inj}(c:Nat->Option (Nat×Nat)):∀(parts:List (Nat×V)) (f:List (Nat×Value)) (cells l:List V) (d:Array Value),VRs ι cells d.toList->
  f.map (·.1)=parts.map (·.1)->VRs ι [] []->(∀(j i:Nat) (v:V) (x:Value),parts[j]?=some (i,v)->f[j]?=some (i,x)->VR ι v x)->Ef c cells parts=some l->
  ∃o:Array Value,Instr.fill c d f=some o/\VRs ι l o.toList
 | [],f,cells,l,d,hc,e,_,_,h=>by
  simp only[Ef,ar]at h;subst h;have:f=[]:=by simpa using e
  subst this;exact⟨d,rfl,hc⟩
 | (i,v)::parts,[],cells,l,d,hc,e,_,_,h=>by simp at e
 | (i,v)::parts,(w,x)::f,cells,l,d,hc,e,r,hp,h=>by
  simp only[fV,Nu]at e;obtain⟨hi,e⟩:=e;subst hi;have s:=hp 0 w v x (by simp) (by simp);have g:=nq s;have u:x.cells.size=(cellsOf v).length:=by simpa using g.length
  have t:d.size=cells.length:=by simpa using hc.length
  simp only[Ef]at h;simp only[Instr.fill];split at h
  ·cases h
  ·rename_i off size n;rw[n];split at h
   ·rename_i q;simp only[aC,jn]at q;obtain⟨y,p⟩:=q;have p:=aH p;have m:(decide (x.cells.size≠size)||decide (off+x.cells.size>d.size))=false:=by
     simp only[ne_eq,gt_iff_lt,oP,uj,NB];omega
    have k:=D5 off x.cells.toList 0 d (by simp;omega);rw[<-Array.toList_zipIdx,Array.foldl_toList]at k;simp only[cG]at k;simp only[m,bj,az,k];exact vP c parts f _ l _ (hc.spl off g) e r (λj i v x a b=>hp (j+1) i v x (by simpa using a) (by simpa using b)) h
   ·cases h
def uV{ι:Inj}{T:List (Nat×Option V)}{a:Act}(d:TR ι T a.tmps):∀(ps:List (Nat×Operand)) (l:List (Nat×V)),pN (opd T) ps=some l->
  (ps.map λ(i,x)=>(i,a.eval x)).map (·.1)=l.map (·.1)/\∀(j i:Nat) (v:V) (x:Value),l[j]?=some (i,v)->(ps.map λ(i,x)=>(i,a.eval x))[j]?=some (i,x)->VR ι v x
 | [],l,h=>by
  simp only[pN,ar]at h;subst h;simp
 | (i,x)::ps,l,h=>by
  simp only[pN]at h;split at h
  ·rename_i v g;split at h
   ·rename_i m e;simp only[ar]at h;subst h;obtain⟨f,k⟩:=uV d ps m e;refine⟨by simp[<-f],λj n u y c b=>?_⟩;cases j with
    | zero=>
     simp only[mC,ar,bm]at c;obtain⟨rfl,rfl⟩:=c;simp only[fV,mC,ar,bm,jD]at b;subst b;exact br d g
    | succ j=>exact k j n u y (by simpa using c) (by simpa using b)
   ·cases h
  ·cases h
def vD(ι:Inj){t:TypeId}{v:V}(h:IN P t=some v):∃z i,P.info? t=some i/\i.zero=some z/\VR ι v z/\∀w,(zeroValue t).run P w=.ok z w:=by
 unfold IN at h;split at h
 ·rename_i i hi;split at h
  ·rename_i z a;exact⟨z,i,hi,a,GO ι h,λw=>by simp[zeroValue,typeInfo,hi,a]⟩
  ·cases h
 ·cases h
end Go.Abs
