
import Derived.Test.YtibehcmomiplnabGreatDoorAbsC
import Derived.Laws.StructEq
set_option linter.unusedSimpArgs false
set_option linter.unusedVariables false
set_option linter.defProp false
namespace Go.Abs
variable {P:Program}
def splA(a:Array Value)(k:Nat)(b:List Value):Array Value:=(a.toList.take k++(b++a.toList.drop (k+b.length))).toArray
def JC(a:Array Value)(k:Nat):splA a k []=a:=by
 unfold splA;apply mO;simp
def y6{a:Array Value}{k:Nat}{b:List Value}(h:k+b.length<=a.size):(splA a k b).size=a.size:=by
 unfold splA;simp;omega
def FV(a:Array Value)(k:Nat)(v:Value)(b:List Value)(h:k<a.size):splA (a.setIfInBounds k v) (k+1) b=splA a k (v::b):=by
 unfold splA;apply mO;simp only[Array.toList_setIfInBounds,aI];have c:(a.toList.set k v).take (k+1)=a.toList.take k++[v]:=by
  rw[Q6 (by simpa using h)];simp[List.take_set_of_le]
 rw[c,List.drop_set_of_lt (by omega)];simp[iy,qP 1]
def o7(r o j:Nat):(⟨r,o,none⟩:Addr).add j=⟨r,o+j,none⟩:=by
 unfold Addr.add;split
 ·rename_i a;subst a;rfl
 ·rfl
def mN(r o:Nat)(e:TypeId)(fr:Nat×Nat):∀(c:List Value) (i:Nat) (a:Array Value) (w:World),w.heap[r]?=some (.cells a e fr)->NF fr a.size->
  o+i+c.length<=a.size->(∀v∈c,v.oneCell'=true)->(storeCells ⟨r,o,none⟩ c i).run P w=.ok () (setObj w r (.cells (splA a (o+i) c) e fr))
 | [],i,a,w,h,_,_,_=>by simp[storeCells,JC,Jq h]
 | v::c,i,a,w,h,f,j,g=>by
  simp only[aI]at j;have b:o+i<a.size:=by omega
  have ih:=mN r o e fr c (i+1) (a.setIfInBounds (o+i) v) (setObj w r (.cells (a.setIfInBounds (o+i) v) e fr)) (Bq h) (by simpa using f)
   (by simp;omega) (λu k=>g u (fV _ k))
  have hc:w.cell? ⟨r,o+i,none⟩=some a[o+i]:=by rw[bB h];simp[b]
  have d:=tL h f b;simp only[storeCells,ay,o7,run_store P w _ v _ (g v (by simp)),hc,d,bI,aF,aE,Hj h,ih,Fo];rw[show o+(i+1)=o+i+1 by omega,FV a (o+i) v c b]
def VRs.spl{ι:Inj}{l m:List V}{E:Array Value}{F:List Value}(o:Nat)(h:VRs ι l E.toList)(C:VRs ι m F):VRs ι (spl l o m) (splA E o F).toList:=by
 unfold Abs.spl splA;rw[<-C.length];exact(h.take o).append (C.append (h.drop _))
def VRs.one{ι:Inj}:∀{m:List V} {vs:List Value},VRs ι m vs->m.all oneV=true->∀v∈vs,v.oneCell'=true
 | [],_,h,_,v,C=>by simp only[VRs]at h;subst h;cases C
 | _::_,_,h,E,v,C=>by
  simp only[VRs]at h;obtain⟨y,J,rfl,G,F⟩:=h;simp only[oL,aD]at E;rcases ck.1 C with rfl | C
  ·exact Gn G E.1
  ·exact VRs.one F E.2 v C
def sE{t:TypeId}{i:TypeInfo}(hi:P.info? t=some i){w:World}{r o:Nat}{a:Array Value}{e:TypeId}{fr:Nat×Nat}(h:w.heap[r]?=some (.cells a e fr))
  (c:NF fr a.size) {x:Value} (hx:x.cells.size=P.cellsOf t) (b:o+x.cells.size<=a.size) (d:∀v∈x.cells.toList,v.oneCell'=true):
  (Instr.storeAt t (.pointer (some ⟨r,o,none⟩)) x).run P w=.ok () (setObj w r (.cells (splA a o x.cells.toList) e fr)):=by
 simp only[Instr.storeAt,Instr.sureAddr,storeVar,ay,aH,aE,ig hi,hx,ne_eq,xj,aF];have:=mN (P:=P) r o e fr x.cells.toList 0 a w h c (by simpa using b) d;simpa using this
def P6{α:Type}{ι:Inj}{H:List (Nat×Blk)}{nb b o:Nat}{w:World}(G:WR ι H nb w){blk:Blk}(E:look H b=some blk){t:TypeId}{v:V}{x:Value}
  (f:VR ι v x) {c:Blk->Option α} {z:α} (h:tW P t blk o v c=some z):
  ∃j ob r,c j=some z/\ι b=some (some r)/\(Instr.storeAt t (.pointer (some ⟨r.r,o,none⟩)) x).run P w=.ok () (setObj w r.r ob)/\BR ι r j ob:=by
 have q:=pH f;have K:x.cells.size=(cellsOf v).length:=by simpa using q.length
 unfold tW at h;split at h
 ·split at h
  ·rename_i g;simp only[aD,kx]at g;obtain⟨D,u,B,C⟩:=g;obtain⟨i,hi⟩:=cG D;obtain⟨r,F,e,fr,A,y,d,p⟩:=uh G E;have I:F.size=F.toList.length:=by simp
   have M:=d.length;have J:=aR B;refine⟨_,_,r,h,A,sE hi y p (by omega) (by omega) (q.one C),?_⟩;exact⟨_,e,fr,rfl,d.spl o q,by rw[y6 (by simp;omega)];exact p⟩
  ·cases h
 ·rename_i k n l;obtain⟨r,e,fr,A,y,d,p⟩:=yD G E;split at h
  ·rename_i k' m;split at h
   ·rename_i g;simp only[aD,kx]at g;obtain⟨s,u⟩:=g;have s:=mh s;subst s;obtain⟨B,C⟩:=eV h;have B:o<n:=aR B;obtain⟨i,hi⟩:=cG (P:=P) (t:=t) (by rw[u];rfl);simp only[VR]at f;subst f;have hs:=sE hi (o:=o) y (by simpa[d]using p) (x:=.int k m) (by simpa[Value.cells]using u.symm) (by simp[Value.cells,d];omega) (by simp[Value.cells,Value.oneCell']);refine⟨_,_,r,C,A,hs,e,fr,?_,by simpa using d,p⟩;congr 1;unfold splA;apply mO;simp only[Value.cells,List.map_set];rw[NG,ae (by simp;omega)];simp
   ·cases h
  ·rename_i k' N L;split at h
   ·rename_i g;simp only[aD,kx]at g;obtain⟨s,rfl,rfl,D,u⟩:=g;have s:=mh s;subst s;obtain⟨i,hi⟩:=cG (P:=P) (t:=t) (by rw[u];exact D);simp only[VR]at f;obtain⟨a,rfl⟩:=f
    have hs:=sE hi (o:=0) y (by simpa[d]using p) (x:=.agg (L.map (Value.int k)).toArray) (by simp[Value.cells,a,u]) (by simp[Value.cells,d,a]) (by
     intro v f;simp only[Value.cells,eY]at f;obtain⟨n,_,rfl⟩:=f;rfl)
    refine⟨_,_,r,h,A,hs,e,fr,?_,a,p⟩;congr 1;unfold splA;apply mO;simp[Value.cells,a,d]
   ·cases h
  ·cases h
 ·cases h
def WS{b:Array Value}{base o n:Nat}{c:List Value}(h:o+c.length<=n)(k:base+n<=b.size):
  splA b (base+o) c=splA b base (((b.toList.drop base).take n).take o++(c++((b.toList.drop base).take n).drop (o+c.length))):=by
 unfold splA;congr 1;apply CS;intro i;have a:b.toList.length=b.size:=by simp
 by_cases d:i<base
 ·rw[qp (by simp;omega),qp (by simp;omega)];simp[d,show i<base+o by omega]
 ·obtain⟨j,rfl⟩:∃j,i=base+j:=⟨i - base,by omega⟩;rw[s9 (l₁:=b.toList.take base) (by simp;omega)];simp only[dN,a,vM (by omega:base<=b.size),IS];by_cases e:j<o
  ·rw[qp (by simp;omega),qp (by simp;omega),qp (by simp;omega)];simp[e,show base+j<base+o by omega,show j<n by omega,m7,mQ]
  ·by_cases g:j<o+c.length
   ·rw[s9 (by simp;omega),qp (by simp;omega),qp (by simp;omega),s9 (by simp;omega),qp (by simp;omega)];simp only[dN,cg,a];congr 1;omega
   ·rw[s9 (by simp;omega),s9 (by simp;omega)];simp only[dN,cg,a];by_cases f:j<n
    ·rw[qp (by simp;omega),s9 (by simp;omega),s9 (by simp;omega)];simp only[dN,cg,a,mQ];rw[m7 (by omega),mQ];congr 1;omega
    ·rw[s9 (by simp;omega)];simp only[aV,dN,cg,a,mQ];congr 1;omega
def Oa{α:Type}{ι:Inj}{w:World}{r o base:Nat}{a:Array Value}{e:TypeId}{fr:Nat×Nat}{l:List V}(u:w.heap[r]?=some (.cells a e fr))
  (k:VRs ι l ((a.toList.drop base).take l.length)) (d:base+l.length<=a.size) {t:TypeId} {v:V} {x:Value} (s:VR ι v x) {c:Blk->Option α} {z:α}
  (h:tW P t (.cells l) o v c=some z):
  ∃p X,c (.cells p)=some z/\X.length=l.length/\VRs ι p X/\(NF fr a.size->(Instr.storeAt t (.pointer (some ⟨r,base+o,none⟩)) x).run P w=.ok () (setObj w r (.cells (splA a base X) e fr))):=by
 have b:=pH s;have g:x.cells.size=(cellsOf v).length:=by simpa using b.length
 simp only[tW]at h;split at h
 ·rename_i m;simp only[aD,kx]at m;obtain⟨y,C,A,q⟩:=m;obtain⟨i,hi⟩:=cG y;have B:=aR A;have f:x.cells.toList.length=(cellsOf v).length:=by simpa using g
  refine⟨_,_,h,?_,?_,λj=>by
   have hs:=sE hi u j (o:=base+o) (x:=x) (by omega) (by omega) (b.one q);rw[WS (n:=l.length) (by omega) d]at hs;exact hs⟩
  ·simp only[aV,dN,cg,f];have:a.toList.length=a.size:=by simp
   omega
  ·unfold Abs.spl;rw[f];exact(k.take o).append (b.append (k.drop _))
 ·cases h
def Ak{t:List Lf}:∀(l:List (den t)) (j:Nat),(l.take j).flatMap (vals t)=(l.flatMap (vals t)).take (j*t.length)
 | [],j=>by simp
 | y::l,0=>by simp
 | y::l,j+1=>by
  have b:=iK t y;simp only[ox,pV,Ak l j,iV,zM];have a:(vals t y).take (j*t.length+t.length)=vals t y:=kr (by omega);rw[Ih (l₁:=vals t y),a,b,Jm]
def Br{t:List Lf}:∀(l:List (den t)) (j:Nat),(l.drop j).flatMap (vals t)=(l.flatMap (vals t)).drop (j*t.length)
 | [],j=>by simp
 | y::l,0=>by simp
 | y::l,j+1=>by
  have b:=iK t y;simp only[pP,pV,Br l j,iV,zM];have a:(vals t y).drop (j*t.length+t.length)=[]:=kW (by omega);rw[Lm (l₁:=vals t y),a,b,Jm,eo]
def Ua{t:List Lf}(l:List (den t))(j:Nat)(x:den t)(h:j<l.length):
  (l.set j x).flatMap (vals t)=(l.flatMap (vals t)).take (j*t.length)++(vals t x++(l.flatMap (vals t)).drop (j*t.length+t.length)):=by
 rw[NG,ae h,Kz,pV,Ak,Br,iV,zM]
def Gw{a:Array Value}{o k:Nat}{c:List Value}(h:o+k<=a.size):
  (splA a (o+k) c).toList.drop o=(a.toList.drop o).take k++(c++(a.toList.drop o).drop (k+c.length)):=by
 have b:a.toList.length=a.size:=by simp
 unfold splA;simp only;rw[Lm,dN,b,vM h,Bi,IS,Nat.sub_eq_zero_of_le (ED o k),cM,km,iy]
def SD{t:List Lf}{l:List (den t)}{a:Array Value}{o:Nat}(hs:o+l.length*t.length<=a.size)(h:(a.toList.drop o).take (l.length*t.length)=l.flatMap (vals t)){j:Nat}(x:den t)(b:j<l.length):
  ((splA a (o+j*t.length) (vals t x)).toList.drop o).take ((l.set j x).length*t.length)=(l.set j x).flatMap (vals t):=by
 have e:j*t.length+t.length<=l.length*t.length:=by
  have:=qX t.length (show j+1<=l.length from b);rw[iV]at this;omega
 rw[Ua l j x b,<-h,IH,Gw (by omega)];generalize d:a.toList.drop o=L;have c:l.length*t.length<=L.length:=by rw[<-d];simp;omega
 rw[iK,Ih,D7,dN,Ih,Bi,iK];rw[Nat.min_eq_right (by omega:j*t.length<=l.length*t.length),vM (by omega:j*t.length<=L.length)];congr 1
 ·rw[D7,vM (by omega)]
 ·congr 1
  ·rw[kr (by rw[iK];omega)]
  ·congr 1;omega
def F5(off:Nat):∀(b:List Value) (j:Nat) (a:Array Value),off+j+b.length<=a.size->
  (b.zipIdx j).foldl (λa (p:Value×Nat)=>a.setIfInBounds (off+p.2) p.1) a=splA a (off+j) b
 | [],j,a,_=>by simp[JC]
 | v::b,j,a,h=>by
  simp only[aI]at h;simp only[List.zipIdx_cons,xW];rw[F5 off b (j+1) _ (by simp;omega),show off+(j+1)=off+j+1 by omega,FV a (off+j) v b (by omega)]
def yJ{ι:Inj}(c:Nat->Option (Nat×Nat)):∀(parts:List (Nat×V)) (f:List (Nat×Value)) (cells l:List V) (d:Array Value),VRs ι cells d.toList->
  f.map (·.1)=parts.map (·.1)->VRs ι [] []->(∀(j i:Nat) (v:V) (x:Value),parts[j]?=some (i,v)->f[j]?=some (i,x)->VR ι v x)->HU c cells parts=some l->
  ∃o:Array Value,Instr.fill c d f=some o/\VRs ι l o.toList
 | [],f,cells,l,d,hc,e,_,_,h=>by
  simp only[HU,aw]at h;subst h;have:f=[]:=by simpa using e
  subst this;exact⟨d,rfl,hc⟩
 | (i,v)::parts,[],cells,l,d,hc,e,_,_,h=>by simp at e
 | (i,v)::parts,(w,x)::f,cells,l,d,hc,e,t,hp,h=>by
  simp only[gW,J6]at e;obtain⟨hi,e⟩:=e;subst hi;have u:=hp 0 w v x (by simp) (by simp);have g:=pH u;have r:x.cells.size=(cellsOf v).length:=by simpa using g.length
  have s:d.size=cells.length:=by simpa using hc.length
  simp only[HU]at h;simp only[Instr.fill];split at h
  ·cases h
  ·rename_i off size k;rw[k];split at h
   ·rename_i p;simp only[aD,kx]at p;obtain⟨y,q⟩:=p;have q:=aR q;have n:(decide (x.cells.size≠size)||decide (off+x.cells.size>d.size))=false:=by
     simp only[ne_eq,gt_iff_lt,qt,vX,Oj];omega
    have m:=F5 off x.cells.toList 0 d (by simp;omega);rw[<-Array.toList_zipIdx,Array.foldl_toList]at m;simp only[dj]at m;simp only[n,bI,aF,m];exact yJ c parts f _ l _ (hc.spl off g) e t (λj i v x a b=>hp (j+1) i v x (by simpa using a) (by simpa using b)) h
   ·cases h
def xe{ι:Inj}{T:List (Nat×Option V)}{a:Act}(d:TR ι T a.tmps):∀(ps:List (Nat×Operand)) (l:List (Nat×V)),sM (opd T) ps=some l->
  (ps.map λ(i,x)=>(i,a.eval x)).map (·.1)=l.map (·.1)/\∀(j i:Nat) (v:V) (x:Value),l[j]?=some (i,v)->(ps.map λ(i,x)=>(i,a.eval x))[j]?=some (i,x)->VR ι v x
 | [],l,h=>by
  simp only[sM,aw]at h;subst h;simp
 | (i,x)::ps,l,h=>by
  simp only[sM]at h;split at h
  ·rename_i v e;split at h
   ·rename_i m g;simp only[aw]at h;subst h;obtain⟨k,n⟩:=xe d ps m g;refine⟨by simp[<-k],λj f u y c b=>?_⟩;cases j with
    | zero=>
     simp only[mV,aw,bP]at c;obtain⟨rfl,rfl⟩:=c;simp only[gW,mV,aw,bP,lL]at b;subst b;exact bL d e
    | succ j=>exact n j f u y (by simpa using c) (by simpa using b)
   ·cases h
  ·cases h
def yO(ι:Inj){t:TypeId}{v:V}(h:Nb P t=some v):∃z i,P.info? t=some i/\i.zero=some z/\VR ι v z/\∀w,(zeroValue t).run P w=.ok z w:=by
 unfold Nb at h;split at h
 ·rename_i i hi;split at h
  ·rename_i z a;exact⟨z,i,hi,a,Kv ι h,λw=>by simp[zeroValue,typeInfo,hi,a]⟩
  ·cases h
 ·cases h
end Go.Abs
