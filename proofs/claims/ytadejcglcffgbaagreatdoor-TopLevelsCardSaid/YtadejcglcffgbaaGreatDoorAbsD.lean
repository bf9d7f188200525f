
import Derived.Test.YtadejcglcffgbaaGreatDoorAbsC
import Derived.Laws.StructEq
set_option linter.unusedVariables false
set_option linter.unusedSimpArgs false
set_option linter.defProp false
namespace Go.Abs
variable {P:Program}
def splA(a:Array Value)(k:Nat)(b:List Value):Array Value:=(a.toList.take k++(b++a.toList.drop (k+b.length))).toArray
def Ja(a:Array Value)(k:Nat):splA a k []=a:=by
 unfold splA;apply lq;simp
def xg{a:Array Value}{k:Nat}{b:List Value}(h:k+b.length<=a.size):(splA a k b).size=a.size:=by
 unfold splA;simp;omega
def D5(a:Array Value)(k:Nat)(v:Value)(b:List Value)(h:k<a.size):splA (a.setIfInBounds k v) (k+1) b=splA a k (v::b):=by
 unfold splA;apply lq;simp only[Array.toList_setIfInBounds,aG];have c:(a.toList.set k v).take (k+1)=a.toList.take k++[v]:=by
  rw[Oo (by simpa using h)];simp[List.take_set_of_le]
 rw[c,List.drop_set_of_lt (by omega)];simp[ig,oP 1]
def nJ(r o j:Nat):(⟨r,o,none⟩:Addr).add j=⟨r,o+j,none⟩:=by
 unfold Addr.add;split
 ·rename_i a;subst a;rfl
 ·rfl
def li(r o:Nat)(e:TypeId)(fr:Nat×Nat):∀(c:List Value) (i:Nat) (a:Array Value) (w:World),w.heap[r]?=some (.cells a e fr)->NF fr a.size->
  o+i+c.length<=a.size->(∀v∈c,v.oneCell'=true)->(storeCells ⟨r,o,none⟩ c i).run P w=.ok () (setObj w r (.cells (splA a (o+i) c) e fr))
 | [],i,a,w,h,_,_,_=>by simp[storeCells,Ja,Fz h]
 | v::c,i,a,w,h,g,j,f=>by
  simp only[aG]at j;have b:o+i<a.size:=by omega
  have ih:=li r o e fr c (i+1) (a.setIfInBounds (o+i) v) (setObj w r (.cells (a.setIfInBounds (o+i) v) e fr)) (xY h) (by simpa using g)
   (by simp;omega) (λu k=>f u (fD _ k))
  have hc:w.cell? ⟨r,o+i,none⟩=some a[o+i]:=by rw[bg h];simp[b]
  have d:=rz h g b;simp only[storeCells,az,nJ,run_store P w _ v _ (f v (by simp)),hc,d,bQ,aF,aA,Fb h,ih,BN];rw[show o+(i+1)=o+i+1 by omega,D5 a (o+i) v c b]
def VRs.spl{ι:Inj}{l m:List V}{C:Array Value}{E:List Value}(o:Nat)(h:VRs ι l C.toList)(F:VRs ι m E):VRs ι (spl l o m) (splA C o E).toList:=by
 unfold Abs.spl splA;rw[<-F.length];exact(h.take o).append (F.append (h.drop _))
def VRs.one{ι:Inj}:∀{m:List V} {vs:List Value},VRs ι m vs->m.all oneV=true->∀v∈vs,v.oneCell'=true
 | [],_,h,_,v,C=>by simp only[VRs]at h;subst h;cases C
 | _::_,_,h,E,v,C=>by
  simp only[VRs]at h;obtain⟨y,J,rfl,F,G⟩:=h;simp only[m7,aB]at E;rcases cb.1 C with rfl | C
  ·exact Df F E.1
  ·exact VRs.one G E.2 v C
def qf{t:TypeId}{i:TypeInfo}(hi:P.info? t=some i){w:World}{r o:Nat}{a:Array Value}{e:TypeId}{fr:Nat×Nat}(h:w.heap[r]?=some (.cells a e fr))
  (b:NF fr a.size) {x:Value} (hx:x.cells.size=P.cellsOf t) (d:o+x.cells.size<=a.size) (c:∀v∈x.cells.toList,v.oneCell'=true):
  (Instr.storeAt t (.pointer (some ⟨r,o,none⟩)) x).run P w=.ok () (setObj w r (.cells (splA a o x.cells.toList) e fr)):=by
 simp only[Instr.storeAt,Instr.sureAddr,storeVar,az,aD,aA,gk hi,hx,ne_eq,vg,aF];have:=li (P:=P) r o e fr x.cells.toList 0 a w h b (by simpa using d) c;simpa using this
def Ln{α:Type}{ι:Inj}{H:List (Nat×Blk)}{nb b o:Nat}{w:World}(F:WR ι H nb w){blk:Blk}(G:look H b=some blk){t:TypeId}{v:V}{x:Value}
  (j:VR ι v x) {c:Blk->Option α} {z:α} (h:ri P t blk o v c=some z):
  ∃g ob r,c g=some z/\ι b=some (some r)/\(Instr.storeAt t (.pointer (some ⟨r.r,o,none⟩)) x).run P w=.ok () (setObj w r.r ob)/\BR ι r g ob:=by
 have q:=nL j;have L:x.cells.size=(cellsOf v).length:=by simpa using q.length
 unfold ri at h;split at h
 ·split at h
  ·rename_i f;simp only[aB,js]at f;obtain⟨C,u,y,D⟩:=f;obtain⟨i,hi⟩:=cg C;obtain⟨r,E,e,fr,B,A,a,p⟩:=rE F G;have I:E.size=E.toList.length:=by simp
   have M:=a.length;have K:=aI y;refine⟨_,_,r,h,B,qf hi A p (by omega) (by omega) (q.one D),?_⟩;exact⟨_,e,fr,rfl,a.spl o q,by rw[xg (by simp;omega)];exact p⟩
  ·cases h
 ·rename_i k n l;obtain⟨r,e,fr,B,A,a,p⟩:=vY F G;split at h
  ·rename_i k' m;split at h
   ·rename_i f;simp only[aB,js]at f;obtain⟨s,u⟩:=f;have s:=la s;subst s;obtain⟨y,D⟩:=dU h;have y:o<n:=aI y;obtain⟨i,hi⟩:=cg (P:=P) (t:=t) (by rw[u];rfl);simp only[VR]at j;subst j;have hs:=qf hi (o:=o) A (by simpa[a]using p) (x:=.int k m) (by simpa[Value.cells]using u.symm) (by simp[Value.cells,a];omega) (by simp[Value.cells,Value.oneCell']);refine⟨_,_,r,D,B,hs,e,fr,?_,by simpa using a,p⟩;congr 1;unfold splA;apply lq;simp only[Value.cells,List.map_set];rw[MX,ae (by simp;omega)];simp
   ·cases h
  ·rename_i k' N J;split at h
   ·rename_i f;simp only[aB,js]at f;obtain⟨s,rfl,rfl,C,u⟩:=f;have s:=la s;subst s;obtain⟨i,hi⟩:=cg (P:=P) (t:=t) (by rw[u];exact C);simp only[VR]at j;obtain⟨d,rfl⟩:=j
    have hs:=qf hi (o:=0) A (by simpa[a]using p) (x:=.agg (J.map (Value.int k)).toArray) (by simp[Value.cells,d,u]) (by simp[Value.cells,a,d]) (by
     intro v j;simp only[Value.cells,eF]at j;obtain⟨n,_,rfl⟩:=j;rfl)
    refine⟨_,_,r,h,B,hs,e,fr,?_,d,p⟩;congr 1;unfold splA;apply lq;simp[Value.cells,d,a]
   ·cases h
  ·cases h
 ·cases h
def Vj{b:Array Value}{base o n:Nat}{c:List Value}(h:o+c.length<=n)(f:base+n<=b.size):
  splA b (base+o) c=splA b base (((b.toList.drop base).take n).take o++(c++((b.toList.drop base).take n).drop (o+c.length))):=by
 unfold splA;congr 1;apply AD;intro i;have a:b.toList.length=b.size:=by simp
 by_cases e:i<base
 ·rw[n6 (by simp;omega),n6 (by simp;omega)];simp[e,show i<base+o by omega]
 ·obtain⟨j,rfl⟩:∃j,i=base+j:=⟨i - base,by omega⟩;rw[qQ (l₁:=b.toList.take base) (by simp;omega)];simp only[dA,a,ta (by omega:base<=b.size),GY];by_cases d:j<o
  ·rw[n6 (by simp;omega),n6 (by simp;omega),n6 (by simp;omega)];simp[d,show base+j<base+o by omega,show j<n by omega,mW,lK]
  ·by_cases k:j<o+c.length
   ·rw[qQ (by simp;omega),n6 (by simp;omega),n6 (by simp;omega),qQ (by simp;omega),n6 (by simp;omega)];simp only[dA,ci,a];congr 1;omega
   ·rw[qQ (by simp;omega),qQ (by simp;omega)];simp only[dA,ci,a];by_cases g:j<n
    ·rw[n6 (by simp;omega),qQ (by simp;omega),qQ (by simp;omega)];simp only[dA,ci,a,lK];rw[mW (by omega),lK];congr 1;omega
    ·rw[qQ (by simp;omega)];simp only[aZ,dA,ci,a,lK];congr 1;omega
def Lm{α:Type}{ι:Inj}{w:World}{r o base:Nat}{b:Array Value}{e:TypeId}{fr:Nat×Nat}{l:List V}(B:w.heap[r]?=some (.cells b e fr))
  (p:VRs ι l ((b.toList.drop base).take l.length)) (d:base+l.length<=b.size) {t:TypeId} {v:V} {x:Value} (s:VR ι v x) {c:Blk->Option α} {z:α}
  (h:ri P t (.cells l) o v c=some z):
  ∃m X,c (.cells m)=some z/\X.length=l.length/\VRs ι m X/\(NF fr b.size->(Instr.storeAt t (.pointer (some ⟨r,base+o,none⟩)) x).run P w=.ok () (setObj w r (.cells (splA b base X) e fr))):=by
 have a:=nL s;have g:x.cells.size=(cellsOf v).length:=by simpa using a.length
 simp only[ri]at h;split at h
 ·rename_i k;simp only[aB,js]at k;obtain⟨u,C,q,y⟩:=k;obtain⟨i,hi⟩:=cg u;have A:=aI q;have f:x.cells.toList.length=(cellsOf v).length:=by simpa using g
  refine⟨_,_,h,?_,?_,λj=>by
   have hs:=qf hi B j (o:=base+o) (x:=x) (by omega) (by omega) (a.one y);rw[Vj (n:=l.length) (by omega) d]at hs;exact hs⟩
  ·simp only[aZ,dA,ci,f];have:b.toList.length=b.size:=by simp
   omega
  ·unfold Abs.spl;rw[f];exact(p.take o).append (a.append (p.drop _))
 ·cases h
def xZ{t:List Lf}:∀(l:List (den t)) (j:Nat),(l.take j).flatMap (vals t)=(l.flatMap (vals t)).take (j*t.length)
 | [],j=>by simp
 | y::l,0=>by simp
 | y::l,j+1=>by
  have a:=gS t y;simp only[mU,nY,xZ l j,ia,yF];have b:(vals t y).take (j*t.length+t.length)=vals t y:=jw (by omega);rw[Fv (l₁:=vals t y),b,a,FN]
def xd{t:List Lf}:∀(l:List (den t)) (j:Nat),(l.drop j).flatMap (vals t)=(l.flatMap (vals t)).drop (j*t.length)
 | [],j=>by simp
 | y::l,0=>by simp
 | y::l,j+1=>by
  have a:=gS t y;simp only[oi,nY,xd l j,ia,yF];have b:(vals t y).drop (j*t.length+t.length)=[]:=mB (by omega);rw[IX (l₁:=vals t y),b,a,FN,dO]
def Qx{t:List Lf}(l:List (den t))(j:Nat)(x:den t)(h:j<l.length):
  (l.set j x).flatMap (vals t)=(l.flatMap (vals t)).take (j*t.length)++(vals t x++(l.flatMap (vals t)).drop (j*t.length+t.length)):=by
 rw[MX,ae h,Ix,nY,xZ,xd,ia,yF]
def Ep{a:Array Value}{o k:Nat}{c:List Value}(h:o+k<=a.size):
  (splA a (o+k) c).toList.drop o=(a.toList.drop o).take k++(c++(a.toList.drop o).drop (k+c.length)):=by
 have b:a.toList.length=a.size:=by simp
 unfold splA;simp only;rw[IX,dA,b,ta h,zG,GY,Nat.sub_eq_zero_of_le (AX o k),cS,kK,ig]
def QR{t:List Lf}{l:List (den t)}{a:Array Value}{o:Nat}(hs:o+l.length*t.length<=a.size)(h:(a.toList.drop o).take (l.length*t.length)=l.flatMap (vals t)){j:Nat}(x:den t)(b:j<l.length):
  ((splA a (o+j*t.length) (vals t x)).toList.drop o).take ((l.set j x).length*t.length)=(l.set j x).flatMap (vals t):=by
 have e:j*t.length+t.length<=l.length*t.length:=by
  have:=o7 t.length (show j+1<=l.length from b);rw[ia]at this;omega
 rw[Qx l j x b,<-h,FI,Ep (by omega)];generalize d:a.toList.drop o=L;have c:l.length*t.length<=L.length:=by rw[<-d];simp;omega
 rw[gS,Fv,CM,dA,Fv,zG,gS];rw[Nat.min_eq_right (by omega:j*t.length<=l.length*t.length),ta (by omega:j*t.length<=L.length)];congr 1
 ·rw[CM,ta (by omega)]
 ·congr 1
  ·rw[jw (by rw[gS];omega)]
  ·congr 1;omega
def DG(off:Nat):∀(b:List Value) (j:Nat) (a:Array Value),off+j+b.length<=a.size->
  (b.zipIdx j).foldl (λa (p:Value×Nat)=>a.setIfInBounds (off+p.2) p.1) a=splA a (off+j) b
 | [],j,a,_=>by simp[Ja]
 | v::b,j,a,h=>by
  simp only[aG]at h;simp only[List.zipIdx_cons,vD];rw[DG off b (j+1) _ (by simp;omega),show off+(j+1)=off+j+1 by omega,D5 a (off+j) v b (by omega)]
def wg{ι:Inj}(c:Nat->Option (Nat×Nat)):∀(parts:List (Nat×V)) (f:List (Nat×Value)) (cells l:List V) (d:Array Value),VRs ι cells d.toList->
  f.map (·.1)=parts.map (·.1)->VRs ι [] []->(∀(j i:Nat) (v:V) (x:Value),parts[j]?=some (i,v)->f[j]?=some (i,x)->VR ι v x)->GK c cells parts=some l->
  ∃q:Array Value,Instr.fill c d f=some q/\VRs ι l q.toList
 | [],f,cells,l,d,hc,e,_,_,h=>by
  simp only[GK,aq]at h;subst h;have:f=[]:=by simpa using e
  subst this;exact⟨d,rfl,hc⟩
 | (i,v)::parts,[],cells,l,d,hc,e,_,_,h=>by simp at e
 | (i,v)::parts,(s,x)::f,cells,l,d,hc,e,w,hp,h=>by
  simp only[gN,Ej]at e;obtain⟨hi,e⟩:=e;subst hi;have u:=hp 0 s v x (by simp) (by simp);have g:=nL u;have t:x.cells.size=(cellsOf v).length:=by simpa using g.length
  have r:d.size=cells.length:=by simpa using hc.length
  simp only[GK]at h;simp only[Instr.fill];split at h
  ·cases h
  ·rename_i off size k;rw[k];split at h
   ·rename_i o;simp only[aB,js]at o;obtain⟨y,p⟩:=o;have p:=aI p;have n:(decide (x.cells.size≠size)||decide (off+x.cells.size>d.size))=false:=by
     simp only[ne_eq,gt_iff_lt,qO,tK,Nv];omega
    have m:=DG off x.cells.toList 0 d (by simp;omega);rw[<-Array.toList_zipIdx,Array.foldl_toList]at m;simp only[dK]at m;simp only[n,bQ,aF,m];exact wg c parts f _ l _ (hc.spl off g) e w (λj i v x a b=>hp (j+1) i v x (by simpa using a) (by simpa using b)) h
   ·cases h
def vd{ι:Inj}{T:List (Nat×Option V)}{a:Act}(d:TR ι T a.tmps):∀(ps:List (Nat×Operand)) (l:List (Nat×V)),qe (opd T) ps=some l->
  (ps.map λ(i,x)=>(i,a.eval x)).map (·.1)=l.map (·.1)/\∀(j i:Nat) (v:V) (x:Value),l[j]?=some (i,v)->(ps.map λ(i,x)=>(i,a.eval x))[j]?=some (i,x)->VR ι v x
 | [],l,h=>by
  simp only[qe,aq]at h;subst h;simp
 | (i,x)::ps,l,h=>by
  simp only[qe]at h;split at h
  ·rename_i v k;split at h
   ·rename_i m n;simp only[aq]at h;subst h;obtain⟨g,e⟩:=vd d ps m n;refine⟨by simp[<-g],λj f u y c b=>?_⟩;cases j with
    | zero=>
     simp only[lF,aq,bC]at c;obtain⟨rfl,rfl⟩:=c;simp only[gN,lF,aq,bC,kz]at b;subst b;exact bz d k
    | succ j=>exact e j f u y (by simpa using c) (by simpa using b)
   ·cases h
  ·cases h
def wj(ι:Inj){t:TypeId}{v:V}(h:JK P t=some v):∃z i,P.info? t=some i/\i.zero=some z/\VR ι v z/\∀w,(zeroValue t).run P w=.ok z w:=by
 unfold JK at h;split at h
 ·rename_i i hi;split at h
  ·rename_i z a;exact⟨z,i,hi,a,H4 ι h,λw=>by simp[zeroValue,typeInfo,hi,a]⟩
  ·cases h
 ·cases h
end Go.Abs
