
import Derived.Test.YtibehcmomiplnaaGreatDoorAbsC
import Derived.Laws.StructEq
set_option linter.unusedVariables false
set_option linter.unusedSimpArgs false
set_option linter.defProp false
namespace Go.Abs
variable {P:Program}
def splA(b:Array Value)(k:Nat)(a:List Value):Array Value:=(b.toList.take k++(a++b.toList.drop (k+a.length))).toArray
def HM(a:Array Value)(k:Nat):splA a k []=a:=by
 unfold splA;apply lU;simp
def xO{a:Array Value}{k:Nat}{b:List Value}(h:k+b.length<=a.size):(splA a k b).size=a.size:=by
 unfold splA;simp;omega
def Fj(a:Array Value)(k:Nat)(v:Value)(b:List Value)(h:k<a.size):splA (a.setIfInBounds k v) (k+1) b=splA a k (v::b):=by
 unfold splA;apply lU;simp only[Array.toList_setIfInBounds,aC];have c:(a.toList.set k v).take (k+1)=a.toList.take k++[v]:=by
  rw[PC (by simpa using h)];simp[List.take_set_of_le]
 rw[c,List.drop_set_of_lt (by omega)];simp[gR,o8 1]
def nZ(r o j:Nat):(⟨r,o,none⟩:Addr).add j=⟨r,o+j,none⟩:=by
 unfold Addr.add;split
 ·rename_i a;subst a;rfl
 ·rfl
def ly(r o:Nat)(e:TypeId)(fr:Nat×Nat):∀(b:List Value) (i:Nat) (a:Array Value) (w:World),w.heap[r]?=some (.cells a e fr)->NF fr a.size->
  o+i+b.length<=a.size->(∀v∈b,v.oneCell'=true)->(storeCells ⟨r,o,none⟩ b i).run P w=.ok () (setObj w r (.cells (splA a (o+i) b) e fr))
 | [],i,a,w,h,_,_,_=>by simp[storeCells,HM,F8 h]
 | v::b,i,a,w,h,f,k,g=>by
  simp only[aC]at k;have c:o+i<a.size:=by omega
  have ih:=ly r o e fr b (i+1) (a.setIfInBounds (o+i) v) (setObj w r (.cells (a.setIfInBounds (o+i) v) e fr)) (yH h) (by simpa using f)
   (by simp;omega) (λu j=>g u (fV _ j))
  have hc:w.cell? ⟨r,o+i,none⟩=some a[o+i]:=by rw[bh h];simp[c]
  have d:=rA h f c;simp only[storeCells,ay,nZ,run_store P w _ v _ (g v (by simp)),hc,d,bU,aG,aB,Ff h,ih,Ci];rw[show o+(i+1)=o+i+1 by omega,Fj a (o+i) v b c]
def VRs.spl{ι:Inj}{l m:List V}{F:Array Value}{E:List Value}(o:Nat)(h:VRs ι l F.toList)(C:VRs ι m E):VRs ι (spl l o m) (splA F o E).toList:=by
 unfold Abs.spl splA;rw[<-C.length];exact(h.take o).append (C.append (h.drop _))
def VRs.one{ι:Inj}:∀{m:List V} {vs:List Value},VRs ι m vs->m.all oneV=true->∀v∈vs,v.oneCell'=true
 | [],_,h,_,v,C=>by simp only[VRs]at h;subst h;cases C
 | _::_,_,h,E,v,C=>by
  simp only[VRs]at h;obtain⟨y,J,rfl,G,F⟩:=h;simp only[nH,aA]at E;rcases cN.1 C with rfl | C
  ·exact Ez G E.1
  ·exact VRs.one F E.2 v C
def qU{t:TypeId}{i:TypeInfo}(hi:P.info? t=some i){w:World}{r o:Nat}{a:Array Value}{e:TypeId}{fr:Nat×Nat}(h:w.heap[r]?=some (.cells a e fr))
  (c:NF fr a.size) {x:Value} (hx:x.cells.size=P.cellsOf t) (d:o+x.cells.size<=a.size) (b:∀v∈x.cells.toList,v.oneCell'=true):
  (Instr.storeAt t (.pointer (some ⟨r,o,none⟩)) x).run P w=.ok () (setObj w r (.cells (splA a o x.cells.toList) e fr)):=by
 simp only[Instr.storeAt,Instr.sureAddr,storeVar,ay,aE,aB,gy hi,hx,ne_eq,vh,aG];have:=ly (P:=P) r o e fr x.cells.toList 0 a w h c (by simpa using d) b;simpa using this
def K9{α:Type}{ι:Inj}{H:List (Nat×Blk)}{nb b o:Nat}{w:World}(E:WR ι H nb w){blk:Blk}(G:look H b=some blk){t:TypeId}{v:V}{x:Value}
  (j:VR ι v x) {c:Blk->Option α} {z:α} (h:rV P t blk o v c=some z):
  ∃f ob r,c f=some z/\ι b=some (some r)/\(Instr.storeAt t (.pointer (some ⟨r.r,o,none⟩)) x).run P w=.ok () (setObj w r.r ob)/\BR ι r f ob:=by
 have s:=n7 j;have L:x.cells.size=(cellsOf v).length:=by simpa using s.length
 unfold rV at h;split at h
 ·split at h
  ·rename_i g;simp only[aA,jB]at g;obtain⟨C,u,A,D⟩:=g;obtain⟨i,hi⟩:=cf C;obtain⟨r,F,e,fr,y,B,a,q⟩:=rt E G;have J:F.size=F.toList.length:=by simp
   have I:=a.length;have K:=aM A;refine⟨_,_,r,h,y,qU hi B q (by omega) (by omega) (s.one D),?_⟩;exact⟨_,e,fr,rfl,a.spl o s,by rw[xO (by simp;omega)];exact q⟩
  ·cases h
 ·rename_i k n l;obtain⟨r,e,fr,y,B,a,q⟩:=wX E G;split at h
  ·rename_i k' m;split at h
   ·rename_i g;simp only[aA,jB]at g;obtain⟨p,u⟩:=g;have p:=lM p;subst p;obtain⟨A,D⟩:=ei h;have A:o<n:=aM A;obtain⟨i,hi⟩:=cf (P:=P) (t:=t) (by rw[u];rfl);simp only[VR]at j;subst j;have hs:=qU hi (o:=o) B (by simpa[a]using q) (x:=.int k m) (by simpa[Value.cells]using u.symm) (by simp[Value.cells,a];omega) (by simp[Value.cells,Value.oneCell']);refine⟨_,_,r,D,y,hs,e,fr,?_,by simpa using a,q⟩;congr 1;unfold splA;apply lU;simp only[Value.cells,List.map_set];rw[K4,af (by simp;omega)];simp
   ·cases h
  ·rename_i k' N M;split at h
   ·rename_i g;simp only[aA,jB]at g;obtain⟨p,rfl,rfl,C,u⟩:=g;have p:=lM p;subst p;obtain⟨i,hi⟩:=cf (P:=P) (t:=t) (by rw[u];exact C);simp only[VR]at j;obtain⟨d,rfl⟩:=j
    have hs:=qU hi (o:=0) B (by simpa[a]using q) (x:=.agg (M.map (Value.int k)).toArray) (by simp[Value.cells,d,u]) (by simp[Value.cells,a,d]) (by
     intro v j;simp only[Value.cells,eD]at j;obtain⟨n,_,rfl⟩:=j;rfl)
    refine⟨_,_,r,h,y,hs,e,fr,?_,d,q⟩;congr 1;unfold splA;apply lU;simp[Value.cells,d,a]
   ·cases h
  ·cases h
 ·cases h
def UW{b:Array Value}{base o n:Nat}{c:List Value}(h:o+c.length<=n)(f:base+n<=b.size):
  splA b (base+o) c=splA b base (((b.toList.drop base).take n).take o++(c++((b.toList.drop base).take n).drop (o+c.length))):=by
 unfold splA;congr 1;apply AT;intro i;have a:b.toList.length=b.size:=by simp
 by_cases d:i<base
 ·rw[om (by simp;omega),om (by simp;omega)];simp[d,show i<base+o by omega]
 ·obtain⟨j,rfl⟩:∃j,i=base+j:=⟨i - base,by omega⟩;rw[rf (l₁:=b.toList.take base) (by simp;omega)];simp only[cS,a,rL (by omega:base<=b.size),Ho];by_cases e:j<o
  ·rw[om (by simp;omega),om (by simp;omega),om (by simp;omega)];simp[e,show base+j<base+o by omega,show j<n by omega,ma,lW]
  ·by_cases g:j<o+c.length
   ·rw[rf (by simp;omega),om (by simp;omega),om (by simp;omega),rf (by simp;omega),om (by simp;omega)];simp only[cS,cj,a];congr 1;omega
   ·rw[rf (by simp;omega),rf (by simp;omega)];simp only[cS,cj,a];by_cases k:j<n
    ·rw[om (by simp;omega),rf (by simp;omega),rf (by simp;omega)];simp only[cS,cj,a,lW];rw[ma (by omega),lW];congr 1;omega
    ·rw[rf (by simp;omega)];simp only[aH,cS,cj,a,lW];congr 1;omega
def K3{α:Type}{ι:Inj}{w:World}{r o base:Nat}{a:Array Value}{e:TypeId}{fr:Nat×Nat}{l:List V}(s:w.heap[r]?=some (.cells a e fr))
  (p:VRs ι l ((a.toList.drop base).take l.length)) (d:base+l.length<=a.size) {t:TypeId} {v:V} {x:Value} (u:VR ι v x) {c:Blk->Option α} {z:α}
  (h:rV P t (.cells l) o v c=some z):
  ∃m X,c (.cells m)=some z/\X.length=l.length/\VRs ι m X/\(NF fr a.size->(Instr.storeAt t (.pointer (some ⟨r,base+o,none⟩)) x).run P w=.ok () (setObj w r (.cells (splA a base X) e fr))):=by
 have b:=n7 u;have j:x.cells.size=(cellsOf v).length:=by simpa using b.length
 simp only[rV]at h;split at h
 ·rename_i k;simp only[aA,jB]at k;obtain⟨A,C,B,y⟩:=k;obtain⟨i,hi⟩:=cf A;have q:=aM B;have f:x.cells.toList.length=(cellsOf v).length:=by simpa using j
  refine⟨_,_,h,?_,?_,λg=>by
   have hs:=qU hi s g (o:=base+o) (x:=x) (by omega) (by omega) (b.one y);rw[UW (n:=l.length) (by omega) d]at hs;exact hs⟩
  ·simp only[aH,cS,cj,f];have:a.toList.length=a.size:=by simp
   omega
  ·unfold Abs.spl;rw[f];exact(p.take o).append (b.append (p.drop _))
 ·cases h
def xj{t:List Lf}:∀(l:List (den t)) (j:Nat),(l.take j).flatMap (vals t)=(l.flatMap (vals t)).take (j*t.length)
 | [],j=>by simp
 | y::l,0=>by simp
 | y::l,j+1=>by
  have b:=ia t y;simp only[nq,oQ,xj l j,ij,xi];have a:(vals t y).take (j*t.length+t.length)=vals t y:=jK (by omega);rw[fS9 (l₁:=vals t y),a,b,FU]
def xq{t:List Lf}:∀(l:List (den t)) (j:Nat),(l.drop j).flatMap (vals t)=(l.flatMap (vals t)).drop (j*t.length)
 | [],j=>by simp
 | y::l,0=>by simp
 | y::l,j+1=>by
  have b:=ia t y;simp only[oM,oQ,xq l j,ij,xi];have a:(vals t y).drop (j*t.length+t.length)=[]:=l9 (by omega);rw[Jb (l₁:=vals t y),a,b,FU,dQ]
def Qd{t:List Lf}(l:List (den t))(j:Nat)(x:den t)(h:j<l.length):
  (l.set j x).flatMap (vals t)=(l.flatMap (vals t)).take (j*t.length)++(vals t x++(l.flatMap (vals t)).drop (j*t.length+t.length)):=by
 rw[K4,af h,HI,oQ,xj,xq,ij,xi]
def Ei{a:Array Value}{o k:Nat}{b:List Value}(h:o+k<=a.size):
  (splA a (o+k) b).toList.drop o=(a.toList.drop o).take k++(b++(a.toList.drop o).drop (k+b.length)):=by
 have c:a.toList.length=a.size:=by simp
 unfold splA;simp only;rw[Jb,cS,c,rL h,zT,Ho,Nat.sub_eq_zero_of_le (Bc o k),dk,kZ,gR]
def QC{t:List Lf}{l:List (den t)}{a:Array Value}{o:Nat}(hs:o+l.length*t.length<=a.size)(h:(a.toList.drop o).take (l.length*t.length)=l.flatMap (vals t)){j:Nat}(x:den t)(b:j<l.length):
  ((splA a (o+j*t.length) (vals t x)).toList.drop o).take ((l.set j x).length*t.length)=(l.set j x).flatMap (vals t):=by
 have c:j*t.length+t.length<=l.length*t.length:=by
  have:=pa t.length (show j+1<=l.length from b);rw[ij]at this;omega
 rw[Qd l j x b,<-h,Gg,Ei (by omega)];generalize d:a.toList.drop o=L;have e:l.length*t.length<=L.length:=by rw[<-d];simp;omega
 rw[ia,fS9,BV,cS,fS9,zT,ia];rw[Nat.min_eq_right (by omega:j*t.length<=l.length*t.length),rL (by omega:j*t.length<=L.length)];congr 1
 ·rw[BV,rL (by omega)]
 ·congr 1
  ·rw[jK (by rw[ia];omega)]
  ·congr 1;omega
def Fb(off:Nat):∀(b:List Value) (j:Nat) (a:Array Value),off+j+b.length<=a.size->
  (b.zipIdx j).foldl (λa (p:Value×Nat)=>a.setIfInBounds (off+p.2) p.1) a=splA a (off+j) b
 | [],j,a,_=>by simp[HM]
 | v::b,j,a,h=>by
  simp only[aC]at h;simp only[List.zipIdx_cons,vW];rw[Fb off b (j+1) _ (by simp;omega),show off+(j+1)=off+j+1 by omega,Fj a (off+j) v b (by omega)]
def wK{ι:Inj}(c:Nat->Option (Nat×Nat)):∀(parts:List (Nat×V)) (f:List (Nat×Value)) (cells l:List V) (d:Array Value),VRs ι cells d.toList->
  f.map (·.1)=parts.map (·.1)->VRs ι [] []->(∀(j i:Nat) (v:V) (x:Value),parts[j]?=some (i,v)->f[j]?=some (i,x)->VR ι v x)->G9 c cells parts=some l->
  ∃p:Array Value,Instr.fill c d f=some p/\VRs ι l p.toList
 | [],f,cells,l,d,hc,e,_,_,h=>by
  simp only[G9,ar]at h;subst h;have:f=[]:=by simpa using e
  subst this;exact⟨d,rfl,hc⟩
 | (i,v)::parts,[],cells,l,d,hc,e,_,_,h=>by simp at e
 | (i,v)::parts,(t,x)::f,cells,l,d,hc,e,s,hp,h=>by
  simp only[gJ,EV]at e;obtain⟨hi,e⟩:=e;subst hi;have u:=hp 0 t v x (by simp) (by simp);have g:=n7 u;have r:x.cells.size=(cellsOf v).length:=by simpa using g.length
  have w:d.size=cells.length:=by simpa using hc.length
  simp only[G9]at h;simp only[Instr.fill];split at h
  ·cases h
  ·rename_i off size n;rw[n];split at h
   ·rename_i o;simp only[aA,jB]at o;obtain⟨y,q⟩:=o;have q:=aM q;have k:(decide (x.cells.size≠size)||decide (off+x.cells.size>d.size))=false:=by
     simp only[ne_eq,gt_iff_lt,qZ,ug,OA];omega
    have m:=Fb off x.cells.toList 0 d (by simp;omega);rw[<-Array.toList_zipIdx,Array.foldl_toList]at m;simp only[dP]at m;simp only[k,bU,aG,m];exact wK c parts f _ l _ (hc.spl off g) e s (λj i v x a b=>hp (j+1) i v x (by simpa using a) (by simpa using b)) h
   ·cases h
def vf{ι:Inj}{T:List (Nat×Option V)}{a:Act}(d:TR ι T a.tmps):∀(ps:List (Nat×Operand)) (l:List (Nat×V)),qF (opd T) ps=some l->
  (ps.map λ(i,x)=>(i,a.eval x)).map (·.1)=l.map (·.1)/\∀(j i:Nat) (v:V) (x:Value),l[j]?=some (i,v)->(ps.map λ(i,x)=>(i,a.eval x))[j]?=some (i,x)->VR ι v x
 | [],l,h=>by
  simp only[qF,ar]at h;subst h;simp
 | (i,x)::ps,l,h=>by
  simp only[qF]at h;split at h
  ·rename_i v g;split at h
   ·rename_i m k;simp only[ar]at h;subst h;obtain⟨e,n⟩:=vf d ps m k;refine⟨by simp[<-e],λj f u y c b=>?_⟩;cases j with
    | zero=>
     simp only[lw,ar,bm]at c;obtain⟨rfl,rfl⟩:=c;simp only[gJ,lw,ar,bm,kO]at b;subst b;exact bv d g
    | succ j=>exact n j f u y (by simpa using c) (by simpa using b)
   ·cases h
  ·cases h
def wE(ι:Inj){t:TypeId}{v:V}(h:J6 P t=some v):∃z i,P.info? t=some i/\i.zero=some z/\VR ι v z/\∀w,(zeroValue t).run P w=.ok z w:=by
 unfold J6 at h;split at h
 ·rename_i i hi;split at h
  ·rename_i z a;exact⟨z,i,hi,a,IF ι h,λw=>by simp[zeroValue,typeInfo,hi,a]⟩
  ·cases h
 ·cases h
end Go.Abs
