
import Derived.Test.YtadejcglcffgbacGreatDoorAbsC
import Derived.Laws.StructEq
set_option linter.unusedVariables false
set_option linter.unusedSimpArgs false
set_option linter.defProp false
namespace Go.Abs
variable {P:Program}
def splA(a:Array Value)(k:Nat)(b:List Value):Array Value:=(a.toList.take k++(b++a.toList.drop (k+b.length))).toArray
def AW(a:Array Value)(k:Nat):splA a k []=a:=by
 unfold splA;apply gQ;simp
def sq{a:Array Value}{k:Nat}{b:List Value}(h:k+b.length<=a.size):(splA a k b).size=a.size:=by
 unfold splA;simp;omega
def xf(a:Array Value)(k:Nat)(v:Value)(b:List Value)(h:k<a.size):splA (a.setIfInBounds k v) (k+1) b=splA a k (v::b):=by
 unfold splA;apply gQ;simp only[Array.toList_setIfInBounds,bp];have h1:(a.toList.set k v).take (k+1)=a.toList.take k++[v]:=by
  rw[C5 (by simpa using h)];simp[List.take_set_of_le]
 rw[h1,List.drop_set_of_lt (by omega)];simp[gL,pO 1]
def jI(r o j:Nat):(⟨r,o,none⟩:Addr).add j=⟨r,o+j,none⟩:=by
 unfold Addr.add;split
 ·rename_i h0;subst h0;rfl
 ·rfl
def iz(r o:Nat)(e:TypeId)(fr:Nat×Nat):∀(b:List Value) (i:Nat) (a:Array Value) (w:World),w.heap[r]?=some (.cells a e fr)->NF fr a.size->
  o+i+b.length<=a.size->(∀v∈b,v.oneCell'=true)->(storeCells ⟨r,o,none⟩ b i).run P w=.ok () (setObj w r (.cells (splA a (o+i) b) e fr))
 | [],i,a,w,h,_,_,_=>by simp[storeCells,AW,yY h]
 | v::b,i,a,w,h,f,j,h1=>by
  simp only[bp]at j;have c:o+i<a.size:=by omega
  have ih:=iz r o e fr b (i+1) (a.setIfInBounds (o+i) v) (setObj w r (.cells (a.setIfInBounds (o+i) v) e fr)) (tQ h) (by simpa using f)
   (by simp;omega) (λu g=>h1 u (fE _ g))
  have hc:w.cell? ⟨r,o+i,none⟩=some a[o+i]:=by rw[aN h];simp[c]
  have d:=mF h f c;simp only[storeCells,al,jI,run_store P w _ v _ (h1 v (by simp)),hc,d,cb,aD,ar,ye h,ih,vN];rw[show o+(i+1)=o+i+1 by omega,xf a (o+i) v b c]
def VRs.spl{ι:Inj}{l m:List V}{A:Array Value}{C:List Value}(o:Nat)(h:VRs ι l A.toList)(hm:VRs ι m C):VRs ι (spl l o m) (splA A o C).toList:=by
 unfold Abs.spl splA;rw[<-hm.length];exact(h.take o).append (hm.append (h.drop _))
def VRs.one{ι:Inj}:∀{m:List V} {vs:List Value},VRs ι m vs->m.all oneV=true->∀v∈vs,v.oneCell'=true
 | [],_,h,_,v,A=>by simp only[VRs]at h;subst h;cases A
 | _::_,_,h,C,v,A=>by
  simp only[VRs]at h;obtain⟨y,F,rfl,h2,E⟩:=h;simp only[ln,aw]at C;rcases bv.1 A with rfl | A
  ·exact yz h2 C.1
  ·exact VRs.one E C.2 v A
def lF{t:TypeId}{i:TypeInfo}(hi:P.info? t=some i){w:World}{r o:Nat}{a:Array Value}{e:TypeId}{fr:Nat×Nat}(h:w.heap[r]?=some (.cells a e fr))
  (d:NF fr a.size) {x:Value} (c:x.cells.size=P.cellsOf t) (b:o+x.cells.size<=a.size) (h1:∀v∈x.cells.toList,v.oneCell'=true):
  (Instr.storeAt t (.pointer (some ⟨r,o,none⟩)) x).run P w=.ok () (setObj w r (.cells (splA a o x.cells.toList) e fr)):=by
 simp only[Instr.storeAt,Instr.sureAddr,storeVar,al,av,ar,dN hi,c,ne_eq,qy,aD];have:=iz (P:=P) r o e fr x.cells.toList 0 a w h d (by simpa using b) h1;simpa using this
def FT{α:Type}{ι:Inj}{H:List (Nat×Blk)}{nb b o:Nat}{w:World}(D:WR ι H nb w){blk:Blk}(E:look H b=some blk){t:TypeId}{v:V}{x:Value}
  (f:VR ι v x) {c:Blk->Option α} {z:α} (h:ml P t blk o v c=some z):
  ∃j ob r,c j=some z/\ι b=some (some r)/\(Instr.storeAt t (.pointer (some ⟨r.r,o,none⟩)) x).run P w=.ok () (setObj w r.r ob)/\BR ι r j ob:=by
 have q:=jV f;have F:x.cells.size=(cellsOf v).length:=by simpa using q.length
 unfold ml at h;split at h
 ·split at h
  ·rename_i g;simp only[aw,fP]at g;obtain⟨h0,h1,h2,A⟩:=g;obtain⟨i,hi⟩:=bn h0;obtain⟨r,C,e,fr,u,y,d,p⟩:=mU D E;have J:C.size=C.toList.length:=by simp
   have G:=d.length;have I:=az h2;refine⟨_,_,r,h,u,lF hi y p (by omega) (by omega) (q.one A),?_⟩;exact⟨_,e,fr,rfl,d.spl o q,by rw[sq (by simp;omega)];exact p⟩
  ·cases h
 ·rename_i k n l;obtain⟨r,e,fr,u,y,d,p⟩:=ri D E;split at h
  ·rename_i k' m;split at h
   ·rename_i g;simp only[aw,fP]at g;obtain⟨s,h1⟩:=g;have s:=io s;subst s;obtain⟨h2,A⟩:=bR h;have h2:o<n:=az h2;obtain⟨i,hi⟩:=bn (P:=P) (t:=t) (by rw[h1];rfl);simp only[VR]at f;subst f;have B:=lF hi (o:=o) y (by simpa[d]using p) (x:=.int k m) (by simpa[Value.cells]using h1.symm) (by simp[Value.cells,d];omega) (by simp[Value.cells,Value.oneCell']);refine⟨_,_,r,A,u,B,e,fr,?_,by simpa using d,p⟩;congr 1;unfold splA;apply gQ;simp only[Value.cells,List.map_set];rw[Fb,ad (by simp;omega)];simp
   ·cases h
  ·rename_i k' L K;split at h
   ·rename_i g;simp only[aw,fP]at g;obtain⟨s,rfl,rfl,h0,h1⟩:=g;have s:=io s;subst s;obtain⟨i,hi⟩:=bn (P:=P) (t:=t) (by rw[h1];exact h0);simp only[VR]at f;obtain⟨a,rfl⟩:=f
    have B:=lF hi (o:=0) y (by simpa[d]using p) (x:=.agg (K.map (Value.int k)).toArray) (by simp[Value.cells,a,h1]) (by simp[Value.cells,d,a]) (by
     intro v f;simp only[Value.cells,ch]at f;obtain⟨n,_,rfl⟩:=f;rfl)
    refine⟨_,_,r,h,u,B,e,fr,?_,a,p⟩;congr 1;unfold splA;apply gQ;simp[Value.cells,a,d]
   ·cases h
  ·cases h
 ·cases h
def JI{b:Array Value}{base o n:Nat}{c:List Value}(h:o+c.length<=n)(d:base+n<=b.size):
  splA b (base+o) c=splA b base (((b.toList.drop base).take n).take o++(c++((b.toList.drop base).take n).drop (o+c.length))):=by
 unfold splA;congr 1;apply xY;intro i;have a:b.toList.length=b.size:=by simp
 by_cases h1:i<base
 ·rw[ka (by simp;omega),ka (by simp;omega)];simp[h1,show i<base+o by omega]
 ·obtain⟨j,rfl⟩:∃j,i=base+j:=⟨i - base,by omega⟩;rw[kf (l₁:=b.toList.take base) (by simp;omega)];simp only[dj,a,om (by omega:base<=b.size),pK];by_cases h2:j<o
  ·rw[ka (by simp;omega),ka (by simp;omega),ka (by simp;omega)];simp[h2,show base+j<base+o by omega,show j<n by omega,mM,jx]
  ·by_cases f:j<o+c.length
   ·rw[kf (by simp;omega),ka (by simp;omega),ka (by simp;omega),kf (by simp;omega),ka (by simp;omega)];simp only[dj,k7,a];congr 1;omega
   ·rw[kf (by simp;omega),kf (by simp;omega)];simp only[dj,k7,a];by_cases e:j<n
    ·rw[ka (by simp;omega),kf (by simp;omega),kf (by simp;omega)];simp only[dj,k7,a,jx];rw[mM (by omega),jx];congr 1;omega
    ·rw[kf (by simp;omega)];simp only[cR,dj,k7,a,jx];congr 1;omega
def F3{α:Type}{ι:Inj}{w:World}{r o base:Nat}{b:Array Value}{e:TypeId}{fr:Nat×Nat}{l:List V}(u:w.heap[r]?=some (.cells b e fr))
  (m:VRs ι l ((b.toList.drop base).take l.length)) (d:base+l.length<=b.size) {t:TypeId} {v:V} {x:Value} (s:VR ι v x) {c:Blk->Option α} {z:α}
  (h:ml P t (.cells l) o v c=some z):
  ∃q X,c (.cells q)=some z/\X.length=l.length/\VRs ι q X/\(NF fr b.size->(Instr.storeAt t (.pointer (some ⟨r,base+o,none⟩)) x).run P w=.ok () (setObj w r (.cells (splA b base X) e fr))):=by
 have a:=jV s;have g:x.cells.size=(cellsOf v).length:=by simpa using a.length
 simp only[ml]at h;split at h
 ·rename_i p;simp only[aw,fP]at p;obtain⟨h0,h1,h2,A⟩:=p;obtain⟨i,hi⟩:=bn h0;have y:=az h2;have f:x.cells.toList.length=(cellsOf v).length:=by simpa using g
  refine⟨_,_,h,?_,?_,λj=>by
   have k:=lF hi u j (o:=base+o) (x:=x) (by omega) (by omega) (a.one A);rw[JI (n:=l.length) (by omega) d]at k;exact k⟩
  ·simp only[cR,dj,k7,f];have:b.toList.length=b.size:=by simp
   omega
  ·unfold Abs.spl;rw[f];exact(m.take o).append (a.append (m.drop _))
 ·cases h
def ub{t:List Lf}:∀(l:List (den t)) (j:Nat),(l.take j).flatMap (vals t)=(l.flatMap (vals t)).take (j*t.length)
 | [],j=>by simp
 | y::l,0=>by simp
 | y::l,j+1=>by
  have a:=gF t y;simp only[mC,fO,ub l j,ea,wa];have b:(vals t y).take (j*t.length+t.length)=vals t y:=gI (by omega);rw[yK (l₁:=vals t y),b,a,yG]
def sO{t:List Lf}:∀(l:List (den t)) (j:Nat),(l.drop j).flatMap (vals t)=(l.flatMap (vals t)).drop (j*t.length)
 | [],j=>by simp
 | y::l,0=>by simp
 | y::l,j+1=>by
  have a:=gF t y;simp only[uu,fO,sO l j,ea,wa];have b:(vals t y).drop (j*t.length+t.length)=[]:=nL (by omega);rw[zN (l₁:=vals t y),b,a,yG,gh]
def GI{t:List Lf}(l:List (den t))(j:Nat)(x:den t)(h:j<l.length):
  (l.set j x).flatMap (vals t)=(l.flatMap (vals t)).take (j*t.length)++(vals t x++(l.flatMap (vals t)).drop (j*t.length+t.length)):=by
 rw[Fb,ad h,Ak,fO,ub,sO,ea,wa]
def xm{a:Array Value}{o k:Nat}{b:List Value}(h:o+k<=a.size):
  (splA a (o+k) b).toList.drop o=(a.toList.drop o).take k++(b++(a.toList.drop o).drop (k+b.length)):=by
 have c:a.toList.length=a.size:=by simp
 unfold splA;simp only;rw[zN,dj,c,om h,xG,pK,Nat.sub_eq_zero_of_le (Nat.le_add_right o k),iE,vf,gL]
def G0{t:List Lf}{l:List (den t)}{a:Array Value}{o:Nat}(f:o+l.length*t.length<=a.size)(h:(a.toList.drop o).take (l.length*t.length)=l.flatMap (vals t)){j:Nat}(x:den t)(b:j<l.length):
  ((splA a (o+j*t.length) (vals t x)).toList.drop o).take ((l.set j x).length*t.length)=(l.set j x).flatMap (vals t):=by
 have d:j*t.length+t.length<=l.length*t.length:=by
  have:=kH t.length (show j+1<=l.length from b);rw[ea]at this;omega
 rw[GI l j x b,<-h,List.length_set,xm (by omega)];generalize c:a.toList.drop o=L;have e:l.length*t.length<=L.length:=by rw[<-c];simp;omega
 rw[gF,yK,wx,dj,yK,xG,gF];rw[Nat.min_eq_right (by omega:j*t.length<=l.length*t.length),om (by omega:j*t.length<=L.length)];congr 1
 ·rw[wx,om (by omega)]
 ·congr 1
  ·rw[gI (by rw[gF];omega)]
  ·congr 1;omega
def yb(off:Nat):∀(b:List Value) (j:Nat) (a:Array Value),off+j+b.length<=a.size->
  (b.zipIdx j).foldl (λa (p:Value×Nat)=>a.setIfInBounds (off+p.2) p.1) a=splA a (off+j) b
 | [],j,a,_=>by simp[AW]
 | v::b,j,a,h=>by
  simp only[bp]at h;simp only[List.zipIdx_cons,qO];rw[yb off b (j+1) _ (by simp;omega),show off+(j+1)=off+j+1 by omega,xf a (off+j) v b (by omega)]
def rJ{ι:Inj}(c:Nat->Option (Nat×Nat)):∀(parts:List (Nat×V)) (e:List (Nat×Value)) (cells l:List V) (d:Array Value),VRs ι cells d.toList->
  e.map (·.1)=parts.map (·.1)->VRs ι [] []->(∀(j i:Nat) (v:V) (x:Value),parts[j]?=some (i,v)->e[j]?=some (i,x)->VR ι v x)->yV c cells parts=some l->
  ∃p:Array Value,Instr.fill c d e=some p/\VRs ι l p.toList
 | [],e,cells,l,d,hc,hm,_,_,h=>by
  simp only[yV,af]at h;subst h;have:e=[]:=by simpa using hm
  subst this;exact⟨d,rfl,hc⟩
 | (i,v)::parts,[],cells,l,d,hc,hm,_,_,h=>by simp at hm
 | (i,v)::parts,(s,x)::e,cells,l,d,hc,hm,u,n,h=>by
  simp only[cU,List.cons.injEq]at hm;obtain⟨hi,hm⟩:=hm;subst hi;have q:=n 0 s v x (by simp) (by simp);have f:=jV q;have t:x.cells.size=(cellsOf v).length:=by simpa using f.length
  have r:d.size=cells.length:=by simpa using hc.length
  simp only[yV]at h;simp only[Instr.fill];split at h
  ·cases h
  ·rename_i off size k;rw[k];split at h
   ·rename_i o;simp only[aw,fP]at o;obtain⟨h1,h2⟩:=o;have h2:=az h2;have g:(decide (x.cells.size≠size)||decide (off+x.cells.size>d.size))=false:=by
     simp only[ne_eq,gt_iff_lt,Bool.or_eq_false_iff,jt,Ep];omega
    have m:=yb off x.cells.toList 0 d (by simp;omega);rw[<-Array.toList_zipIdx,Array.foldl_toList]at m;simp only[eu]at m;simp only[g,cb,aD,m];exact rJ c parts e _ l _ (hc.spl off f) hm u (λj i v x a b=>n (j+1) i v x (by simpa using a) (by simpa using b)) h
   ·cases h
def pX{ι:Inj}{T:List (Nat×Option V)}{a:Act}(d:TR ι T a.tmps):∀(ps:List (Nat×Operand)) (l:List (Nat×V)),lD (opd T) ps=some l->
  (ps.map λ(i,x)=>(i,a.eval x)).map (·.1)=l.map (·.1)/\∀(j i:Nat) (v:V) (x:Value),l[j]?=some (i,v)->(ps.map λ(i,x)=>(i,a.eval x))[j]?=some (i,x)->VR ι v x
 | [],l,h=>by
  simp only[lD,af]at h;subst h;simp
 | (i,x)::ps,l,h=>by
  simp only[lD]at h;split at h
  ·rename_i v e;split at h
   ·rename_i m hm;simp only[af]at h;subst h;obtain⟨h1,h2⟩:=pX d ps m hm;refine⟨by simp[<-h1],λj f u y c b=>?_⟩;cases j with
    | zero=>
     simp only[jr,af,ca]at c;obtain⟨rfl,rfl⟩:=c;simp only[cU,jr,af,ca,lW]at b;subst b;exact aP d e
    | succ j=>exact h2 j f u y (by simpa using c) (by simpa using b)
   ·cases h
  ·cases h
def rF(ι:Inj){t:TypeId}{v:V}(h:BV P t=some v):∃z i,P.info? t=some i/\i.zero=some z/\VR ι v z/\∀w,(zeroValue t).run P w=.ok z w:=by
 unfold BV at h;split at h
 ·rename_i i hi;split at h
  ·rename_i z a;exact⟨z,i,hi,a,zZ ι h,λw=>by simp[zeroValue,typeInfo,hi,a]⟩
  ·cases h
 ·cases h
end Go.Abs
