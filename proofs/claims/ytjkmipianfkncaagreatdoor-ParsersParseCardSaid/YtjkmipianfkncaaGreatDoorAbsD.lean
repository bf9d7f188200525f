
import Derived.Test.YtjkmipianfkncaaGreatDoorAbsC
import Derived.Laws.StructEq
set_option linter.unusedVariables false
set_option linter.unusedSimpArgs false
set_option linter.defProp false
namespace Go.Abs
variable {P:Program}
def splA(b:Array Value)(k:Nat)(a:List Value):Array Value:=(b.toList.take k++(a++b.toList.drop (k+a.length))).toArray
def Gu(a:Array Value)(k:Nat):splA a k []=a:=by
 unfold splA;apply mg;simp
def wO{a:Array Value}{k:Nat}{b:List Value}(h:k+b.length<=a.size):(splA a k b).size=a.size:=by
 unfold splA;simp;omega
def Ba(a:Array Value)(k:Nat)(v:Value)(b:List Value)(h:k<a.size):splA (a.setIfInBounds k v) (k+1) b=splA a k (v::b):=by
 unfold splA;apply mg;simp only[Array.toList_setIfInBounds,aP];have c:(a.toList.set k v).take (k+1)=a.toList.take k++[v]:=by
  rw[K9 (by simpa using h)];simp[List.take_set_of_le]
 rw[c,List.drop_set_of_lt (by omega)];simp[gN,pV 1]
def mu(r o j:Nat):(⟨r,o,none⟩:Addr).add j=⟨r,o+j,none⟩:=by
 unfold Addr.add;split
 ·rename_i a;subst a;rfl
 ·rfl
def kq(r o:Nat)(e:TypeId)(fr:Nat×Nat):∀(c:List Value) (i:Nat) (a:Array Value) (w:World),w.heap[r]?=some (.cells a e fr)->NF fr a.size->
  o+i+c.length<=a.size->(∀v∈c,v.oneCell'=true)->(storeCells ⟨r,o,none⟩ c i).run P w=.ok () (setObj w r (.cells (splA a (o+i) c) e fr))
 | [],i,a,w,h,_,_,_=>by simp[storeCells,Gu,D3 h]
 | v::c,i,a,w,h,g,j,f=>by
  simp only[aP]at j;have b:o+i<a.size:=by omega
  have ih:=kq r o e fr c (i+1) (a.setIfInBounds (o+i) v) (setObj w r (.cells (a.setIfInBounds (o+i) v) e fr)) (wi h) (by simpa using g)
   (by simp;omega) (λu k=>f u (gW _ k))
  have hc:w.cell? ⟨r,o+i,none⟩=some a[o+i]:=by rw[bC h];simp[b]
  have d:=qi h g b;simp only[storeCells,aw,mu,run_store P w _ v _ (f v (by simp)),hc,d,bs,aC,ay,Be h,ih,Af];rw[show o+(i+1)=o+i+1 by omega,Ba a (o+i) v c b]
def VRs.spl{ι:Inj}{l m:List V}{E:Array Value}{F:List Value}(o:Nat)(h:VRs ι l E.toList)(C:VRs ι m F):VRs ι (spl l o m) (splA E o F).toList:=by
 unfold Abs.spl splA;rw[<-C.length];exact(h.take o).append (C.append (h.drop _))
def VRs.one{ι:Inj}:∀{m:List V} {vs:List Value},VRs ι m vs->m.all oneV=true->∀v∈vs,v.oneCell'=true
 | [],_,h,_,v,C=>by simp only[VRs]at h;subst h;cases C
 | _::_,_,h,E,v,C=>by
  simp only[VRs]at h;obtain⟨y,ys,rfl,F,G⟩:=h;simp only[md,aB]at E;rcases cT.1 C with rfl | C
  ·exact Cf F E.1
  ·exact VRs.one G E.2 v C
def oO{t:TypeId}{i:TypeInfo}(hi:P.info? t=some i){w:World}{r o:Nat}{a:Array Value}{e:TypeId}{fr:Nat×Nat}(h:w.heap[r]?=some (.cells a e fr))
  (d:NF fr a.size) {x:Value} (hx:x.cells.size=P.cellsOf t) (b:o+x.cells.size<=a.size) (c:∀v∈x.cells.toList,v.oneCell'=true):
  (Instr.storeAt t (.pointer (some ⟨r,o,none⟩)) x).run P w=.ok () (setObj w r (.cells (splA a o x.cells.toList) e fr)):=by
 simp only[Instr.storeAt,Instr.sureAddr,storeVar,aw,aA,ay,fN hi,hx,ne_eq,ub,aC];have:=kq (P:=P) r o e fr x.cells.toList 0 a w h d (by simpa using b) c;simpa using this
def JR{α:Type}{ι:Inj}{H:List (Nat×Blk)}{nb b o:Nat}{w:World}(F:WR ι H nb w){blk:Blk}(G:look H b=some blk){t:TypeId}{v:V}{x:Value}
  (j:VR ι v x) {c:Blk->Option α} {z:α} (h:pH P t blk o v c=some z):
  ∃f ob r,c f=some z/\ι b=some (some r)/\(Instr.storeAt t (.pointer (some ⟨r.r,o,none⟩)) x).run P w=.ok () (setObj w r.r ob)/\BR ι r f ob:=by
 have p:=mI j;have I:x.cells.size=(cellsOf v).length:=by simpa using p.length
 unfold pH at h;split at h
 ·split at h
  ·rename_i g;simp only[aB,iU]at g;obtain⟨C,u,B,D⟩:=g;obtain⟨i,hi⟩:=bQ C;obtain⟨r,E,e,fr,A,y,d,s⟩:=pM F G;have J:E.size=E.toList.length:=by simp
   have K:=d.length;have M:=aG B;refine⟨_,_,r,h,A,oO hi y s (by omega) (by omega) (p.one D),?_⟩;exact⟨_,e,fr,rfl,d.spl o p,by rw[wO (by simp;omega)];exact s⟩
  ·cases h
 ·rename_i k n l;obtain⟨r,e,fr,A,y,d,s⟩:=va F G;split at h
  ·rename_i k' m;split at h
   ·rename_i g;simp only[aB,iU]at g;obtain⟨q,u⟩:=g;have q:=kn q;subst q;obtain⟨B,D⟩:=eH h;have B:o<n:=aG B;obtain⟨i,hi⟩:=bQ (P:=P) (t:=t) (by rw[u];rfl);simp only[VR]at j;subst j;have hs:=oO hi (o:=o) y (by simpa[d]using s) (x:=.int k m) (by simpa[Value.cells]using u.symm) (by simp[Value.cells,d];omega) (by simp[Value.cells,Value.oneCell']);refine⟨_,_,r,D,A,hs,e,fr,?_,by simpa using d,s⟩;congr 1;unfold splA;apply mg;simp only[Value.cells,List.map_set];rw[J1,ae (by simp;omega)];simp
   ·cases h
  ·rename_i k' N L;split at h
   ·rename_i g;simp only[aB,iU]at g;obtain⟨q,rfl,rfl,C,u⟩:=g;have q:=kn q;subst q;obtain⟨i,hi⟩:=bQ (P:=P) (t:=t) (by rw[u];exact C);simp only[VR]at j;obtain⟨a,rfl⟩:=j
    have hs:=oO hi (o:=0) y (by simpa[d]using s) (x:=.agg (L.map (Value.int k)).toArray) (by simp[Value.cells,a,u]) (by simp[Value.cells,d,a]) (by
     intro v j;simp only[Value.cells,ew]at j;obtain⟨n,_,rfl⟩:=j;rfl)
    refine⟨_,_,r,h,A,hs,e,fr,?_,a,s⟩;congr 1;unfold splA;apply mg;simp[Value.cells,a,d]
   ·cases h
  ·cases h
 ·cases h
def Pg{b:Array Value}{base o n:Nat}{c:List Value}(h:o+c.length<=n)(k:base+n<=b.size):
  splA b (base+o) c=splA b base (((b.toList.drop base).take n).take o++(c++((b.toList.drop base).take n).drop (o+c.length))):=by
 unfold splA;congr 1;apply CO;intro i;have a:b.toList.length=b.size:=by simp
 by_cases e:i<base
 ·rw[mS (by simp;omega),mS (by simp;omega)];simp[e,show i<base+o by omega]
 ·obtain⟨j,rfl⟩:∃j,i=base+j:=⟨i - base,by omega⟩;rw[pj (l₁:=b.toList.take base) (by simp;omega)];simp only[de,a,rQ (by omega:base<=b.size),C6];by_cases d:j<o
  ·rw[mS (by simp;omega),mS (by simp;omega),mS (by simp;omega)];simp[d,show base+j<base+o by omega,show j<n by omega,pS,mX]
  ·by_cases g:j<o+c.length
   ·rw[pj (by simp;omega),mS (by simp;omega),mS (by simp;omega),pj (by simp;omega),mS (by simp;omega)];simp only[de,bj,a];congr 1;omega
   ·rw[pj (by simp;omega),pj (by simp;omega)];simp only[de,bj,a];by_cases f:j<n
    ·rw[mS (by simp;omega),pj (by simp;omega),pj (by simp;omega)];simp only[de,bj,a,mX];rw[pS (by omega),mX];congr 1;omega
    ·rw[pj (by simp;omega)];simp only[bW,de,bj,a,mX];congr 1;omega
def JO{α:Type}{ι:Inj}{w:World}{r o base:Nat}{a:Array Value}{e:TypeId}{fr:Nat×Nat}{l:List V}(y:w.heap[r]?=some (.cells a e fr))
  (k:VRs ι l ((a.toList.drop base).take l.length)) (d:base+l.length<=a.size) {t:TypeId} {v:V} {x:Value} (B:VR ι v x) {c:Blk->Option α} {z:α}
  (h:pH P t (.cells l) o v c=some z):
  ∃m X,c (.cells m)=some z/\X.length=l.length/\VRs ι m X/\(NF fr a.size->(Instr.storeAt t (.pointer (some ⟨r,base+o,none⟩)) x).run P w=.ok () (setObj w r (.cells (splA a base X) e fr))):=by
 have b:=mI B;have g:x.cells.size=(cellsOf v).length:=by simpa using b.length
 simp only[pH]at h;split at h
 ·rename_i p;simp only[aB,iU]at p;obtain⟨s,C,q,A⟩:=p;obtain⟨i,hi⟩:=bQ s;have u:=aG q;have f:x.cells.toList.length=(cellsOf v).length:=by simpa using g
  refine⟨_,_,h,?_,?_,λj=>by
   have hs:=oO hi y j (o:=base+o) (x:=x) (by omega) (by omega) (b.one A);rw[Pg (n:=l.length) (by omega) d]at hs;exact hs⟩
  ·simp only[bW,de,bj,f];have:a.toList.length=a.size:=by simp
   omega
  ·unfold Abs.spl;rw[f];exact(k.take o).append (b.append (k.drop _))
 ·cases h
def wc{t:List Lf}:∀(l:List (den t)) (j:Nat),(l.take j).flatMap (vals t)=(l.flatMap (vals t)).take (j*t.length)
 | [],j=>by simp
 | y::l,0=>by simp
 | y::l,j+1=>by
  have b:=jA t y;simp only[oI,qu,wc l j,gD,vP];have a:(vals t y).take (j*t.length+t.length)=vals t y:=iv (by omega);rw[DX (l₁:=vals t y),a,b,D7]
def wI{t:List Lf}:∀(l:List (den t)) (j:Nat),(l.drop j).flatMap (vals t)=(l.flatMap (vals t)).drop (j*t.length)
 | [],j=>by simp
 | y::l,0=>by simp
 | y::l,j+1=>by
  have b:=jA t y;simp only[pU,qu,wI l j,gD,vP];have a:(vals t y).drop (j*t.length+t.length)=[]:=iD (by omega);rw[F9 (l₁:=vals t y),a,b,D7,dW]
def NS{t:List Lf}(l:List (den t))(j:Nat)(x:den t)(h:j<l.length):
  (l.set j x).flatMap (vals t)=(l.flatMap (vals t)).take (j*t.length)++(vals t x++(l.flatMap (vals t)).drop (j*t.length+t.length)):=by
 rw[J1,ae h,IN,qu,wc,wI,gD,vP]
def BE{a:Array Value}{o k:Nat}{c:List Value}(h:o+k<=a.size):
  (splA a (o+k) c).toList.drop o=(a.toList.drop o).take k++(c++(a.toList.drop o).drop (k+c.length)):=by
 have b:a.toList.length=a.size:=by simp
 unfold splA;simp only;rw[F9,de,b,rQ h,wh,C6,Nat.sub_eq_zero_of_le (zJ o k),cg,jr,gN]
def LY{t:List Lf}{l:List (den t)}{a:Array Value}{o:Nat}(hs:o+l.length*t.length<=a.size)(h:(a.toList.drop o).take (l.length*t.length)=l.flatMap (vals t)){j:Nat}(x:den t)(b:j<l.length):
  ((splA a (o+j*t.length) (vals t x)).toList.drop o).take ((l.set j x).length*t.length)=(l.set j x).flatMap (vals t):=by
 have d:j*t.length+t.length<=l.length*t.length:=by
  have:=nE t.length (show j+1<=l.length from b);rw[gD]at this;omega
 rw[NS l j x b,<-h,List.length_set,BE (by omega)];generalize c:a.toList.drop o=L;have e:l.length*t.length<=L.length:=by rw[<-c];simp;omega
 rw[jA,DX,zB,de,DX,wh,jA];rw[Nat.min_eq_right (by omega:j*t.length<=l.length*t.length),rQ (by omega:j*t.length<=L.length)];congr 1
 ·rw[zB,rQ (by omega)]
 ·congr 1
  ·rw[iv (by rw[jA];omega)]
  ·congr 1;omega
def AY(off:Nat):∀(b:List Value) (j:Nat) (a:Array Value),off+j+b.length<=a.size->
  (b.zipIdx j).foldl (λa (p:Value×Nat)=>a.setIfInBounds (off+p.2) p.1) a=splA a (off+j) b
 | [],j,a,_=>by simp[Gu]
 | v::b,j,a,h=>by
  simp only[aP]at h;simp only[List.zipIdx_cons,ux];rw[AY off b (j+1) _ (by simp;omega),show off+(j+1)=off+j+1 by omega,Ba a (off+j) v b (by omega)]
def uR{ι:Inj}(c:Nat->Option (Nat×Nat)):∀(parts:List (Nat×V)) (f:List (Nat×Value)) (cells l:List V) (d:Array Value),VRs ι cells d.toList->
  f.map (·.1)=parts.map (·.1)->VRs ι [] []->(∀(j i:Nat) (v:V) (x:Value),parts[j]?=some (i,v)->f[j]?=some (i,x)->VR ι v x)->EA c cells parts=some l->
  ∃q:Array Value,Instr.fill c d f=some q/\VRs ι l q.toList
 | [],f,cells,l,d,hc,e,_,_,h=>by
  simp only[EA,ar]at h;subst h;have:f=[]:=by simpa using e
  subst this;exact⟨d,rfl,hc⟩
 | (i,v)::parts,[],cells,l,d,hc,e,_,_,h=>by simp at e
 | (i,v)::parts,(t,x)::f,cells,l,d,hc,e,s,hp,h=>by
  simp only[ge,H3]at e;obtain⟨hi,e⟩:=e;subst hi;have w:=hp 0 t v x (by simp) (by simp);have g:=mI w;have r:x.cells.size=(cellsOf v).length:=by simpa using g.length
  have u:d.size=cells.length:=by simpa using hc.length
  simp only[EA]at h;simp only[Instr.fill];split at h
  ·cases h
  ·rename_i off size m;rw[m];split at h
   ·rename_i p;simp only[aB,iU]at p;obtain⟨y,o⟩:=p;have o:=aG o;have k:(decide (x.cells.size≠size)||decide (off+x.cells.size>d.size))=false:=by
     simp only[ne_eq,gt_iff_lt,nL,uk,Lc];omega
    have n:=AY off x.cells.toList 0 d (by simp;omega);rw[<-Array.toList_zipIdx,Array.foldl_toList]at n;simp only[ct]at n;simp only[k,bs,aC,n];exact uR c parts f _ l _ (hc.spl off g) e s (λj i v x a b=>hp (j+1) i v x (by simpa using a) (by simpa using b)) h
   ·cases h
def tR{ι:Inj}{T:List (Nat×Option V)}{a:Act}(d:TR ι T a.tmps):∀(ps:List (Nat×Operand)) (l:List (Nat×V)),oQ (opd T) ps=some l->
  (ps.map λ(i,x)=>(i,a.eval x)).map (·.1)=l.map (·.1)/\∀(j i:Nat) (v:V) (x:Value),l[j]?=some (i,v)->(ps.map λ(i,x)=>(i,a.eval x))[j]?=some (i,x)->VR ι v x
 | [],l,h=>by
  simp only[oQ,ar]at h;subst h;simp
 | (i,x)::ps,l,h=>by
  simp only[oQ]at h;split at h
  ·rename_i v n;split at h
   ·rename_i m f;simp only[ar]at h;subst h;obtain⟨k,e⟩:=tR d ps m f;refine⟨by simp[<-k],λj g u y c b=>?_⟩;cases j with
    | zero=>
     simp only[lO,ar,bi]at c;obtain⟨rfl,rfl⟩:=c;simp only[ge,lO,ar,bi,jg]at b;subst b;exact bp d n
    | succ j=>exact e j g u y (by simpa using c) (by simpa using b)
   ·cases h
  ·cases h
def uW(ι:Inj){t:TypeId}{v:V}(h:HN P t=some v):∃z i,P.info? t=some i/\i.zero=some z/\VR ι v z/\∀w,(zeroValue t).run P w=.ok z w:=by
 unfold HN at h;split at h
 ·rename_i i hi;split at h
  ·rename_i z a;exact⟨z,i,hi,a,FN ι h,λw=>by simp[zeroValue,typeInfo,hi,a]⟩
  ·cases h
 ·cases h
end Go.Abs
