
/- Stores, composite values and comparisons: what the abstract effect says of the model's own operation.
   Conditions: none; generic over the program. -/
import Derived.Test.YthemneooekobkaaGreatDoorAbsC
import Derived.Laws.StructEq
set_option linter.unusedVariables false
set_option linter.unusedSimpArgs false
namespace Go.Abs
variable {P:Program}
def splA (a:Array Value) (k:Nat) (b:List Value):Array Value:=(a.toList.take k++(b++a.toList.drop (k+b.length))).toArray
theorem DW (a:Array Value) (k:Nat):splA a k []=a:=by
 unfold splA;apply jZ;simp
theorem ug {a:Array Value} {k:Nat} {b:List Value} (h:k+b.length<=a.size):(splA a k b).size=a.size:=by
 unfold splA;simp;omega
theorem zm (a:Array Value) (k:Nat) (v:Value) (b:List Value) (h:k<a.size):splA (a.setIfInBounds k v) (k+1) b=splA a k (v::b):=by
 unfold splA;apply jZ;simp only [Array.toList_setIfInBounds,aS];have c:(a.toList.set k v).take (k+1)=a.toList.take k++[v]:=by
  rw [Ix (by simpa using h)];simp [List.take_set_of_le]
 rw [c,List.drop_set_of_lt (by omega)];simp [il,qI 1]
theorem lH (r o j:Nat):(⟨r,o,none⟩:Addr).add j=⟨r,o+j,none⟩:=by
 unfold Addr.add;split
 ·rename_i a;subst a;rfl
 ·rfl
theorem jU (r o:Nat) (e:TypeId) (fr:Nat×Nat):∀(c:List Value) (i:Nat) (a:Array Value) (w:World),w.heap[r]?=some (.cells a e fr)->NF fr a.size->
  o+i+c.length<=a.size->(∀v∈c,v.oneCell'=true)->(storeCells ⟨r,o,none⟩ c i).run P w=.ok () (setObj w r (.cells (splA a (o+i) c) e fr))
 | [],i,a,w,h,_,_,_=>by simp [storeCells,DW,Bh h]
 | v::c,i,a,w,h,f,j,g=>by
  simp only [aS] at j;have b:o+i<a.size:=by omega
  have ih:=jU r o e fr c (i+1) (a.setIfInBounds (o+i) v) (setObj w r (.cells (a.setIfInBounds (o+i) v) e fr)) (wa h) (by simpa using f)
   (by simp;omega) (λu k=>g u (gP _ k))
  have hc:w.cell? ⟨r,o+i,none⟩=some a[o+i]:=by rw [aX h];simp [b]
  have d:=oJ h f b;simp only [storeCells,av,lH,run_store P w _ v _ (g v (by simp)),hc,d,cE,aG,ax,AZ h,ih,yP];rw [show o+(i+1)=o+i+1 by omega,zm a (o+i) v c b]
theorem VRs.spl {ι:Inj} {l m:List V} {A:Array Value} {E:List Value} (o:Nat) (h:VRs ι l A.toList) (C:VRs ι m E):VRs ι (spl l o m) (splA A o E).toList:=by
 unfold Abs.spl splA;rw [<-C.length];exact (h.take o).append (C.append (h.drop _))
theorem VRs.one {ι:Inj}:∀{m:List V} {vs:List Value},VRs ι m vs->m.all oneV=true->∀v∈vs,v.oneCell'=true
 | [],_,h,_,v,A=>by simp only [VRs] at h;subst h;cases A
 | _::_,_,h,C,v,A=>by
  simp only [VRs] at h;obtain ⟨y,G,rfl,E,F⟩:=h;simp only [mV,ay] at C;rcases cA.1 A with rfl | A
  ·exact Ak E C.1
  ·exact VRs.one F C.2 v A
theorem nZ {t:TypeId} {i:TypeInfo} (hi:P.info? t=some i) {w:World} {r o:Nat} {a:Array Value} {e:TypeId} {fr:Nat×Nat} (h:w.heap[r]?=some (.cells a e fr))
  (d:NF fr a.size) {x:Value} (hx:x.cells.size=P.cellsOf t) (b:o+x.cells.size<=a.size) (c:∀v∈x.cells.toList,v.oneCell'=true):
  (Instr.storeAt t (.pointer (some ⟨r,o,none⟩)) x).run P w=.ok () (setObj w r (.cells (splA a o x.cells.toList) e fr)):=by
 simp only [Instr.storeAt,Instr.sureAddr,storeVar,av,az,ax,eN hi,hx,ne_eq,sG,aG];have:=jU (P:=P) r o e fr x.cells.toList 0 a w h d (by simpa using b) c;simpa using this
theorem G2 {α:Type} {ι:Inj} {H:List (Nat×Blk)} {nb b o:Nat} {w:World} (F:WR ι H nb w) {blk:Blk} (E:look H b=some blk) {t:TypeId} {v:V} {x:Value}
  (f:VR ι v x) {c:Blk->Option α} {z:α} (h:o9 P t blk o v c=some z):
  ∃j ob r,c j=some z/\ι b=some (some r)/\(Instr.storeAt t (.pointer (some ⟨r.r,o,none⟩)) x).run P w=.ok () (setObj w r.r ob)/\BR ι r j ob:=by
 have s:=lV f;have M:x.cells.size=(cellsOf v).length:=by simpa using s.length
 unfold o9 at h;split at h
 ·split at h
  ·rename_i g;simp only [ay,io] at g;obtain ⟨D,u,B,C⟩:=g;obtain ⟨i,hi⟩:=bL D;obtain ⟨r,G,e,fr,y,A,a,p⟩:=oL F E;have K:G.size=G.toList.length:=by simp
   have J:=a.length;have I:=aD B;refine ⟨_,_,r,h,y,nZ hi A p (by omega) (by omega) (s.one C),?_⟩;exact ⟨_,e,fr,rfl,a.spl o s,by rw [ug (by simp;omega)];exact p⟩
  ·cases h
 ·rename_i k n l;obtain ⟨r,e,fr,y,A,a,p⟩:=tL F E;split at h
  ·rename_i k' m;split at h
   ·rename_i g;simp only [ay,io] at g;obtain ⟨q,u⟩:=g;have q:=jL q;subst q;obtain ⟨B,C⟩:=dk h;have B:o<n:=aD B;obtain ⟨i,hi⟩:=bL (P:=P) (t:=t) (by rw [u];rfl);simp only [VR] at f;subst f;have hs:=nZ hi (o:=o) A (by simpa [a] using p) (x:=.int k m) (by simpa [Value.cells] using u.symm) (by simp [Value.cells,a];omega) (by simp [Value.cells,Value.oneCell']);refine ⟨_,_,r,C,y,hs,e,fr,?_,by simpa using a,p⟩;congr 1;unfold splA;apply jZ;simp only [Value.cells,List.map_set];rw [JF,ad (by simp;omega)];simp
   ·cases h
  ·rename_i k' N L;split at h
   ·rename_i g;simp only [ay,io] at g;obtain ⟨q,rfl,rfl,D,u⟩:=g;have q:=jL q;subst q;obtain ⟨i,hi⟩:=bL (P:=P) (t:=t) (by rw [u];exact D);simp only [VR] at f;obtain ⟨d,rfl⟩:=f
    have hs:=nZ hi (o:=0) A (by simpa [a] using p) (x:=.agg (L.map (Value.int k)).toArray) (by simp [Value.cells,d,u]) (by simp [Value.cells,a,d]) (by
     intro v f;simp only [Value.cells,dr] at f;obtain ⟨n,_,rfl⟩:=f;rfl)
    refine ⟨_,_,r,h,y,hs,e,fr,?_,d,p⟩;congr 1;unfold splA;apply jZ;simp [Value.cells,d,a]
   ·cases h
  ·cases h
 ·cases h
theorem Oz {b:Array Value} {base o n:Nat} {c:List Value} (h:o+c.length<=n) (k:base+n<=b.size):
  splA b (base+o) c=splA b base (((b.toList.drop base).take n).take o++(c++((b.toList.drop base).take n).drop (o+c.length))):=by
 unfold splA;congr 1;apply xj;intro i;have a:b.toList.length=b.size:=by simp
 by_cases e:i<base
 ·rw [mi (by simp;omega),mi (by simp;omega)];simp [e,show i<base+o by omega]
 ·obtain ⟨j,rfl⟩:∃j,i=base+j:=⟨i - base,by omega⟩;rw [oe (l₁:=b.toList.take base) (by simp;omega)];simp only [dx,a,qL (by omega:base<=b.size),BQ];by_cases d:j<o
  ·rw [mi (by simp;omega),mi (by simp;omega),mi (by simp;omega)];simp [d,show base+j<base+o by omega,show j<n by omega,oc,ke]
  ·by_cases f:j<o+c.length
   ·rw [oe (by simp;omega),mi (by simp;omega),mi (by simp;omega),oe (by simp;omega),mi (by simp;omega)];simp only [dx,nh,a];congr 1;omega
   ·rw [oe (by simp;omega),oe (by simp;omega)];simp only [dx,nh,a];by_cases g:j<n
    ·rw [mi (by simp;omega),oe (by simp;omega),oe (by simp;omega)];simp only [dx,nh,a,ke];rw [oc (by omega),ke];congr 1;omega
    ·rw [oe (by simp;omega)];simp only [bB,dx,nh,a,ke];congr 1;omega
theorem Hu {α:Type} {ι:Inj} {w:World} {r o base:Nat} {a:Array Value} {e:TypeId} {fr:Nat×Nat} {l:List V} (B:w.heap[r]?=some (.cells a e fr))
  (k:VRs ι l ((a.toList.drop base).take l.length)) (d:base+l.length<=a.size) {t:TypeId} {v:V} {x:Value} (A:VR ι v x) {c:Blk->Option α} {z:α}
  (h:o9 P t (.cells l) o v c=some z):
  ∃m X,c (.cells m)=some z/\X.length=l.length/\VRs ι m X/\(NF fr a.size->(Instr.storeAt t (.pointer (some ⟨r,base+o,none⟩)) x).run P w=.ok () (setObj w r (.cells (splA a base X) e fr))):=by
 have b:=lV A;have j:x.cells.size=(cellsOf v).length:=by simpa using b.length
 simp only [o9] at h;split at h
 ·rename_i p;simp only [ay,io] at p;obtain ⟨y,C,q,s⟩:=p;obtain ⟨i,hi⟩:=bL y;have u:=aD q;have f:x.cells.toList.length=(cellsOf v).length:=by simpa using j
  refine ⟨_,_,h,?_,?_,λg=>by
   have hs:=nZ hi B g (o:=base+o) (x:=x) (by omega) (by omega) (b.one s);rw [Oz (n:=l.length) (by omega) d] at hs;exact hs⟩
  ·simp only [bB,dx,nh,f];have:a.toList.length=a.size:=by simp
   omega
  ·unfold Abs.spl;rw [f];exact (k.take o).append (b.append (k.drop _))
 ·cases h
theorem uL {t:List Lf}:∀(l:List (den t)) (j:Nat),(l.take j).flatMap (vals t)=(l.flatMap (vals t)).take (j*t.length)
 | [],j=>by simp
 | y::l,0=>by simp
 | y::l,j+1=>by
  have a:=fA t y;simp only [oP,m8,uL l j,fL,vG];have b:(vals t y).take (j*t.length+t.length)=vals t y:=gX (by omega);rw [B5 (l₁:=vals t y),b,a,BP]
theorem wd {t:List Lf}:∀(l:List (den t)) (j:Nat),(l.drop j).flatMap (vals t)=(l.flatMap (vals t)).drop (j*t.length)
 | [],j=>by simp
 | y::l,0=>by simp
 | y::l,j+1=>by
  have a:=fA t y;simp only [xG,m8,wd l j,fL,vG];have b:(vals t y).drop (j*t.length+t.length)=[]:=rl (by omega);rw [Dt (l₁:=vals t y),b,a,BP,ij]
theorem Ls {t:List Lf} (l:List (den t)) (j:Nat) (x:den t) (h:j<l.length):
  (l.set j x).flatMap (vals t)=(l.flatMap (vals t)).take (j*t.length)++(vals t x++(l.flatMap (vals t)).drop (j*t.length+t.length)):=by
 rw [JF,ad h,Eo,m8,uL,wd,fL,vG]
theorem Ao {a:Array Value} {o k:Nat} {c:List Value} (h:o+k<=a.size):
  (splA a (o+k) c).toList.drop o=(a.toList.drop o).take k++(c++(a.toList.drop o).drop (k+c.length)):=by
 have b:a.toList.length=a.size:=by simp
 unfold splA;simp only;rw [Dt,dx,b,qL h,zS,BQ,Nat.sub_eq_zero_of_le (Nat.le_add_right o k),jO,wN,il]
theorem J3 {t:List Lf} {l:List (den t)} {a:Array Value} {o:Nat} (hs:o+l.length*t.length<=a.size) (h:(a.toList.drop o).take (l.length*t.length)=l.flatMap (vals t)) {j:Nat} (x:den t) (b:j<l.length):
  ((splA a (o+j*t.length) (vals t x)).toList.drop o).take ((l.set j x).length*t.length)=(l.set j x).flatMap (vals t):=by
 have d:j*t.length+t.length<=l.length*t.length:=by
  have:=mK t.length (show j+1<=l.length from b);rw [fL] at this;omega
 rw [Ls l j x b,<-h,BC,Ao (by omega)];generalize c:a.toList.drop o=L;have e:l.length*t.length<=L.length:=by rw [<-c];simp;omega
 rw [fA,B5,yK,dx,B5,zS,fA];rw [Nat.min_eq_right (by omega:j*t.length<=l.length*t.length),qL (by omega:j*t.length<=L.length)];congr 1
 ·rw [yK,qL (by omega)]
 ·congr 1
  ·rw [gX (by rw [fA];omega)]
  ·congr 1;omega
theorem AH (off:Nat):∀(b:List Value) (j:Nat) (a:Array Value),off+j+b.length<=a.size->
  (b.zipIdx j).foldl (λa (p:Value×Nat)=>a.setIfInBounds (off+p.2) p.1) a=splA a (off+j) b
 | [],j,a,_=>by simp [DW]
 | v::b,j,a,h=>by
  simp only [aS] at h;simp only [List.zipIdx_cons,tc];rw [AH off b (j+1) _ (by simp;omega),show off+(j+1)=off+j+1 by omega,zm a (off+j) v b (by omega)]
theorem tU {ι:Inj} (c:Nat->Option (Nat×Nat)):∀(parts:List (Nat×V)) (f:List (Nat×Value)) (cells l:List V) (d:Array Value),VRs ι cells d.toList->
  f.map (·.1)=parts.map (·.1)->VRs ι [] []->(∀(j i:Nat) (v:V) (x:Value),parts[j]?=some (i,v)->f[j]?=some (i,x)->VR ι v x)->Bc c cells parts=some l->
  ∃p:Array Value,Instr.fill c d f=some p/\VRs ι l p.toList
 | [],f,cells,l,d,hc,e,_,_,h=>by
  simp only [Bc,am] at h;subst h;have:f=[]:=by simpa using e
  subst this;exact ⟨d,rfl,hc⟩
 | (i,v)::parts,[],cells,l,d,hc,e,_,_,h=>by simp at e
 | (i,v)::parts,(s,x)::f,cells,l,d,hc,e,t,hp,h=>by
  simp only [fa,EV] at e;obtain ⟨hi,e⟩:=e;subst hi;have u:=hp 0 s v x (by simp) (by simp);have g:=lV u;have r:x.cells.size=(cellsOf v).length:=by simpa using g.length
  have w:d.size=cells.length:=by simpa using hc.length
  simp only [Bc] at h;simp only [Instr.fill];split at h
  ·cases h
  ·rename_i off size m;rw [m];split at h
   ·rename_i q;simp only [ay,io] at q;obtain ⟨y,o⟩:=q;have o:=aD o;have k:(decide (x.cells.size≠size)||decide (off+x.cells.size>d.size))=false:=by
     simp only [ne_eq,gt_iff_lt,Dq,vT,GA];omega
    have n:=AH off x.cells.toList 0 d (by simp;omega);rw [<-Array.toList_zipIdx,Array.foldl_toList] at n;simp only [fg] at n;simp only [k,cE,aG,n];exact tU c parts f _ l _ (hc.spl off g) e t (λj i v x a b=>hp (j+1) i v x (by simpa using a) (by simpa using b)) h
   ·cases h
theorem sM {ι:Inj} {T:List (Nat×Option V)} {a:Act} (d:TR ι T a.tmps):∀(ps:List (Nat×Operand)) (l:List (Nat×V)),nN (opd T) ps=some l->
  (ps.map λ(i,x)=>(i,a.eval x)).map (·.1)=l.map (·.1)/\∀(j i:Nat) (v:V) (x:Value),l[j]?=some (i,v)->(ps.map λ(i,x)=>(i,a.eval x))[j]?=some (i,x)->VR ι v x
 | [],l,h=>by
  simp only [nN,am] at h;subst h;simp
 | (i,x)::ps,l,h=>by
  simp only [nN] at h;split at h
  ·rename_i v k;split at h
   ·rename_i m f;simp only [am] at h;subst h;obtain ⟨n,e⟩:=sM d ps m f;refine ⟨by simp [<-n],λj g u y c b=>?_⟩;cases j with
    | zero=>
     simp only [kb,am,cZ] at c;obtain ⟨rfl,rfl⟩:=c;simp only [fa,kb,am,cZ,jm] at b;subst b;exact bh d k
    | succ j=>exact e j g u y (by simpa using c) (by simpa using b)
   ·cases h
  ·cases h
theorem tQ (ι:Inj) {t:TypeId} {v:V} (h:Ft P t=some v):∃z i,P.info? t=some i/\i.zero=some z/\VR ι v z/\∀w,(zeroValue t).run P w=.ok z w:=by
 unfold Ft at h;split at h
 ·rename_i i hi;split at h
  ·rename_i z a;exact ⟨z,i,hi,a,DL ι h,λw=>by simp [zeroValue,typeInfo,hi,a]⟩
  ·cases h
 ·cases h
end Go.Abs
