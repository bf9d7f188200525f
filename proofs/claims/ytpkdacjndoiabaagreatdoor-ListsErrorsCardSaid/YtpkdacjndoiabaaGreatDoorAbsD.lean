/- Stores, composite values and comparisons: what the abstract effect says of the model's own operation.
   Conditions: none; generic over the program. -/
import Derived.Test.YtpkdacjndoiabaaGreatDoorAbsC
import Derived.Laws.StructEq
set_option linter.unusedSimpArgs false
namespace Go.Abs
variable {P:Program}
def splA (cs:Array Value) (k:Nat) (vs:List Value):Array Value:=(cs.toList.take k++(vs++cs.toList.drop (k+vs.length))).toArray
theorem EP (cs:Array Value) (k:Nat):splA cs k []=cs:=by
 unfold splA;apply kx;simp
theorem vC {cs:Array Value} {k:Nat} {vs:List Value} (h:k+vs.length<=cs.size):(splA cs k vs).size=cs.size:=by
 unfold splA;simp;omega
theorem zQ (cs:Array Value) (k:Nat) (v:Value) (vs:List Value) (h:k<cs.size):splA (cs.setIfInBounds k v) (k+1) vs=splA cs k (v::vs):=by
 unfold splA
 apply kx
 simp only [Array.toList_setIfInBounds,aN]
 have h1:(cs.toList.set k v).take (k+1)=cs.toList.take k++[v]:=by
  rw [G5 (by simpa using h)]
  simp [List.take_set_of_le]
 rw [h1,List.drop_set_of_lt (by omega)]
 simp [gN,nT 1]
theorem lK (r o j:Nat):(⟨r,o,none⟩:Addr).add j=⟨r,o+j,none⟩:=by
 unfold Addr.add;split
 ·rename_i h0;subst h0;rfl
 ·rfl
theorem jw (r o:Nat) (e:TypeId) (fr:Nat×Nat):∀(vs:List Value) (i:Nat) (cs:Array Value) (w:World),w.heap[r]?=some (.cells cs e fr)->NF fr cs.size->
  o+i+vs.length<=cs.size->(∀v∈vs,v.oneCell'=true)->(storeCells ⟨r,o,none⟩ vs i).run P w=.ok () (setObj w r (.cells (splA cs (o+i) vs) e fr))
 | [],i,cs,w,h,_,_,_=>by simp [storeCells,EP,BB h]
 | v::vs,i,cs,w,h,hn,hl,h1=>by
  simp only [aN] at hl
  have hlt:o+i<cs.size:=by omega
  have ih:=jw r o e fr vs (i+1) (cs.setIfInBounds (o+i) v) (setObj w r (.cells (cs.setIfInBounds (o+i) v) e fr)) (vo h) (by simpa using hn)
   (by simp;omega) (λu hu=>h1 u (gH _ hu))
  have hc:w.cell? ⟨r,o+i,none⟩=some cs[o+i]:=by rw [bn h];simp [hlt]
  have hfr:=oZ h hn hlt
  simp only [storeCells,av,lK,run_store P w _ v _ (h1 v (by simp)),hc,hfr,ca,aE,ax,Ar h,ih,yi]
  rw [show o+(i+1)=o+i+1 by omega,zQ cs (o+i) v vs hlt]
theorem VRs.spl {ι:Inj} {l m:List V} {cs:Array Value} {vs:List Value} (o:Nat) (h:VRs ι l cs.toList) (hm:VRs ι m vs):VRs ι (spl l o m) (splA cs o vs).toList:=by
 unfold Abs.spl splA
 rw [<-hm.length]
 exact (h.take o).append (hm.append (h.drop _))
theorem VRs.one {ι:Inj}:∀{m:List V} {vs:List Value},VRs ι m vs->m.all oneV=true->∀v∈vs,v.oneCell'=true
 | [],_,h,_,v,hv=>by simp only [VRs] at h;subst h;cases hv
 | _::_,_,h,ha,v,hv=>by
  simp only [VRs] at h
  obtain ⟨y,ys,rfl,h2,h3⟩:=h
  simp only [m9,ay] at ha
  rcases cq.1 hv with rfl | hv
  ·exact zm h2 ha.1
  ·exact VRs.one h3 ha.2 v hv
theorem n8 {t:TypeId} {i:TypeInfo} (hi:P.info? t=some i) {w:World} {r o:Nat} {cs:Array Value} {e:TypeId} {fr:Nat×Nat} (h:w.heap[r]?=some (.cells cs e fr))
  (hn:NF fr cs.size) {x:Value} (hx:x.cells.size=P.cellsOf t) (hl:o+x.cells.size<=cs.size) (h1:∀v∈x.cells.toList,v.oneCell'=true):
  (Instr.storeAt t (.pointer (some ⟨r,o,none⟩)) x).run P w=.ok () (setObj w r (.cells (splA cs o x.cells.toList) e fr)):=by
 simp only [Instr.storeAt,Instr.sureAddr,storeVar,av,az,ax,eK hi,hx,ne_eq,sO,aE]
 have:=jw (P:=P) r o e fr x.cells.toList 0 cs w h hn (by simpa using hl) h1
 simpa using this
theorem GQ {α:Type} {ι:Inj} {H:List (Nat×Blk)} {nb b o:Nat} {w:World} (hW:WR ι H nb w) {blk:Blk} (hl:look H b=some blk) {t:TypeId} {v:V} {x:Value}
  (hv:VR ι v x) {c:Blk->Option α} {z:α} (h:pi P t blk o v c=some z):
  ∃blk' ob r,c blk'=some z/\ι b=some (some r)/\(Instr.storeAt t (.pointer (some ⟨r.r,o,none⟩)) x).run P w=.ok () (setObj w r.r ob)/\BR ι r blk' ob:=by
 have hcx:=lP hv
 have hxl:x.cells.size=(cellsOf v).length:=by simpa using hcx.length
 unfold pi at h
 split at h
 ·split at h
  ·rename_i hb
   simp only [ay,gP] at hb
   obtain ⟨h0,h1,h2,h3⟩:=hb
   obtain ⟨i,hi⟩:=bH h0
   obtain ⟨r,cs,e,fr,g1,g2,g3,g4⟩:=ot hW hl
   have hsz:cs.size=cs.toList.length:=by simp
   have g3l:=g3.length
   have hle:=aD h2
   refine ⟨_,_,r,h,g1,n8 hi g2 g4 (by omega) (by omega) (hcx.one h3),?_⟩
   exact ⟨_,e,fr,rfl,g3.spl o hcx,by rw [vC (by simp;omega)];exact g4⟩
  ·cases h
 ·rename_i k n l
  obtain ⟨r,e,fr,g1,g2,g3,g4⟩:=ub hW hl
  split at h
  ·rename_i k' m
   split at h
   ·rename_i hb
    simp only [ay,gP] at hb
    obtain ⟨hk,h1⟩:=hb
    have hk:=jn hk
    subst hk
    obtain ⟨h2,h3⟩:=dN h
    have h2:o<n:=aD h2
    obtain ⟨i,hi⟩:=bH (P:=P) (t:=t) (by rw [h1];rfl)
    simp only [VR] at hv;subst hv
    have hs:=n8 hi (o:=o) g2 (by simpa [g3] using g4) (x:=.int k m) (by simpa [Value.cells] using h1.symm) (by simp [Value.cells,g3];omega) (by simp [Value.cells,Value.oneCell'])
    refine ⟨_,_,r,h3,g1,hs,e,fr,?_,by simpa using g3,g4⟩
    congr 1
    unfold splA
    apply kx
    simp only [Value.cells,List.map_set]
    rw [GZ,ad (by simp;omega)]
    simp
   ·cases h
  ·rename_i k' n' l'
   split at h
   ·rename_i hb
    simp only [ay,gP] at hb
    obtain ⟨hk,rfl,rfl,h0,h1⟩:=hb
    have hk:=jn hk
    subst hk
    obtain ⟨i,hi⟩:=bH (P:=P) (t:=t) (by rw [h1];exact h0)
    simp only [VR] at hv
    obtain ⟨hl',rfl⟩:=hv
    have hs:=n8 hi (o:=0) g2 (by simpa [g3] using g4) (x:=.agg (l'.map (Value.int k)).toArray) (by simp [Value.cells,hl',h1]) (by simp [Value.cells,g3,hl']) (by
     intro v hv
     simp only [Value.cells,dj] at hv
     obtain ⟨n,_,rfl⟩:=hv;rfl)
    refine ⟨_,_,r,h,g1,hs,e,fr,?_,hl',g4⟩
    congr 1
    unfold splA
    apply kx
    simp [Value.cells,hl',g3]
   ·cases h
  ·cases h
 ·cases h
theorem OO {cs:Array Value} {base o n:Nat} {xs:List Value} (h:o+xs.length<=n) (hb:base+n<=cs.size):
  splA cs (base+o) xs=splA cs base (((cs.toList.drop base).take n).take o++(xs++((cs.toList.drop base).take n).drop (o+xs.length))):=by
 unfold splA
 congr 1
 apply wF
 intro i
 have hsz:cs.toList.length=cs.size:=by simp
 by_cases h1:i<base
 ·rw [l7 (by simp;omega),l7 (by simp;omega)]
  simp [h1,show i<base+o by omega]
 ·obtain ⟨j,rfl⟩:∃j,i=base+j:=⟨i - base,by omega⟩
  rw [n9 (l₁:=cs.toList.take base) (by simp;omega)]
  simp only [de,hsz,qD (by omega:base<=cs.size),BP]
  by_cases h2:j<o
  ·rw [l7 (by simp;omega),l7 (by simp;omega),l7 (by simp;omega)]
   simp [h2,show base+j<base+o by omega,show j<n by omega,oa,jT]
  ·by_cases h3:j<o+xs.length
   ·rw [n9 (by simp;omega),l7 (by simp;omega),l7 (by simp;omega),n9 (by simp;omega),l7 (by simp;omega)]
    simp only [de,mT,hsz]
    congr 1
    omega
   ·rw [n9 (by simp;omega),n9 (by simp;omega)]
    simp only [de,mT,hsz]
    by_cases h4:j<n
    ·rw [l7 (by simp;omega),n9 (by simp;omega),n9 (by simp;omega)]
     simp only [de,mT,hsz,jT]
     rw [oa (by omega),jT]
     congr 1
     omega
    ·rw [n9 (by simp;omega)]
     simp only [bq,de,mT,hsz,jT]
     congr 1
     omega
theorem IA {α:Type} {ι:Inj} {w:World} {r o base:Nat} {cs:Array Value} {e:TypeId} {fr:Nat×Nat} {l:List V} (hh:w.heap[r]?=some (.cells cs e fr))
  (hl:VRs ι l ((cs.toList.drop base).take l.length)) (hlen:base+l.length<=cs.size) {t:TypeId} {v:V} {x:Value} (hv:VR ι v x) {c:Blk->Option α} {z:α}
  (h:pi P t (.cells l) o v c=some z):
  ∃l' X,c (.cells l')=some z/\X.length=l.length/\VRs ι l' X/\(NF fr cs.size->(Instr.storeAt t (.pointer (some ⟨r,base+o,none⟩)) x).run P w=.ok () (setObj w r (.cells (splA cs base X) e fr))):=by
 have hcx:=lP hv
 have hxl:x.cells.size=(cellsOf v).length:=by simpa using hcx.length
 simp only [pi] at h
 split at h
 ·rename_i hb
  simp only [ay,gP] at hb
  obtain ⟨h0,h1,h2,h3⟩:=hb
  obtain ⟨i,hi⟩:=bH h0
  have hle:=aD h2
  have hxs:x.cells.toList.length=(cellsOf v).length:=by simpa using hxl
  refine ⟨_,_,h,?_,?_,λhnf=>by
   have hs:=n8 hi hh hnf (o:=base+o) (x:=x) (by omega) (by omega) (hcx.one h3)
   rw [OO (n:=l.length) (by omega) hlen] at hs
   exact hs⟩
  ·simp only [bq,de,mT,hxs]
   have:cs.toList.length=cs.size:=by simp
   omega
  ·unfold Abs.spl
   rw [hxs]
   exact (hl.take o).append (hcx.append (hl.drop _))
 ·cases h
theorem ur {t:List Lf}:∀(l:List (den t)) (j:Nat),(l.take j).flatMap (vals t)=(l.flatMap (vals t)).take (j*t.length)
 | [],j=>by simp
 | y::l,0=>by simp
 | y::l,j+1=>by
  have hv:=fA t y
  simp only [nJ,mX,ur l j,fH,vf]
  have e1:(vals t y).take (j*t.length+t.length)=vals t y:=gL (by omega)
  rw [Bd (l₁:=vals t y),e1,hv,BS]
theorem uc {t:List Lf}:∀(l:List (den t)) (j:Nat),(l.drop j).flatMap (vals t)=(l.flatMap (vals t)).drop (j*t.length)
 | [],j=>by simp
 | y::l,0=>by simp
 | y::l,j+1=>by
  have hv:=fA t y
  simp only [mS,mX,uc l j,fH,vf]
  have e1:(vals t y).drop (j*t.length+t.length)=[]:=rf (by omega)
  rw [Dt (l₁:=vals t y),e1,hv,BS,ew]
theorem KP {t:List Lf} (l:List (den t)) (j:Nat) (x:den t) (h:j<l.length):
  (l.set j x).flatMap (vals t)=(l.flatMap (vals t)).take (j*t.length)++(vals t x++(l.flatMap (vals t)).drop (j*t.length+t.length)):=by
 rw [GZ,ad h,Ef,mX,ur,uc,fH,vf]
theorem AE {cs:Array Value} {o k:Nat} {vs:List Value} (h:o+k<=cs.size):
  (splA cs (o+k) vs).toList.drop o=(cs.toList.drop o).take k++(vs++(cs.toList.drop o).drop (k+vs.length)):=by
 have hsz:cs.toList.length=cs.size:=by simp
 unfold splA
 simp only
 rw [Dt,de,hsz,qD h,Ah,BP,Nat.sub_eq_zero_of_le (Nat.le_add_right o k),gk,xk,gN]
theorem Lh {t:List Lf} {l:List (den t)} {cs:Array Value} {o:Nat} (hs:o+l.length*t.length<=cs.size) (h:(cs.toList.drop o).take (l.length*t.length)=l.flatMap (vals t)) {j:Nat} (x:den t) (hj:j<l.length):
  ((splA cs (o+j*t.length) (vals t x)).toList.drop o).take ((l.set j x).length*t.length)=(l.set j x).flatMap (vals t):=by
 have hle:j*t.length+t.length<=l.length*t.length:=by
  have:=mD t.length (show j+1<=l.length from hj)
  rw [fH] at this;omega
 rw [KP l j x hj,<-h,A9,AE (by omega)]
 generalize hL:cs.toList.drop o=L
 have hsz:l.length*t.length<=L.length:=by rw [<-hL];simp;omega
 rw [fA,Bd,yy,de,Bd,Ah,fA]
 rw [Nat.min_eq_right (by omega:j*t.length<=l.length*t.length),qD (by omega:j*t.length<=L.length)]
 congr 1
 ·rw [yy,qD (by omega)]
 ·congr 1
  ·rw [gL (by rw [fA];omega)]
  ·congr 1;omega
theorem zP (off:Nat):∀(vs:List Value) (j:Nat) (cs:Array Value),off+j+vs.length<=cs.size->
  (vs.zipIdx j).foldl (λcs (p:Value×Nat)=>cs.setIfInBounds (off+p.2) p.1) cs=splA cs (off+j) vs
 | [],j,cs,_=>by simp [EP]
 | v::vs,j,cs,h=>by
  simp only [aN] at h
  simp only [List.zipIdx_cons,tg]
  rw [zP off vs (j+1) _ (by simp;omega),show off+(j+1)=off+j+1 by omega,zQ cs (off+j) v vs (by omega)]
theorem tZ {ι:Inj} (place:Nat->Option (Nat×Nat)):∀(parts:List (Nat×V)) (xs:List (Nat×Value)) (cells l:List V) (cs:Array Value),VRs ι cells cs.toList->
  xs.map (·.1)=parts.map (·.1)->VRs ι [] []->(∀(j i:Nat) (v:V) (x:Value),parts[j]?=some (i,v)->xs[j]?=some (i,x)->VR ι v x)->BG place cells parts=some l->
  ∃ds:Array Value,Instr.fill place cs xs=some ds/\VRs ι l ds.toList
 | [],xs,cells,l,cs,hc,hm,_,_,h=>by
  simp only [BG,am] at h;subst h
  have:xs=[]:=by simpa using hm
  subst this
  exact ⟨cs,rfl,hc⟩
 | (i,v)::parts,[],cells,l,cs,hc,hm,_,_,h=>by simp at hm
 | (i,v)::parts,(i',x)::xs,cells,l,cs,hc,hm,he,hp,h=>by
  simp only [eV,Ei] at hm
  obtain ⟨hi,hm⟩:=hm
  subst hi
  have hv:=hp 0 i' v x (by simp) (by simp)
  have hcx:=lP hv
  have hxl:x.cells.size=(cellsOf v).length:=by simpa using hcx.length
  have hsz:cs.size=cells.length:=by simpa using hc.length
  simp only [BG] at h
  simp only [Instr.fill]
  split at h
  ·cases h
  ·rename_i off size hpl
   rw [hpl]
   split at h
   ·rename_i hb
    simp only [ay,gP] at hb
    obtain ⟨h1,h2⟩:=hb
    have h2:=aD h2
    have hno:(decide (x.cells.size≠size)||decide (off+x.cells.size>cs.size))=false:=by
     simp only [ne_eq,gt_iff_lt,sY,vt,IR]
     omega
    have hf:=zP off x.cells.toList 0 cs (by simp;omega)
    rw [<-Array.toList_zipIdx,Array.foldl_toList] at hf
    simp only [eA] at hf
    simp only [hno,ca,aE,hf]
    exact tZ place parts xs _ l _ (hc.spl off hcx) hm he (λj i v x a b=>hp (j+1) i v x (by simpa using a) (by simpa using b)) h
   ·cases h
theorem sc {ι:Inj} {T:List (Nat×Option V)} {a:Act} (ht:TR ι T a.tmps):∀(ps:List (Nat×Operand)) (l:List (Nat×V)),nU (opd T) ps=some l->
  (ps.map λ(i,x)=>(i,a.eval x)).map (·.1)=l.map (·.1)/\∀(j i:Nat) (v:V) (x:Value),l[j]?=some (i,v)->(ps.map λ(i,x)=>(i,a.eval x))[j]?=some (i,x)->VR ι v x
 | [],l,h=>by
  simp only [nU,am] at h;subst h
  simp
 | (i,x)::ps,l,h=>by
  simp only [nU] at h
  split at h
  ·rename_i v hv
   split at h
   ·rename_i m hm
    simp only [am] at h;subst h
    obtain ⟨h1,h2⟩:=sc ht ps m hm
    refine ⟨by simp [<-h1],λj i' u y hj hj'=>?_⟩
    cases j with
    | zero=>
     simp only [jL,am,cR] at hj
     obtain ⟨rfl,rfl⟩:=hj
     simp only [eV,jL,am,cR,iY] at hj'
     subst hj'
     exact aZ ht hv
    | succ j=>exact h2 j i' u y (by simpa using hj) (by simpa using hj')
   ·cases h
  ·cases h
theorem tM (ι:Inj) {t:TypeId} {v:V} (h:FD P t=some v):∃z i,P.info? t=some i/\i.zero=some z/\VR ι v z/\∀w,(zeroValue t).run P w=.ok z w:=by
 unfold FD at h
 split at h
 ·rename_i i hi
  split at h
  ·rename_i z hz
   exact ⟨z,i,hi,hz,CS ι h,λw=>by simp [zeroValue,typeInfo,hi,hz]⟩
  ·cases h
 ·cases h
end Go.Abs
