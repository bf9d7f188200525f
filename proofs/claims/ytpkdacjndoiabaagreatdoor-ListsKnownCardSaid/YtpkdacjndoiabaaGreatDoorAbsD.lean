/- Stores, composite values and comparisons: what the abstract effect says of the model's own operation.
   Conditions: none; generic over the program. -/
import Derived.Test.YtpkdacjndoiabaaGreatDoorAbsC
import Derived.Laws.StructEq
set_option linter.unusedSimpArgs false
namespace Go.Abs
variable {P:Program}
def splA (cs:Array Value) (k:Nat) (vs:List Value):Array Value:=(cs.toList.take k++(vs++cs.toList.drop (k+vs.length))).toArray
theorem EV (cs:Array Value) (k:Nat):splA cs k []=cs:=by
 unfold splA;apply lP;simp
theorem vZ {cs:Array Value} {k:Nat} {vs:List Value} (h:k+vs.length<=cs.size):(splA cs k vs).size=cs.size:=by
 unfold splA;simp;omega
theorem BJ (cs:Array Value) (k:Nat) (v:Value) (vs:List Value) (h:k<cs.size):splA (cs.setIfInBounds k v) (k+1) vs=splA cs k (v::vs):=by
 unfold splA
 apply lP
 simp only [Array.toList_setIfInBounds,aD]
 have h1:(cs.toList.set k v).take (k+1)=cs.toList.take k++[v]:=by
  rw [J9 (by simpa using h)]
  simp [List.take_set_of_le]
 rw [h1,List.drop_set_of_lt (by omega)]
 simp [gO,oS 1]
theorem mK (r o j:Nat):(⟨r,o,none⟩:Addr).add j=⟨r,o+j,none⟩:=by
 unfold Addr.add;split
 ·rename_i h0;subst h0;rfl
 ·rfl
theorem ku (r o:Nat) (e:TypeId) (fr:Nat×Nat):∀(vs:List Value) (i:Nat) (cs:Array Value) (w:World),w.heap[r]?=some (.cells cs e fr)->NF fr cs.size->
  o+i+vs.length<=cs.size->(∀v∈vs,v.oneCell'=true)->(storeCells ⟨r,o,none⟩ vs i).run P w=.ok () (setObj w r (.cells (splA cs (o+i) vs) e fr))
 | [],i,cs,w,h,_,_,_=>by simp [storeCells,EV,D3 h]
 | v::vs,i,cs,w,h,hn,hl,h1=>by
  simp only [aD] at hl
  have hlt:o+i<cs.size:=by omega
  have ih:=ku r o e fr vs (i+1) (cs.setIfInBounds (o+i) v) (setObj w r (.cells (cs.setIfInBounds (o+i) v) e fr)) (xm h) (by simpa using hn)
   (by simp;omega) (λu hu=>h1 u (gq _ hu))
  have hc:w.cell? ⟨r,o+i,none⟩=some cs[o+i]:=by rw [bH h];simp [hlt]
  have hfr:=qm h hn hlt
  simp only [storeCells,aw,mK,run_store P w _ v _ (h1 v (by simp)),hc,hfr,bP,aE,ay,Bi h,ih,zf]
  rw [show o+(i+1)=o+i+1 by omega,BJ cs (o+i) v vs hlt]
theorem VRs.spl {ι:Inj} {l m:List V} {cs:Array Value} {vs:List Value} (o:Nat) (h:VRs ι l cs.toList) (hm:VRs ι m vs):VRs ι (spl l o m) (splA cs o vs).toList:=by
 unfold Abs.spl splA
 rw [<-hm.length]
 exact (h.take o).append (hm.append (h.drop _))
theorem VRs.one {ι:Inj}:∀{m:List V} {vs:List Value},VRs ι m vs->m.all oneV=true->∀v∈vs,v.oneCell'=true
 | [],_,h,_,v,hv=>by simp only [VRs] at h;subst h;cases hv
 | _::_,_,h,ha,v,hv=>by
  simp only [VRs] at h
  obtain ⟨y,ys,rfl,h2,h3⟩:=h
  simp only [oG,az] at ha
  rcases dl.1 hv with rfl | hv
  ·exact BE h2 ha.1
  ·exact VRs.one h3 ha.2 v hv
theorem pI {t:TypeId} {i:TypeInfo} (hi:P.info? t=some i) {w:World} {r o:Nat} {cs:Array Value} {e:TypeId} {fr:Nat×Nat} (h:w.heap[r]?=some (.cells cs e fr))
  (hn:NF fr cs.size) {x:Value} (hx:x.cells.size=P.cellsOf t) (hl:o+x.cells.size<=cs.size) (h1:∀v∈x.cells.toList,v.oneCell'=true):
  (Instr.storeAt t (.pointer (some ⟨r,o,none⟩)) x).run P w=.ok () (setObj w r (.cells (splA cs o x.cells.toList) e fr)):=by
 simp only [Instr.storeAt,Instr.sureAddr,storeVar,aw,aA,ay,fV hi,hx,ne_eq,um,aE]
 have:=ku (P:=P) r o e fr x.cells.toList 0 cs w h hn (by simpa using hl) h1
 simpa using this
theorem KW {α:Type} {ι:Inj} {H:List (Nat×Blk)} {nb b o:Nat} {w:World} (hW:WR ι H nb w) {blk:Blk} (hl:look H b=some blk) {t:TypeId} {v:V} {x:Value}
  (hv:VR ι v x) {c:Blk->Option α} {z:α} (h:qA P t blk o v c=some z):
  ∃blk' ob r,c blk'=some z/\ι b=some (some r)/\(Instr.storeAt t (.pointer (some ⟨r.r,o,none⟩)) x).run P w=.ok () (setObj w r.r ob)/\BR ι r blk' ob:=by
 have hcx:=mT hv
 have hxl:x.cells.size=(cellsOf v).length:=by simpa using hcx.length
 unfold qA at h
 split at h
 ·split at h
  ·rename_i hb
   simp only [az,iV] at hb
   obtain ⟨h0,h1,h2,h3⟩:=hb
   obtain ⟨i,hi⟩:=bU h0
   obtain ⟨r,cs,e,fr,g1,g2,g3,g4⟩:=qH hW hl
   have hsz:cs.size=cs.toList.length:=by simp
   have g3l:=g3.length
   have hle:=aI h2
   refine ⟨_,_,r,h,g1,pI hi g2 g4 (by omega) (by omega) (hcx.one h3),?_⟩
   exact ⟨_,e,fr,rfl,g3.spl o hcx,by rw [vZ (by simp;omega)];exact g4⟩
  ·cases h
 ·rename_i k n l
  obtain ⟨r,e,fr,g1,g2,g3,g4⟩:=vb hW hl
  split at h
  ·rename_i k' m
   split at h
   ·rename_i hb
    simp only [az,iV] at hb
    obtain ⟨hk,h1⟩:=hb
    have hk:=kG hk
    subst hk
    obtain ⟨h2,h3⟩:=eO h
    have h2:o<n:=aI h2
    obtain ⟨i,hi⟩:=bU (P:=P) (t:=t) (by rw [h1];rfl)
    simp only [VR] at hv;subst hv
    have hs:=pI hi (o:=o) g2 (by simpa [g3] using g4) (x:=.int k m) (by simpa [Value.cells] using h1.symm) (by simp [Value.cells,g3];omega) (by simp [Value.cells,Value.oneCell'])
    refine ⟨_,_,r,h3,g1,hs,e,fr,?_,by simpa using g3,g4⟩
    congr 1
    unfold splA
    apply lP
    simp only [Value.cells,List.map_set]
    rw [Lt,ae (by simp;omega)]
    simp
   ·cases h
  ·rename_i k' n' l'
   split at h
   ·rename_i hb
    simp only [az,iV] at hb
    obtain ⟨hk,rfl,rfl,h0,h1⟩:=hb
    have hk:=kG hk
    subst hk
    obtain ⟨i,hi⟩:=bU (P:=P) (t:=t) (by rw [h1];exact h0)
    simp only [VR] at hv
    obtain ⟨hl',rfl⟩:=hv
    have hs:=pI hi (o:=0) g2 (by simpa [g3] using g4) (x:=.agg (l'.map (Value.int k)).toArray) (by simp [Value.cells,hl',h1]) (by simp [Value.cells,g3,hl']) (by
     intro v hv
     simp only [Value.cells,eJ] at hv
     obtain ⟨n,_,rfl⟩:=hv;rfl)
    refine ⟨_,_,r,h,g1,hs,e,fr,?_,hl',g4⟩
    congr 1
    unfold splA
    apply lP
    simp [Value.cells,hl',g3]
   ·cases h
  ·cases h
 ·cases h
theorem PN {cs:Array Value} {base o n:Nat} {xs:List Value} (h:o+xs.length<=n) (hb:base+n<=cs.size):
  splA cs (base+o) xs=splA cs base (((cs.toList.drop base).take n).take o++(xs++((cs.toList.drop base).take n).drop (o+xs.length))):=by
 unfold splA
 congr 1
 apply Cm
 intro i
 have hsz:cs.toList.length=cs.size:=by simp
 by_cases h1:i<base
 ·rw [nh (by simp;omega),nh (by simp;omega)]
  simp [h1,show i<base+o by omega]
 ·obtain ⟨j,rfl⟩:∃j,i=base+j:=⟨i - base,by omega⟩
  rw [pO (l₁:=cs.toList.take base) (by simp;omega)]
  simp only [cO,hsz,sd (by omega:base<=cs.size),Df]
  by_cases h2:j<o
  ·rw [nh (by simp;omega),nh (by simp;omega),nh (by simp;omega)]
   simp [h2,show base+j<base+o by omega,show j<n by omega,pN,mn]
  ·by_cases h3:j<o+xs.length
   ·rw [pO (by simp;omega),nh (by simp;omega),nh (by simp;omega),pO (by simp;omega),nh (by simp;omega)]
    simp only [cO,co,hsz]
    congr 1
    omega
   ·rw [pO (by simp;omega),pO (by simp;omega)]
    simp only [cO,co,hsz]
    by_cases h4:j<n
    ·rw [nh (by simp;omega),pO (by simp;omega),pO (by simp;omega)]
     simp only [cO,co,hsz,mn]
     rw [pN (by omega),mn]
     congr 1
     omega
    ·rw [pO (by simp;omega)]
     simp only [aM,cO,co,hsz,mn]
     congr 1
     omega
theorem Jt {α:Type} {ι:Inj} {w:World} {r o base:Nat} {cs:Array Value} {e:TypeId} {fr:Nat×Nat} {l:List V} (hh:w.heap[r]?=some (.cells cs e fr))
  (hl:VRs ι l ((cs.toList.drop base).take l.length)) (hlen:base+l.length<=cs.size) {t:TypeId} {v:V} {x:Value} (hv:VR ι v x) {c:Blk->Option α} {z:α}
  (h:qA P t (.cells l) o v c=some z):
  ∃l' X,c (.cells l')=some z/\X.length=l.length/\VRs ι l' X/\(NF fr cs.size->(Instr.storeAt t (.pointer (some ⟨r,base+o,none⟩)) x).run P w=.ok () (setObj w r (.cells (splA cs base X) e fr))):=by
 have hcx:=mT hv
 have hxl:x.cells.size=(cellsOf v).length:=by simpa using hcx.length
 simp only [qA] at h
 split at h
 ·rename_i hb
  simp only [az,iV] at hb
  obtain ⟨h0,h1,h2,h3⟩:=hb
  obtain ⟨i,hi⟩:=bU h0
  have hle:=aI h2
  have hxs:x.cells.toList.length=(cellsOf v).length:=by simpa using hxl
  refine ⟨_,_,h,?_,?_,λhnf=>by
   have hs:=pI hi hh hnf (o:=base+o) (x:=x) (by omega) (by omega) (hcx.one h3)
   rw [PN (n:=l.length) (by omega) hlen] at hs
   exact hs⟩
  ·simp only [aM,cO,co,hxs]
   have:cs.toList.length=cs.size:=by simp
   omega
  ·unfold Abs.spl
   rw [hxs]
   exact (hl.take o).append (hcx.append (hl.drop _))
 ·cases h
theorem vF {t:List Lf}:∀(l:List (den t)) (j:Nat),(l.take j).flatMap (vals t)=(l.flatMap (vals t)).take (j*t.length)
 | [],j=>by simp
 | y::l,0=>by simp
 | y::l,j+1=>by
  have hv:=jL t y
  simp only [pX,pQ,vF l j,gL,vI]
  have e1:(vals t y).take (j*t.length+t.length)=vals t y:=iP (by omega)
  rw [DY (l₁:=vals t y),e1,hv,DD]
theorem xw {t:List Lf}:∀(l:List (den t)) (j:Nat),(l.drop j).flatMap (vals t)=(l.flatMap (vals t)).drop (j*t.length)
 | [],j=>by simp
 | y::l,0=>by simp
 | y::l,j+1=>by
  have hv:=jL t y
  simp only [oC,pQ,xw l j,gL,vI]
  have e1:(vals t y).drop (j*t.length+t.length)=[]:=jo (by omega)
  rw [FB (l₁:=vals t y),e1,hv,DD,dQ]
theorem NG {t:List Lf} (l:List (den t)) (j:Nat) (x:den t) (h:j<l.length):
  (l.set j x).flatMap (vals t)=(l.flatMap (vals t)).take (j*t.length)++(vals t x++(l.flatMap (vals t)).drop (j*t.length+t.length)):=by
 rw [Lt,ae h,Jf,pQ,vF,xw,gL,vI]
theorem CE {cs:Array Value} {o k:Nat} {vs:List Value} (h:o+k<=cs.size):
  (splA cs (o+k) vs).toList.drop o=(cs.toList.drop o).take k++(vs++(cs.toList.drop o).drop (k+vs.length)):=by
 have hsz:cs.toList.length=cs.size:=by simp
 unfold splA
 simp only
 rw [FB,cO,hsz,sd h,wW,Df,Nat.sub_eq_zero_of_le (Au o k),gy,kR,gO]
theorem LL {t:List Lf} {l:List (den t)} {cs:Array Value} {o:Nat} (hs:o+l.length*t.length<=cs.size) (h:(cs.toList.drop o).take (l.length*t.length)=l.flatMap (vals t)) {j:Nat} (x:den t) (hj:j<l.length):
  ((splA cs (o+j*t.length) (vals t x)).toList.drop o).take ((l.set j x).length*t.length)=(l.set j x).flatMap (vals t):=by
 have hle:j*t.length+t.length<=l.length*t.length:=by
  have:=nX t.length (show j+1<=l.length from hj)
  rw [gL] at this;omega
 rw [NG l j x hj,<-h,Ei,CE (by omega)]
 generalize hL:cs.toList.drop o=L
 have hsz:l.length*t.length<=L.length:=by rw [<-hL];simp;omega
 rw [jL,DY,AI,cO,DY,wW,jL]
 rw [Nat.min_eq_right (by omega:j*t.length<=l.length*t.length),sd (by omega:j*t.length<=L.length)]
 congr 1
 ·rw [AI,sd (by omega)]
 ·congr 1
  ·rw [iP (by rw [jL];omega)]
  ·congr 1;omega
theorem CB (off:Nat):∀(vs:List Value) (j:Nat) (cs:Array Value),off+j+vs.length<=cs.size->
  (vs.zipIdx j).foldl (λcs (p:Value×Nat)=>cs.setIfInBounds (off+p.2) p.1) cs=splA cs (off+j) vs
 | [],j,cs,_=>by simp [EV]
 | v::vs,j,cs,h=>by
  simp only [aD] at h
  simp only [List.zipIdx_cons,uE]
  rw [CB off vs (j+1) _ (by simp;omega),show off+(j+1)=off+j+1 by omega,BJ cs (off+j) v vs (by omega)]
theorem vu {ι:Inj} (place:Nat->Option (Nat×Nat)):∀(parts:List (Nat×V)) (xs:List (Nat×Value)) (cells l:List V) (cs:Array Value),VRs ι cells cs.toList->
  xs.map (·.1)=parts.map (·.1)->VRs ι [] []->(∀(j i:Nat) (v:V) (x:Value),parts[j]?=some (i,v)->xs[j]?=some (i,x)->VR ι v x)->Dc place cells parts=some l->
  ∃ds:Array Value,Instr.fill place cs xs=some ds/\VRs ι l ds.toList
 | [],xs,cells,l,cs,hc,hm,_,_,h=>by
  simp only [Dc,aq] at h;subst h
  have:xs=[]:=by simpa using hm
  subst this
  exact ⟨cs,rfl,hc⟩
 | (i,v)::parts,[],cells,l,cs,hc,hm,_,_,h=>by simp at hm
 | (i,v)::parts,(i',x)::xs,cells,l,cs,hc,hm,he,hp,h=>by
  simp only [fE,KU] at hm
  obtain ⟨hi,hm⟩:=hm
  subst hi
  have hv:=hp 0 i' v x (by simp) (by simp)
  have hcx:=mT hv
  have hxl:x.cells.size=(cellsOf v).length:=by simpa using hcx.length
  have hsz:cs.size=cells.length:=by simpa using hc.length
  simp only [Dc] at h
  simp only [Instr.fill]
  split at h
  ·cases h
  ·rename_i off size hpl
   rw [hpl]
   split at h
   ·rename_i hb
    simp only [az,iV] at hb
    obtain ⟨h1,h2⟩:=hb
    have h2:=aI h2
    have hno:(decide (x.cells.size≠size)||decide (off+x.cells.size>cs.size))=false:=by
     simp only [ne_eq,gt_iff_lt,rE,rZ,Ks]
     omega
    have hf:=CB off x.cells.toList 0 cs (by simp;omega)
    rw [<-Array.toList_zipIdx,Array.foldl_toList] at hf
    simp only [cD] at hf
    simp only [hno,bP,aE,hf]
    exact vu place parts xs _ l _ (hc.spl off hcx) hm he (λj i v x a b=>hp (j+1) i v x (by simpa using a) (by simpa using b)) h
   ·cases h
theorem ua {ι:Inj} {T:List (Nat×Option V)} {a:Act} (ht:TR ι T a.tmps):∀(ps:List (Nat×Operand)) (l:List (Nat×V)),pu (opd T) ps=some l->
  (ps.map λ(i,x)=>(i,a.eval x)).map (·.1)=l.map (·.1)/\∀(j i:Nat) (v:V) (x:Value),l[j]?=some (i,v)->(ps.map λ(i,x)=>(i,a.eval x))[j]?=some (i,x)->VR ι v x
 | [],l,h=>by
  simp only [pu,aq] at h;subst h
  simp
 | (i,x)::ps,l,h=>by
  simp only [pu] at h
  split at h
  ·rename_i v hv
   split at h
   ·rename_i m hm
    simp only [aq] at h;subst h
    obtain ⟨h1,h2⟩:=ua ht ps m hm
    refine ⟨by simp [<-h1],λj i' u y hj hj'=>?_⟩
    cases j with
    | zero=>
     simp only [lD,aq,bO] at hj
     obtain ⟨rfl,rfl⟩:=hj
     simp only [fE,lD,aq,bO,js] at hj'
     subst hj'
     exact bn ht hv
    | succ j=>exact h2 j i' u y (by simpa using hj) (by simpa using hj')
   ·cases h
  ·cases h
theorem uZ (ι:Inj) {t:TypeId} {v:V} (h:Hw P t=some v):∃z i,P.info? t=some i/\i.zero=some z/\VR ι v z/\∀w,(zeroValue t).run P w=.ok z w:=by
 unfold Hw at h
 split at h
 ·rename_i i hi
  split at h
  ·rename_i z hz
   exact ⟨z,i,hi,hz,Gy ι h,λw=>by simp [zeroValue,typeInfo,hi,hz]⟩
  ·cases h
 ·cases h
end Go.Abs
