/- From the row's laid variables to what the seat's Glob says of the package-level variables.
   Conditions: none. -/
import Derived.Test.YtpkdacjndoiabaaGreatDoorAbsX
import Derived.Test.YtpkdacjndoiabaaGreatDoorProg
import Derived.Test.YtpkdacjndoiabaaGreatDoorRows
import Derived.Lib.LaidU8
import Derived.Lay
import Derived.LaidMore
set_option linter.unusedVariables false
set_option linter.unusedSimpArgs false
set_option maxRecDepth 100000
namespace Go.Abs
open Go.Proofs Go.RowKit Go.Lib
theorem GI {P:Program} {w:World}:∀{l:List (String×DataW Unit)} {ps:List MemPlace},DataW.LaidVars P w l ps->∀n d,(n,d)∈l->
  ∃g t cs fuel p,P.globalNamed n=some g/\(P.globals[g]?).map (·.type)=some t/\w.var? P n=some cs/\DataW.trod (λ_=>()) P w 0 (λ_=>true) false fuel t cs.toList=some (d,p)/\
   (∀x∈MemPlace.row ⟨g,0,none⟩ cs.size,x∈ps)/\∀x∈p,x∈ps
 | [],_,_,_,_,hm=>by cases hm
 | (n',d')::r,ps,h,n,d,hm=>by
  obtain ⟨g,t,cs,fuel,p,q,h1,h2,h3,h4,h5,rfl⟩:=h
  rcases dl.1 hm with e | e
  ·cases e
   exact ⟨g,t,cs,fuel,p,h1,h2,h3,h4,λx hx=>by simp [hx],λx hx=>by simp [hx]⟩
  ·obtain ⟨g',t',cs',fuel',p',k1,k2,k3,k4,k5,k6⟩:=GI h5 n d e
   exact ⟨g',t',cs',fuel',p',k1,k2,k3,k4,λx hx=>by simp [k5 x hx],λx hx=>by simp [k6 x hx]⟩
theorem vv {P:Program} {w:World} {l:List (String×DataW Unit)} (h:laidMet P l w) {n:String} {d:DataW Unit} (hm:(n,d)∈l) {g:Nat} {t:TypeId} (hn:P.globalNamed n=some g) (hy:(P.globals[g]?).map (·.type)=some t):
  ∃cs fuel p ty,DataW.trod (λ_=>()) P w 0 (λ_=>true) false fuel t cs.toList=some (d,p)/\(0<cs.size->w.heap[g]?=some (.cells cs ty (0,0)))/\
   ∀b off,MemPlace.cell b off∈p->∃c t,w.heap[b]?=some (.cells c t (0,0)):=by
 obtain ⟨ps,hv,_,hp⟩:=h
 obtain ⟨g',t',cs,fuel,p,k1,k2,k3,k4,k5,k6⟩:=GI hv n d hm
 obtain rfl:=bg (hn.symm.trans k1)
 obtain rfl:=bg (hy.symm.trans k2)
 obtain ⟨ty,hty⟩:∃ty,0<cs.size->w.heap[g]?=some (.cells cs ty (0,0)):=by
  by_cases hs:0<cs.size
  ·obtain ⟨c,ty,hh⟩:=(hp g 0 (k5 _ (by simp only [MemPlace.row,eJ,kq];exact ⟨0,hs,rfl⟩))).1
   refine ⟨ty,λ_=>?_⟩
   simp only [World.var?,k1,Option.bind_some,hh,aq] at k3
   rw [hh,k3]
  ·exact ⟨0,λh=>absurd h hs⟩
 exact ⟨cs,fuel,p,ty,k4,hty,λb off hb=>(hp b off (k6 _ hb)).1⟩
theorem JS {P:Program} {w:World} {fuel:Nat} {t e:TypeId} {n m:Nat} {fs:Array Field} {k:IntKind} {cs:List Value} {p:List MemPlace} (f:Nat->List Int) (hf0:∀i,i<n->(f i).length=m)
  (ht:P.underlying t=some (.array n e)) (he:P.underlying e=some (.struct fs)) (hf:∀(i:Nat) (f:Field),fs[i]?=some f->P.underlying f.type=some (.int k)/\f.offset=i/\P.cellsOf f.type=1) (hct:P.cellsOf e=fs.size) (hm:fs.size=m)
  (h:DataW.trod (λ_=>()) P w 0 (λ_=>true) false fuel t cs=some (.agg ((List.range n).map λi=>.agg ((f i).map λz=>.lit (.int k z))),p)):
  ∀i j:Nat,i<n->j<m->cs[i*m+j]?=some (Value.int k ((f i).getD j 0)):=by
 intro i j hi hj
 obtain ⟨fuel',d,q,hd,ht'⟩:=array_elem ht h i hi
 rw [my,List.getElem?_range hi] at hd
 simp only [eK,aq] at hd
 subst hd
 have:=ints_of_struct he hf hct ht'
 have h2:=dm (·[j]?) this
 simp only [hct,hm,HV,mn,hj,aQ,my] at h2
 rw [h2,bp (by rw [hf0 i hi];exact hj)]
 simp [List.getD,bp (show j<(f i).length by rw [hf0 i hi];exact hj)]
theorem Hm {P:Program} {w:World} {fuel:Nat} {t e:TypeId} {n:Nat} {k:IntKind} {cs:List Value} {p:List MemPlace} {l:List Int} (hl:l.length=n)
  (ht:P.underlying t=some (.array n e)) (he:P.underlying e=some (.int k)) (hct:P.cellsOf e=1)
  (h:DataW.trod (λ_=>()) P w 0 (λ_=>true) false fuel t cs=some (.agg (l.map λz=>.lit (.int k z)),p)):
  ∀(i:Nat) (z:Int),l[i]?=some z->cs[i]?=some (Value.int k z):=by
 intro i z hz
 have hi:i<n:=by
  rcases aG i n with h' | h'
  ·exact h'
  ·rw [gU (by omega)] at hz;cases hz
 obtain ⟨fuel',d,q,hd,ht'⟩:=array_elem ht h i hi
 rw [my,hz] at hd
 simp only [eK,aq] at hd
 subst hd
 obtain ⟨z',hc,hx,_⟩:=DataW.trod_int he ht'
 have:z'=z:=by
  have:=dm Prod.fst hx
  simpa using this.symm
 subst this
 have h2:=dm (·[0]?) hc
 simpa [hct,HV,mn] using h2
theorem Dv {P:Program} {w:World} {fuel:Nat} {t e:TypeId} {n m:Nat} {fs:Array Field} {k:IntKind} {cs:List Value} {p:List MemPlace} (f:Nat->List Int) (hf0:∀i,i<n->(f i).length=m) (hn:0<n) (hm0:0<m)
  (ht:P.underlying t=some (.slice e)) (he:P.underlying e=some (.struct fs)) (hf:∀(i:Nat) (f:Field),fs[i]?=some f->P.underlying f.type=some (.int k)/\f.offset=i/\P.cellsOf f.type=1) (hct:P.cellsOf e=fs.size) (hm:fs.size=m)
  (hp:∀b off,MemPlace.cell b off∈p->∃c t,w.heap[b]?=some (.cells c t (0,0)))
  (h:DataW.trod (λ_=>()) P w 0 (λ_=>true) false fuel t cs=some (.slice ((List.range n).map λi=>.agg ((f i).map λz=>.lit (.int k z))) [],p)):
  ∃b o c ty,cs=[.slice (some ⟨b,o,none⟩) n n]/\w.heap[b]?=some (.cells c ty (0,0))/\∀i j,i<n->j<m->c[o+(i*m+j)]?=some (.int k ((f i).getD j 0)):=by
 rcases DataW.trod_slice ht h with ⟨_,hx⟩ | ⟨a,len,cap,el,rs,fu,rfl,hcs,hx,_,hlc,_,hel,helem,hsp,_⟩
 ·cases hx
 have e0:=dm Prod.fst hx
 simp only [DataW.slice.injEq] at e0
 obtain ⟨eE,eR⟩:=e0
 have hlen:len=n:=by
  have:=dm List.length eE
  simp at this
  omega
 have hcap:cap=n:=by
  have h1:=(hsp rfl).1
  have h2:=dm List.length eR
  simp at h2
  omega
 have hp2:=dm Prod.snd hx
 simp only at hp2
 have hcell:∀i j,i<n->j<m->w.cell? ((a.add (i*m)).add j)=some (.int k ((f i).getD j 0)):=by
  intro i j hi hj
  have h1:=helem i (by omega)
  obtain ⟨y,hy⟩:∃y,el[i]?=some y:=⟨el[i]'(by omega),bp (by omega)⟩
  rw [hy] at h1
  obtain ⟨ce,hce,hte⟩:=Option.bind_eq_some_iff.1 h1
  have hy1:y.1=.agg ((f i).map λz=>.lit (.int k z)):=by
   have:=dm (·[i]?) eE
   simp only [my,hy,List.getElem?_range hi,eK,aq] at this
   exact this.symm
  have hy2:y=(.agg ((f i).map λz=>.lit (.int k z)),y.2):=by rw [<-hy1]
  rw [hy2] at hte
  have hint:=ints_of_struct he hf hct hte
  obtain ⟨_,_,hcc⟩:=World.cells?_some hce
  rw [hct,hm] at hcc
  rw [hcc j hj,hint,my,bp (by rw [hf0 i hi];exact hj)]
  simp [List.getD,bp (show j<(f i).length by rw [hf0 i hi];exact hj)]
 obtain ⟨b,o,s⟩:=a
 have hb:MemPlace.cell b o∈p:=by
  rw [hp2,hct,hm,hel,hlen]
  refine nU.2 (.inl ?_)
  simp only [MemPlace.row,eJ,kq]
  exact ⟨0,Nat.mul_pos (by omega) hm0,rfl⟩
 obtain rfl:s=none:=by
  have h00:=hcell 0 0 hn hm0
  have:((Addr.add ⟨b,o,s⟩ (0*m)).add 0)=⟨b,o,s⟩:=by simp [Addr.add]
  rw [this] at h00
  exact cell_spot h00
 obtain ⟨c,ty,hh⟩:=hp b o hb
 refine ⟨b,o,c,ty,by rw [hcs,hlen,hcap],hh,λi j hi hj=>?_⟩
 have:=hcell i j hi hj
 rw [Addr.add_lit,Addr.add_lit,bH hh] at this
 rw [<-this,gO]
theorem C6 {P:Program} {w:World} {fuel:Nat} {t:TypeId} {u:Array (String×TypeId)} {cs:List Value} {nm:String} {d:DataW Unit} {p:List MemPlace} (ht:P.underlying t=some (.interface u))
  (h:DataW.trod (λ_=>()) P w 0 (λ_=>true) false fuel t cs=some (.iface nm d,p)):∃te pe,cs=[.iface te pe]:=by
 cases fuel with
 | zero=>simp [DataW.trod] at h
 | succ n=>
  unfold DataW.trod at h
  rw [ht] at h
  split at h<;>simp_all
end Go.Abs
namespace Go.Abs
open Go.Proofs Go.RowKit Go.Lib Go.Proofs.YtpkdacjndoiabaaGreatDoor
def OB (i:Nat):List Int:=[rH.getD (i*2) 0,rH.getD (i*2+1) 0]
def Oe (i:Nat):List Int:=[FI.getD (i*2) 0,FI.getD (i*2+1) 0]
theorem rI {c:Array Value} {o n:Nat} {l:List Int} {f:Nat->List Int} (hl:l.length=n*2) (hf:((List.range (n*2)).all λi=>l[i]?==some ((f (i / 2)).getD (i%2) 0))=true)
  (h:∀i j,i<n->j<2->c[o+(i*2+j)]?=some (.int .i64 ((f i).getD j 0))):FT c o l:=by
 intro i z hz
 have hi:i<n*2:=by
  rcases aG i (n*2) with h' | h'
  ·exact h'
  ·rw [gU (by omega)] at hz;cases hz
 have h1:=dF.1 hf i (by simpa using hi)
 simp only [bB] at h1
 rw [hz,aq] at h1
 have h2:=h (i / 2) (i%2) (by omega) (by omega)
 rw [show i / 2*2+i%2=i by omega] at h2
 rw [h2,<-h1]
theorem HK {w:World} {l:List (String×DataW Unit)} (h:laidMet Tryz.prog l w)
  (m0:("circa/seasons.spans",Rows.laid_circa_seasons_spans)∈l) (m1:("circa/months.lengths",Rows.laid_circa_months_lengths)∈l)
  (m2:("circa/years.steps",Rows.laid_circa_years_steps)∈l) (m3:("strconv.ErrSyntax",Rows.laid_strconv_ErrSyntax)∈l):GL iH w:=by
 obtain ⟨c0,f0,p0,t0,d0,h0,_⟩:=vv h m0 (g:=1) (t:=279) (by kernel_rfl) (by kernel_rfl)
 obtain ⟨c1,f1,p1,t1,d1,h1,_⟩:=vv h m1 (g:=2) (t:=297) (by kernel_rfl) (by kernel_rfl)
 obtain ⟨c2,f2,p2,t2,d2,h2,q2⟩:=vv h m2 (g:=6) (t:=325) (by kernel_rfl) (by kernel_rfl)
 obtain ⟨c4,f4,p4,t4,d4,h4,_⟩:=vv h m3 (g:=3) (t:=119) (by kernel_rfl) (by kernel_rfl)
 have a0:=JS (n:=21) (m:=2) OB (λ_ _=>rfl) Tryz.underlying279 Tryz.underlying278 (λi f hf=>by
  rcases i with _ | _ | i
  ·cases hf;exact ⟨by kernel_rfl,by kernel_rfl,by kernel_rfl⟩
  ·cases hf;exact ⟨by kernel_rfl,by kernel_rfl,by kernel_rfl⟩
  ·cases hf) (by kernel_rfl) rfl d0
 have a1:=Hm (l:=FP) (n:=12) rfl Tryz.underlying297 Tryz.underlying3 (by kernel_rfl) d1
 obtain ⟨b,o,c,ty,e2,hb,a2⟩:=Dv (n:=3) (m:=2) Oe (λ_ _=>rfl) (by omega) (by omega) Tryz.underlying325 Tryz.underlying326 (λi f hf=>by
  rcases i with _ | _ | i
  ·cases hf;exact ⟨by kernel_rfl,by kernel_rfl,by kernel_rfl⟩
  ·cases hf;exact ⟨by kernel_rfl,by kernel_rfl,by kernel_rfl⟩
  ·cases hf) (by kernel_rfl) rfl q2 d2
 obtain ⟨te,pe,e4⟩:=C6 Tryz.underlying119 d4
 have g0:c0[0]?=some (.int .i64 3):=by rw [<-r7];exact a0 0 0 (by omega) (by omega)
 have g1:c1[0]?=some (.int .i64 31):=by rw [<-r7];exact a1 0 31 rfl
 have pos:∀{c:Array Value} {x:Value},c[0]?=some x->0<c.size:=λ{c} {x} h=>by
  rcases zS c.size with h' | h'
  ·rw [vU (by omega)] at h;cases h
  ·exact h'
 have g2:c2[0]?=some (.slice (some ⟨b,o,none⟩) 3 3):=by rw [<-r7,e2];rfl
 have g4:c4[0]?=some (.iface te pe):=by rw [<-r7,e4];rfl
 refine ⟨_,⟨c0,c1,c2,c,t0,t1,t2,ty,b,o,⟨c4,t4,te,pe,rfl,g4⟩,?_,?_,g2,?_⟩,?_,λx _ b q hb=>by cases hb⟩
 ·exact rI (n:=21) (f:=OB) rfl (by decide) λi j hi hj=>by
   rw [cY,<-r7];exact a0 i j hi hj
 ·intro i z hz
  rw [cY,<-r7];exact a1 i z hz
 ·exact rI (n:=3) (f:=Oe) rfl (by decide) λi j hi hj=>a2 i j hi hj
 ·intro x hx
  simp only [dl,sC,uy] at hx
  rcases hx with rfl | rfl | rfl | rfl | rfl
  ·exact h0 (pos g0)
  ·exact h1 (pos g1)
  ·exact h2 (pos g2)
  ·exact hb
  ·exact h4 (pos g4)
end Go.Abs
