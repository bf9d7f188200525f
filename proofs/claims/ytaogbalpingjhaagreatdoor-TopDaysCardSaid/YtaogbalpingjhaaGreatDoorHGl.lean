
/- From the row's laid variables to what the seat's Glob says of the package-level variables.
   Conditions: none. -/
import Derived.Test.YtaogbalpingjhaaGreatDoorAbsX
import Derived.Test.YtaogbalpingjhaaGreatDoorProg
import Derived.Test.YtaogbalpingjhaaGreatDoorRows
import Derived.Lib.LaidU8
import Derived.Lay
import Derived.LaidMore
set_option linter.unusedVariables false
set_option linter.unusedSimpArgs false
set_option maxRecDepth 100000
namespace Go.Abs
open Go.Proofs Go.RowKit Go.Lib
theorem yM {P:Program} {w:World}:∀{l:List (String×DataW Unit)} {f:List MemPlace},DataW.LaidVars P w l f->∀n d,(n,d)∈l->
  ∃g t c fuel p,P.globalNamed n=some g/\(P.globals[g]?).map (·.type)=some t/\w.var? P n=some c/\DataW.trod (λ_=>()) P w 0 (λ_=>true) false fuel t c.toList=some (d,p)/\
   (∀x∈MemPlace.row ⟨g,0,none⟩ c.size,x∈f)/\∀x∈p,x∈f
 | [],_,_,_,_,j=>by cases j
 | (E,d')::r,f,h,n,d,j=>by
  obtain ⟨g,t,c,fuel,p,q,B,A,v,z,C,rfl⟩:=h;rcases cY.1 j with e | e
  ·cases e;exact ⟨g,t,c,fuel,p,B,A,v,z,λx b=>by simp [b],λx b=>by simp [b]⟩
  ·obtain ⟨u,y,i,a,k,k1,k2,o,s,D,m⟩:=yM C n d e;exact ⟨u,y,i,a,k,k1,k2,o,s,λx b=>by simp [D x b],λx b=>by simp [m x b]⟩
theorem mi {P:Program} {w:World} {l:List (String×DataW Unit)} (h:laidMet P l w) {n:String} {d:DataW Unit} (o:(n,d)∈l) {g:Nat} {t:TypeId} (r:P.globalNamed n=some g) (q:(P.globals[g]?).map (·.type)=some t):
  ∃a fuel p e,DataW.trod (λ_=>()) P w 0 (λ_=>true) false fuel t a.toList=some (d,p)/\(0<a.size->w.heap[g]?=some (.cells a e (0,0)))/\
   ∀b off,MemPlace.cell b off∈p->∃c t,w.heap[b]?=some (.cells c t (0,0)):=by
 obtain ⟨z,v,_,m⟩:=h;obtain ⟨B,A,a,fuel,p,k1,k2,k,s,x,y⟩:=yM v n d o;obtain rfl:=aN (r.symm.trans k1);obtain rfl:=aN (q.symm.trans k2);obtain ⟨e,f⟩:∃e,0<a.size->w.heap[g]?=some (.cells a e (0,0)):=by
  by_cases j:0<a.size
  ·obtain ⟨c,e,i⟩:=(m g 0 (x _ (by simp only [MemPlace.row,eC,jZ];exact ⟨0,j,rfl⟩))).1;refine ⟨e,λ_=>?_⟩;simp only [World.var?,k1,Option.bind_some,i,ae] at k;rw [i,k]
  ·exact ⟨0,λh=>absurd h j⟩
 exact ⟨a,fuel,p,e,s,f,λb off u=>(m b off (y _ u)).1⟩
theorem vi {P:Program} {w:World} {fuel:Nat} {t e:TypeId} {n m:Nat} {c:Array Field} {k:IntKind} {s:List Value} {p:List MemPlace} (f:Nat->List Int) (a:∀i,i<n->(f i).length=m)
  (y:P.underlying t=some (.array n e)) (A:P.underlying e=some (.struct c)) (x:∀(i:Nat) (f:Field),c[i]?=some f->P.underlying f.type=some (.int k)/\f.offset=i/\P.cellsOf f.type=1) (b:P.cellsOf e=c.size) (v:c.size=m)
  (h:DataW.trod (λ_=>()) P w 0 (λ_=>true) false fuel t s=some (.agg ((List.range n).map λi=>.agg ((f i).map λz=>.lit (.int k z))),p)):
  ∀i j:Nat,i<n->j<m->s[i*m+j]?=some (Value.int k ((f i).getD j 0)):=by
 intro i j hi o;obtain ⟨l,d,q,r,g⟩:=array_elem y h i hi;rw [lw,List.getElem?_range hi] at r;simp only [cK,ae] at r;subst r;have:=ints_of_struct A x b g;have u:=eN (·[j]?) this;simp only [b,v,B8,iP,o,aY,lw] at u;rw [u,cn (by rw [a i hi];exact o)];simp [List.getD,cn (show j<(f i).length by rw [a i hi];exact o)]
theorem sP {P:Program} {w:World} {fuel:Nat} {t e:TypeId} {n:Nat} {k:IntKind} {m:List Value} {p:List MemPlace} {l:List Int} (x:l.length=n)
  (s:P.underlying t=some (.array n e)) (u:P.underlying e=some (.int k)) (b:P.cellsOf e=1)
  (h:DataW.trod (λ_=>()) P w 0 (λ_=>true) false fuel t m=some (.agg (l.map λz=>.lit (.int k z)),p)):
  ∀(i:Nat) (z:Int),l[i]?=some z->m[i]?=some (Value.int k z):=by
 intro i z a;have hi:i<n:=by
  rcases aA i n with j | j
  ·exact j
  ·rw [dx (by omega)] at a;cases a
 obtain ⟨f,d,q,g,c⟩:=array_elem s h i hi;rw [lw,a] at g;simp only [cK,ae] at g;subst g;obtain ⟨o,hc,v,_⟩:=DataW.trod_int u c;have:o=z:=by
  have:=eN Prod.fst v;simpa using this.symm
 subst this;have r:=eN (·[0]?) hc;simpa [b,B8,iP] using r
theorem wS {P:Program} {w:World} {fuel:Nat} {t e:TypeId} {n m:Nat} {fs:Array Field} {k:IntKind} {cs:List Value} {p:List MemPlace} (f:Nat->List Int) (hf0:∀i,i<n->(f i).length=m) (hn:0<n) (hm0:0<m)
  (ht:P.underlying t=some (.slice e)) (he:P.underlying e=some (.struct fs)) (hf:∀(i:Nat) (f:Field),fs[i]?=some f->P.underlying f.type=some (.int k)/\f.offset=i/\P.cellsOf f.type=1) (hct:P.cellsOf e=fs.size) (hm:fs.size=m)
  (hp:∀b off,MemPlace.cell b off∈p->∃c t,w.heap[b]?=some (.cells c t (0,0)))
  (h:DataW.trod (λ_=>()) P w 0 (λ_=>true) false fuel t cs=some (.slice ((List.range n).map λi=>.agg ((f i).map λz=>.lit (.int k z))) [],p)):
  ∃b o c ty,cs=[.slice (some ⟨b,o,none⟩) n n]/\w.heap[b]?=some (.cells c ty (0,0))/\∀i j,i<n->j<m->c[o+(i*m+j)]?=some (.int k ((f i).getD j 0)):=by
 rcases DataW.trod_slice ht h with ⟨_,hx⟩ | ⟨a,len,cap,el,rs,fu,rfl,hcs,hx,_,hlc,_,hel,helem,hsp,_⟩
 ·cases hx
 have e0:=eN Prod.fst hx;simp only [DataW.slice.injEq] at e0;obtain ⟨eE,eR⟩:=e0;have hlen:len=n:=by
  have:=eN List.length eE;simp at this;omega
 have hcap:cap=n:=by
  have h1:=(hsp rfl).1;have h2:=eN List.length eR;simp at h2;omega
 have hp2:=eN Prod.snd hx;simp only at hp2;have hcell:∀i j,i<n->j<m->w.cell? ((a.add (i*m)).add j)=some (.int k ((f i).getD j 0)):=by
  intro i j hi hj;have h1:=helem i (by omega);obtain ⟨y,hy⟩:∃y,el[i]?=some y:=⟨el[i]'(by omega),cn (by omega)⟩;rw [hy] at h1;obtain ⟨ce,hce,hte⟩:=Ax.1 h1;have hy1:y.1=.agg ((f i).map λz=>.lit (.int k z)):=by
   have:=eN (·[i]?) eE;simp only [lw,hy,List.getElem?_range hi,cK,ae] at this;exact this.symm
  have hy2:y=(.agg ((f i).map λz=>.lit (.int k z)),y.2):=by rw [<-hy1]
  rw [hy2] at hte;have hint:=ints_of_struct he hf hct hte;obtain ⟨_,_,hcc⟩:=World.cells?_some hce;rw [hct,hm] at hcc;rw [hcc j hj,hint,lw,cn (by rw [hf0 i hi];exact hj)];simp [List.getD,cn (show j<(f i).length by rw [hf0 i hi];exact hj)]
 obtain ⟨b,o,s⟩:=a;have hb:MemPlace.cell b o∈p:=by
  rw [hp2,hct,hm,hel,hlen];refine mN.2 (.inl ?_);simp only [MemPlace.row,eC,jZ];exact ⟨0,Nat.mul_pos (by omega) hm0,rfl⟩
 obtain rfl:s=none:=by
  have h00:=hcell 0 0 hn hm0;have:((Addr.add ⟨b,o,s⟩ (0*m)).add 0)=⟨b,o,s⟩:=by simp [Addr.add]
  rw [this] at h00;exact cell_spot h00
 obtain ⟨c,ty,hh⟩:=hp b o hb;refine ⟨b,o,c,ty,by rw [hcs,hlen,hcap],hh,λi j hi hj=>?_⟩;have:=hcell i j hi hj;rw [Addr.add_lit,Addr.add_lit,aO hh] at this;rw [<-this,fN]
theorem wU {P:Program} {w:World} {fuel:Nat} {t:TypeId} {u:Array (String×TypeId)} {a:List Value} {b:String} {d:DataW Unit} {p:List MemPlace} (e:P.underlying t=some (.interface u))
  (h:DataW.trod (λ_=>()) P w 0 (λ_=>true) false fuel t a=some (.iface b d,p)):∃f c,a=[.iface f c]:=by
 cases fuel with
 | zero=>simp [DataW.trod] at h
 | succ n=>
  unfold DataW.trod at h;rw [e] at h;split at h<;>simp_all
end Go.Abs
namespace Go.Abs
open Go.Proofs Go.RowKit Go.Lib Go.Proofs.YtaogbalpingjhaaGreatDoor
def Gs (i:Nat):List Int:=[mG.getD (i*2) 0,mG.getD (i*2+1) 0]
def Gm (i:Nat):List Int:=[yb.getD (i*2) 0,yb.getD (i*2+1) 0]
theorem mq {c:Array Value} {o n:Nat} {l:List Int} {f:Nat->List Int} (k:l.length=n*2) (g:((List.range (n*2)).all λi=>l[i]?==some ((f (i / 2)).getD (i%2) 0))=true)
  (h:∀i j,i<n->j<2->c[o+(i*2+j)]?=some (.int .i64 ((f i).getD j 0))):zj c o l:=by
 intro i z a;have hi:i<n*2:=by
  rcases aA i (n*2) with d | d
  ·exact d
  ·rw [dx (by omega)] at a;cases a
 have b:=bz.1 g i (by simpa using hi);simp only [bu] at b;rw [a,ae] at b;have e:=h (i / 2) (i%2) (by omega) (by omega);rw [show i / 2*2+i%2=i by omega] at e;rw [e,<-b]
def Bt:List Int:=(List.range 256).map λc=>(Lib.firstT c:Int)
def Cf (i:Nat):List Int:=[(Lib.accLo i:Int),(Lib.accHi i:Int)]
theorem Ft:Rows.laid_unicode_utf8_first=.agg (Bt.map λz=>.lit (.int .u8 z)):=by kernel_rfl
theorem AT:(Rows.laid_unicode_utf8_acceptRanges:DataW Unit)=DataW.agg ((List.range 16).map λi=>DataW.agg ((Cf i).map λz=>DataW.lit (.int .u8 z))):=by kernel_rfl
theorem Aj {w:World} {l:List (String×DataW Unit)} (h:laidMet Tryz.prog l w)
  (m0:("circa/seasons.spans",Rows.laid_circa_seasons_spans)∈l) (m1:("circa/months.lengths",Rows.laid_circa_months_lengths)∈l)
  (m2:("circa/years.steps",Rows.laid_circa_years_steps)∈l) (m3:("strconv.ErrSyntax",Rows.laid_strconv_ErrSyntax)∈l)
  (m4:("unicode/utf8.first",Rows.laid_unicode_utf8_first)∈l) (m5:("unicode/utf8.acceptRanges",Rows.laid_unicode_utf8_acceptRanges)∈l):GL dH w:=by
 obtain ⟨c0,f0,p0,t0,d0,h0,_⟩:=mi h m0 (g:=4) (t:=277) (by kernel_rfl) (by kernel_rfl);obtain ⟨c1,f1,p1,t1,d1,h1,_⟩:=mi h m1 (g:=0) (t:=179) (by kernel_rfl) (by kernel_rfl);obtain ⟨c2,f2,p2,t2,d2,h2,q2⟩:=mi h m2 (g:=1) (t:=243) (by kernel_rfl) (by kernel_rfl);obtain ⟨c4,f4,p4,t4,d4,h4,_⟩:=mi h m3 (g:=2) (t:=84) (by kernel_rfl) (by kernel_rfl);obtain ⟨c5,f5,p5,t5,d5,h5,_⟩:=mi h m4 (g:=7) (t:=294) (by kernel_rfl) (by kernel_rfl);obtain ⟨c6,f6,p6,t6,d6,h6,_⟩:=mi h m5 (g:=8) (t:=297) (by kernel_rfl) (by kernel_rfl);rw [Ft] at d5;rw [AT] at d6;have a5:=sP (l:=Bt) (n:=256) (by kernel_rfl) Tryz.underlying294 Tryz.underlying5 (by kernel_rfl) d5;have a6:=vi (n:=16) (m:=2) Cf (λ_ _=>rfl) Tryz.underlying297 Tryz.underlying296 (λi f hf=>by
  rcases i with _ | _ | i
  ·cases hf;exact ⟨by kernel_rfl,by kernel_rfl,by kernel_rfl⟩
  ·cases hf;exact ⟨by kernel_rfl,by kernel_rfl,by kernel_rfl⟩
  ·cases hf) (by kernel_rfl) rfl d6
 have a0:=vi (n:=21) (m:=2) Gs (λ_ _=>rfl) Tryz.underlying277 Tryz.underlying276 (λi f hf=>by
  rcases i with _ | _ | i
  ·cases hf;exact ⟨by kernel_rfl,by kernel_rfl,by kernel_rfl⟩
  ·cases hf;exact ⟨by kernel_rfl,by kernel_rfl,by kernel_rfl⟩
  ·cases hf) (by kernel_rfl) rfl d0
 have a1:=sP (l:=yP) (n:=12) rfl Tryz.underlying179 Tryz.underlying3 (by kernel_rfl) d1
 obtain ⟨b,o,c,ty,e2,hb,a2⟩:=wS (n:=3) (m:=2) Gm (λ_ _=>rfl) (by omega) (by omega) Tryz.underlying243 Tryz.underlying244 (λi f hf=>by
  rcases i with _ | _ | i
  ·cases hf;exact ⟨by kernel_rfl,by kernel_rfl,by kernel_rfl⟩
  ·cases hf;exact ⟨by kernel_rfl,by kernel_rfl,by kernel_rfl⟩
  ·cases hf) (by kernel_rfl) rfl q2 d2
 obtain ⟨te,pe,e4⟩:=wU Tryz.underlying84 d4;have g0:c0[0]?=some (.int .i64 3):=by rw [<-lk];exact a0 0 0 (by omega) (by omega)
 have g1:c1[0]?=some (.int .i64 31):=by rw [<-lk];exact a1 0 31 rfl
 have pos:∀{c:Array Value} {x:Value},c[0]?=some x->0<c.size:=λ{c} {x} h=>by
  rcases uz c.size with h' | h'
  ·rw [rH (by omega)] at h;cases h
  ·exact h'
 have g2:c2[0]?=some (.slice (some ⟨b,o,none⟩) 3 3):=by rw [<-lk,e2];rfl
 have g4:c4[0]?=some (.iface te pe):=by rw [<-lk,e4];rfl
 have g5:∀i:Nat,i<256->c5[i]?=some (.int .u8 (Lib.firstT i)):=λi hi=>by
  rw [<-lk];exact a5 i _ (by simp [Bt,hi])
 have g6:∀i:Nat,i<16->c6[i*2]?=some (.int .u8 (Lib.accLo i))/\c6[i*2+1]?=some (.int .u8 (Lib.accHi i)):=λi hi=>
  ⟨by rw [<-lk];exact a6 i 0 hi (by omega),by rw [<-lk];exact a6 i 1 hi (by omega)⟩
 refine ⟨_,⟨c0,c1,c2,c,t0,t1,t2,ty,b,o,⟨c4,t4,(te,(c5,t5),(c6,t6)),pe,rfl,g4,g5,g6⟩,?_,?_,g2,?_⟩,?_,λx _ b q hb=>by cases hb⟩
 ·exact mq (n:=21) (f:=Gs) rfl (by decide) λi j hi hj=>by
   rw [bM,<-lk];exact a0 i j hi hj
 ·intro i z hz;rw [bM,<-lk];exact a1 i z hz
 ·exact mq (n:=3) (f:=Gm) rfl (by decide) λi j hi hj=>a2 i j hi hj
 ·intro x hx;simp only [cY,mR,oI] at hx;rcases hx with rfl | rfl | rfl | rfl | rfl | rfl | rfl
  ·exact h0 (pos g0)
  ·exact h1 (pos g1)
  ·exact h2 (pos g2)
  ·exact hb
  ·exact h4 (pos g4)
  ·exact h5 (pos (g5 0 (by omega)))
  ·exact h6 (pos (g6 0 (by omega)).1)
end Go.Abs
