
/- From the row's laid variables to what the seat's Glob says of the package-level variables.
   Conditions: none. -/
import Derived.Test.YtadejcglcffgbaaGreatDoorAbsX
import Derived.Test.YtadejcglcffgbaaGreatDoorProg
import Derived.Test.YtadejcglcffgbaaGreatDoorRows
import Derived.Lib.LaidU8
import Derived.Lay
import Derived.LaidMore
set_option linter.unusedVariables false
set_option linter.unusedSimpArgs false
set_option maxRecDepth 100000
set_option linter.defProp false
namespace Go.Abs
open Go.Proofs Go.RowKit Go.Lib
def Jl{P:Program}{w:World}:∀{l:List (String×DataW Unit)} {c:List MemPlace},DataW.LaidVars P w l c->∀n d,(n,d)∈l->
  ∃g t b fuel p,P.globalNamed n=some g/\(P.globals[g]?).map (·.type)=some t/\w.var? P n=some b/\DataW.trod (λ_=>()) P w 0 (λ_=>true) false fuel t b.toList=some (d,p)/\
   (∀x∈MemPlace.row ⟨g,0,none⟩ b.size,x∈c)/\∀x∈p,x∈c
 | [],_,_,_,_,i=>by cases i
 | (B,d')::r,c,h,n,d,i=>by
  obtain⟨g,t,b,fuel,p,q,o,j,z,y,s,rfl⟩:=h;rcases cb.1 i with e | e
  ·cases e;exact⟨g,t,b,fuel,p,o,j,z,y,λx hx=>by simp[hx],λx hx=>by simp[hx]⟩
  ·obtain⟨k,u,f,a,m,k1,k2,k3,k4,A,v⟩:=Jl s n d e;exact⟨k,u,f,a,m,k1,k2,k3,k4,λx hx=>by simp[A x hx],λx hx=>by simp[v x hx]⟩
def sI{P:Program}{w:World}{l:List (String×DataW Unit)}(h:laidMet P l w){n:String}{d:DataW Unit}(r:(n,d)∈l){g:Nat}{t:TypeId}(m:P.globalNamed n=some g)(hy:(P.globals[g]?).map (·.type)=some t):
  ∃a fuel p e,DataW.trod (λ_=>()) P w 0 (λ_=>true) false fuel t a.toList=some (d,p)/\(0<a.size->w.heap[g]?=some (.cells a e (0,0)))/\
   ∀b off,MemPlace.cell b off∈p->∃c t,w.heap[b]?=some (.cells c t (0,0)):=by
 obtain⟨v,k,_,hp⟩:=h;obtain⟨s,u,a,fuel,p,k1,k2,k3,k4,q,o⟩:=Jl k n d r;obtain rfl:=br (m.symm.trans k1);obtain rfl:=br (hy.symm.trans k2);obtain⟨e,f⟩:∃e,0<a.size->w.heap[g]?=some (.cells a e (0,0)):=by
  by_cases hs:0<a.size
  ·obtain⟨c,e,i⟩:=(hp g 0 (q _ (by simp only[MemPlace.row,eF,ju];exact⟨0,hs,rfl⟩))).1;refine⟨e,λ_=>?_⟩;simp only[World.var?,k1,Option.bind_some,i,aq]at k3;rw[i,k3]
  ·exact⟨0,λh=>absurd h hs⟩
 exact⟨a,fuel,p,e,k4,f,λb off j=>(hp b off (o _ j)).1⟩
def EV{P:Program}{w:World}{fuel:Nat}{t e:TypeId}{n m:Nat}{c:Array Field}{k:IntKind}{u:List Value}{p:List MemPlace}(f:Nat->List Int)(a:∀i,i<n->(f i).length=m)
  (v:P.underlying t=some (.array n e)) (y:P.underlying e=some (.struct c)) (x:∀(i:Nat) (f:Field),c[i]?=some f->P.underlying f.type=some (.int k)/\f.offset=i/\P.cellsOf f.type=1) (b:P.cellsOf e=c.size) (A:c.size=m)
  (h:DataW.trod (λ_=>()) P w 0 (λ_=>true) false fuel t u=some (.agg ((List.range n).map λi=>.agg ((f i).map λz=>.lit (.int k z))),p)):
  ∀i j:Nat,i<n->j<m->u[i*m+j]?=some (Value.int k ((f i).getD j 0)):=by
 intro i j hi o;obtain⟨r,d,q,g,l⟩:=array_elem v h i hi;rw[nX,List.getElem?_range hi]at g;simp only[fh,aq]at g;subst g;have:=ints_of_struct y x b l;have s:=co (·[j]?) this;simp only[b,A,NY,lK,o,aN,nX]at s;rw[s,bu (by rw[a i hi];exact o)];simp[List.getD,bu (show j<(f i).length by rw[a i hi];exact o)]
def Ag{P:Program}{w:World}{fuel:Nat}{t e:TypeId}{n:Nat}{k:IntKind}{j:List Value}{p:List MemPlace}{l:List Int}(v:l.length=n)
  (s:P.underlying t=some (.array n e)) (u:P.underlying e=some (.int k)) (c:P.cellsOf e=1)
  (h:DataW.trod (λ_=>()) P w 0 (λ_=>true) false fuel t j=some (.agg (l.map λz=>.lit (.int k z)),p)):
  ∀(i:Nat) (z:Int),l[i]?=some z->j[i]?=some (Value.int k z):=by
 intro i z f;have hi:i<n:=by
  rcases aJ i n with m | m
  ·exact m
  ·rw[f7 (by omega)]at f;cases f
 obtain⟨g,d,q,a,b⟩:=array_elem s h i hi;rw[nX,f]at a;simp only[fh,aq]at a;subst a;obtain⟨r,hc,hx,_⟩:=HN u b;have:r=z:=by
  have:=co Prod.fst hx;simpa using this.symm
 subst this;have o:=co (·[0]?) hc;simpa[c,NY,lK]using o
def GQ{P:Program}{w:World}{fuel:Nat}{t e:TypeId}{n m:Nat}{fs:Array Field}{k:IntKind}{cs:List Value}{p:List MemPlace}(f:Nat->List Int)(hf0:∀i,i<n->(f i).length=m)(hn:0<n)(hm0:0<m)
  (ht:P.underlying t=some (.slice e)) (he:P.underlying e=some (.struct fs)) (hf:∀(i:Nat) (f:Field),fs[i]?=some f->P.underlying f.type=some (.int k)/\f.offset=i/\P.cellsOf f.type=1) (hct:P.cellsOf e=fs.size) (hm:fs.size=m)
  (hp:∀b off,MemPlace.cell b off∈p->∃c t,w.heap[b]?=some (.cells c t (0,0)))
  (h:DataW.trod (λ_=>()) P w 0 (λ_=>true) false fuel t cs=some (.slice ((List.range n).map λi=>.agg ((f i).map λz=>.lit (.int k z))) [],p)):
  ∃b o c ty,cs=[.slice (some ⟨b,o,none⟩) n n]/\w.heap[b]?=some (.cells c ty (0,0))/\∀i j,i<n->j<m->c[o+(i*m+j)]?=some (.int k ((f i).getD j 0)):=by
 rcases DataW.trod_slice ht h with⟨_,hx⟩ | ⟨a,len,cap,el,rs,fu,rfl,hcs,hx,_,hlc,_,hel,helem,hsp,_⟩
 ·cases hx
 have e0:=co Prod.fst hx;simp only[DataW.slice.injEq]at e0;obtain⟨eE,eR⟩:=e0;have hlen:len=n:=by
  have:=co List.length eE;simp at this;omega
 have hcap:cap=n:=by
  have h1:=(hsp rfl).1;have h2:=co List.length eR;simp at h2;omega
 have hp2:=co Prod.snd hx;simp only at hp2;have hcell:∀i j,i<n->j<m->w.cell? ((a.add (i*m)).add j)=some (.int k ((f i).getD j 0)):=by
  intro i j hi hj;have h1:=helem i (by omega);obtain⟨y,hy⟩:∃y,el[i]?=some y:=⟨el[i]'(by omega),bu (by omega)⟩;rw[hy]at h1;obtain⟨ce,hce,hte⟩:=Ba.1 h1;have hy1:y.1=.agg ((f i).map λz=>.lit (.int k z)):=by
   have:=co (·[i]?) eE;simp only[nX,hy,List.getElem?_range hi,fh,aq]at this;exact this.symm
  have hy2:y=(.agg ((f i).map λz=>.lit (.int k z)),y.2):=by rw[<-hy1]
  rw[hy2]at hte;have hint:=ints_of_struct he hf hct hte;obtain⟨_,_,hcc⟩:=Gs hce;rw[hct,hm]at hcc;rw[hcc j hj,hint,nX,bu (by rw[hf0 i hi];exact hj)];simp[List.getD,bu (show j<(f i).length by rw[hf0 i hi];exact hj)]
 obtain⟨b,o,s⟩:=a;have hb:MemPlace.cell b o∈p:=by
  rw[hp2,hct,hm,hel,hlen];refine kQ.2 (.inl ?_);simp only[MemPlace.row,eF,ju];exact⟨0,Nat.mul_pos (by omega) hm0,rfl⟩
 obtain rfl:s=none:=by
  have h00:=hcell 0 0 hn hm0;have:((Addr.add ⟨b,o,s⟩ (0*m)).add 0)=⟨b,o,s⟩:=by simp[Addr.add]
  rw[this]at h00;exact cell_spot h00
 obtain⟨c,ty,hh⟩:=hp b o hb;refine⟨b,o,c,ty,by rw[hcs,hlen,hcap],hh,λi j hi hj=>?_⟩;have:=hcell i j hi hj;rw[Addr.add_lit,Addr.add_lit,bg hh]at this;rw[<-this,ig]
def F6{P:Program}{w:World}{fuel:Nat}{t:TypeId}{u:Array (String×TypeId)}{a:List Value}{b:String}{d:DataW Unit}{p:List MemPlace}(f:P.underlying t=some (.interface u))
  (h:DataW.trod (λ_=>()) P w 0 (λ_=>true) false fuel t a=some (.iface b d,p)):∃e c,a=[.iface e c]:=by
 cases fuel with
 | zero=>simp[DataW.trod]at h
 | succ n=>
  unfold DataW.trod at h;rw[f]at h;split at h<;>simp_all
end Go.Abs
namespace Go.Abs
open Go.Proofs Go.RowKit Go.Lib Go.Proofs.YtadejcglcffgbaaGreatDoor
def SE(i:Nat):List Int:=[sM.getD (i*2) 0,sM.getD (i*2+1) 0]
def RY(i:Nat):List Int:=[IW.getD (i*2) 0,IW.getD (i*2+1) 0]
def s9{c:Array Value}{o n:Nat}{l:List Int}{f:Nat->List Int}(k:l.length=n*2)(g:((List.range (n*2)).all λi=>l[i]?==some ((f (i / 2)).getD (i%2) 0))=true)
  (h:∀i j,i<n->j<2->c[o+(i*2+j)]?=some (.int .i64 ((f i).getD j 0))):Ih c o l:=by
 intro i z b;have hi:i<n*2:=by
  rcases aJ i (n*2)with e | e
  ·exact e
  ·rw[f7 (by omega)]at b;cases b
 have a:=bS.1 g i (by simpa using hi);simp only[bL]at a;rw[b,aq]at a;have d:=h (i / 2) (i%2) (by omega) (by omega);rw[show i / 2*2+i%2=i by omega]at d;rw[d,<-a]
def Nh:List Int:=(List.range 256).map λc=>(Lib.firstT c:Int)
def La(i:Nat):List Int:=[(Lib.accLo i:Int),(Lib.accHi i:Int)]
def RB:Rows.laid_unicode_utf8_first=.agg (Nh.map λz=>.lit (.int .u8 z)):=by kernel_rfl
def N5:(Rows.laid_unicode_utf8_acceptRanges:DataW Unit)=DataW.agg ((List.range 16).map λi=>DataW.agg ((La i).map λz=>DataW.lit (.int .u8 z))):=by kernel_rfl
def Kz {w:World} {l:List (String×DataW Unit)} (h:laidMet Tryz.prog l w)
  (m0:("circa/seasons.spans",Rows.laid_circa_seasons_spans)∈l) (m1:("circa/months.lengths",Rows.laid_circa_months_lengths)∈l)
  (m2:("circa/years.steps",Rows.laid_circa_years_steps)∈l) (m3:("strconv.ErrSyntax",Rows.laid_strconv_ErrSyntax)∈l)
  (m4:("unicode/utf8.first",Rows.laid_unicode_utf8_first)∈l) (m5:("unicode/utf8.acceptRanges",Rows.laid_unicode_utf8_acceptRanges)∈l):GL gQ w:=by
 obtain ⟨c0,f0,p0,t0,d0,h0,_⟩:=sI h m0 (g:=3) (t:=276) (by kernel_rfl) (by kernel_rfl);obtain ⟨c1,f1,p1,t1,d1,h1,_⟩:=sI h m1 (g:=4) (t:=291) (by kernel_rfl) (by kernel_rfl);obtain ⟨c2,f2,p2,t2,d2,h2,q2⟩:=sI h m2 (g:=6) (t:=322) (by kernel_rfl) (by kernel_rfl);obtain ⟨c4,f4,p4,t4,d4,h4,_⟩:=sI h m3 (g:=0) (t:=136) (by kernel_rfl) (by kernel_rfl);obtain ⟨c5,f5,p5,t5,d5,h5,_⟩:=sI h m4 (g:=7) (t:=325) (by kernel_rfl) (by kernel_rfl);obtain ⟨c6,f6,p6,t6,d6,h6,_⟩:=sI h m5 (g:=8) (t:=328) (by kernel_rfl) (by kernel_rfl);rw [RB] at d5;rw [N5] at d6;have a5:=Ag (l:=Nh) (n:=256) (by kernel_rfl) Tryz.underlying325 Tryz.underlying5 (by kernel_rfl) d5;have a6:=EV (n:=16) (m:=2) La (λ_ _=>rfl) Tryz.underlying328 Tryz.underlying327 (λi f hf=>by
  rcases i with _ | _ | i
  ·cases hf;exact ⟨by kernel_rfl,by kernel_rfl,by kernel_rfl⟩
  ·cases hf;exact ⟨by kernel_rfl,by kernel_rfl,by kernel_rfl⟩
  ·cases hf) (by kernel_rfl) rfl d6
 have a0:=EV (n:=21) (m:=2) SE (λ_ _=>rfl) Tryz.underlying276 Tryz.underlying275 (λi f hf=>by
  rcases i with _ | _ | i
  ·cases hf;exact ⟨by kernel_rfl,by kernel_rfl,by kernel_rfl⟩
  ·cases hf;exact ⟨by kernel_rfl,by kernel_rfl,by kernel_rfl⟩
  ·cases hf) (by kernel_rfl) rfl d0
 have a1:=Ag (l:=IR) (n:=12) rfl Tryz.underlying291 Tryz.underlying3 (by kernel_rfl) d1
 obtain ⟨b,o,c,ty,e2,hb,a2⟩:=GQ (n:=3) (m:=2) RY (λ_ _=>rfl) (by omega) (by omega) Tryz.underlying322 Tryz.underlying323 (λi f hf=>by
  rcases i with _ | _ | i
  ·cases hf;exact ⟨by kernel_rfl,by kernel_rfl,by kernel_rfl⟩
  ·cases hf;exact ⟨by kernel_rfl,by kernel_rfl,by kernel_rfl⟩
  ·cases hf) (by kernel_rfl) rfl q2 d2
 obtain ⟨te,pe,e4⟩:=F6 Tryz.underlying136 d4;have g0:c0[0]?=some (.int .i64 3):=by rw [<-qu];exact a0 0 0 (by omega) (by omega)
 have g1:c1[0]?=some (.int .i64 31):=by rw [<-qu];exact a1 0 31 rfl
 have pos:∀{c:Array Value} {x:Value},c[0]?=some x->0<c.size:=λ{c} {x} h=>by
  rcases Cd c.size with h' | h'
  ·rw [vV (by omega)] at h;cases h
  ·exact h'
 have g2:c2[0]?=some (.slice (some ⟨b,o,none⟩) 3 3):=by rw [<-qu,e2];rfl
 have g4:c4[0]?=some (.iface te pe):=by rw [<-qu,e4];rfl
 have g5:∀i:Nat,i<256->c5[i]?=some (.int .u8 (Lib.firstT i)):=λi hi=>by
  rw [<-qu];exact a5 i _ (by simp [Nh,hi])
 have g6:∀i:Nat,i<16->c6[i*2]?=some (.int .u8 (Lib.accLo i))/\c6[i*2+1]?=some (.int .u8 (Lib.accHi i)):=λi hi=>
  ⟨by rw [<-qu];exact a6 i 0 hi (by omega),by rw [<-qu];exact a6 i 1 hi (by omega)⟩
 refine ⟨_,⟨c0,c1,c2,c,t0,t1,t2,ty,b,o,⟨c4,t4,(te,(c5,t5),(c6,t6)),pe,rfl,g4,g5,g6⟩,?_,?_,g2,?_⟩,?_,λx _ b q hb=>by cases hb⟩
 ·exact s9 (n:=21) (f:=SE) rfl (by decide) λi j hi hj=>by
   rw [cK,<-qu];exact a0 i j hi hj
 ·intro i z hz;rw [cK,<-qu];exact a1 i z hz
 ·exact s9 (n:=3) (f:=RY) rfl (by decide) λi j hi hj=>a2 i j hi hj
 ·intro x hx;simp only [cb,ov,oK] at hx;rcases hx with rfl | rfl | rfl | rfl | rfl | rfl | rfl
  ·exact h0 (pos g0)
  ·exact h1 (pos g1)
  ·exact h2 (pos g2)
  ·exact hb
  ·exact h4 (pos g4)
  ·exact h5 (pos (g5 0 (by omega)))
  ·exact h6 (pos (g6 0 (by omega)).1)
end Go.Abs
