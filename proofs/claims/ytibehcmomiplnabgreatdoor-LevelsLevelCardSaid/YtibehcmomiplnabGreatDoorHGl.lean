
/- From the row's laid variables to what the seat's Glob says of the package-level variables.
   Conditions: none. -/
import Derived.Test.YtibehcmomiplnabGreatDoorAbsX
import Derived.Test.YtibehcmomiplnabGreatDoorProg
import Derived.Test.YtibehcmomiplnabGreatDoorRows
import Derived.Lib.LaidU8
import Derived.Lay
import Derived.LaidMore
set_option linter.unusedSimpArgs false
set_option linter.unusedVariables false
set_option linter.defProp false
set_option maxRecDepth 100000
namespace Go.Abs
open Go.Proofs Go.RowKit Go.Lib
def KC{P:Program}{w:World}:∀{l:List (String×DataW Unit)} {c:List MemPlace},DataW.LaidVars P w l c->∀n d,(n,d)∈l->
  ∃g t b fuel p,P.globalNamed n=some g/\(P.globals[g]?).map (·.type)=some t/\w.var? P n=some b/\DataW.trod (λ_=>()) P w 0 (λ_=>true) false fuel t b.toList=some (d,p)/\
   (∀x∈MemPlace.row ⟨g,0,none⟩ b.size,x∈c)/\∀x∈p,x∈c
 | [],_,_,_,_,f=>by cases f
 | (B,d')::r,c,h,n,d,f=>by
  obtain⟨g,t,b,fuel,p,q,y,z,m,j,v,rfl⟩:=h;rcases ck.1 f with e | e
  ·cases e;exact⟨g,t,b,fuel,p,y,z,m,j,λx hx=>by simp[hx],λx hx=>by simp[hx]⟩
  ·obtain⟨u,o,i,a,k,k1,k2,k3,k4,s,A⟩:=KC v n d e;exact⟨u,o,i,a,k,k1,k2,k3,k4,λx hx=>by simp[s x hx],λx hx=>by simp[A x hx]⟩
def uF{P:Program}{w:World}{l:List (String×DataW Unit)}(h:laidMet P l w){n:String}{d:DataW Unit}(m:(n,d)∈l){g:Nat}{t:TypeId}(q:P.globalNamed n=some g)(hy:(P.globals[g]?).map (·.type)=some t):
  ∃a fuel p e,DataW.trod (λ_=>()) P w 0 (λ_=>true) false fuel t a.toList=some (d,p)/\(0<a.size->w.heap[g]?=some (.cells a e (0,0)))/\
   ∀b off,MemPlace.cell b off∈p->∃c t,w.heap[b]?=some (.cells c t (0,0)):=by
 obtain⟨v,j,_,hp⟩:=h;obtain⟨u,s,a,fuel,p,k1,k2,k3,k4,o,r⟩:=KC j n d m;obtain rfl:=bE (q.symm.trans k1);obtain rfl:=bE (hy.symm.trans k2);obtain⟨e,f⟩:∃e,0<a.size->w.heap[g]?=some (.cells a e (0,0)):=by
  by_cases hs:0<a.size
  ·obtain⟨c,e,i⟩:=(hp g 0 (o _ (by simp only[MemPlace.row,eY,il];exact⟨0,hs,rfl⟩))).1;refine⟨e,λ_=>?_⟩;simp only[World.var?,k1,Option.bind_some,i,aw]at k3;rw[i,k3]
  ·exact⟨0,λh=>absurd h hs⟩
 exact⟨a,fuel,p,e,k4,f,λb off k=>(hp b off (r _ k)).1⟩
def Ht{P:Program}{w:World}{fuel:Nat}{t e:TypeId}{n m:Nat}{c:Array Field}{k:IntKind}{u:List Value}{p:List MemPlace}(f:Nat->List Int)(a:∀i,i<n->(f i).length=m)
  (x:P.underlying t=some (.array n e)) (A:P.underlying e=some (.struct c)) (v:∀(i:Nat) (f:Field),c[i]?=some f->P.underlying f.type=some (.int k)/\f.offset=i/\P.cellsOf f.type=1) (b:P.cellsOf e=c.size) (y:c.size=m)
  (h:DataW.trod (λ_=>()) P w 0 (λ_=>true) false fuel t u=some (.agg ((List.range n).map λi=>.agg ((f i).map λz=>.lit (.int k z))),p)):
  ∀i j:Nat,i<n->j<m->u[i*m+j]?=some (Value.int k ((f i).getD j 0)):=by
 intro i j hi l;obtain⟨o,d,q,r,g⟩:=array_elem x h i hi;rw[nV,List.getElem?_range hi]at r;simp only[fQ,aw]at r;subst r;have:=ints_of_struct A v b g;have s:=cf (·[j]?) this;simp only[b,y,IB,mQ,l,aS,nV]at s;rw[s,ba (by rw[a i hi];exact l)];simp[List.getD,ba (show j<(f i).length by rw[a i hi];exact l)]
def B8{P:Program}{w:World}{fuel:Nat}{t e:TypeId}{n:Nat}{k:IntKind}{m:List Value}{p:List MemPlace}{l:List Int}(v:l.length=n)
  (r:P.underlying t=some (.array n e)) (s:P.underlying e=some (.int k)) (b:P.cellsOf e=1)
  (h:DataW.trod (λ_=>()) P w 0 (λ_=>true) false fuel t m=some (.agg (l.map λz=>.lit (.int k z)),p)):
  ∀(i:Nat) (z:Int),l[i]?=some z->m[i]?=some (Value.int k z):=by
 intro i z c;have hi:i<n:=by
  rcases aN i n with j | j
  ·exact j
  ·rw[gS (by omega)]at c;cases c
 obtain⟨f,d,q,g,a⟩:=array_elem r h i hi;rw[nV,c]at g;simp only[fQ,aw]at g;subst g;obtain⟨o,hc,hx,_⟩:=KP s a;have:o=z:=by
  have:=cf Prod.fst hx;simpa using this.symm
 subst this;have u:=cf (·[0]?) hc;simpa[b,IB,mQ]using u
def Is{P:Program}{w:World}{fuel:Nat}{t e:TypeId}{n m:Nat}{fs:Array Field}{k:IntKind}{cs:List Value}{p:List MemPlace}(f:Nat->List Int)(hf0:∀i,i<n->(f i).length=m)(hn:0<n)(hm0:0<m)
  (ht:P.underlying t=some (.slice e)) (he:P.underlying e=some (.struct fs)) (hf:∀(i:Nat) (f:Field),fs[i]?=some f->P.underlying f.type=some (.int k)/\f.offset=i/\P.cellsOf f.type=1) (hct:P.cellsOf e=fs.size) (hm:fs.size=m)
  (hp:∀b off,MemPlace.cell b off∈p->∃c t,w.heap[b]?=some (.cells c t (0,0)))
  (h:DataW.trod (λ_=>()) P w 0 (λ_=>true) false fuel t cs=some (.slice ((List.range n).map λi=>.agg ((f i).map λz=>.lit (.int k z))) [],p)):
  ∃b o c ty,cs=[.slice (some ⟨b,o,none⟩) n n]/\w.heap[b]?=some (.cells c ty (0,0))/\∀i j,i<n->j<m->c[o+(i*m+j)]?=some (.int k ((f i).getD j 0)):=by
 rcases DataW.trod_slice ht h with⟨_,hx⟩ | ⟨a,len,cap,el,rs,fu,rfl,hcs,hx,_,hlc,_,hel,helem,hsp,_⟩
 ·cases hx
 have e0:=cf Prod.fst hx;simp only[DataW.slice.injEq]at e0;obtain⟨eE,eR⟩:=e0;have hlen:len=n:=by
  have:=cf List.length eE;simp at this;omega
 have hcap:cap=n:=by
  have h1:=(hsp rfl).1;have h2:=cf List.length eR;simp at h2;omega
 have hp2:=cf Prod.snd hx;simp only at hp2;have hcell:∀i j,i<n->j<m->w.cell? ((a.add (i*m)).add j)=some (.int k ((f i).getD j 0)):=by
  intro i j hi hj;have h1:=helem i (by omega);obtain⟨y,hy⟩:∃y,el[i]?=some y:=⟨el[i]'(by omega),ba (by omega)⟩;rw[hy]at h1;obtain⟨ce,hce,hte⟩:=Fa.1 h1;have hy1:y.1=.agg ((f i).map λz=>.lit (.int k z)):=by
   have:=cf (·[i]?) eE;simp only[nV,hy,List.getElem?_range hi,fQ,aw]at this;exact this.symm
  have hy2:y=(.agg ((f i).map λz=>.lit (.int k z)),y.2):=by rw[<-hy1]
  rw[hy2]at hte;have hint:=ints_of_struct he hf hct hte;obtain⟨_,_,hcc⟩:=IM hce;rw[hct,hm]at hcc;rw[hcc j hj,hint,nV,ba (by rw[hf0 i hi];exact hj)];simp[List.getD,ba (show j<(f i).length by rw[hf0 i hi];exact hj)]
 obtain⟨b,o,s⟩:=a;have hb:MemPlace.cell b o∈p:=by
  rw[hp2,hct,hm,hel,hlen];refine md.2 (.inl ?_);simp only[MemPlace.row,eY,il];exact⟨0,Nat.mul_pos (by omega) hm0,rfl⟩
 obtain rfl:s=none:=by
  have h00:=hcell 0 0 hn hm0;have:((Addr.add ⟨b,o,s⟩ (0*m)).add 0)=⟨b,o,s⟩:=by simp[Addr.add]
  rw[this]at h00;exact cell_spot h00
 obtain⟨c,ty,hh⟩:=hp b o hb;refine⟨b,o,c,ty,by rw[hcs,hlen,hcap],hh,λi j hi hj=>?_⟩;have:=hcell i j hi hj;rw[Addr.add_lit,Addr.add_lit,bB hh]at this;rw[<-this,iy]
def Iw{P:Program}{w:World}{fuel:Nat}{t:TypeId}{u:Array (String×TypeId)}{a:List Value}{c:String}{d:DataW Unit}{p:List MemPlace}(f:P.underlying t=some (.interface u))
  (h:DataW.trod (λ_=>()) P w 0 (λ_=>true) false fuel t a=some (.iface c d,p)):∃b e,a=[.iface b e]:=by
 cases fuel with
 | zero=>simp[DataW.trod]at h
 | succ n=>
  unfold DataW.trod at h;rw[f]at h;split at h<;>simp_all
end Go.Abs
namespace Go.Abs
open Go.Proofs Go.RowKit Go.Lib Go.Proofs.YtibehcmomiplnabGreatDoor
def VI(i:Nat):List Int:=[vb.getD (i*2) 0,vb.getD (i*2+1) 0]
def Vl(i:Nat):List Int:=[Ll.getD (i*2) 0,Ll.getD (i*2+1) 0]
def vg{c:Array Value}{o n:Nat}{l:List Int}{f:Nat->List Int}(k:l.length=n*2)(g:((List.range (n*2)).all λi=>l[i]?==some ((f (i / 2)).getD (i%2) 0))=true)
  (h:∀i j,i<n->j<2->c[o+(i*2+j)]?=some (.int .i64 ((f i).getD j 0))):Ju c o l:=by
 intro i z a;have hi:i<n*2:=by
  rcases aN i (n*2)with d | d
  ·exact d
  ·rw[gS (by omega)]at a;cases a
 have b:=cb.1 g i (by simpa using hi);simp only[bA]at b;rw[a,aw]at b;have e:=h (i / 2) (i%2) (by omega) (by omega);rw[show i / 2*2+i%2=i by omega]at e;rw[e,<-b]
def PZ:List Int:=(List.range 256).map λc=>(Lib.firstT c:Int)
def OY(i:Nat):List Int:=[(Lib.accLo i:Int),(Lib.accHi i:Int)]
def RQ:Rows.laid_unicode_utf8_first=.agg (PZ.map λz=>.lit (.int .u8 z)):=by kernel_rfl
def P3:(Rows.laid_unicode_utf8_acceptRanges:DataW Unit)=DataW.agg ((List.range 16).map λi=>DataW.agg ((OY i).map λz=>DataW.lit (.int .u8 z))):=by kernel_rfl
def M3 {w:World} {l:List (String×DataW Unit)} (h:laidMet Tryz.prog l w)
  (m0:("circa/seasons.spans",Rows.laid_circa_seasons_spans)∈l) (m1:("circa/months.lengths",Rows.laid_circa_months_lengths)∈l)
  (m2:("circa/years.steps",Rows.laid_circa_years_steps)∈l) (m3:("strconv.ErrSyntax",Rows.laid_strconv_ErrSyntax)∈l)
  (m4:("unicode/utf8.first",Rows.laid_unicode_utf8_first)∈l) (m5:("unicode/utf8.acceptRanges",Rows.laid_unicode_utf8_acceptRanges)∈l):GL iI w:=by
 obtain ⟨c0,f0,p0,t0,d0,h0,_⟩:=uF h m0 (g:=3) (t:=315) (by kernel_rfl) (by kernel_rfl);obtain ⟨c1,f1,p1,t1,d1,h1,_⟩:=uF h m1 (g:=4) (t:=322) (by kernel_rfl) (by kernel_rfl);obtain ⟨c2,f2,p2,t2,d2,h2,q2⟩:=uF h m2 (g:=5) (t:=350) (by kernel_rfl) (by kernel_rfl);obtain ⟨c4,f4,p4,t4,d4,h4,_⟩:=uF h m3 (g:=0) (t:=96) (by kernel_rfl) (by kernel_rfl);obtain ⟨c5,f5,p5,t5,d5,h5,_⟩:=uF h m4 (g:=7) (t:=357) (by kernel_rfl) (by kernel_rfl);obtain ⟨c6,f6,p6,t6,d6,h6,_⟩:=uF h m5 (g:=8) (t:=360) (by kernel_rfl) (by kernel_rfl);rw [RQ] at d5;rw [P3] at d6;have a5:=B8 (l:=PZ) (n:=256) (by kernel_rfl) Tryz.underlying357 Tryz.underlying5 (by kernel_rfl) d5;have a6:=Ht (n:=16) (m:=2) OY (λ_ _=>rfl) Tryz.underlying360 Tryz.underlying359 (λi f hf=>by
  rcases i with _ | _ | i
  ·cases hf;exact ⟨by kernel_rfl,by kernel_rfl,by kernel_rfl⟩
  ·cases hf;exact ⟨by kernel_rfl,by kernel_rfl,by kernel_rfl⟩
  ·cases hf) (by kernel_rfl) rfl d6
 have a0:=Ht (n:=21) (m:=2) VI (λ_ _=>rfl) Tryz.underlying315 Tryz.underlying314 (λi f hf=>by
  rcases i with _ | _ | i
  ·cases hf;exact ⟨by kernel_rfl,by kernel_rfl,by kernel_rfl⟩
  ·cases hf;exact ⟨by kernel_rfl,by kernel_rfl,by kernel_rfl⟩
  ·cases hf) (by kernel_rfl) rfl d0
 have a1:=B8 (l:=Lj) (n:=12) rfl Tryz.underlying322 Tryz.underlying3 (by kernel_rfl) d1
 obtain ⟨b,o,c,ty,e2,hb,a2⟩:=Is (n:=3) (m:=2) Vl (λ_ _=>rfl) (by omega) (by omega) Tryz.underlying350 Tryz.underlying351 (λi f hf=>by
  rcases i with _ | _ | i
  ·cases hf;exact ⟨by kernel_rfl,by kernel_rfl,by kernel_rfl⟩
  ·cases hf;exact ⟨by kernel_rfl,by kernel_rfl,by kernel_rfl⟩
  ·cases hf) (by kernel_rfl) rfl q2 d2
 obtain ⟨te,pe,e4⟩:=Iw Tryz.underlying96 d4;have g0:c0[0]?=some (.int .i64 3):=by rw [<-sa];exact a0 0 0 (by omega) (by omega)
 have g1:c1[0]?=some (.int .i64 31):=by rw [<-sa];exact a1 0 31 rfl
 have pos:∀{c:Array Value} {x:Value},c[0]?=some x->0<c.size:=λ{c} {x} h=>by
  rcases DW c.size with h' | h'
  ·rw [ym (by omega)] at h;cases h
  ·exact h'
 have g2:c2[0]?=some (.slice (some ⟨b,o,none⟩) 3 3):=by rw [<-sa,e2];rfl
 have g4:c4[0]?=some (.iface te pe):=by rw [<-sa,e4];rfl
 have g5:∀i:Nat,i<256->c5[i]?=some (.int .u8 (Lib.firstT i)):=λi hi=>by
  rw [<-sa];exact a5 i _ (by simp [PZ,hi])
 have g6:∀i:Nat,i<16->c6[i*2]?=some (.int .u8 (Lib.accLo i))/\c6[i*2+1]?=some (.int .u8 (Lib.accHi i)):=λi hi=>
  ⟨by rw [<-sa];exact a6 i 0 hi (by omega),by rw [<-sa];exact a6 i 1 hi (by omega)⟩
 refine ⟨_,⟨c0,c1,c2,c,t0,t1,t2,ty,b,o,⟨c4,t4,(te,(c5,t5),(c6,t6)),pe,rfl,g4,g5,g6⟩,?_,?_,g2,?_⟩,?_,λx _ b q hb=>by cases hb⟩
 ·exact vg (n:=21) (f:=VI) rfl (by decide) λi j hi hj=>by
   rw [dw,<-sa];exact a0 i j hi hj
 ·intro i z hz;rw [dw,<-sa];exact a1 i z hz
 ·exact vg (n:=3) (f:=Vl) rfl (by decide) λi j hi hj=>a2 i j hi hj
 ·intro x hx;simp only [ck,nB,ov] at hx;rcases hx with rfl | rfl | rfl | rfl | rfl | rfl | rfl
  ·exact h0 (pos g0)
  ·exact h1 (pos g1)
  ·exact h2 (pos g2)
  ·exact hb
  ·exact h4 (pos g4)
  ·exact h5 (pos (g5 0 (by omega)))
  ·exact h6 (pos (g6 0 (by omega)).1)
end Go.Abs
