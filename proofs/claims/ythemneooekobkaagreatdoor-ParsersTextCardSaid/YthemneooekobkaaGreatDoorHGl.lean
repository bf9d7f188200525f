
/- From the row's laid variables to what the seat's Glob says of the package-level variables.
   Conditions: none. -/
import Derived.Test.YthemneooekobkaaGreatDoorAbsX
import Derived.Test.YthemneooekobkaaGreatDoorProg
import Derived.Test.YthemneooekobkaaGreatDoorRows
import Derived.Lib.LaidU8
import Derived.Lay
import Derived.LaidMore
set_option linter.unusedVariables false
set_option linter.unusedSimpArgs false
set_option maxRecDepth 100000
namespace Go.Abs
open Go.Proofs Go.RowKit Go.Lib
theorem IU {P:Program} {w:World}:∀{l:List (String×DataW Unit)} {c:List MemPlace},DataW.LaidVars P w l c->∀n d,(n,d)∈l->
  ∃g t b fuel p,P.globalNamed n=some g/\(P.globals[g]?).map (·.type)=some t/\w.var? P n=some b/\DataW.trod (λ_=>()) P w 0 (λ_=>true) false fuel t b.toList=some (d,p)/\
   (∀x∈MemPlace.row ⟨g,0,none⟩ b.size,x∈c)/\∀x∈p,x∈c
 | [],_,_,_,_,i=>by cases i
 | (B,d')::r,c,h,n,d,i=>by
  obtain ⟨g,t,b,fuel,p,q,u,s,y,z,v,rfl⟩:=h;rcases cq.1 i with e | e
  ·cases e;exact ⟨g,t,b,fuel,p,u,s,y,z,λx hx=>by simp [hx],λx hx=>by simp [hx]⟩
  ·obtain ⟨m,k,f,a,j,k1,k2,k3,k4,A,o⟩:=IU v n d e;exact ⟨m,k,f,a,j,k1,k2,k3,k4,λx hx=>by simp [A x hx],λx hx=>by simp [o x hx]⟩
theorem sB {P:Program} {w:World} {l:List (String×DataW Unit)} (h:laidMet P l w) {n:String} {d:DataW Unit} (k:(n,d)∈l) {g:Nat} {t:TypeId} (j:P.globalNamed n=some g) (hy:(P.globals[g]?).map (·.type)=some t):
  ∃a fuel p e,DataW.trod (λ_=>()) P w 0 (λ_=>true) false fuel t a.toList=some (d,p)/\(0<a.size->w.heap[g]?=some (.cells a e (0,0)))/\
   ∀b off,MemPlace.cell b off∈p->∃c t,w.heap[b]?=some (.cells c t (0,0)):=by
 obtain ⟨v,o,_,hp⟩:=h;obtain ⟨u,s,a,fuel,p,k1,k2,k3,k4,r,m⟩:=IU o n d k;obtain rfl:=bn (j.symm.trans k1);obtain rfl:=bn (hy.symm.trans k2);obtain ⟨e,f⟩:∃e,0<a.size->w.heap[g]?=some (.cells a e (0,0)):=by
  by_cases hs:0<a.size
  ·obtain ⟨c,e,i⟩:=(hp g 0 (r _ (by simp only [MemPlace.row,ek,jp];exact ⟨0,hs,rfl⟩))).1;refine ⟨e,λ_=>?_⟩;simp only [World.var?,k1,Option.bind_some,i,aw] at k3;rw [i,k3]
  ·exact ⟨0,λh=>absurd h hs⟩
 exact ⟨a,fuel,p,e,k4,f,λb off q=>(hp b off (m _ q)).1⟩
theorem C0 {P:Program} {w:World} {fuel:Nat} {t e:TypeId} {n m:Nat} {c:Array Field} {k:IntKind} {s:List Value} {p:List MemPlace} (f:Nat->List Int) (b:∀i,i<n->(f i).length=m)
  (v:P.underlying t=some (.array n e)) (x:P.underlying e=some (.struct c)) (y:∀(i:Nat) (f:Field),c[i]?=some f->P.underlying f.type=some (.int k)/\f.offset=i/\P.cellsOf f.type=1) (a:P.cellsOf e=c.size) (A:c.size=m)
  (h:DataW.trod (λ_=>()) P w 0 (λ_=>true) false fuel t s=some (.agg ((List.range n).map λi=>.agg ((f i).map λz=>.lit (.int k z))),p)):
  ∀i j:Nat,i<n->j<m->s[i*m+j]?=some (Value.int k ((f i).getD j 0)):=by
 intro i j hi o;obtain ⟨g,d,q,r,l⟩:=array_elem v h i hi;rw [qG,List.getElem?_range hi] at r;simp only [fi,aw] at r;subst r;have:=ints_of_struct x y a l;have u:=cD (·[j]?) this;simp only [a,A,Oo,mw,o,aM,qG] at u;rw [u,aW (by rw [b i hi];exact o)];simp [List.getD,aW (show j<(f i).length by rw [b i hi];exact o)]
theorem Ab {P:Program} {w:World} {fuel:Nat} {t e:TypeId} {n:Nat} {k:IntKind} {j:List Value} {p:List MemPlace} {l:List Int} (v:l.length=n)
  (o:P.underlying t=some (.array n e)) (r:P.underlying e=some (.int k)) (c:P.cellsOf e=1)
  (h:DataW.trod (λ_=>()) P w 0 (λ_=>true) false fuel t j=some (.agg (l.map λz=>.lit (.int k z)),p)):
  ∀(i:Nat) (z:Int),l[i]?=some z->j[i]?=some (Value.int k z):=by
 intro i z g;have hi:i<n:=by
  rcases aI i n with m | m
  ·exact m
  ·rw [fV (by omega)] at g;cases g
 obtain ⟨a,d,q,f,b⟩:=array_elem o h i hi;rw [qG,g] at f;simp only [fi,aw] at f;subst f;obtain ⟨u,hc,hx,_⟩:=Hi r b;have:u=z:=by
  have:=cD Prod.fst hx;simpa using this.symm
 subst this;have s:=cD (·[0]?) hc;simpa [c,Oo,mw] using s
theorem Fe {P:Program} {w:World} {fuel:Nat} {t e:TypeId} {n m:Nat} {F:Array Field} {k:IntKind} {S:List Value} {p:List MemPlace} (f:Nat->List Int) (x:∀i,i<n->(f i).length=m) (Y:0<n) (C:0<m)
  (X:P.underlying t=some (.slice e)) (V:P.underlying e=some (.struct F)) (hf:∀(i:Nat) (f:Field),F[i]?=some f->P.underlying f.type=some (.int k)/\f.offset=i/\P.cellsOf f.type=1) (q:P.cellsOf e=F.size) (U:F.size=m)
  (hp:∀b off,MemPlace.cell b off∈p->∃c t,w.heap[b]?=some (.cells c t (0,0)))
  (h:DataW.trod (λ_=>()) P w 0 (λ_=>true) false fuel t S=some (.slice ((List.range n).map λi=>.agg ((f i).map λz=>.lit (.int k z))) [],p)):
  ∃b o c L,S=[.slice (some ⟨b,o,none⟩) n n]/\w.heap[b]?=some (.cells c L (0,0))/\∀i j,i<n->j<m->c[o+(i*m+j)]?=some (.int k ((f i).getD j 0)):=by
 rcases DataW.trod_slice X h with ⟨_,hx⟩ | ⟨a,len,cap,R,rs,fu,rfl,M,hx,_,hlc,_,K,l,N,_⟩
 ·cases hx
 have Q:=cD Prod.fst hx;simp only [DataW.slice.injEq] at Q;obtain ⟨O,Z⟩:=Q;have g:len=n:=by
  have:=cD List.length O;simp at this;omega
 have u:cap=n:=by
  have H:=(N rfl).1;have h2:=cD List.length Z;simp at h2;omega
 have D:=cD Prod.snd hx;simp only at D;have d:∀i j,i<n->j<m->w.cell? ((a.add (i*m)).add j)=some (.int k ((f i).getD j 0)):=by
  intro i j hi B;have H:=l i (by omega);obtain ⟨y,hy⟩:∃y,R[i]?=some y:=⟨R[i]'(by omega),aW (by omega)⟩;rw [hy] at H;obtain ⟨ce,J,r⟩:=AQ.1 H;have G:y.1=.agg ((f i).map λz=>.lit (.int k z)):=by
   have:=cD (·[i]?) O;simp only [qG,hy,List.getElem?_range hi,fi,aw] at this;exact this.symm
  have I:y=(.agg ((f i).map λz=>.lit (.int k z)),y.2):=by rw [<-G]
  rw [I] at r;have E:=ints_of_struct V hf q r;obtain ⟨_,_,v⟩:=Gj J;rw [q,U] at v;rw [v j B,E,qG,aW (by rw [x i hi];exact B)];simp [List.getD,aW (show j<(f i).length by rw [x i hi];exact B)]
 obtain ⟨b,o,s⟩:=a;have W:MemPlace.cell b o∈p:=by
  rw [D,q,U,K,g];refine lk.2 (.inl ?_);simp only [MemPlace.row,ek,jp];exact ⟨0,Nat.mul_pos (by omega) C,rfl⟩
 obtain rfl:s=none:=by
  have A:=d 0 0 Y C;have:((Addr.add ⟨b,o,s⟩ (0*m)).add 0)=⟨b,o,s⟩:=by simp [Addr.add]
  rw [this] at A;exact cell_spot A
 obtain ⟨c,L,T⟩:=hp b o W;refine ⟨b,o,c,L,by rw [M,g,u],T,λi j hi B=>?_⟩;have:=d i j hi B;rw [Addr.add_lit,Addr.add_lit,bA T] at this;rw [<-this,gq]
theorem F8 {P:Program} {w:World} {fuel:Nat} {t:TypeId} {u:Array (String×TypeId)} {a:List Value} {e:String} {d:DataW Unit} {p:List MemPlace} (b:P.underlying t=some (.interface u))
  (h:DataW.trod (λ_=>()) P w 0 (λ_=>true) false fuel t a=some (.iface e d,p)):∃f c,a=[.iface f c]:=by
 cases fuel with
 | zero=>simp [DataW.trod] at h
 | succ n=>
  unfold DataW.trod at h;rw [b] at h;split at h<;>simp_all
end Go.Abs
namespace Go.Abs
open Go.Proofs Go.RowKit Go.Lib Go.Proofs.YthemneooekobkaaGreatDoor
def RS (i:Nat):List Int:=[sY.getD (i*2) 0,sY.getD (i*2+1) 0]
def RI (i:Nat):List Int:=[HN.getD (i*2) 0,HN.getD (i*2+1) 0]
theorem sQ {c:Array Value} {o n:Nat} {l:List Int} {f:Nat->List Int} (k:l.length=n*2) (g:((List.range (n*2)).all λi=>l[i]?==some ((f (i / 2)).getD (i%2) 0))=true)
  (h:∀i j,i<n->j<2->c[o+(i*2+j)]?=some (.int .i64 ((f i).getD j 0))):GU c o l:=by
 intro i z b;have hi:i<n*2:=by
  rcases aI i (n*2) with e | e
  ·exact e
  ·rw [fV (by omega)] at b;cases b
 have a:=bW.1 g i (by simpa using hi);simp only [bp] at a;rw [b,aw] at a;have d:=h (i / 2) (i%2) (by omega) (by omega);rw [show i / 2*2+i%2=i by omega] at d;rw [d,<-a]
def Lo:List Int:=(List.range 256).map λc=>(Lib.firstT c:Int)
def OH (i:Nat):List Int:=[(Lib.accLo i:Int),(Lib.accHi i:Int)]
theorem OS:Rows.laid_unicode_utf8_first=.agg (Lo.map λz=>.lit (.int .u8 z)):=by kernel_rfl
theorem Oj:(Rows.laid_unicode_utf8_acceptRanges:DataW Unit)=DataW.agg ((List.range 16).map λi=>DataW.agg ((OH i).map λz=>DataW.lit (.int .u8 z))):=by kernel_rfl
theorem JF {w:World} {l:List (String×DataW Unit)} (h:laidMet Tryz.prog l w)
  (m0:("circa/seasons.spans",Rows.laid_circa_seasons_spans)∈l) (m1:("circa/months.lengths",Rows.laid_circa_months_lengths)∈l)
  (m2:("circa/years.steps",Rows.laid_circa_years_steps)∈l) (m3:("strconv.ErrSyntax",Rows.laid_strconv_ErrSyntax)∈l)
  (m4:("unicode/utf8.first",Rows.laid_unicode_utf8_first)∈l) (m5:("unicode/utf8.acceptRanges",Rows.laid_unicode_utf8_acceptRanges)∈l):GL jI w:=by
 obtain ⟨c0,f0,p0,t0,d0,h0,_⟩:=sB h m0 (g:=5) (t:=312) (by kernel_rfl) (by kernel_rfl);obtain ⟨c1,f1,p1,t1,d1,h1,_⟩:=sB h m1 (g:=6) (t:=336) (by kernel_rfl) (by kernel_rfl);obtain ⟨c2,f2,p2,t2,d2,h2,q2⟩:=sB h m2 (g:=8) (t:=351) (by kernel_rfl) (by kernel_rfl);obtain ⟨c4,f4,p4,t4,d4,h4,_⟩:=sB h m3 (g:=0) (t:=153) (by kernel_rfl) (by kernel_rfl);obtain ⟨c5,f5,p5,t5,d5,h5,_⟩:=sB h m4 (g:=3) (t:=293) (by kernel_rfl) (by kernel_rfl);obtain ⟨c6,f6,p6,t6,d6,h6,_⟩:=sB h m5 (g:=4) (t:=296) (by kernel_rfl) (by kernel_rfl);rw [OS] at d5;rw [Oj] at d6;have a5:=Ab (l:=Lo) (n:=256) (by kernel_rfl) Tryz.underlying293 Tryz.underlying5 (by kernel_rfl) d5;have a6:=C0 (n:=16) (m:=2) OH (λ_ _=>rfl) Tryz.underlying296 Tryz.underlying295 (λi f hf=>by
  rcases i with _ | _ | i
  ·cases hf;exact ⟨by kernel_rfl,by kernel_rfl,by kernel_rfl⟩
  ·cases hf;exact ⟨by kernel_rfl,by kernel_rfl,by kernel_rfl⟩
  ·cases hf) (by kernel_rfl) rfl d6
 have a0:=C0 (n:=21) (m:=2) RS (λ_ _=>rfl) Tryz.underlying312 Tryz.underlying311 (λi f hf=>by
  rcases i with _ | _ | i
  ·cases hf;exact ⟨by kernel_rfl,by kernel_rfl,by kernel_rfl⟩
  ·cases hf;exact ⟨by kernel_rfl,by kernel_rfl,by kernel_rfl⟩
  ·cases hf) (by kernel_rfl) rfl d0
 have a1:=Ab (l:=Hv) (n:=12) rfl Tryz.underlying336 Tryz.underlying3 (by kernel_rfl) d1
 obtain ⟨b,o,c,ty,e2,hb,a2⟩:=Fe (n:=3) (m:=2) RI (λ_ _=>rfl) (by omega) (by omega) Tryz.underlying351 Tryz.underlying352 (λi f hf=>by
  rcases i with _ | _ | i
  ·cases hf;exact ⟨by kernel_rfl,by kernel_rfl,by kernel_rfl⟩
  ·cases hf;exact ⟨by kernel_rfl,by kernel_rfl,by kernel_rfl⟩
  ·cases hf) (by kernel_rfl) rfl q2 d2
 obtain ⟨te,pe,e4⟩:=F8 Tryz.underlying153 d4;have g0:c0[0]?=some (.int .i64 3):=by rw [<-qM];exact a0 0 0 (by omega) (by omega)
 have g1:c1[0]?=some (.int .i64 31):=by rw [<-qM];exact a1 0 31 rfl
 have pos:∀{c:Array Value} {x:Value},c[0]?=some x->0<c.size:=λ{c} {x} h=>by
  rcases AD c.size with h' | h'
  ·rw [vU (by omega)] at h;cases h
  ·exact h'
 have g2:c2[0]?=some (.slice (some ⟨b,o,none⟩) 3 3):=by rw [<-qM,e2];rfl
 have g4:c4[0]?=some (.iface te pe):=by rw [<-qM,e4];rfl
 have g5:∀i:Nat,i<256->c5[i]?=some (.int .u8 (Lib.firstT i)):=λi hi=>by
  rw [<-qM];exact a5 i _ (by simp [Lo,hi])
 have g6:∀i:Nat,i<16->c6[i*2]?=some (.int .u8 (Lib.accLo i))/\c6[i*2+1]?=some (.int .u8 (Lib.accHi i)):=λi hi=>
  ⟨by rw [<-qM];exact a6 i 0 hi (by omega),by rw [<-qM];exact a6 i 1 hi (by omega)⟩
 refine ⟨_,⟨c0,c1,c2,c,t0,t1,t2,ty,b,o,⟨c4,t4,(te,(c5,t5),(c6,t6)),pe,rfl,g4,g5,g6⟩,?_,?_,g2,?_⟩,?_,λx _ b q hb=>by cases hb⟩
 ·exact sQ (n:=21) (f:=RS) rfl (by decide) λi j hi hj=>by
   rw [cX,<-qM];exact a0 i j hi hj
 ·intro i z hz;rw [cX,<-qM];exact a1 i z hz
 ·exact sQ (n:=3) (f:=RI) rfl (by decide) λi j hi hj=>a2 i j hi hj
 ·intro x hx;simp only [cq,oL,qe] at hx;rcases hx with rfl | rfl | rfl | rfl | rfl | rfl | rfl
  ·exact h0 (pos g0)
  ·exact h1 (pos g1)
  ·exact h2 (pos g2)
  ·exact hb
  ·exact h4 (pos g4)
  ·exact h5 (pos (g5 0 (by omega)))
  ·exact h6 (pos (g6 0 (by omega)).1)
end Go.Abs
