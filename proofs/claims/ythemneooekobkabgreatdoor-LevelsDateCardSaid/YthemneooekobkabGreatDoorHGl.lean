
/- From the row's laid variables to what the seat's Glob says of the package-level variables.
   Conditions: none. -/
import Derived.Test.YthemneooekobkabGreatDoorAbsX
import Derived.Test.YthemneooekobkabGreatDoorProg
import Derived.Test.YthemneooekobkabGreatDoorRows
import Derived.Lib.LaidU8
import Derived.Lay
import Derived.LaidMore
set_option linter.unusedVariables false
set_option linter.unusedSimpArgs false
set_option maxRecDepth 100000
namespace Go.Abs
open Go.Proofs Go.RowKit Go.Lib
theorem HF {P:Program} {w:World}:∀{l:List (String×DataW Unit)} {c:List MemPlace},DataW.LaidVars P w l c->∀n d,(n,d)∈l->
  ∃g t b fuel p,P.globalNamed n=some g/\(P.globals[g]?).map (·.type)=some t/\w.var? P n=some b/\DataW.trod (λ_=>()) P w 0 (λ_=>true) false fuel t b.toList=some (d,p)/\
   (∀x∈MemPlace.row ⟨g,0,none⟩ b.size,x∈c)/\∀x∈p,x∈c
 | [],_,_,_,_,f=>by cases f
 | (C,d')::r,c,h,n,d,f=>by
  obtain ⟨g,t,b,fuel,p,q,m,s,k,u,o,rfl⟩:=h;rcases cf.1 f with e | e
  ·cases e;exact ⟨g,t,b,fuel,p,m,s,k,u,λx hx=>by simp [hx],λx hx=>by simp [hx]⟩
  ·obtain ⟨y,z,i,a,B,k1,k2,A,k4,v,j⟩:=HF o n d e;exact ⟨y,z,i,a,B,k1,k2,A,k4,λx hx=>by simp [v x hx],λx hx=>by simp [j x hx]⟩
theorem sy {P:Program} {w:World} {l:List (String×DataW Unit)} (h:laidMet P l w) {n:String} {d:DataW Unit} (q:(n,d)∈l) {g:Nat} {t:TypeId} (o:P.globalNamed n=some g) (hy:(P.globals[g]?).map (·.type)=some t):
  ∃a fuel p e,DataW.trod (λ_=>()) P w 0 (λ_=>true) false fuel t a.toList=some (d,p)/\(0<a.size->w.heap[g]?=some (.cells a e (0,0)))/\
   ∀b off,MemPlace.cell b off∈p->∃c t,w.heap[b]?=some (.cells c t (0,0)):=by
 obtain ⟨u,m,_,hp⟩:=h;obtain ⟨v,x,a,fuel,p,k1,k2,i,k4,s,k⟩:=HF m n d q;obtain rfl:=bj (o.symm.trans k1);obtain rfl:=bj (hy.symm.trans k2);obtain ⟨e,f⟩:∃e,0<a.size->w.heap[g]?=some (.cells a e (0,0)):=by
  by_cases hs:0<a.size
  ·obtain ⟨c,e,j⟩:=(hp g 0 (s _ (by simp only [MemPlace.row,ej,la];exact ⟨0,hs,rfl⟩))).1;refine ⟨e,λ_=>?_⟩;simp only [World.var?,k1,Option.bind_some,j,av] at i;rw [j,i]
  ·exact ⟨0,λh=>absurd h hs⟩
 exact ⟨a,fuel,p,e,k4,f,λb off r=>(hp b off (k _ r)).1⟩
theorem C5 {P:Program} {w:World} {fuel:Nat} {t e:TypeId} {n m:Nat} {c:Array Field} {k:IntKind} {u:List Value} {p:List MemPlace} (f:Nat->List Int) (a:∀i,i<n->(f i).length=m)
  (v:P.underlying t=some (.array n e)) (A:P.underlying e=some (.struct c)) (y:∀(i:Nat) (f:Field),c[i]?=some f->P.underlying f.type=some (.int k)/\f.offset=i/\P.cellsOf f.type=1) (b:P.cellsOf e=c.size) (x:c.size=m)
  (h:DataW.trod (λ_=>()) P w 0 (λ_=>true) false fuel t u=some (.agg ((List.range n).map λi=>.agg ((f i).map λz=>.lit (.int k z))),p)):
  ∀i j:Nat,i<n->j<m->u[i*m+j]?=some (Value.int k ((f i).getD j 0)):=by
 intro i j hi l;obtain ⟨o,d,q,g,r⟩:=array_elem v h i hi;rw [mj,List.getElem?_range hi] at g;simp only [fa,av] at g;subst g;have:=ints_of_struct A y b r;have s:=cK (·[j]?) this;simp only [b,x,LX,mY,l,aO,mj] at s;rw [s,bh (by rw [a i hi];exact l)];simp [List.getD,bh (show j<(f i).length by rw [a i hi];exact l)]
theorem zV {P:Program} {w:World} {fuel:Nat} {t e:TypeId} {n:Nat} {k:IntKind} {m:List Value} {p:List MemPlace} {l:List Int} (v:l.length=n)
  (o:P.underlying t=some (.array n e)) (r:P.underlying e=some (.int k)) (b:P.cellsOf e=1)
  (h:DataW.trod (λ_=>()) P w 0 (λ_=>true) false fuel t m=some (.agg (l.map λz=>.lit (.int k z)),p)):
  ∀(i:Nat) (z:Int),l[i]?=some z->m[i]?=some (Value.int k z):=by
 intro i z f;have hi:i<n:=by
  rcases aH i n with j | j
  ·exact j
  ·rw [gU (by omega)] at f;cases f
 obtain ⟨c,d,q,a,g⟩:=array_elem o h i hi;rw [mj,f] at a;simp only [fa,av] at a;subst a;obtain ⟨u,hc,hx,_⟩:=DataW.trod_int r g;have:u=z:=by
  have:=cK Prod.fst hx;simpa using this.symm
 subst this;have s:=cK (·[0]?) hc;simpa [b,LX,mY] using s
theorem E4 {P:Program} {w:World} {fuel:Nat} {t e:TypeId} {n m:Nat} {F:Array Field} {k:IntKind} {U:List Value} {p:List MemPlace} (f:Nat->List Int) (r:∀i,i<n->(f i).length=m) (hn:0<n) (u:0<m)
  (ht:P.underlying t=some (.slice e)) (X:P.underlying e=some (.struct F)) (V:∀(i:Nat) (f:Field),F[i]?=some f->P.underlying f.type=some (.int k)/\f.offset=i/\P.cellsOf f.type=1) (q:P.cellsOf e=F.size) (T:F.size=m)
  (hp:∀b off,MemPlace.cell b off∈p->∃c t,w.heap[b]?=some (.cells c t (0,0)))
  (h:DataW.trod (λ_=>()) P w 0 (λ_=>true) false fuel t U=some (.slice ((List.range n).map λi=>.agg ((f i).map λz=>.lit (.int k z))) [],p)):
  ∃b o c I,U=[.slice (some ⟨b,o,none⟩) n n]/\w.heap[b]?=some (.cells c I (0,0))/\∀i j,i<n->j<m->c[o+(i*m+j)]?=some (.int k ((f i).getD j 0)):=by
 rcases DataW.trod_slice ht h with ⟨_,hx⟩ | ⟨a,len,cap,O,rs,fu,rfl,H,hx,_,Y,_,K,l,J,_⟩
 ·cases hx
 have Q:=cK Prod.fst hx;simp only [DataW.slice.injEq] at Q;obtain ⟨R,W⟩:=Q;have g:len=n:=by
  have:=cK List.length R;simp at this;omega
 have D:cap=n:=by
  have N:=(J rfl).1;have h2:=cK List.length W;simp at h2;omega
 have C:=cK Prod.snd hx;simp only at C;have d:∀i j,i<n->j<m->w.cell? ((a.add (i*m)).add j)=some (.int k ((f i).getD j 0)):=by
  intro i j hi B;have N:=l i (by omega);obtain ⟨y,hy⟩:∃y,O[i]?=some y:=⟨O[i]'(by omega),bh (by omega)⟩;rw [hy] at N;obtain ⟨ce,L,x⟩:=Ly.1 N;have M:y.1=.agg ((f i).map λz=>.lit (.int k z)):=by
   have:=cK (·[i]?) R;simp only [mj,hy,List.getElem?_range hi,fa,av] at this;exact this.symm
  have G:y=(.agg ((f i).map λz=>.lit (.int k z)),y.2):=by rw [<-M]
  rw [G] at x;have A:=ints_of_struct X V q x;obtain ⟨_,_,v⟩:=World.cells?_some L;rw [q,T] at v;rw [v j B,A,mj,bh (by rw [r i hi];exact B)];simp [List.getD,bh (show j<(f i).length by rw [r i hi];exact B)]
 obtain ⟨b,o,s⟩:=a;have Z:MemPlace.cell b o∈p:=by
  rw [C,q,T,K,g];refine mJ.2 (.inl ?_);simp only [MemPlace.row,ej,la];exact ⟨0,Nat.mul_pos (by omega) u,rfl⟩
 obtain rfl:s=none:=by
  have E:=d 0 0 hn u;have:((Addr.add ⟨b,o,s⟩ (0*m)).add 0)=⟨b,o,s⟩:=by simp [Addr.add]
  rw [this] at E;exact cell_spot E
 obtain ⟨c,I,S⟩:=hp b o Z;refine ⟨b,o,c,I,by rw [H,g,D],S,λi j hi B=>?_⟩;have:=d i j hi B;rw [Addr.add_lit,Addr.add_lit,bv S] at this;rw [<-this,ib]
theorem FL {P:Program} {w:World} {fuel:Nat} {t:TypeId} {u:Array (String×TypeId)} {a:List Value} {c:String} {d:DataW Unit} {p:List MemPlace} (b:P.underlying t=some (.interface u))
  (h:DataW.trod (λ_=>()) P w 0 (λ_=>true) false fuel t a=some (.iface c d,p)):∃f e,a=[.iface f e]:=by
 cases fuel with
 | zero=>simp [DataW.trod] at h
 | succ n=>
  unfold DataW.trod at h;rw [b] at h;split at h<;>simp_all
end Go.Abs
namespace Go.Abs
open Go.Proofs Go.RowKit Go.Lib Go.Proofs.YthemneooekobkabGreatDoor
def Rn (i:Nat):List Int:=[sS.getD (i*2) 0,sS.getD (i*2+1) 0]
def RE (i:Nat):List Int:=[Iq.getD (i*2) 0,Iq.getD (i*2+1) 0]
theorem sK {c:Array Value} {o n:Nat} {l:List Int} {f:Nat->List Int} (k:l.length=n*2) (g:((List.range (n*2)).all λi=>l[i]?==some ((f (i / 2)).getD (i%2) 0))=true)
  (h:∀i j,i<n->j<2->c[o+(i*2+j)]?=some (.int .i64 ((f i).getD j 0))):HO c o l:=by
 intro i z a;have hi:i<n*2:=by
  rcases aH i (n*2) with d | d
  ·exact d
  ·rw [gU (by omega)] at a;cases a
 have b:=cv.1 g i (by simpa using hi);simp only [bu] at b;rw [a,av] at b;have e:=h (i / 2) (i%2) (by omega) (by omega);rw [show i / 2*2+i%2=i by omega] at e;rw [e,<-b]
def J1:List Int:=(List.range 256).map λc=>(Lib.firstT c:Int)
def KE (i:Nat):List Int:=[(Lib.accLo i:Int),(Lib.accHi i:Int)]
theorem OJ:Rows.laid_unicode_utf8_first=.agg (J1.map λz=>.lit (.int .u8 z)):=by kernel_rfl
theorem Nl:(Rows.laid_unicode_utf8_acceptRanges:DataW Unit)=DataW.agg ((List.range 16).map λi=>DataW.agg ((KE i).map λz=>DataW.lit (.int .u8 z))):=by kernel_rfl
theorem I3 {w:World} {l:List (String×DataW Unit)} (h:laidMet Tryz.prog l w)
  (m0:("circa/seasons.spans",Rows.laid_circa_seasons_spans)∈l) (m1:("circa/months.lengths",Rows.laid_circa_months_lengths)∈l)
  (m2:("circa/years.steps",Rows.laid_circa_years_steps)∈l) (m3:("strconv.ErrSyntax",Rows.laid_strconv_ErrSyntax)∈l)
  (m4:("unicode/utf8.first",Rows.laid_unicode_utf8_first)∈l) (m5:("unicode/utf8.acceptRanges",Rows.laid_unicode_utf8_acceptRanges)∈l):GL gY w:=by
 obtain ⟨c0,f0,p0,t0,d0,h0,_⟩:=sy h m0 (g:=3) (t:=332) (by kernel_rfl) (by kernel_rfl);obtain ⟨c1,f1,p1,t1,d1,h1,_⟩:=sy h m1 (g:=4) (t:=346) (by kernel_rfl) (by kernel_rfl);obtain ⟨c2,f2,p2,t2,d2,h2,q2⟩:=sy h m2 (g:=8) (t:=359) (by kernel_rfl) (by kernel_rfl);obtain ⟨c4,f4,p4,t4,d4,h4,_⟩:=sy h m3 (g:=0) (t:=160) (by kernel_rfl) (by kernel_rfl);obtain ⟨c5,f5,p5,t5,d5,h5,_⟩:=sy h m4 (g:=5) (t:=347) (by kernel_rfl) (by kernel_rfl);obtain ⟨c6,f6,p6,t6,d6,h6,_⟩:=sy h m5 (g:=6) (t:=350) (by kernel_rfl) (by kernel_rfl);rw [OJ] at d5;rw [Nl] at d6;have a5:=zV (l:=J1) (n:=256) (by kernel_rfl) Tryz.underlying347 Tryz.underlying5 (by kernel_rfl) d5;have a6:=C5 (n:=16) (m:=2) KE (λ_ _=>rfl) Tryz.underlying350 Tryz.underlying349 (λi f hf=>by
  rcases i with _ | _ | i
  ·cases hf;exact ⟨by kernel_rfl,by kernel_rfl,by kernel_rfl⟩
  ·cases hf;exact ⟨by kernel_rfl,by kernel_rfl,by kernel_rfl⟩
  ·cases hf) (by kernel_rfl) rfl d6
 have a0:=C5 (n:=21) (m:=2) Rn (λ_ _=>rfl) Tryz.underlying332 Tryz.underlying331 (λi f hf=>by
  rcases i with _ | _ | i
  ·cases hf;exact ⟨by kernel_rfl,by kernel_rfl,by kernel_rfl⟩
  ·cases hf;exact ⟨by kernel_rfl,by kernel_rfl,by kernel_rfl⟩
  ·cases hf) (by kernel_rfl) rfl d0
 have a1:=zV (l:=IP) (n:=12) rfl Tryz.underlying346 Tryz.underlying3 (by kernel_rfl) d1
 obtain ⟨b,o,c,ty,e2,hb,a2⟩:=E4 (n:=3) (m:=2) RE (λ_ _=>rfl) (by omega) (by omega) Tryz.underlying359 Tryz.underlying360 (λi f hf=>by
  rcases i with _ | _ | i
  ·cases hf;exact ⟨by kernel_rfl,by kernel_rfl,by kernel_rfl⟩
  ·cases hf;exact ⟨by kernel_rfl,by kernel_rfl,by kernel_rfl⟩
  ·cases hf) (by kernel_rfl) rfl q2 d2
 obtain ⟨te,pe,e4⟩:=FL Tryz.underlying160 d4;have g0:c0[0]?=some (.int .i64 3):=by rw [<-qM];exact a0 0 0 (by omega) (by omega)
 have g1:c1[0]?=some (.int .i64 31):=by rw [<-qM];exact a1 0 31 rfl
 have pos:∀{c:Array Value} {x:Value},c[0]?=some x->0<c.size:=λ{c} {x} h=>by
  rcases AE c.size with h' | h'
  ·rw [yd (by omega)] at h;cases h
  ·exact h'
 have g2:c2[0]?=some (.slice (some ⟨b,o,none⟩) 3 3):=by rw [<-qM,e2];rfl
 have g4:c4[0]?=some (.iface te pe):=by rw [<-qM,e4];rfl
 have g5:∀i:Nat,i<256->c5[i]?=some (.int .u8 (Lib.firstT i)):=λi hi=>by
  rw [<-qM];exact a5 i _ (by simp [J1,hi])
 have g6:∀i:Nat,i<16->c6[i*2]?=some (.int .u8 (Lib.accLo i))/\c6[i*2+1]?=some (.int .u8 (Lib.accHi i)):=λi hi=>
  ⟨by rw [<-qM];exact a6 i 0 hi (by omega),by rw [<-qM];exact a6 i 1 hi (by omega)⟩
 refine ⟨_,⟨c0,c1,c2,c,t0,t1,t2,ty,b,o,⟨c4,t4,(te,(c5,t5),(c6,t6)),pe,rfl,g4,g5,g6⟩,?_,?_,g2,?_⟩,?_,λx _ b q hb=>by cases hb⟩
 ·exact sK (n:=21) (f:=Rn) rfl (by decide) λi j hi hj=>by
   rw [dk,<-qM];exact a0 i j hi hj
 ·intro i z hz;rw [dk,<-qM];exact a1 i z hz
 ·exact sK (n:=3) (f:=RE) rfl (by decide) λi j hi hj=>a2 i j hi hj
 ·intro x hx;simp only [cf,mG,nG] at hx;rcases hx with rfl | rfl | rfl | rfl | rfl | rfl | rfl
  ·exact h0 (pos g0)
  ·exact h1 (pos g1)
  ·exact h2 (pos g2)
  ·exact hb
  ·exact h4 (pos g4)
  ·exact h5 (pos (g5 0 (by omega)))
  ·exact h6 (pos (g6 0 (by omega)).1)
end Go.Abs
