
/- From the row's laid variables to what the seat's Glob says of the package-level variables.
   Conditions: none. -/
import Derived.Test.YthemneooekobkaaGreatDoorAbsX
import Derived.Test.YthemneooekobkaaGreatDoorProg
import Derived.Test.YthemneooekobkaaGreatDoorRows
import Derived.Lib.LaidU8
import Derived.Lay
import Derived.LaidMore
set_option linter.unusedVariables false
set_option linter.unusedSimpArgs false
set_option maxRecDepth 100000
namespace Go.Abs
open Go.Proofs Go.RowKit Go.Lib
theorem DC {P:Program} {w:World}:∀{l:List (String×DataW Unit)} {c:List MemPlace},DataW.LaidVars P w l c->∀n d,(n,d)∈l->
  ∃g t b fuel p,P.globalNamed n=some g/\(P.globals[g]?).map (·.type)=some t/\w.var? P n=some b/\DataW.trod (λ_=>()) P w 0 (λ_=>true) false fuel t b.toList=some (d,p)/\
   (∀x∈MemPlace.row ⟨g,0,none⟩ b.size,x∈c)/\∀x∈p,x∈c
 | [],_,_,_,_,f=>by cases f
 | (C,d')::r,c,h,n,d,f=>by
  obtain ⟨g,t,b,fuel,p,q,m,j,k,A,v,rfl⟩:=h;rcases cA.1 f with e | e
  ·cases e;exact ⟨g,t,b,fuel,p,m,j,k,A,λx hx=>by simp [hx],λx hx=>by simp [hx]⟩
  ·obtain ⟨z,u,i,a,B,k1,k2,k3,s,o,y⟩:=DC v n d e;exact ⟨z,u,i,a,B,k1,k2,k3,s,λx hx=>by simp [o x hx],λx hx=>by simp [y x hx]⟩
theorem pN {P:Program} {w:World} {l:List (String×DataW Unit)} (h:laidMet P l w) {n:String} {d:DataW Unit} (m:(n,d)∈l) {g:Nat} {t:TypeId} (o:P.globalNamed n=some g) (hy:(P.globals[g]?).map (·.type)=some t):
  ∃a fuel p e,DataW.trod (λ_=>()) P w 0 (λ_=>true) false fuel t a.toList=some (d,p)/\(0<a.size->w.heap[g]?=some (.cells a e (0,0)))/\
   ∀b off,MemPlace.cell b off∈p->∃c t,w.heap[b]?=some (.cells c t (0,0)):=by
 obtain ⟨x,q,_,hp⟩:=h;obtain ⟨v,u,a,fuel,p,k1,k2,k3,k,j,r⟩:=DC q n d m;obtain rfl:=bc (o.symm.trans k1);obtain rfl:=bc (hy.symm.trans k2);obtain ⟨e,f⟩:∃e,0<a.size->w.heap[g]?=some (.cells a e (0,0)):=by
  by_cases hs:0<a.size
  ·obtain ⟨c,e,i⟩:=(hp g 0 (j _ (by simp only [MemPlace.row,dr,jk];exact ⟨0,hs,rfl⟩))).1;refine ⟨e,λ_=>?_⟩;simp only [World.var?,k1,Option.bind_some,i,am] at k3;rw [i,k3]
  ·exact ⟨0,λh=>absurd h hs⟩
 exact ⟨a,fuel,p,e,k,f,λb off s=>(hp b off (r _ s)).1⟩
theorem zE {P:Program} {w:World} {fuel:Nat} {t e:TypeId} {n m:Nat} {c:Array Field} {k:IntKind} {s:List Value} {p:List MemPlace} (f:Nat->List Int) (a:∀i,i<n->(f i).length=m)
  (v:P.underlying t=some (.array n e)) (y:P.underlying e=some (.struct c)) (A:∀(i:Nat) (f:Field),c[i]?=some f->P.underlying f.type=some (.int k)/\f.offset=i/\P.cellsOf f.type=1) (b:P.cellsOf e=c.size) (x:c.size=m)
  (h:DataW.trod (λ_=>()) P w 0 (λ_=>true) false fuel t s=some (.agg ((List.range n).map λi=>.agg ((f i).map λz=>.lit (.int k z))),p)):
  ∀i j:Nat,i<n->j<m->s[i*m+j]?=some (Value.int k ((f i).getD j 0)):=by
 intro i j hi o;obtain ⟨l,d,q,g,r⟩:=array_elem v h i hi;rw [mz,List.getElem?_range hi] at g;simp only [ee,am] at g;subst g;have:=ints_of_struct y A b r;have u:=gf (·[j]?) this;simp only [b,x,IU,ke,o,aY,mz] at u;rw [u,bH (by rw [a i hi];exact o)];simp [List.getD,bH (show j<(f i).length by rw [a i hi];exact o)]
theorem xk {P:Program} {w:World} {fuel:Nat} {t e:TypeId} {n:Nat} {k:IntKind} {j:List Value} {p:List MemPlace} {l:List Int} (v:l.length=n)
  (s:P.underlying t=some (.array n e)) (u:P.underlying e=some (.int k)) (c:P.cellsOf e=1)
  (h:DataW.trod (λ_=>()) P w 0 (λ_=>true) false fuel t j=some (.agg (l.map λz=>.lit (.int k z)),p)):
  ∀(i:Nat) (z:Int),l[i]?=some z->j[i]?=some (Value.int k z):=by
 intro i z f;have hi:i<n:=by
  rcases aH i n with m | m
  ·exact m
  ·rw [eF (by omega)] at f;cases f
 obtain ⟨b,d,q,a,g⟩:=array_elem s h i hi;rw [mz,f] at a;simp only [ee,am] at a;subst a;obtain ⟨r,hc,hx,_⟩:=Ee u g;have:r=z:=by
  have:=gf Prod.fst hx;simpa using this.symm
 subst this;have o:=gf (·[0]?) hc;simpa [c,IU,ke] using o
theorem CG {P:Program} {w:World} {fuel:Nat} {t e:TypeId} {n m:Nat} {F:Array Field} {k:IntKind} {S:List Value} {p:List MemPlace} (f:Nat->List Int) (C:∀i,i<n->(f i).length=m) (Z:0<n) (x:0<m)
  (V:P.underlying t=some (.slice e)) (X:P.underlying e=some (.struct F)) (Y:∀(i:Nat) (f:Field),F[i]?=some f->P.underlying f.type=some (.int k)/\f.offset=i/\P.cellsOf f.type=1) (q:P.cellsOf e=F.size) (T:F.size=m)
  (hp:∀b off,MemPlace.cell b off∈p->∃c t,w.heap[b]?=some (.cells c t (0,0)))
  (h:DataW.trod (λ_=>()) P w 0 (λ_=>true) false fuel t S=some (.slice ((List.range n).map λi=>.agg ((f i).map λz=>.lit (.int k z))) [],p)):
  ∃b o c K,S=[.slice (some ⟨b,o,none⟩) n n]/\w.heap[b]?=some (.cells c K (0,0))/\∀i j,i<n->j<m->c[o+(i*m+j)]?=some (.int k ((f i).getD j 0)):=by
 rcases DataW.trod_slice V h with ⟨_,hx⟩ | ⟨a,len,cap,R,rs,fu,rfl,M,hx,_,W,_,J,l,G,_⟩
 ·cases hx
 have O:=gf Prod.fst hx;simp only [DataW.slice.injEq] at O;obtain ⟨Q,eR⟩:=O;have g:len=n:=by
  have:=gf List.length Q;simp at this;omega
 have r:cap=n:=by
  have N:=(G rfl).1;have h2:=gf List.length eR;simp at h2;omega
 have A:=gf Prod.snd hx;simp only at A;have d:∀i j,i<n->j<m->w.cell? ((a.add (i*m)).add j)=some (.int k ((f i).getD j 0)):=by
  intro i j hi u;have N:=l i (by omega);obtain ⟨y,hy⟩:∃y,R[i]?=some y:=⟨R[i]'(by omega),bH (by omega)⟩;rw [hy] at N;obtain ⟨ce,L,v⟩:=yO.1 N;have H:y.1=.agg ((f i).map λz=>.lit (.int k z)):=by
   have:=gf (·[i]?) Q;simp only [mz,hy,List.getElem?_range hi,ee,am] at this;exact this.symm
  have I:y=(.agg ((f i).map λz=>.lit (.int k z)),y.2):=by rw [<-H]
  rw [I] at v;have D:=ints_of_struct X Y q v;obtain ⟨_,_,B⟩:=CM L;rw [q,T] at B;rw [B j u,D,mz,bH (by rw [C i hi];exact u)];simp [List.getD,bH (show j<(f i).length by rw [C i hi];exact u)]
 obtain ⟨b,o,s⟩:=a;have hb:MemPlace.cell b o∈p:=by
  rw [A,q,T,J,g];refine kA.2 (.inl ?_);simp only [MemPlace.row,dr,jk];exact ⟨0,Nat.mul_pos (by omega) x,rfl⟩
 obtain rfl:s=none:=by
  have E:=d 0 0 Z x;have:((Addr.add ⟨b,o,s⟩ (0*m)).add 0)=⟨b,o,s⟩:=by simp [Addr.add]
  rw [this] at E;exact cell_spot E
 obtain ⟨c,K,U⟩:=hp b o hb;refine ⟨b,o,c,K,by rw [M,g,r],U,λi j hi u=>?_⟩;have:=d i j hi u;rw [Addr.add_lit,Addr.add_lit,aX U] at this;rw [<-this,il]
theorem Bf {P:Program} {w:World} {fuel:Nat} {t:TypeId} {u:Array (String×TypeId)} {a:List Value} {c:String} {d:DataW Unit} {p:List MemPlace} (b:P.underlying t=some (.interface u))
  (h:DataW.trod (λ_=>()) P w 0 (λ_=>true) false fuel t a=some (.iface c d,p)):∃e f,a=[.iface e f]:=by
 cases fuel with
 | zero=>simp [DataW.trod] at h
 | succ n=>
  unfold DataW.trod at h;rw [b] at h;split at h<;>simp_all
end Go.Abs
namespace Go.Abs
open Go.Proofs Go.RowKit Go.Lib Go.Proofs.YthemneooekobkaaGreatDoor
def ML (i:Nat):List Int:=[qa.getD (i*2) 0,qa.getD (i*2+1) 0]
def MV (i:Nat):List Int:=[D3.getD (i*2) 0,D3.getD (i*2+1) 0]
theorem qk {c:Array Value} {o n:Nat} {l:List Int} {f:Nat->List Int} (k:l.length=n*2) (g:((List.range (n*2)).all λi=>l[i]?==some ((f (i / 2)).getD (i%2) 0))=true)
  (h:∀i j,i<n->j<2->c[o+(i*2+j)]?=some (.int .i64 ((f i).getD j 0))):Da c o l:=by
 intro i z a;have hi:i<n*2:=by
  rcases aH i (n*2) with e | e
  ·exact e
  ·rw [eF (by omega)] at a;cases a
 have b:=cr.1 g i (by simpa using hi);simp only [bU] at b;rw [a,am] at b;have d:=h (i / 2) (i%2) (by omega) (by omega);rw [show i / 2*2+i%2=i by omega] at d;rw [d,<-b]
def Im:List Int:=(List.range 256).map λc=>(Lib.firstT c:Int)
def IH (i:Nat):List Int:=[(Lib.accLo i:Int),(Lib.accHi i:Int)]
theorem Lh:Rows.laid_unicode_utf8_first=.agg (Im.map λz=>.lit (.int .u8 z)):=by kernel_rfl
theorem Jt:(Rows.laid_unicode_utf8_acceptRanges:DataW Unit)=DataW.agg ((List.range 16).map λi=>DataW.agg ((IH i).map λz=>DataW.lit (.int .u8 z))):=by kernel_rfl
theorem F8 {w:World} {l:List (String×DataW Unit)} (h:laidMet Tryz.prog l w)
  (m0:("circa/seasons.spans",Rows.laid_circa_seasons_spans)∈l) (m1:("circa/months.lengths",Rows.laid_circa_months_lengths)∈l)
  (m2:("circa/years.steps",Rows.laid_circa_years_steps)∈l) (m3:("strconv.ErrSyntax",Rows.laid_strconv_ErrSyntax)∈l)
  (m4:("unicode/utf8.first",Rows.laid_unicode_utf8_first)∈l) (m5:("unicode/utf8.acceptRanges",Rows.laid_unicode_utf8_acceptRanges)∈l):GL fm w:=by
 obtain ⟨c0,f0,p0,t0,d0,h0,_⟩:=pN h m0 (g:=5) (t:=312) (by kernel_rfl) (by kernel_rfl);obtain ⟨c1,f1,p1,t1,d1,h1,_⟩:=pN h m1 (g:=6) (t:=336) (by kernel_rfl) (by kernel_rfl);obtain ⟨c2,f2,p2,t2,d2,h2,q2⟩:=pN h m2 (g:=8) (t:=351) (by kernel_rfl) (by kernel_rfl);obtain ⟨c4,f4,p4,t4,d4,h4,_⟩:=pN h m3 (g:=0) (t:=153) (by kernel_rfl) (by kernel_rfl);obtain ⟨c5,f5,p5,t5,d5,h5,_⟩:=pN h m4 (g:=3) (t:=293) (by kernel_rfl) (by kernel_rfl);obtain ⟨c6,f6,p6,t6,d6,h6,_⟩:=pN h m5 (g:=4) (t:=296) (by kernel_rfl) (by kernel_rfl);rw [Lh] at d5;rw [Jt] at d6;have a5:=xk (l:=Im) (n:=256) (by kernel_rfl) Tryz.underlying293 Tryz.underlying5 (by kernel_rfl) d5;have a6:=zE (n:=16) (m:=2) IH (λ_ _=>rfl) Tryz.underlying296 Tryz.underlying295 (λi f hf=>by
  rcases i with _ | _ | i
  ·cases hf;exact ⟨by kernel_rfl,by kernel_rfl,by kernel_rfl⟩
  ·cases hf;exact ⟨by kernel_rfl,by kernel_rfl,by kernel_rfl⟩
  ·cases hf) (by kernel_rfl) rfl d6
 have a0:=zE (n:=21) (m:=2) ML (λ_ _=>rfl) Tryz.underlying312 Tryz.underlying311 (λi f hf=>by
  rcases i with _ | _ | i
  ·cases hf;exact ⟨by kernel_rfl,by kernel_rfl,by kernel_rfl⟩
  ·cases hf;exact ⟨by kernel_rfl,by kernel_rfl,by kernel_rfl⟩
  ·cases hf) (by kernel_rfl) rfl d0
 have a1:=xk (l:=EB) (n:=12) rfl Tryz.underlying336 Tryz.underlying3 (by kernel_rfl) d1
 obtain ⟨b,o,c,ty,e2,hb,a2⟩:=CG (n:=3) (m:=2) MV (λ_ _=>rfl) (by omega) (by omega) Tryz.underlying351 Tryz.underlying352 (λi f hf=>by
  rcases i with _ | _ | i
  ·cases hf;exact ⟨by kernel_rfl,by kernel_rfl,by kernel_rfl⟩
  ·cases hf;exact ⟨by kernel_rfl,by kernel_rfl,by kernel_rfl⟩
  ·cases hf) (by kernel_rfl) rfl q2 d2
 obtain ⟨te,pe,e4⟩:=Bf Tryz.underlying153 d4;have g0:c0[0]?=some (.int .i64 3):=by rw [<-nW];exact a0 0 0 (by omega) (by omega)
 have g1:c1[0]?=some (.int .i64 31):=by rw [<-nW];exact a1 0 31 rfl
 have pos:∀{c:Array Value} {x:Value},c[0]?=some x->0<c.size:=λ{c} {x} h=>by
  rcases yV c.size with h' | h'
  ·rw [tz (by omega)] at h;cases h
  ·exact h'
 have g2:c2[0]?=some (.slice (some ⟨b,o,none⟩) 3 3):=by rw [<-nW,e2];rfl
 have g4:c4[0]?=some (.iface te pe):=by rw [<-nW,e4];rfl
 have g5:∀i:Nat,i<256->c5[i]?=some (.int .u8 (Lib.firstT i)):=λi hi=>by
  rw [<-nW];exact a5 i _ (by simp [Im,hi])
 have g6:∀i:Nat,i<16->c6[i*2]?=some (.int .u8 (Lib.accLo i))/\c6[i*2+1]?=some (.int .u8 (Lib.accHi i)):=λi hi=>
  ⟨by rw [<-nW];exact a6 i 0 hi (by omega),by rw [<-nW];exact a6 i 1 hi (by omega)⟩
 refine ⟨_,⟨c0,c1,c2,c,t0,t1,t2,ty,b,o,⟨c4,t4,(te,(c5,t5),(c6,t6)),pe,rfl,g4,g5,g6⟩,?_,?_,g2,?_⟩,?_,λx _ b q hb=>by cases hb⟩
 ·exact qk (n:=21) (f:=ML) rfl (by decide) λi j hi hj=>by
   rw [cV,<-nW];exact a0 i j hi hj
 ·intro i z hz;rw [cV,<-nW];exact a1 i z hz
 ·exact qk (n:=3) (f:=MV) rfl (by decide) λi j hi hj=>a2 i j hi hj
 ·intro x hx;simp only [cA,pi,qm] at hx;rcases hx with rfl | rfl | rfl | rfl | rfl | rfl | rfl
  ·exact h0 (pos g0)
  ·exact h1 (pos g1)
  ·exact h2 (pos g2)
  ·exact hb
  ·exact h4 (pos g4)
  ·exact h5 (pos (g5 0 (by omega)))
  ·exact h6 (pos (g6 0 (by omega)).1)
end Go.Abs
