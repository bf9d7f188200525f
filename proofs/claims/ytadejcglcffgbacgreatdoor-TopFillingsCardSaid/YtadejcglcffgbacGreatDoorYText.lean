
import Derived.Test.YtadejcglcffgbacGreatDoorCeF
import Derived.StillTailTactics
set_option linter.unusedSimpArgs false
set_option linter.unusedVariables false
set_option maxRecDepth 100000
set_option linter.defProp false
namespace Go.Sh
open Go.Abs Go.Proofs Go.RowKit
def nE(b:Bool)(a more:List Value):List Value:=cond b (a++more) a
def oJ(b:Bool)(a:List Value)(s:ByteArray):(nE b a (Lib.strCells s)).length<=a.length+s.size:=by
 have:(Lib.strCells s).length=s.size:=by rw[Lib.strCells_eq,Lib.byteCells,mw];rfl
 unfold nE;cases b
 ·simp
 ·simp[this]
def Da(d:Bool)(s:ByteArray)(B b:Nat)(c:List Value)(w:World)(h0:Lib.IsBuilder 191 5 B b c w)(a:c.length+s.size<=140737488355328)(f:B<=w.heap.size):
  Calls Tryz.prog 218 #[.bool d,.string s,.pointer (some ⟨b,0,none⟩)] w λe w'=>e=.returned (.tuple #[])/\Lib.IsBuilder 191 5 B b (nE d c (Lib.strCells s)) w'/\Below B w w':=by
 go_enter Tryz.func218,Tryz.ntmps218
 cases d
 ·go_wp2
  go_end0
  exact⟨rfl,h0,Below.refl _ _⟩
 ·go_wp2_with (go_at_call 131;refine(Tryz.Builder_WriteString B b c s _ h0 a f).mono ?_)
  rintro e w' ⟨rfl,h1,h2⟩
  go_wp2
  go_end0
  exact⟨rfl,Or.inr h1,h2⟩
def tq{w w':World}(o:Obj)(h:Below (w.alloc o).heap.size (w.alloc o) w'):Below w.heap.size w w':=by
 have h0:Below w.heap.size w (w.alloc o):=(Below.refl _ w).alloc (aI _) _;refine h0.trans ⟨h.os,h.tape,h.output,h.size,λk a=>h.block k ?_⟩;have:=h0.size;omega
def ychk(n:Nat)(g l:Bool)(d:aa)(x s r:Int)(h:bw n g l d x s=some r)(w:World)(a:GL dY w):
  Calls Tryz.prog 90 #[.agg #[.bool g,.bool l,.string ⟨d.toArray⟩,.int .i64 x,.int .i64 s]] w λe w'=>e=.returned (.int .i64 r)/\Below w.heap.size w w':=by
 refine(pure_yearforms_Check n (g,l,d,x,s) r h w _ a ?_).mono λe w' ⟨v,h1,h2,b⟩=>⟨?_,b.below⟩
 ·exact⟨_,_,rfl,⟨_,rfl,⟨_,_,rfl,rfl,_,_,rfl,rfl,_,_,rfl,rfl,_,_,rfl,rfl,_,_,rfl,rfl,rfl⟩⟩,rfl⟩
 ·have:v=.int .i64 r:=h2;rw[h1,this]
def Ff(n:Nat)(g l:Bool)(d:aa)(x s r:Int)(w:World)(h:bw n g l d x s=some r)(f:r≠0)(b:GL dY w):
  Calls Tryz.prog 159 #[.agg #[.bool g,.bool l,.string ⟨d.toArray⟩,.int .i64 x,.int .i64 s]] w λe w'=>e=.returned (.tuple #[.string ⟨#[]⟩,.int .i64 r])/\Below w.heap.size w w':=by
 go_enter Tryz.func159,Tryz.ntmps159
 go_wp2_with (go_at_call 90;refine(ychk n g l d x s r h _ (b.alloc _)).mono ?_)
 rintro e c ⟨rfl,a⟩
 go_wp2
 go_ret2
 exact⟨rfl,tq _ a⟩
def Nk{w w':World}{c:Array Value}{e:TypeId}(a:Below (w.alloc (.cells c e)).heap.size (w.alloc (.cells c e)) w')(j:Nat):w'.cell? ⟨w.heap.size,j,none⟩=c[j]?:=by
 have h:w'.heap[w.heap.size]?=some (.cells c e (0,0)):=by
  rw[a.block _ (by show w.heap.size<(w.heap.push _).size;simp)];exact gC w _
 exact aN h
def xA(c:UInt8)(l:aa):Lib.strCells ((⟨#[c]⟩:ByteArray)++⟨l.toArray⟩)=Lib.byteCells (c::l):=by
 rw[Lib.strCells_eq,ByteArray.data_append];simp
def yF(c:Bool)(a b:aa):nE c (Lib.byteCells a) (Lib.byteCells b)=Lib.byteCells (a++cond c b []):=by
 cases c
 ·simp[nE]
 ·simp[nE,Lib.byteCells_append]
def Ny(g l:Bool)(d:aa)(x s:Nat):
  nE (decide (0<s)) (nE (decide (0<x)) (nE true (nE g (nE l [] (Lib.strCells ⟨#[89]⟩)) (Lib.strCells ⟨#[45]⟩)) (Lib.strCells ⟨d.toArray⟩)) (Lib.strCells ((⟨#[69]⟩:ByteArray)++⟨(Lib.decDigits x).toArray⟩)))
   (Lib.strCells ((⟨#[83]⟩:ByteArray)++⟨(Lib.decDigits s).toArray⟩))=Lib.byteCells (qT g l d x s):=by
 have h1:Lib.strCells ⟨#[89]⟩=Lib.byteCells [89]:=rfl;have h2:Lib.strCells ⟨#[45]⟩=Lib.byteCells [45]:=rfl;have f:Lib.strCells ⟨d.toArray⟩=Lib.byteCells d:=by rw[Lib.strCells_eq]
 have h0:([]:List Value)=Lib.byteCells []:=rfl;rw[xA,xA,h1,h2,f,h0];simp only[yF];congr 1;have c {α:Type} (p:Prop) [Decidable p] (a b:List α):cond (decide p) a b=if p then a else b:=by by_cases h:p<;>simp[h]
 have e {α:Type} (p:Bool) (a b:List α):cond p a b=if p then a else b:=by cases p<;>rfl
 simp only[qT,cc,Int.natCast_pos,c,gh,e];simp
set_option maxHeartbeats 2000000 in
def Gu(n:Nat)(g l:Bool)(d:aa)(x s:Int)(w:World)(h:bw n g l d x s=some 0)(r:uI d x s=true)(hg:GL dY w):
  Calls Tryz.prog 159 #[.agg #[.bool g,.bool l,.string ⟨d.toArray⟩,.int .i64 x,.int .i64 s]] w λe w'=>e=.returned (.tuple #[.string ⟨(qT g l d x s).toArray⟩,.int .i64 0])/\Below w.heap.size w w':=by
 have G:(0<=x/\x<100/\0<=s/\s<100)/\d.length<=1000:=by
  simp only[uI,aw,aT]at r;exact⟨r.1,az r.2⟩
 obtain⟨⟨hx0,hx1,hs0,hs1⟩,hd⟩:=G;clear r;obtain⟨x,rfl⟩:∃i:Nat,x=(i:Int):=⟨x.toNat,by omega⟩;obtain⟨s,rfl⟩:∃i:Nat,s=(i:Int):=⟨s.toNat,by omega⟩;have mixed:Tryz.prog.follows .mixedOrders=true:=by kernel_rfl
 go_enter Tryz.func159,Tryz.ntmps159
 go_wp2_with (go_at_call 90;refine(ychk n g l d x s 0 h _ (hg.alloc _)).mono ?_)
 rintro e a ⟨rfl,t⟩;have q1:=Nk t;have h0:Lib.IsBuilder 191 5 a.heap.size a.heap.size [] (a.alloc (.cells #[.pointer none,.slice none 0 0] 191)):=Lib.fresh_isBuilder 191 5 a;have u:Below a.heap.size a (a.alloc (.cells #[.pointer none,.slice none 0 0] 191)):=(Below.refl _ a).alloc (aI _) _;have at_:∀{f:World} (_:Below a.heap.size a f),f.cell? ⟨w.heap.size,0,none⟩=some (.bool g)/\f.cell? ⟨w.heap.size,1,none⟩=some (.bool l)/\f.cell? ⟨w.heap.size,2,none⟩=some (.string ⟨d.toArray⟩)/\f.cell? ⟨w.heap.size,3,none⟩=some (.int .i64 x)/\f.cell? ⟨w.heap.size,4,none⟩=some (.int .i64 s):=by
  intro f X;have D:w.heap.size<a.heap.size:=by
   have:=t.size;have h2:(w.alloc (.cells #[.bool g,.bool l,.string ⟨d.toArray⟩,.int .i64 x,.int .i64 s] 30)).heap.size=w.heap.size+1:=by show(w.heap.push _).size=_;simp
   omega
  refine⟨?_,?_,?_,?_,?_⟩<;>rw[X.cell (p:=⟨w.heap.size,_,none⟩) D,q1]<;>rfl
 obtain⟨m,k,j,c3,c4⟩:=at_ u
 go_wp2_with (go_at_call 218;refine(Da l ⟨#[89]⟩ a.heap.size a.heap.size _ _ h0 (by decide) u.size).mono ?_)
 rintro e W2 ⟨rfl,h1,b2⟩;have v:=u.trans b2;have F:=oJ l [] ⟨#[89]⟩;obtain⟨m,k,j,c3,c4⟩:=at_ v;have z1:(⟨#[89]⟩:ByteArray).size=1:=rfl;have z2:(⟨#[45]⟩:ByteArray).size=1:=rfl;rw[z1]at F;simp only[cP]at F;generalize e1:nE l [] (Lib.strCells ⟨#[89]⟩)=A at h1 F
 go_wp2_with (go_at_call 218;refine(Da g ⟨#[45]⟩ a.heap.size a.heap.size A W2 h1 (by rw[z2];omega) v.size).mono ?_)
 rintro e Z ⟨rfl,h2,b3⟩;have J:=v.trans b3;have N:=oJ g A ⟨#[45]⟩;obtain⟨m,k,j,c3,c4⟩:=at_ J;rw[z2]at N;generalize T:nE g A (Lib.strCells ⟨#[45]⟩)=H at h2 N;have R:(⟨d.toArray⟩:ByteArray).size=d.length:=by show d.toArray.size=_;simp
 go_wp2_with (go_at_call 218;refine(Da true ⟨d.toArray⟩ a.heap.size a.heap.size H Z h2 (by rw[R];omega) J.size).mono ?_)
 rintro e B ⟨rfl,P,b4⟩;have M:=J.trans b4;have K:=oJ true H ⟨d.toArray⟩;obtain⟨m,k,j,c3,c4⟩:=at_ M;rw[R]at K;generalize e3:nE true H (Lib.strCells ⟨d.toArray⟩)=q at P K;have h3':Lib.IsBuilder 191 5 a.heap.size a.heap.size q B.drew:=P;have a4':=M.drew;obtain⟨m,k,j,c3,c4⟩:=at_ a4';have two (x:Nat) (o:x<100):(Lib.decDigits x).length<=2:=by
  by_cases h:x<10
  ·rw[Lib.decDigits_one h];simp
  ·rw[Lib.decDigits_two h o];simp
 have b (c:UInt8) (x:Nat) (o:x<100):((⟨#[c]⟩:ByteArray)++⟨(Lib.decDigits x).toArray⟩).size<=3:=by
  have h2:=two x o;rw[ByteArray.size_append];show 1+(Lib.decDigits x).toArray.size<=3;simp only[sG];omega
 have room (x:Nat) (o:x<100):¬9223372036854775807<1+(Lib.decDigits x).length:=by
  have:=two x o;omega
 have rx:=room x (by omega);have rs:=room s (by omega)
 go_wp2_with fail
 refine wp_region_still_tail 8 mixed (by kernel_rfl) ?_;simp only[mC,kR,uu,iE]
 repeat still_step
 still_call (Tryz.strconv_Itoa_small x (by omega) _)
 still_step
 refine wpStill_nil ?_;change wpList _ _ _ _ _ B.drew;have ex:(Value.bool (decide (0<x)))=.bool (decide (0<x)):=rfl;have lx:=b 69 x (by omega);have ls:=b 83 s (by omega);generalize z:((⟨#[69]⟩:ByteArray)++⟨(Lib.decDigits x).toArray⟩)=y at lx
 go_wp2_with (go_at_call 218;refine(Da (decide (0<x)) y a.heap.size a.heap.size q B.drew h3' (by omega) a4'.size).mono ?_)
 rintro e I ⟨rfl,Q,U⟩;have a5:=a4'.trans U;have Y:=oJ (decide (0<x)) q y;generalize e4:nE (decide (0<x)) q (Lib.strCells y)=E at Q Y;have h4':Lib.IsBuilder 191 5 a.heap.size a.heap.size E I.drew:=Q;have a5':=a5.drew;obtain⟨m,k,j,c3,c4⟩:=at_ a5'
 go_wp2_with fail
 refine wp_region_still_tail 8 mixed (by kernel_rfl) ?_;simp only[mC,kR,uu,iE]
 repeat still_step
 still_call (Tryz.strconv_Itoa_small s (by omega) _)
 still_step
 refine wpStill_nil ?_;change wpList _ _ _ _ _ I.drew;generalize C:((⟨#[83]⟩:ByteArray)++⟨(Lib.decDigits s).toArray⟩)=O at ls
 go_wp2_with (go_at_call 218;refine(Da (decide (0<s)) O a.heap.size a.heap.size E I.drew h4' (by omega) a5'.size).mono ?_)
 rintro e W ⟨rfl,S,V⟩;have L:=a5'.trans V;have e6:nE (decide (0<s)) E (Lib.strCells O)=Lib.byteCells (qT g l d x s):=by
  subst e1 T e3 e4 z C;exact Ny g l d x s
 rw[e6]at S
 go_wp2_with (go_at_call 133;refine(Tryz.Builder_String_any a.heap.size a.heap.size (qT g l d x s) W S L.size).mono ?_)
 rintro e W7 ⟨rfl,b7⟩
 go_wp2
 go_ret2
 refine⟨rfl,tq _ (t.trans ((L.trans b7).mono t.size))⟩
end Go.Sh
