
/- The text of a year: the walk of yearforms.Text, which writes to a strings.Builder.
   Conditions: none. -/
import Derived.Test.YthemneooekobkaaGreatDoorCeP
import Derived.StillTailTactics
set_option linter.unusedSimpArgs false
set_option linter.unusedVariables false
set_option maxRecDepth 100000
namespace Go.Sh
open Go.Abs Go.Proofs Go.RowKit
def pP (b:Bool) (a more:List Value):List Value:=cond b (a++more) a
theorem rz (b:Bool) (a:List Value) (s:ByteArray):(pP b a (Lib.strCells s)).length<=a.length+s.size:=by
 have:(Lib.strCells s).length=s.size:=by rw [Lib.strCells_eq,Lib.byteCells,sF];rfl
 unfold pP;cases b
 ·simp
 ·simp [this]
theorem Jn (f:Bool) (s:ByteArray) (B b:Nat) (c:List Value) (w:World) (g:Lib.IsBuilder 217 5 B b c w) (a:c.length+s.size<=140737488355328) (d:B<=w.heap.size):
  Calls Tryz.prog 190 #[.bool f,.string s,.pointer (some ⟨b,0,none⟩)] w λe w'=>e=.returned (.tuple #[])/\Lib.IsBuilder 217 5 B b (pP f c (Lib.strCells s)) w'/\Below B w w':=by
 go_enter Tryz.func190,Tryz.ntmps190
 cases f
 ·go_wp2
  go_end0
  exact ⟨rfl,g,Below.refl _ _⟩
 ·go_wp2_with (go_at_call 165;refine (Tryz.Builder_WriteString B b c s _ g a d).mono ?_)
  rintro e w' ⟨rfl,i,h⟩
  go_wp2
  go_end0
  exact ⟨rfl,Or.inr i,h⟩
theorem uo {w w':World} (o:Obj) (h:Below (w.alloc o).heap.size (w.alloc o) w'):Below w.heap.size w w':=by
 have a:Below w.heap.size w (w.alloc o):=(Below.refl _ w).alloc (aW _) _;refine a.trans ⟨h.os,h.tape,h.output,h.size,λk b=>h.block k ?_⟩;have:=a.size;omega
theorem ychk (n:Nat) (g l:Bool) (d:aa) (x s r:Int) (h:cf n g l d x s=some r) (w:World) (a:GL fm w):
  Calls Tryz.prog 189 #[.agg #[.bool g,.bool l,.string ⟨d.toArray⟩,.int .i64 x,.int .i64 s]] w λe w'=>e=.returned (.int .i64 r)/\Below w.heap.size w w':=by
 refine (pure_yearforms_Check n (g,l,d,x,s) r h w _ a ?_).mono λe w' ⟨v,f,b,c⟩=>⟨?_,c.below⟩
 ·exact ⟨_,_,rfl,⟨_,rfl,⟨_,_,rfl,rfl,_,_,rfl,rfl,_,_,rfl,rfl,_,_,rfl,rfl,_,_,rfl,rfl,rfl⟩⟩,rfl⟩
 ·have:v=.int .i64 r:=b;rw [f,this]
theorem IE (n:Nat) (g l:Bool) (d:aa) (x s r:Int) (w:World) (h:cf n g l d x s=some r) (f:r≠0) (a:GL fm w):
  Calls Tryz.prog 137 #[.agg #[.bool g,.bool l,.string ⟨d.toArray⟩,.int .i64 x,.int .i64 s]] w λe w'=>e=.returned (.tuple #[.string ⟨#[]⟩,.int .i64 r])/\Below w.heap.size w w':=by
 go_enter Tryz.func137,Tryz.ntmps137
 go_wp2_with (go_at_call 189;refine (ychk n g l d x s r h _ (a.alloc _)).mono ?_)
 rintro e c ⟨rfl,b⟩
 go_wp2
 go_ret2
 exact ⟨rfl,uo _ b⟩
theorem RA {w w':World} {c:Array Value} {e:TypeId} (a:Below (w.alloc (.cells c e)).heap.size (w.alloc (.cells c e)) w') (j:Nat):w'.cell? ⟨w.heap.size,j,none⟩=c[j]?:=by
 have h:w'.heap[w.heap.size]?=some (.cells c e (0,0)):=by
  rw [a.block _ (by show w.heap.size<(w.heap.push _).size;simp)];exact iY w _
 exact aX h
theorem zI (c:UInt8) (l:aa):Lib.strCells ((⟨#[c]⟩:ByteArray)++⟨l.toArray⟩)=Lib.byteCells (c::l):=by
 rw [Lib.strCells_eq,ByteArray.data_append];simp
theorem CC (c:Bool) (a b:aa):pP c (Lib.byteCells a) (Lib.byteCells b)=Lib.byteCells (a++cond c b []):=by
 cases c
 ·simp [pP]
 ·simp [pP,Lib.byteCells_append]
theorem S8 (g l:Bool) (d:aa) (x s:Nat):
  pP (decide (0<s)) (pP (decide (0<x)) (pP true (pP g (pP l [] (Lib.strCells ⟨#[89]⟩)) (Lib.strCells ⟨#[45]⟩)) (Lib.strCells ⟨d.toArray⟩)) (Lib.strCells ((⟨#[69]⟩:ByteArray)++⟨(Lib.decDigits x).toArray⟩)))
   (Lib.strCells ((⟨#[83]⟩:ByteArray)++⟨(Lib.decDigits s).toArray⟩))=Lib.byteCells (lu g l d x s):=by
 have k:Lib.strCells ⟨#[89]⟩=Lib.byteCells [89]:=rfl;have c:Lib.strCells ⟨#[45]⟩=Lib.byteCells [45]:=rfl;have e:Lib.strCells ⟨d.toArray⟩=Lib.byteCells d:=by rw [Lib.strCells_eq]
 have i:([]:List Value)=Lib.byteCells []:=rfl;rw [zI,zI,k,c,e,i];simp only [CC];congr 1;have j {α:Type} (p:Prop) [Decidable p] (a b:List α):cond (decide p) a b=if p then a else b:=by by_cases h:p<;>simp [h]
 have f {α:Type} (p:Bool) (a b:List α):cond p a b=if p then a else b:=by cases p<;>rfl
 simp only [lu,bY,Int.natCast_pos,j,ij,f];simp
set_option maxHeartbeats 2000000 in
theorem Ly (n:Nat) (g l:Bool) (d:aa) (x s:Int) (w:World) (h:cf n g l d x s=some 0) (hs:th d x s=true) (hg:GL fm w):
  Calls Tryz.prog 137 #[.agg #[.bool g,.bool l,.string ⟨d.toArray⟩,.int .i64 x,.int .i64 s]] w λe w'=>e=.returned (.tuple #[.string ⟨(lu g l d x s).toArray⟩,.int .i64 0])/\Below w.heap.size w w':=by
 have F:(0<=x/\x<100/\0<=s/\s<100)/\d.length<=1000:=by
  simp only [th,ay,cj] at hs;exact ⟨hs.1,aD hs.2⟩
 obtain ⟨⟨hx0,hx1,hs0,hs1⟩,hd⟩:=F;clear hs;obtain ⟨x,rfl⟩:∃i:Nat,x=(i:Int):=⟨x.toNat,by omega⟩;obtain ⟨s,rfl⟩:∃i:Nat,s=(i:Int):=⟨s.toNat,by omega⟩;have mixed:Tryz.prog.follows .mixedOrders=true:=by kernel_rfl
 go_enter Tryz.func137,Tryz.ntmps137
 go_wp2_with (go_at_call 189;refine (ychk n g l d x s 0 h _ (hg.alloc _)).mono ?_)
 rintro e a ⟨rfl,u⟩;have q1:=RA u;have h0:Lib.IsBuilder 217 5 a.heap.size a.heap.size [] (a.alloc (.cells #[.pointer none,.slice none 0 0] 217)):=Lib.fresh_isBuilder 217 5 a;have H:Below a.heap.size a (a.alloc (.cells #[.pointer none,.slice none 0 0] 217)):=(Below.refl _ a).alloc (aW _) _;have b:∀{j:World} (_:Below a.heap.size a j),j.cell? ⟨w.heap.size,0,none⟩=some (.bool g)/\j.cell? ⟨w.heap.size,1,none⟩=some (.bool l)/\j.cell? ⟨w.heap.size,2,none⟩=some (.string ⟨d.toArray⟩)/\j.cell? ⟨w.heap.size,3,none⟩=some (.int .i64 x)/\j.cell? ⟨w.heap.size,4,none⟩=some (.int .i64 s):=by
  intro j hb;have K:w.heap.size<a.heap.size:=by
   have:=u.size;have v:(w.alloc (.cells #[.bool g,.bool l,.string ⟨d.toArray⟩,.int .i64 x,.int .i64 s] 32)).heap.size=w.heap.size+1:=by show (w.heap.push _).size=_;simp
   omega
  refine ⟨?_,?_,?_,?_,?_⟩<;>rw [hb.cell (p:=⟨w.heap.size,_,none⟩) K,q1]<;>rfl
 obtain ⟨m,k,q,o,r⟩:=b H
 go_wp2_with (go_at_call 190;refine (Jn l ⟨#[89]⟩ a.heap.size a.heap.size _ _ h0 (by decide) H.size).mono ?_)
 rintro e W2 ⟨rfl,V,b2⟩;have G:=H.trans b2;have z:=rz l [] ⟨#[89]⟩;obtain ⟨m,k,q,o,r⟩:=b G;have z1:(⟨#[89]⟩:ByteArray).size=1:=rfl;have z2:(⟨#[45]⟩:ByteArray).size=1:=rfl;rw [z1] at z;simp only [bg] at z;generalize e1:pP l [] (Lib.strCells ⟨#[89]⟩)=y at V z
 go_wp2_with (go_at_call 190;refine (Jn g ⟨#[45]⟩ a.heap.size a.heap.size y W2 V (by rw [z2];omega) G.size).mono ?_)
 rintro e W3 ⟨rfl,v,b3⟩;have A:=G.trans b3;have M:=rz g y ⟨#[45]⟩;obtain ⟨m,k,q,o,r⟩:=b A;rw [z2] at M;generalize e2:pP g y (Lib.strCells ⟨#[45]⟩)=B at v M;have R:(⟨d.toArray⟩:ByteArray).size=d.length:=by show d.toArray.size=_;simp
 go_wp2_with (go_at_call 190;refine (Jn true ⟨d.toArray⟩ a.heap.size a.heap.size B W3 v (by rw [R];omega) A.size).mono ?_)
 rintro e C ⟨rfl,Q,b4⟩;have S:=A.trans b4;have O:=rz true B ⟨d.toArray⟩;obtain ⟨m,k,q,o,r⟩:=b S;rw [R] at O;generalize e3:pP true B (Lib.strCells ⟨d.toArray⟩)=t at Q O;have h3':Lib.IsBuilder 217 5 a.heap.size a.heap.size t C.drew:=Q;have a4':=S.drew;obtain ⟨m,k,q,o,r⟩:=b a4';have two (x:Nat) (hx:x<100):(Lib.decDigits x).length<=2:=by
  by_cases h:x<10
  ·rw [Lib.decDigits_one h];simp
  ·rw [Lib.decDigits_two h hx];simp
 have f (c:UInt8) (x:Nat) (hx:x<100):((⟨#[c]⟩:ByteArray)++⟨(Lib.decDigits x).toArray⟩).size<=3:=by
  have v:=two x hx;rw [ByteArray.size_append];show 1+(Lib.decDigits x).toArray.size<=3;simp only [vU];omega
 have room (x:Nat) (hx:x<100):¬9223372036854775807<1+(Lib.decDigits x).length:=by
  have:=two x hx;omega
 have rx:=room x (by omega);have rs:=room s (by omega)
 go_wp2_with fail
 refine wp_region_still_tail 8 mixed (by kernel_rfl) ?_;simp only [oP,mI,xG,jO]
 repeat still_step
 still_call (Tryz.strconv_Itoa_small x (by omega) _)
 still_step
 refine wpStill_nil ?_;change wpList _ _ _ _ _ C.drew;have ex:(Value.bool (decide (0<x)))=.bool (decide (0<x)):=rfl;have X:=f 69 x (by omega);have ls:=f 83 s (by omega);generalize J:((⟨#[69]⟩:ByteArray)++⟨(Lib.decDigits x).toArray⟩)=I at X
 go_wp2_with (go_at_call 190;refine (Jn (decide (0<x)) I a.heap.size a.heap.size t C.drew h3' (by omega) a4'.size).mono ?_)
 rintro e E ⟨rfl,T,b5⟩;have W:=a4'.trans b5;have Y:=rz (decide (0<x)) t I;generalize Z:pP (decide (0<x)) t (Lib.strCells I)=D at T Y;have h4':Lib.IsBuilder 217 5 a.heap.size a.heap.size D E.drew:=T;have a5':=W.drew;obtain ⟨m,k,q,o,r⟩:=b a5'
 go_wp2_with fail
 refine wp_region_still_tail 8 mixed (by kernel_rfl) ?_;simp only [oP,mI,xG,jO]
 repeat still_step
 still_call (Tryz.strconv_Itoa_small s (by omega) _)
 still_step
 refine wpStill_nil ?_;change wpList _ _ _ _ _ E.drew;generalize L:((⟨#[83]⟩:ByteArray)++⟨(Lib.decDigits s).toArray⟩)=N at ls
 go_wp2_with (go_at_call 190;refine (Jn (decide (0<s)) N a.heap.size a.heap.size D E.drew h4' (by omega) a5'.size).mono ?_)
 rintro e W6 ⟨rfl,U,b6⟩;have P:=a5'.trans b6;have e6:pP (decide (0<s)) D (Lib.strCells N)=Lib.byteCells (lu g l d x s):=by
  subst e1 e2 e3 Z J L;exact S8 g l d x s
 rw [e6] at U
 go_wp2_with (go_at_call 169;refine (Tryz.Builder_String_any a.heap.size a.heap.size (lu g l d x s) W6 U P.size).mono ?_)
 rintro e W7 ⟨rfl,b7⟩
 go_wp2
 go_ret2
 refine ⟨rfl,uo _ (u.trans ((P.trans b7).mono u.size))⟩
end Go.Sh
