
/- The text of a year: the walk of yearforms.Text, which writes to a strings.Builder.
   Conditions: none. -/
import Derived.Test.YtfiponokimbeeaaGreatDoorCeR
import Derived.StillTailTactics
set_option linter.unusedSimpArgs false
set_option linter.unusedVariables false
set_option maxRecDepth 100000
namespace Go.Sh
open Go.Abs Go.Proofs Go.RowKit
def qh (b:Bool) (a more:List Value):List Value:=cond b (a++more) a
theorem sg (b:Bool) (a:List Value) (s:ByteArray):(qh b a (Lib.strCells s)).length<=a.length+s.size:=by
 have:(Lib.strCells s).length=s.size:=by rw [Lib.strCells_eq,Lib.byteCells,FH];rfl
 unfold qh;cases b
 ·simp
 ·simp [this]
theorem Ju (d:Bool) (s:ByteArray) (B b:Nat) (c:List Value) (w:World) (g:Lib.IsBuilder 178 5 B b c w) (a:c.length+s.size<=140737488355328) (f:B<=w.heap.size):
  Calls Tryz.prog 104 #[.bool d,.string s,.pointer (some ⟨b,0,none⟩)] w λe w'=>e=.returned (.tuple #[])/\Lib.IsBuilder 178 5 B b (qh d c (Lib.strCells s)) w'/\Below B w w':=by
 go_enter Tryz.func104,Tryz.ntmps104
 cases d
 ·go_wp2
  go_end0
  exact ⟨rfl,g,Below.refl _ _⟩
 ·go_wp2_with (go_at_call 105;refine (Tryz.Builder_WriteString B b c s _ g a f).mono ?_)
  rintro e w' ⟨rfl,h,i⟩
  go_wp2
  go_end0
  exact ⟨rfl,Or.inr h,i⟩
theorem uJ {w w':World} (o:Obj) (h:Below (w.alloc o).heap.size (w.alloc o) w'):Below w.heap.size w w':=by
 have a:Below w.heap.size w (w.alloc o):=(Below.refl _ w).alloc (aQ _) _;refine a.trans ⟨h.os,h.tape,h.output,h.size,λk b=>h.block k ?_⟩;have:=a.size;omega
theorem ychk (n:Nat) (g l:Bool) (d:aa) (x s r:Int) (h:bW n g l d x s=some r) (w:World) (f:GL f7 w):
  Calls Tryz.prog 103 #[.agg #[.bool g,.bool l,.string ⟨d.toArray⟩,.int .i64 x,.int .i64 s]] w λe w'=>e=.returned (.int .i64 r)/\Below w.heap.size w w':=by
 refine (pure_yearforms_Check n (g,l,d,x,s) r h w _ f ?_).mono λe w' ⟨v,c,a,b⟩=>⟨?_,b.below⟩
 ·exact ⟨_,_,rfl,⟨_,rfl,⟨_,_,rfl,rfl,_,_,rfl,rfl,_,_,rfl,rfl,_,_,rfl,rfl,_,_,rfl,rfl,rfl⟩⟩,rfl⟩
 ·have:v=.int .i64 r:=a;rw [c,this]
theorem JH (n:Nat) (g l:Bool) (d:aa) (x s r:Int) (w:World) (h:bW n g l d x s=some r) (b:r≠0) (a:GL f7 w):
  Calls Tryz.prog 57 #[.agg #[.bool g,.bool l,.string ⟨d.toArray⟩,.int .i64 x,.int .i64 s]] w λe w'=>e=.returned (.tuple #[.string ⟨#[]⟩,.int .i64 r])/\Below w.heap.size w w':=by
 go_enter Tryz.func57,Tryz.ntmps57
 go_wp2_with (go_at_call 103;refine (ychk n g l d x s r h _ (a.alloc _)).mono ?_)
 rintro e c ⟨rfl,b1⟩
 go_wp2
 go_ret2
 exact ⟨rfl,uJ _ b1⟩
theorem Rl {w w':World} {c:Array Value} {e:TypeId} (a:Below (w.alloc (.cells c e)).heap.size (w.alloc (.cells c e)) w') (j:Nat):w'.cell? ⟨w.heap.size,j,none⟩=c[j]?:=by
 have h:w'.heap[w.heap.size]?=some (.cells c e (0,0)):=by
  rw [a.block _ (by show w.heap.size<(w.heap.push _).size;simp)];exact iQ w _
 exact be h
theorem Bj (c:UInt8) (l:aa):Lib.strCells ((⟨#[c]⟩:ByteArray)++⟨l.toArray⟩)=Lib.byteCells (c::l):=by
 rw [Lib.strCells_eq,ByteArray.data_append];simp
theorem CS (c:Bool) (a b:aa):qh c (Lib.byteCells a) (Lib.byteCells b)=Lib.byteCells (a++cond c b []):=by
 cases c
 ·simp [qh]
 ·simp [qh,Lib.byteCells_append]
theorem Ud (g l:Bool) (d:aa) (x s:Nat):
  qh (decide (0<s)) (qh (decide (0<x)) (qh true (qh g (qh l [] (Lib.strCells ⟨#[89]⟩)) (Lib.strCells ⟨#[45]⟩)) (Lib.strCells ⟨d.toArray⟩)) (Lib.strCells ((⟨#[69]⟩:ByteArray)++⟨(Lib.decDigits x).toArray⟩)))
   (Lib.strCells ((⟨#[83]⟩:ByteArray)++⟨(Lib.decDigits s).toArray⟩))=Lib.byteCells (fj g l d x s):=by
 have i:Lib.strCells ⟨#[89]⟩=Lib.byteCells [89]:=rfl;have j:Lib.strCells ⟨#[45]⟩=Lib.byteCells [45]:=rfl;have k:Lib.strCells ⟨d.toArray⟩=Lib.byteCells d:=by rw [Lib.strCells_eq]
 have e:([]:List Value)=Lib.byteCells []:=rfl;rw [Bj,Bj,i,j,k,e];simp only [CS];congr 1;have f {α:Type} (p:Prop) [Decidable p] (a b:List α):cond (decide p) a b=if p then a else b:=by by_cases h:p<;>simp [h]
 have c {α:Type} (p:Bool) (a b:List α):cond p a b=if p then a else b:=by cases p<;>rfl
 simp only [fj,bR,Int.natCast_pos,f,dn,c];simp
set_option maxHeartbeats 2000000 in
theorem M5 (n:Nat) (g l:Bool) (d:aa) (x s:Int) (w:World) (h:bW n g l d x s=some 0) (hs:th d x s=true) (Z:GL f7 w):
  Calls Tryz.prog 57 #[.agg #[.bool g,.bool l,.string ⟨d.toArray⟩,.int .i64 x,.int .i64 s]] w λe w'=>e=.returned (.tuple #[.string ⟨(fj g l d x s).toArray⟩,.int .i64 0])/\Below w.heap.size w w':=by
 have A:(0<=x/\x<100/\0<=s/\s<100)/\d.length<=1000:=by
  simp only [th,aB,bV] at hs;exact ⟨hs.1,aG hs.2⟩
 obtain ⟨⟨hx0,hx1,hs0,T⟩,hd⟩:=A;clear hs;obtain ⟨x,rfl⟩:∃i:Nat,x=(i:Int):=⟨x.toNat,by omega⟩;obtain ⟨s,rfl⟩:∃i:Nat,s=(i:Int):=⟨s.toNat,by omega⟩;have mixed:Tryz.prog.follows .mixedOrders=true:=by kernel_rfl
 go_enter Tryz.func57,Tryz.ntmps57
 go_wp2_with (go_at_call 103;refine (ychk n g l d x s 0 h _ (Z.alloc _)).mono ?_)
 rintro e a ⟨rfl,b1⟩;have q1:=Rl b1;have h0:Lib.IsBuilder 178 5 a.heap.size a.heap.size [] (a.alloc (.cells #[.pointer none,.slice none 0 0] 178)):=Lib.fresh_isBuilder 178 5 a;have a1:Below a.heap.size a (a.alloc (.cells #[.pointer none,.slice none 0 0] 178)):=(Below.refl _ a).alloc (aQ _) _;have b:∀{j:World} (_:Below a.heap.size a j),j.cell? ⟨w.heap.size,0,none⟩=some (.bool g)/\j.cell? ⟨w.heap.size,1,none⟩=some (.bool l)/\j.cell? ⟨w.heap.size,2,none⟩=some (.string ⟨d.toArray⟩)/\j.cell? ⟨w.heap.size,3,none⟩=some (.int .i64 x)/\j.cell? ⟨w.heap.size,4,none⟩=some (.int .i64 s):=by
  intro j hb;have G:w.heap.size<a.heap.size:=by
   have:=b1.size;have t:(w.alloc (.cells #[.bool g,.bool l,.string ⟨d.toArray⟩,.int .i64 x,.int .i64 s] 27)).heap.size=w.heap.size+1:=by show (w.heap.push _).size=_;simp
   omega
  refine ⟨?_,?_,?_,?_,?_⟩<;>rw [hb.cell (p:=⟨w.heap.size,_,none⟩) G,q1]<;>rfl
 obtain ⟨k,m,q,o,r⟩:=b a1
 go_wp2_with (go_at_call 104;refine (Ju l ⟨#[89]⟩ a.heap.size a.heap.size _ _ h0 (by decide) a1.size).mono ?_)
 rintro e W2 ⟨rfl,R,b2⟩;have a2:=a1.trans b2;have z:=sg l [] ⟨#[89]⟩;obtain ⟨k,m,q,o,r⟩:=b a2;have z1:(⟨#[89]⟩:ByteArray).size=1:=rfl;have z2:(⟨#[45]⟩:ByteArray).size=1:=rfl;rw [z1] at z;simp only [dm] at z;generalize e1:qh l [] (Lib.strCells ⟨#[89]⟩)=B at R z
 go_wp2_with (go_at_call 104;refine (Ju g ⟨#[45]⟩ a.heap.size a.heap.size B W2 R (by rw [z2];omega) a2.size).mono ?_)
 rintro e W3 ⟨rfl,t,b3⟩;have F:=a2.trans b3;have S:=sg g B ⟨#[45]⟩;obtain ⟨k,m,q,o,r⟩:=b F;rw [z2] at S;generalize e2:qh g B (Lib.strCells ⟨#[45]⟩)=D at t S;have L:(⟨d.toArray⟩:ByteArray).size=d.length:=by show d.toArray.size=_;simp
 go_wp2_with (go_at_call 104;refine (Ju true ⟨d.toArray⟩ a.heap.size a.heap.size D W3 t (by rw [L];omega) F.size).mono ?_)
 rintro e H ⟨rfl,M,W⟩;have P:=F.trans W;have Q:=sg true D ⟨d.toArray⟩;obtain ⟨k,m,q,o,r⟩:=b P;rw [L] at Q;generalize X:qh true D (Lib.strCells ⟨d.toArray⟩)=u at M Q;have h3':Lib.IsBuilder 178 5 a.heap.size a.heap.size u H.drew:=M;have a4':=P.drew;obtain ⟨k,m,q,o,r⟩:=b a4';have two (x:Nat) (hx:x<100):(Lib.decDigits x).length<=2:=by
  by_cases h:x<10
  ·rw [Lib.decDigits_one h];simp
  ·rw [Lib.decDigits_two h hx];simp
 have f (c:UInt8) (x:Nat) (hx:x<100):((⟨#[c]⟩:ByteArray)++⟨(Lib.decDigits x).toArray⟩).size<=3:=by
  have t:=two x hx;rw [ByteArray.size_append];show 1+(Lib.decDigits x).toArray.size<=3;simp only [wx];omega
 have room (x:Nat) (hx:x<100):¬9223372036854775807<1+(Lib.decDigits x).length:=by
  have:=two x hx;omega
 have rx:=room x (by omega);have rs:=room s (by omega)
 go_wp2_with fail
 refine wp_region_still_tail 8 mixed (by kernel_rfl) ?_;simp only [kn,jU,mq,cg]
 repeat still_step
 still_call (Tryz.strconv_Itoa_small x (by omega) _)
 still_step
 refine wpStill_nil ?_;change wpList _ _ _ _ _ H.drew;have ex:(Value.bool (decide (0<x)))=.bool (decide (0<x)):=rfl;have U:=f 69 x (by omega);have ls:=f 83 s (by omega);generalize I:((⟨#[69]⟩:ByteArray)++⟨(Lib.decDigits x).toArray⟩)=E at U
 go_wp2_with (go_at_call 104;refine (Ju (decide (0<x)) E a.heap.size a.heap.size u H.drew h3' (by omega) a4'.size).mono ?_)
 rintro e y ⟨rfl,J,V⟩;have a5:=a4'.trans V;have n4:=sg (decide (0<x)) u E;generalize e4:qh (decide (0<x)) u (Lib.strCells E)=v at J n4;have h4':Lib.IsBuilder 178 5 a.heap.size a.heap.size v y.drew:=J;have a5':=a5.drew;obtain ⟨k,m,q,o,r⟩:=b a5'
 go_wp2_with fail
 refine wp_region_still_tail 8 mixed (by kernel_rfl) ?_;simp only [kn,jU,mq,cg]
 repeat still_step
 still_call (Tryz.strconv_Itoa_small s (by omega) _)
 still_step
 refine wpStill_nil ?_;change wpList _ _ _ _ _ y.drew;generalize C:((⟨#[83]⟩:ByteArray)++⟨(Lib.decDigits s).toArray⟩)=N at ls
 go_wp2_with (go_at_call 104;refine (Ju (decide (0<s)) N a.heap.size a.heap.size v y.drew h4' (by omega) a5'.size).mono ?_)
 rintro e W6 ⟨rfl,K,b6⟩;have O:=a5'.trans b6;have e6:qh (decide (0<s)) v (Lib.strCells N)=Lib.byteCells (fj g l d x s):=by
  subst e1 e2 X e4 I C;exact Ud g l d x s
 rw [e6] at K
 go_wp2_with (go_at_call 107;refine (Tryz.Builder_String_any a.heap.size a.heap.size (fj g l d x s) W6 K O.size).mono ?_)
 rintro e W7 ⟨rfl,Y⟩
 go_wp2
 go_ret2
 refine ⟨rfl,uJ _ (b1.trans ((O.trans Y).mono b1.size))⟩
end Go.Sh
