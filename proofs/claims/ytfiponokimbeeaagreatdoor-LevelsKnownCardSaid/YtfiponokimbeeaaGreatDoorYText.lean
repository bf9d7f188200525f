
/- The text of a year: the walk of yearforms.Text, which writes to a strings.Builder.
   Conditions: none. -/
import Derived.Test.YtfiponokimbeeaaGreatDoorCeR
import Derived.StillTailTactics
set_option linter.unusedSimpArgs false
set_option linter.unusedVariables false
set_option maxRecDepth 100000
namespace Go.Sh
open Go.Abs Go.Proofs Go.RowKit
def rD (b:Bool) (a more:List Value):List Value:=cond b (a++more) a
theorem tJ (b:Bool) (a:List Value) (s:ByteArray):(rD b a (Lib.strCells s)).length<=a.length+s.size:=by
 have:(Lib.strCells s).length=s.size:=by rw [Lib.strCells_eq,Lib.byteCells,yx];rfl
 unfold rD;cases b
 ·simp
 ·simp [this]
theorem K9 (f:Bool) (s:ByteArray) (B b:Nat) (c:List Value) (w:World) (g:Lib.IsBuilder 178 5 B b c w) (a:c.length+s.size<=140737488355328) (d:B<=w.heap.size):
  Calls Tryz.prog 104 #[.bool f,.string s,.pointer (some ⟨b,0,none⟩)] w λe w'=>e=.returned (.tuple #[])/\Lib.IsBuilder 178 5 B b (rD f c (Lib.strCells s)) w'/\Below B w w':=by
 go_enter Tryz.func104,Tryz.ntmps104
 cases f
 ·go_wp2
  go_end0
  exact ⟨rfl,g,Below.refl _ _⟩
 ·go_wp2_with (go_at_call 105;refine (Tryz.Builder_WriteString B b c s _ g a d).mono ?_)
  rintro e w' ⟨rfl,h,i⟩
  go_wp2
  go_end0
  exact ⟨rfl,Or.inr h,i⟩
theorem vU {w w':World} (o:Obj) (h:Below (w.alloc o).heap.size (w.alloc o) w'):Below w.heap.size w w':=by
 have a:Below w.heap.size w (w.alloc o):=(Below.refl _ w).alloc (aP _) _;refine a.trans ⟨h.os,h.tape,h.output,h.size,λk b=>h.block k ?_⟩;have:=a.size;omega
theorem ychk (n:Nat) (g l:Bool) (d:aa) (x s r:Int) (h:cb n g l d x s=some r) (w:World) (a:GL gf w):
  Calls Tryz.prog 103 #[.agg #[.bool g,.bool l,.string ⟨d.toArray⟩,.int .i64 x,.int .i64 s]] w λe w'=>e=.returned (.int .i64 r)/\Below w.heap.size w w':=by
 refine (pure_yearforms_Check n (g,l,d,x,s) r h w _ a ?_).mono λe w' ⟨v,f,b,c⟩=>⟨?_,c.below⟩
 ·exact ⟨_,_,rfl,⟨_,rfl,⟨_,_,rfl,rfl,_,_,rfl,rfl,_,_,rfl,rfl,_,_,rfl,rfl,_,_,rfl,rfl,rfl⟩⟩,rfl⟩
 ·have:v=.int .i64 r:=b;rw [f,this]
theorem Js (n:Nat) (g l:Bool) (d:aa) (x s r:Int) (w:World) (h:cb n g l d x s=some r) (c:r≠0) (a:GL gf w):
  Calls Tryz.prog 57 #[.agg #[.bool g,.bool l,.string ⟨d.toArray⟩,.int .i64 x,.int .i64 s]] w λe w'=>e=.returned (.tuple #[.string ⟨#[]⟩,.int .i64 r])/\Below w.heap.size w w':=by
 go_enter Tryz.func57,Tryz.ntmps57
 go_wp2_with (go_at_call 103;refine (ychk n g l d x s r h _ (a.alloc _)).mono ?_)
 rintro e b ⟨rfl,b1⟩
 go_wp2
 go_ret2
 exact ⟨rfl,vU _ b1⟩
theorem U0 {w w':World} {c:Array Value} {e:TypeId} (a:Below (w.alloc (.cells c e)).heap.size (w.alloc (.cells c e)) w') (j:Nat):w'.cell? ⟨w.heap.size,j,none⟩=c[j]?:=by
 have h:w'.heap[w.heap.size]?=some (.cells c e (0,0)):=by
  rw [a.block _ (by show w.heap.size<(w.heap.push _).size;simp)];exact iQ w _
 exact bf h
theorem Cj (c:UInt8) (l:aa):Lib.strCells ((⟨#[c]⟩:ByteArray)++⟨l.toArray⟩)=Lib.byteCells (c::l):=by
 rw [Lib.strCells_eq,ByteArray.data_append];simp
theorem DO (c:Bool) (a b:aa):rD c (Lib.byteCells a) (Lib.byteCells b)=Lib.byteCells (a++cond c b []):=by
 cases c
 ·simp [rD]
 ·simp [rD,Lib.byteCells_append]
theorem U9 (g l:Bool) (d:aa) (x s:Nat):
  rD (decide (0<s)) (rD (decide (0<x)) (rD true (rD g (rD l [] (Lib.strCells ⟨#[89]⟩)) (Lib.strCells ⟨#[45]⟩)) (Lib.strCells ⟨d.toArray⟩)) (Lib.strCells ((⟨#[69]⟩:ByteArray)++⟨(Lib.decDigits x).toArray⟩)))
   (Lib.strCells ((⟨#[83]⟩:ByteArray)++⟨(Lib.decDigits s).toArray⟩))=Lib.byteCells (gh g l d x s):=by
 have e:Lib.strCells ⟨#[89]⟩=Lib.byteCells [89]:=rfl;have i:Lib.strCells ⟨#[45]⟩=Lib.byteCells [45]:=rfl;have j:Lib.strCells ⟨d.toArray⟩=Lib.byteCells d:=by rw [Lib.strCells_eq]
 have c:([]:List Value)=Lib.byteCells []:=rfl;rw [Cj,Cj,e,i,j,c];simp only [DO];congr 1;have k {α:Type} (p:Prop) [Decidable p] (a b:List α):cond (decide p) a b=if p then a else b:=by by_cases h:p<;>simp [h]
 have f {α:Type} (p:Bool) (a b:List α):cond p a b=if p then a else b:=by cases p<;>rfl
 simp only [gh,cV,Int.natCast_pos,k,dD,f];simp
set_option maxHeartbeats 2000000 in
theorem MJ (n:Nat) (g l:Bool) (d:aa) (x s:Int) (w:World) (h:cb n g l d x s=some 0) (hs:uo d x s=true) (hg:GL gf w):
  Calls Tryz.prog 57 #[.agg #[.bool g,.bool l,.string ⟨d.toArray⟩,.int .i64 x,.int .i64 s]] w λe w'=>e=.returned (.tuple #[.string ⟨(gh g l d x s).toArray⟩,.int .i64 0])/\Below w.heap.size w w':=by
 have B:(0<=x/\x<100/\0<=s/\s<100)/\d.length<=1000:=by
  simp only [uo,az,dl] at hs;exact ⟨hs.1,aE hs.2⟩
 obtain ⟨⟨hx0,hx1,hs0,hs1⟩,hd⟩:=B;clear hs;obtain ⟨x,rfl⟩:∃i:Nat,x=(i:Int):=⟨x.toNat,by omega⟩;obtain ⟨s,rfl⟩:∃i:Nat,s=(i:Int):=⟨s.toNat,by omega⟩;have mixed:Tryz.prog.follows .mixedOrders=true:=by kernel_rfl
 go_enter Tryz.func57,Tryz.ntmps57
 go_wp2_with (go_at_call 103;refine (ychk n g l d x s 0 h _ (hg.alloc _)).mono ?_)
 rintro e a ⟨rfl,b1⟩;have q1:=U0 b1;have h0:Lib.IsBuilder 178 5 a.heap.size a.heap.size [] (a.alloc (.cells #[.pointer none,.slice none 0 0] 178)):=Lib.fresh_isBuilder 178 5 a;have a1:Below a.heap.size a (a.alloc (.cells #[.pointer none,.slice none 0 0] 178)):=(Below.refl _ a).alloc (aP _) _;have b:∀{j:World} (_:Below a.heap.size a j),j.cell? ⟨w.heap.size,0,none⟩=some (.bool g)/\j.cell? ⟨w.heap.size,1,none⟩=some (.bool l)/\j.cell? ⟨w.heap.size,2,none⟩=some (.string ⟨d.toArray⟩)/\j.cell? ⟨w.heap.size,3,none⟩=some (.int .i64 x)/\j.cell? ⟨w.heap.size,4,none⟩=some (.int .i64 s):=by
  intro j hb;have E:w.heap.size<a.heap.size:=by
   have:=b1.size;have t:(w.alloc (.cells #[.bool g,.bool l,.string ⟨d.toArray⟩,.int .i64 x,.int .i64 s] 27)).heap.size=w.heap.size+1:=by show (w.heap.push _).size=_;simp
   omega
  refine ⟨?_,?_,?_,?_,?_⟩<;>rw [hb.cell (p:=⟨w.heap.size,_,none⟩) E,q1]<;>rfl
 obtain ⟨o,m,q,r,k⟩:=b a1
 go_wp2_with (go_at_call 104;refine (K9 l ⟨#[89]⟩ a.heap.size a.heap.size _ _ h0 (by decide) a1.size).mono ?_)
 rintro e W2 ⟨rfl,M,b2⟩;have a2:=a1.trans b2;have C:=tJ l [] ⟨#[89]⟩;obtain ⟨o,m,q,r,k⟩:=b a2;have z1:(⟨#[89]⟩:ByteArray).size=1:=rfl;have z2:(⟨#[45]⟩:ByteArray).size=1:=rfl;rw [z1] at C;simp only [dP] at C;generalize U:rD l [] (Lib.strCells ⟨#[89]⟩)=y at M C
 go_wp2_with (go_at_call 104;refine (K9 g ⟨#[45]⟩ a.heap.size a.heap.size y W2 M (by rw [z2];omega) a2.size).mono ?_)
 rintro e W3 ⟨rfl,t,b3⟩;have z:=a2.trans b3;have P:=tJ g y ⟨#[45]⟩;obtain ⟨o,m,q,r,k⟩:=b z;rw [z2] at P;generalize W:rD g y (Lib.strCells ⟨#[45]⟩)=D at t P;have R:(⟨d.toArray⟩:ByteArray).size=d.length:=by show d.toArray.size=_;simp
 go_wp2_with (go_at_call 104;refine (K9 true ⟨d.toArray⟩ a.heap.size a.heap.size D W3 t (by rw [R];omega) z.size).mono ?_)
 rintro e A ⟨rfl,L,V⟩;have S:=z.trans V;have O:=tJ true D ⟨d.toArray⟩;obtain ⟨o,m,q,r,k⟩:=b S;rw [R] at O;generalize T:rD true D (Lib.strCells ⟨d.toArray⟩)=u at L O;have h3':Lib.IsBuilder 178 5 a.heap.size a.heap.size u A.drew:=L;have a4':=S.drew;obtain ⟨o,m,q,r,k⟩:=b a4';have two (x:Nat) (hx:x<100):(Lib.decDigits x).length<=2:=by
  by_cases h:x<10
  ·rw [Lib.decDigits_one h];simp
  ·rw [Lib.decDigits_two h hx];simp
 have f (c:UInt8) (x:Nat) (hx:x<100):((⟨#[c]⟩:ByteArray)++⟨(Lib.decDigits x).toArray⟩).size<=3:=by
  have t:=two x hx;rw [ByteArray.size_append];show 1+(Lib.decDigits x).toArray.size<=3;simp only [xc];omega
 have room (x:Nat) (hx:x<100):¬9223372036854775807<1+(Lib.decDigits x).length:=by
  have:=two x hx;omega
 have rx:=room x (by omega);have rs:=room s (by omega)
 go_wp2_with fail
 refine wp_region_still_tail 8 mixed (by kernel_rfl) ?_;simp only [mz,lw,mU,ch]
 repeat still_step
 still_call (Tryz.strconv_Itoa_small x (by omega) _)
 still_step
 refine wpStill_nil ?_;change wpList _ _ _ _ _ A.drew;have ex:(Value.bool (decide (0<x)))=.bool (decide (0<x)):=rfl;have lx:=f 69 x (by omega);have Y:=f 83 s (by omega);generalize F:((⟨#[69]⟩:ByteArray)++⟨(Lib.decDigits x).toArray⟩)=v at lx
 go_wp2_with (go_at_call 104;refine (K9 (decide (0<x)) v a.heap.size a.heap.size u A.drew h3' (by omega) a4'.size).mono ?_)
 rintro e I ⟨rfl,N,b5⟩;have a5:=a4'.trans b5;have X:=tJ (decide (0<x)) u v;generalize e4:rD (decide (0<x)) u (Lib.strCells v)=G at N X;have h4':Lib.IsBuilder 178 5 a.heap.size a.heap.size G I.drew:=N;have a5':=a5.drew;obtain ⟨o,m,q,r,k⟩:=b a5'
 go_wp2_with fail
 refine wp_region_still_tail 8 mixed (by kernel_rfl) ?_;simp only [mz,lw,mU,ch]
 repeat still_step
 still_call (Tryz.strconv_Itoa_small s (by omega) _)
 still_step
 refine wpStill_nil ?_;change wpList _ _ _ _ _ I.drew;generalize H:((⟨#[83]⟩:ByteArray)++⟨(Lib.decDigits s).toArray⟩)=K at Y
 go_wp2_with (go_at_call 104;refine (K9 (decide (0<s)) K a.heap.size a.heap.size G I.drew h4' (by omega) a5'.size).mono ?_)
 rintro e W6 ⟨rfl,J,Z⟩;have Q:=a5'.trans Z;have e6:rD (decide (0<s)) G (Lib.strCells K)=Lib.byteCells (gh g l d x s):=by
  subst U W T e4 F H;exact U9 g l d x s
 rw [e6] at J
 go_wp2_with (go_at_call 107;refine (Tryz.Builder_String_any a.heap.size a.heap.size (gh g l d x s) W6 J Q.size).mono ?_)
 rintro e W7 ⟨rfl,b7⟩
 go_wp2
 go_ret2
 refine ⟨rfl,vU _ (b1.trans ((Q.trans b7).mono b1.size))⟩
end Go.Sh
