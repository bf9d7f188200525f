
/- The text of a year: the walk of yearforms.Text, which writes to a strings.Builder.
   Conditions: none. -/
import Derived.Test.YthemneooekobkabGreatDoorCeQ
import Derived.StillTailTactics
set_option linter.unusedSimpArgs false
set_option linter.unusedVariables false
set_option maxRecDepth 100000
namespace Go.Sh
open Go.Abs Go.Proofs Go.RowKit
def sH (b:Bool) (a more:List Value):List Value:=cond b (a++more) a
theorem uq (a:Bool) (b:List Value) (s:ByteArray):(sH a b (Lib.strCells s)).length<=b.length+s.size:=by
 have:(Lib.strCells s).length=s.size:=by rw [Lib.strCells_eq,Lib.byteCells,xp];rfl
 unfold sH;cases a
 ·simp
 ·simp [this]
theorem MB (d:Bool) (s:ByteArray) (B b:Nat) (c:List Value) (w:World) (g:Lib.IsBuilder 238 5 B b c w) (a:c.length+s.size<=140737488355328) (f:B<=w.heap.size):
  Calls Tryz.prog 175 #[.bool d,.string s,.pointer (some ⟨b,0,none⟩)] w λe w'=>e=.returned (.tuple #[])/\Lib.IsBuilder 238 5 B b (sH d c (Lib.strCells s)) w'/\Below B w w':=by
 go_enter Tryz.func175,Tryz.ntmps175
 cases d
 ·go_wp2
  go_end0
  exact ⟨rfl,g,Below.refl _ _⟩
 ·go_wp2_with (go_at_call 176;refine (Tryz.Builder_WriteString B b c s _ g a f).mono ?_)
  rintro e w' ⟨rfl,h,i⟩
  go_wp2
  go_end0
  exact ⟨rfl,Or.inr h,i⟩
theorem wE {w w':World} (o:Obj) (h:Below (w.alloc o).heap.size (w.alloc o) w'):Below w.heap.size w w':=by
 have a:Below w.heap.size w (w.alloc o):=(Below.refl _ w).alloc (aY _) _;refine a.trans ⟨h.os,h.tape,h.output,h.size,λk b=>h.block k ?_⟩;have:=a.size;omega
theorem ychk (n:Nat) (g l:Bool) (d:aa) (x s r:Int) (h:cE n g l d x s=some r) (w:World) (b:GL ie w):
  Calls Tryz.prog 174 #[.agg #[.bool g,.bool l,.string ⟨d.toArray⟩,.int .i64 x,.int .i64 s]] w λe w'=>e=.returned (.int .i64 r)/\Below w.heap.size w w':=by
 refine (pure_yearforms_Check n (g,l,d,x,s) r h w _ b ?_).mono λe w' ⟨v,f,a,c⟩=>⟨?_,c.below⟩
 ·exact ⟨_,_,rfl,⟨_,rfl,⟨_,_,rfl,rfl,_,_,rfl,rfl,_,_,rfl,rfl,_,_,rfl,rfl,_,_,rfl,rfl,rfl⟩⟩,rfl⟩
 ·have:v=.int .i64 r:=a;rw [f,this]
theorem MP (n:Nat) (g l:Bool) (d:aa) (x s r:Int) (w:World) (h:cE n g l d x s=some r) (b:r≠0) (a:GL ie w):
  Calls Tryz.prog 138 #[.agg #[.bool g,.bool l,.string ⟨d.toArray⟩,.int .i64 x,.int .i64 s]] w λe w'=>e=.returned (.tuple #[.string ⟨#[]⟩,.int .i64 r])/\Below w.heap.size w w':=by
 go_enter Tryz.func138,Tryz.ntmps138
 go_wp2_with (go_at_call 174;refine (ychk n g l d x s r h _ (a.alloc _)).mono ?_)
 rintro e c ⟨rfl,b1⟩
 go_wp2
 go_ret2
 exact ⟨rfl,wE _ b1⟩
theorem Vi {w w':World} {c:Array Value} {e:TypeId} (a:Below (w.alloc (.cells c e)).heap.size (w.alloc (.cells c e)) w') (j:Nat):w'.cell? ⟨w.heap.size,j,none⟩=c[j]?:=by
 have h:w'.heap[w.heap.size]?=some (.cells c e (0,0)):=by
  rw [a.block _ (by show w.heap.size<(w.heap.push _).size;simp)];exact jW w _
 exact bw h
theorem EB (c:UInt8) (l:aa):Lib.strCells ((⟨#[c]⟩:ByteArray)++⟨l.toArray⟩)=Lib.byteCells (c::l):=by
 rw [Lib.strCells_eq,ByteArray.data_append];simp
theorem E4 (c:Bool) (a b:aa):sH c (Lib.byteCells a) (Lib.byteCells b)=Lib.byteCells (a++cond c b []):=by
 cases c
 ·simp [sH]
 ·simp [sH,Lib.byteCells_append]
theorem Xs (g l:Bool) (d:aa) (x s:Nat):
  sH (decide (0<s)) (sH (decide (0<x)) (sH true (sH g (sH l [] (Lib.strCells ⟨#[89]⟩)) (Lib.strCells ⟨#[45]⟩)) (Lib.strCells ⟨d.toArray⟩)) (Lib.strCells ((⟨#[69]⟩:ByteArray)++⟨(Lib.decDigits x).toArray⟩)))
   (Lib.strCells ((⟨#[83]⟩:ByteArray)++⟨(Lib.decDigits s).toArray⟩))=Lib.byteCells (gN g l d x s):=by
 have f:Lib.strCells ⟨#[89]⟩=Lib.byteCells [89]:=rfl;have j:Lib.strCells ⟨#[45]⟩=Lib.byteCells [45]:=rfl;have e:Lib.strCells ⟨d.toArray⟩=Lib.byteCells d:=by rw [Lib.strCells_eq]
 have k:([]:List Value)=Lib.byteCells []:=rfl;rw [EB,EB,f,j,e,k];simp only [E4];congr 1;have c {α:Type} (p:Prop) [Decidable p] (a b:List α):cond (decide p) a b=if p then a else b:=by by_cases h:p<;>simp [h]
 have i {α:Type} (p:Bool) (a b:List α):cond p a b=if p then a else b:=by cases p<;>rfl
 simp only [gN,cg,Int.natCast_pos,c,dX,i];simp
set_option maxHeartbeats 2000000 in
theorem Qh (n:Nat) (g l:Bool) (d:aa) (x s:Int) (w:World) (h:cE n g l d x s=some 0) (hs:vA d x s=true) (hg:GL ie w):
  Calls Tryz.prog 138 #[.agg #[.bool g,.bool l,.string ⟨d.toArray⟩,.int .i64 x,.int .i64 s]] w λe w'=>e=.returned (.tuple #[.string ⟨(gN g l d x s).toArray⟩,.int .i64 0])/\Below w.heap.size w w':=by
 have y:(0<=x/\x<100/\0<=s/\s<100)/\d.length<=1000:=by
  simp only [vA,aA,cn] at hs;exact ⟨hs.1,aJ hs.2⟩
 obtain ⟨⟨S,hx1,hs0,hs1⟩,hd⟩:=y;clear hs;obtain ⟨x,rfl⟩:∃i:Nat,x=(i:Int):=⟨x.toNat,by omega⟩;obtain ⟨s,rfl⟩:∃i:Nat,s=(i:Int):=⟨s.toNat,by omega⟩;have mixed:Tryz.prog.follows .mixedOrders=true:=by kernel_rfl
 go_enter Tryz.func138,Tryz.ntmps138
 go_wp2_with (go_at_call 174;refine (ychk n g l d x s 0 h _ (hg.alloc _)).mono ?_)
 rintro e a ⟨rfl,b1⟩;have V:=Vi b1;have h0:Lib.IsBuilder 238 5 a.heap.size a.heap.size [] (a.alloc (.cells #[.pointer none,.slice none 0 0] 238)):=Lib.fresh_isBuilder 238 5 a;have a1:Below a.heap.size a (a.alloc (.cells #[.pointer none,.slice none 0 0] 238)):=(Below.refl _ a).alloc (aY _) _;have b:∀{j:World} (_:Below a.heap.size a j),j.cell? ⟨w.heap.size,0,none⟩=some (.bool g)/\j.cell? ⟨w.heap.size,1,none⟩=some (.bool l)/\j.cell? ⟨w.heap.size,2,none⟩=some (.string ⟨d.toArray⟩)/\j.cell? ⟨w.heap.size,3,none⟩=some (.int .i64 x)/\j.cell? ⟨w.heap.size,4,none⟩=some (.int .i64 s):=by
  intro j hb;have H:w.heap.size<a.heap.size:=by
   have:=b1.size;have t:(w.alloc (.cells #[.bool g,.bool l,.string ⟨d.toArray⟩,.int .i64 x,.int .i64 s] 24)).heap.size=w.heap.size+1:=by show (w.heap.push _).size=_;simp
   omega
  refine ⟨?_,?_,?_,?_,?_⟩<;>rw [hb.cell (p:=⟨w.heap.size,_,none⟩) H,V]<;>rfl
 obtain ⟨m,q,o,k,c4⟩:=b a1
 go_wp2_with (go_at_call 175;refine (MB l ⟨#[89]⟩ a.heap.size a.heap.size _ _ h0 (by decide) a1.size).mono ?_)
 rintro e T ⟨rfl,N,b2⟩;have a2:=a1.trans b2;have F:=uq l [] ⟨#[89]⟩;obtain ⟨m,q,o,k,c4⟩:=b a2;have z1:(⟨#[89]⟩:ByteArray).size=1:=rfl;have z2:(⟨#[45]⟩:ByteArray).size=1:=rfl;rw [z1] at F;simp only [bz] at F;generalize e1:sH l [] (Lib.strCells ⟨#[89]⟩)=C at N F
 go_wp2_with (go_at_call 175;refine (MB g ⟨#[45]⟩ a.heap.size a.heap.size C T N (by rw [z2];omega) a2.size).mono ?_)
 rintro e W3 ⟨rfl,t,X⟩;have z:=a2.trans X;have P:=uq g C ⟨#[45]⟩;obtain ⟨m,q,o,k,c4⟩:=b z;rw [z2] at P;generalize e2:sH g C (Lib.strCells ⟨#[45]⟩)=A at t P;have M:(⟨d.toArray⟩:ByteArray).size=d.length:=by show d.toArray.size=_;simp
 go_wp2_with (go_at_call 175;refine (MB true ⟨d.toArray⟩ a.heap.size a.heap.size A W3 t (by rw [M];omega) z.size).mono ?_)
 rintro e u ⟨rfl,J,b4⟩;have Q:=z.trans b4;have I:=uq true A ⟨d.toArray⟩;obtain ⟨m,q,o,k,c4⟩:=b Q;rw [M] at I;generalize Z:sH true A (Lib.strCells ⟨d.toArray⟩)=r at J I;have h3':Lib.IsBuilder 238 5 a.heap.size a.heap.size r u.drew:=J;have a4':=Q.drew;obtain ⟨m,q,o,k,c4⟩:=b a4';have two (x:Nat) (hx:x<100):(Lib.decDigits x).length<=2:=by
  by_cases h:x<10
  ·rw [Lib.decDigits_one h];simp
  ·rw [Lib.decDigits_two h hx];simp
 have f (c:UInt8) (x:Nat) (hx:x<100):((⟨#[c]⟩:ByteArray)++⟨(Lib.decDigits x).toArray⟩).size<=3:=by
  have t:=two x hx;rw [ByteArray.size_append];show 1+(Lib.decDigits x).toArray.size<=3;simp only [wx];omega
 have room (x:Nat) (hx:x<100):¬9223372036854775807<1+(Lib.decDigits x).length:=by
  have:=two x hx;omega
 have rx:=room x (by omega);have rs:=room s (by omega)
 go_wp2_with fail
 refine wp_region_still_tail 8 mixed (by kernel_rfl) ?_;simp only [oc,lT,og,bV]
 repeat still_step
 still_call (Tryz.strconv_Itoa_small x (by omega) _)
 still_step
 refine wpStill_nil ?_;change wpList _ _ _ _ _ u.drew;have ex:(Value.bool (decide (0<x)))=.bool (decide (0<x)):=rfl;have lx:=f 69 x (by omega);have W:=f 83 s (by omega);generalize G:((⟨#[69]⟩:ByteArray)++⟨(Lib.decDigits x).toArray⟩)=B at lx
 go_wp2_with (go_at_call 175;refine (MB (decide (0<x)) B a.heap.size a.heap.size r u.drew h3' (by omega) a4'.size).mono ?_)
 rintro e v ⟨rfl,O,b5⟩;have U:=a4'.trans b5;have n4:=uq (decide (0<x)) r B;generalize e4:sH (decide (0<x)) r (Lib.strCells B)=E at O n4;have h4':Lib.IsBuilder 238 5 a.heap.size a.heap.size E v.drew:=O;have a5':=U.drew;obtain ⟨m,q,o,k,c4⟩:=b a5'
 go_wp2_with fail
 refine wp_region_still_tail 8 mixed (by kernel_rfl) ?_;simp only [oc,lT,og,bV]
 repeat still_step
 still_call (Tryz.strconv_Itoa_small s (by omega) _)
 still_step
 refine wpStill_nil ?_;change wpList _ _ _ _ _ v.drew;generalize D:((⟨#[83]⟩:ByteArray)++⟨(Lib.decDigits s).toArray⟩)=K at W
 go_wp2_with (go_at_call 175;refine (MB (decide (0<s)) K a.heap.size a.heap.size E v.drew h4' (by omega) a5'.size).mono ?_)
 rintro e W6 ⟨rfl,R,b6⟩;have L:=a5'.trans b6;have Y:sH (decide (0<s)) E (Lib.strCells K)=Lib.byteCells (gN g l d x s):=by
  subst e1 e2 Z e4 G D;exact Xs g l d x s
 rw [Y] at R
 go_wp2_with (go_at_call 178;refine (Tryz.Builder_String_any a.heap.size a.heap.size (gN g l d x s) W6 R L.size).mono ?_)
 rintro e W7 ⟨rfl,b7⟩
 go_wp2
 go_ret2
 refine ⟨rfl,wE _ (b1.trans ((L.trans b7).mono b1.size))⟩
end Go.Sh
