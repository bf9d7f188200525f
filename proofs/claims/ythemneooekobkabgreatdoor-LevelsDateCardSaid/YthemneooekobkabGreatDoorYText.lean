
/- The text of a year: the walk of yearforms.Text, which writes to a strings.Builder.
   Conditions: none. -/
import Derived.Test.YthemneooekobkabGreatDoorCeQ
import Derived.StillTailTactics
set_option linter.unusedSimpArgs false
set_option linter.unusedVariables false
set_option maxRecDepth 100000
namespace Go.Sh
open Go.Abs Go.Proofs Go.RowKit
def sF (b:Bool) (a more:List Value):List Value:=cond b (a++more) a
theorem uj (b:Bool) (a:List Value) (s:ByteArray):(sF b a (Lib.strCells s)).length<=a.length+s.size:=by
 have:(Lib.strCells s).length=s.size:=by rw [Lib.strCells_eq,Lib.byteCells,tM];rfl
 unfold sF;cases b
 ·simp
 ·simp [this]
theorem K0 (d:Bool) (s:ByteArray) (B b:Nat) (c:List Value) (w:World) (g:Lib.IsBuilder 238 5 B b c w) (a:c.length+s.size<=140737488355328) (f:B<=w.heap.size):
  Calls Tryz.prog 175 #[.bool d,.string s,.pointer (some ⟨b,0,none⟩)] w λe w'=>e=.returned (.tuple #[])/\Lib.IsBuilder 238 5 B b (sF d c (Lib.strCells s)) w'/\Below B w w':=by
 go_enter Tryz.func175,Tryz.ntmps175
 cases d
 ·go_wp2
  go_end0
  exact ⟨rfl,g,Below.refl _ _⟩
 ·go_wp2_with (go_at_call 176;refine (Tryz.Builder_WriteString B b c s _ g a f).mono ?_)
  rintro e w' ⟨rfl,i,h⟩
  go_wp2
  go_end0
  exact ⟨rfl,Or.inr i,h⟩
theorem wG {w w':World} (o:Obj) (h:Below (w.alloc o).heap.size (w.alloc o) w'):Below w.heap.size w w':=by
 have a:Below w.heap.size w (w.alloc o):=(Below.refl _ w).alloc (aV _) _;refine a.trans ⟨h.os,h.tape,h.output,h.size,λk b=>h.block k ?_⟩;have:=a.size;omega
theorem ychk (n:Nat) (g l:Bool) (d:aa) (x s r:Int) (h:cL n g l d x s=some r) (w:World) (f:GL gY w):
  Calls Tryz.prog 174 #[.agg #[.bool g,.bool l,.string ⟨d.toArray⟩,.int .i64 x,.int .i64 s]] w λe w'=>e=.returned (.int .i64 r)/\Below w.heap.size w w':=by
 refine (pure_yearforms_Check n (g,l,d,x,s) r h w _ f ?_).mono λe w' ⟨v,a,b,c⟩=>⟨?_,c.below⟩
 ·exact ⟨_,_,rfl,⟨_,rfl,⟨_,_,rfl,rfl,_,_,rfl,rfl,_,_,rfl,rfl,_,_,rfl,rfl,_,_,rfl,rfl,rfl⟩⟩,rfl⟩
 ·have:v=.int .i64 r:=b;rw [a,this]
theorem KV (n:Nat) (g l:Bool) (d:aa) (x s r:Int) (w:World) (h:cL n g l d x s=some r) (b:r≠0) (a:GL gY w):
  Calls Tryz.prog 138 #[.agg #[.bool g,.bool l,.string ⟨d.toArray⟩,.int .i64 x,.int .i64 s]] w λe w'=>e=.returned (.tuple #[.string ⟨#[]⟩,.int .i64 r])/\Below w.heap.size w w':=by
 go_enter Tryz.func138,Tryz.ntmps138
 go_wp2_with (go_at_call 174;refine (ychk n g l d x s r h _ (a.alloc _)).mono ?_)
 rintro e c ⟨rfl,b1⟩
 go_wp2
 go_ret2
 exact ⟨rfl,wG _ b1⟩
theorem Xd {w w':World} {c:Array Value} {e:TypeId} (a:Below (w.alloc (.cells c e)).heap.size (w.alloc (.cells c e)) w') (j:Nat):w'.cell? ⟨w.heap.size,j,none⟩=c[j]?:=by
 have h:w'.heap[w.heap.size]?=some (.cells c e (0,0)):=by
  rw [a.block _ (by show w.heap.size<(w.heap.push _).size;simp)];exact jK w _
 exact bv h
theorem D9 (c:UInt8) (l:aa):Lib.strCells ((⟨#[c]⟩:ByteArray)++⟨l.toArray⟩)=Lib.byteCells (c::l):=by
 rw [Lib.strCells_eq,ByteArray.data_append];simp
theorem Ft (c:Bool) (a b:aa):sF c (Lib.byteCells a) (Lib.byteCells b)=Lib.byteCells (a++cond c b []):=by
 cases c
 ·simp [sF]
 ·simp [sF,Lib.byteCells_append]
theorem XH (g l:Bool) (d:aa) (x s:Nat):
  sF (decide (0<s)) (sF (decide (0<x)) (sF true (sF g (sF l [] (Lib.strCells ⟨#[89]⟩)) (Lib.strCells ⟨#[45]⟩)) (Lib.strCells ⟨d.toArray⟩)) (Lib.strCells ((⟨#[69]⟩:ByteArray)++⟨(Lib.decDigits x).toArray⟩)))
   (Lib.strCells ((⟨#[83]⟩:ByteArray)++⟨(Lib.decDigits s).toArray⟩))=Lib.byteCells (gH g l d x s):=by
 have k:Lib.strCells ⟨#[89]⟩=Lib.byteCells [89]:=rfl;have e:Lib.strCells ⟨#[45]⟩=Lib.byteCells [45]:=rfl;have c:Lib.strCells ⟨d.toArray⟩=Lib.byteCells d:=by rw [Lib.strCells_eq]
 have j:([]:List Value)=Lib.byteCells []:=rfl;rw [D9,D9,k,e,c,j];simp only [Ft];congr 1;have f {α:Type} (p:Prop) [Decidable p] (a b:List α):cond (decide p) a b=if p then a else b:=by by_cases h:p<;>simp [h]
 have i {α:Type} (p:Bool) (a b:List α):cond p a b=if p then a else b:=by cases p<;>rfl
 simp only [gH,bR,Int.natCast_pos,f,dJ,i];simp
set_option maxHeartbeats 2000000 in
theorem Qc (n:Nat) (g l:Bool) (d:aa) (x s:Int) (w:World) (h:cL n g l d x s=some 0) (hs:vv d x s=true) (hg:GL gY w):
  Calls Tryz.prog 138 #[.agg #[.bool g,.bool l,.string ⟨d.toArray⟩,.int .i64 x,.int .i64 s]] w λe w'=>e=.returned (.tuple #[.string ⟨(gH g l d x s).toArray⟩,.int .i64 0])/\Below w.heap.size w w':=by
 have z:(0<=x/\x<100/\0<=s/\s<100)/\d.length<=1000:=by
  simp only [vv,aA,cn] at hs;exact ⟨hs.1,aL hs.2⟩
 obtain ⟨⟨hx0,hx1,hs0,hs1⟩,hd⟩:=z;clear hs;obtain ⟨x,rfl⟩:∃i:Nat,x=(i:Int):=⟨x.toNat,by omega⟩;obtain ⟨s,rfl⟩:∃i:Nat,s=(i:Int):=⟨s.toNat,by omega⟩;have mixed:Tryz.prog.follows .mixedOrders=true:=by kernel_rfl
 go_enter Tryz.func138,Tryz.ntmps138
 go_wp2_with (go_at_call 174;refine (ychk n g l d x s 0 h _ (hg.alloc _)).mono ?_)
 rintro e a ⟨rfl,b1⟩;have q1:=Xd b1;have h0:Lib.IsBuilder 238 5 a.heap.size a.heap.size [] (a.alloc (.cells #[.pointer none,.slice none 0 0] 238)):=Lib.fresh_isBuilder 238 5 a;have a1:Below a.heap.size a (a.alloc (.cells #[.pointer none,.slice none 0 0] 238)):=(Below.refl _ a).alloc (aV _) _;have b:∀{j:World} (_:Below a.heap.size a j),j.cell? ⟨w.heap.size,0,none⟩=some (.bool g)/\j.cell? ⟨w.heap.size,1,none⟩=some (.bool l)/\j.cell? ⟨w.heap.size,2,none⟩=some (.string ⟨d.toArray⟩)/\j.cell? ⟨w.heap.size,3,none⟩=some (.int .i64 x)/\j.cell? ⟨w.heap.size,4,none⟩=some (.int .i64 s):=by
  intro j hb;have F:w.heap.size<a.heap.size:=by
   have:=b1.size;have u:(w.alloc (.cells #[.bool g,.bool l,.string ⟨d.toArray⟩,.int .i64 x,.int .i64 s] 24)).heap.size=w.heap.size+1:=by show (w.heap.push _).size=_;simp
   omega
  refine ⟨?_,?_,?_,?_,?_⟩<;>rw [hb.cell (p:=⟨w.heap.size,_,none⟩) F,q1]<;>rfl
 obtain ⟨k,r,m,q,o⟩:=b a1
 go_wp2_with (go_at_call 175;refine (K0 l ⟨#[89]⟩ a.heap.size a.heap.size _ _ h0 (by decide) a1.size).mono ?_)
 rintro e T ⟨rfl,S,b2⟩;have a2:=a1.trans b2;have E:=uj l [] ⟨#[89]⟩;obtain ⟨k,r,m,q,o⟩:=b a2;have z1:(⟨#[89]⟩:ByteArray).size=1:=rfl;have z2:(⟨#[45]⟩:ByteArray).size=1:=rfl;rw [z1] at E;simp only [bH] at E;generalize e1:sF l [] (Lib.strCells ⟨#[89]⟩)=B at S E
 go_wp2_with (go_at_call 175;refine (K0 g ⟨#[45]⟩ a.heap.size a.heap.size B T S (by rw [z2];omega) a2.size).mono ?_)
 rintro e W3 ⟨rfl,u,b3⟩;have v:=a2.trans b3;have Q:=uj g B ⟨#[45]⟩;obtain ⟨k,r,m,q,o⟩:=b v;rw [z2] at Q;generalize e2:sF g B (Lib.strCells ⟨#[45]⟩)=D at u Q;have N:(⟨d.toArray⟩:ByteArray).size=d.length:=by show d.toArray.size=_;simp
 go_wp2_with (go_at_call 175;refine (K0 true ⟨d.toArray⟩ a.heap.size a.heap.size D W3 u (by rw [N];omega) v.size).mono ?_)
 rintro e G ⟨rfl,P,U⟩;have R:=v.trans U;have L:=uj true D ⟨d.toArray⟩;obtain ⟨k,r,m,q,o⟩:=b R;rw [N] at L;generalize e3:sF true D (Lib.strCells ⟨d.toArray⟩)=t at P L;have h3':Lib.IsBuilder 238 5 a.heap.size a.heap.size t G.drew:=P;have a4':=R.drew;obtain ⟨k,r,m,q,o⟩:=b a4';have two (x:Nat) (hx:x<100):(Lib.decDigits x).length<=2:=by
  by_cases h:x<10
  ·rw [Lib.decDigits_one h];simp
  ·rw [Lib.decDigits_two h hx];simp
 have f (c:UInt8) (x:Nat) (hx:x<100):((⟨#[c]⟩:ByteArray)++⟨(Lib.decDigits x).toArray⟩).size<=3:=by
  have u:=two x hx;rw [ByteArray.size_append];show 1+(Lib.decDigits x).toArray.size<=3;simp only [yn];omega
 have room (x:Nat) (hx:x<100):¬9223372036854775807<1+(Lib.decDigits x).length:=by
  have:=two x hx;omega
 have rx:=room x (by omega);have rs:=room s (by omega)
 go_wp2_with fail
 refine wp_region_still_tail 8 mixed (by kernel_rfl) ?_;simp only [mK,mM,nJ,cw]
 repeat still_step
 still_call (Tryz.strconv_Itoa_small x (by omega) _)
 still_step
 refine wpStill_nil ?_;change wpList _ _ _ _ _ G.drew;have ex:(Value.bool (decide (0<x)))=.bool (decide (0<x)):=rfl;have Z:=f 69 x (by omega);have ls:=f 83 s (by omega);generalize H:((⟨#[69]⟩:ByteArray)++⟨(Lib.decDigits x).toArray⟩)=A at Z
 go_wp2_with (go_at_call 175;refine (K0 (decide (0<x)) A a.heap.size a.heap.size t G.drew h3' (by omega) a4'.size).mono ?_)
 rintro e I ⟨rfl,O,W⟩;have a5:=a4'.trans W;have n4:=uj (decide (0<x)) t A;generalize e4:sF (decide (0<x)) t (Lib.strCells A)=C at O n4;have h4':Lib.IsBuilder 238 5 a.heap.size a.heap.size C I.drew:=O;have a5':=a5.drew;obtain ⟨k,r,m,q,o⟩:=b a5'
 go_wp2_with fail
 refine wp_region_still_tail 8 mixed (by kernel_rfl) ?_;simp only [mK,mM,nJ,cw]
 repeat still_step
 still_call (Tryz.strconv_Itoa_small s (by omega) _)
 still_step
 refine wpStill_nil ?_;change wpList _ _ _ _ _ I.drew;generalize y:((⟨#[83]⟩:ByteArray)++⟨(Lib.decDigits s).toArray⟩)=K at ls
 go_wp2_with (go_at_call 175;refine (K0 (decide (0<s)) K a.heap.size a.heap.size C I.drew h4' (by omega) a5'.size).mono ?_)
 rintro e V ⟨rfl,J,Y⟩;have M:=a5'.trans Y;have e6:sF (decide (0<s)) C (Lib.strCells K)=Lib.byteCells (gH g l d x s):=by
  subst e1 e2 e3 e4 H y;exact XH g l d x s
 rw [e6] at J
 go_wp2_with (go_at_call 178;refine (Tryz.Builder_String_any a.heap.size a.heap.size (gH g l d x s) V J M.size).mono ?_)
 rintro e W7 ⟨rfl,X⟩
 go_wp2
 go_ret2
 refine ⟨rfl,wG _ (b1.trans ((M.trans X).mono b1.size))⟩
end Go.Sh
