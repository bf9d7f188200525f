
/- The text of a year: the walk of yearforms.Text, which writes to a strings.Builder.
   Conditions: none. -/
import Derived.Test.YtaogbalpingjhaaGreatDoorCeS
import Derived.StillTailTactics
set_option linter.unusedSimpArgs false
set_option linter.unusedVariables false
set_option maxRecDepth 100000
namespace Go.Sh
open Go.Abs Go.Proofs Go.RowKit
def pp (b:Bool) (a more:List Value):List Value:=cond b (a++more) a
theorem rc (b:Bool) (a:List Value) (s:ByteArray):(pp b a (Lib.strCells s)).length<=a.length+s.size:=by
 have:(Lib.strCells s).length=s.size:=by rw [Lib.strCells_eq,Lib.byteCells,DU];rfl
 unfold pp;cases b
 ·simp
 ·simp [this]
theorem GM (f:Bool) (s:ByteArray) (B b:Nat) (c:List Value) (w:World) (g:Lib.IsBuilder 82 5 B b c w) (a:c.length+s.size<=140737488355328) (d:B<=w.heap.size):
  Calls Tryz.prog 30 #[.bool f,.string s,.pointer (some ⟨b,0,none⟩)] w λe w'=>e=.returned (.tuple #[])/\Lib.IsBuilder 82 5 B b (pp f c (Lib.strCells s)) w'/\Below B w w':=by
 go_enter Tryz.func30,Tryz.ntmps30
 cases f
 ·go_wp2
  go_end0
  exact ⟨rfl,g,Below.refl _ _⟩
 ·go_wp2_with (go_at_call 31;refine (Tryz.Builder_WriteString B b c s _ g a d).mono ?_)
  rintro e w' ⟨rfl,h,i⟩
  go_wp2
  go_end0
  exact ⟨rfl,Or.inr h,i⟩
theorem uw {w w':World} (o:Obj) (h:Below (w.alloc o).heap.size (w.alloc o) w'):Below w.heap.size w w':=by
 have a:Below w.heap.size w (w.alloc o):=(Below.refl _ w).alloc (aM _) _;refine a.trans ⟨h.os,h.tape,h.output,h.size,λk b=>h.block k ?_⟩;have:=a.size;omega
theorem ychk (n:Nat) (g l:Bool) (d:aa) (x s r:Int) (h:bu n g l d x s=some r) (w:World) (f:GL fP w):
  Calls Tryz.prog 29 #[.agg #[.bool g,.bool l,.string ⟨d.toArray⟩,.int .i64 x,.int .i64 s]] w λe w'=>e=.returned (.int .i64 r)/\Below w.heap.size w w':=by
 refine (pure_yearforms_Check n (g,l,d,x,s) r h w _ f ?_).mono λe w' ⟨v,b,c,a⟩=>⟨?_,a.below⟩
 ·exact ⟨_,_,rfl,⟨_,rfl,⟨_,_,rfl,rfl,_,_,rfl,rfl,_,_,rfl,rfl,_,_,rfl,rfl,_,_,rfl,rfl,rfl⟩⟩,rfl⟩
 ·have:v=.int .i64 r:=c;rw [b,this]
theorem GZ (n:Nat) (g l:Bool) (d:aa) (x s r:Int) (w:World) (h:bu n g l d x s=some r) (c:r≠0) (a:GL fP w):
  Calls Tryz.prog 7 #[.agg #[.bool g,.bool l,.string ⟨d.toArray⟩,.int .i64 x,.int .i64 s]] w λe w'=>e=.returned (.tuple #[.string ⟨#[]⟩,.int .i64 r])/\Below w.heap.size w w':=by
 go_enter Tryz.func7,Tryz.ntmps7
 go_wp2_with (go_at_call 29;refine (ychk n g l d x s r h _ (a.alloc _)).mono ?_)
 rintro e b ⟨rfl,b1⟩
 go_wp2
 go_ret2
 exact ⟨rfl,uw _ b1⟩
theorem QC {w w':World} {c:Array Value} {e:TypeId} (a:Below (w.alloc (.cells c e)).heap.size (w.alloc (.cells c e)) w') (j:Nat):w'.cell? ⟨w.heap.size,j,none⟩=c[j]?:=by
 have h:w'.heap[w.heap.size]?=some (.cells c e (0,0)):=by
  rw [a.block _ (by show w.heap.size<(w.heap.push _).size;simp)];exact iq w _
 exact aV h
theorem zS (c:UInt8) (l:aa):Lib.strCells ((⟨#[c]⟩:ByteArray)++⟨l.toArray⟩)=Lib.byteCells (c::l):=by
 rw [Lib.strCells_eq,ByteArray.data_append];simp
theorem CQ (c:Bool) (a b:aa):pp c (Lib.byteCells a) (Lib.byteCells b)=Lib.byteCells (a++cond c b []):=by
 cases c
 ·simp [pp]
 ·simp [pp,Lib.byteCells_append]
theorem SB (g l:Bool) (d:aa) (x s:Nat):
  pp (decide (0<s)) (pp (decide (0<x)) (pp true (pp g (pp l [] (Lib.strCells ⟨#[89]⟩)) (Lib.strCells ⟨#[45]⟩)) (Lib.strCells ⟨d.toArray⟩)) (Lib.strCells ((⟨#[69]⟩:ByteArray)++⟨(Lib.decDigits x).toArray⟩)))
   (Lib.strCells ((⟨#[83]⟩:ByteArray)++⟨(Lib.decDigits s).toArray⟩))=Lib.byteCells (eh g l d x s):=by
 have j:Lib.strCells ⟨#[89]⟩=Lib.byteCells [89]:=rfl;have k:Lib.strCells ⟨#[45]⟩=Lib.byteCells [45]:=rfl;have i:Lib.strCells ⟨d.toArray⟩=Lib.byteCells d:=by rw [Lib.strCells_eq]
 have c:([]:List Value)=Lib.byteCells []:=rfl;rw [zS,zS,j,k,i,c];simp only [CQ];congr 1;have e {α:Type} (p:Prop) [Decidable p] (a b:List α):cond (decide p) a b=if p then a else b:=by by_cases h:p<;>simp [h]
 have f {α:Type} (p:Bool) (a b:List α):cond p a b=if p then a else b:=by cases p<;>rfl
 simp only [eh,bW,Int.natCast_pos,e,da,f];simp
set_option maxHeartbeats 2000000 in
theorem K5 (n:Nat) (g l:Bool) (d:aa) (x s:Int) (w:World) (h:bu n g l d x s=some 0) (hs:pE d x s=true) (V:GL fP w):
  Calls Tryz.prog 7 #[.agg #[.bool g,.bool l,.string ⟨d.toArray⟩,.int .i64 x,.int .i64 s]] w λe w'=>e=.returned (.tuple #[.string ⟨(eh g l d x s).toArray⟩,.int .i64 0])/\Below w.heap.size w w':=by
 have B:(0<=x/\x<100/\0<=s/\s<100)/\d.length<=1000:=by
  simp only [pE,az,bX] at hs;exact ⟨hs.1,aD hs.2⟩
 obtain ⟨⟨X,T,hs0,Y⟩,hd⟩:=B;clear hs;obtain ⟨x,rfl⟩:∃i:Nat,x=(i:Int):=⟨x.toNat,by omega⟩;obtain ⟨s,rfl⟩:∃i:Nat,s=(i:Int):=⟨s.toNat,by omega⟩;have mixed:Tryz.prog.follows .mixedOrders=true:=by kernel_rfl
 go_enter Tryz.func7,Tryz.ntmps7
 go_wp2_with (go_at_call 29;refine (ychk n g l d x s 0 h _ (V.alloc _)).mono ?_)
 rintro e a ⟨rfl,b1⟩;have q1:=QC b1;have Z:Lib.IsBuilder 82 5 a.heap.size a.heap.size [] (a.alloc (.cells #[.pointer none,.slice none 0 0] 82)):=Lib.fresh_isBuilder 82 5 a;have a1:Below a.heap.size a (a.alloc (.cells #[.pointer none,.slice none 0 0] 82)):=(Below.refl _ a).alloc (aM _) _;have b:∀{j:World} (_:Below a.heap.size a j),j.cell? ⟨w.heap.size,0,none⟩=some (.bool g)/\j.cell? ⟨w.heap.size,1,none⟩=some (.bool l)/\j.cell? ⟨w.heap.size,2,none⟩=some (.string ⟨d.toArray⟩)/\j.cell? ⟨w.heap.size,3,none⟩=some (.int .i64 x)/\j.cell? ⟨w.heap.size,4,none⟩=some (.int .i64 s):=by
  intro j hb;have D:w.heap.size<a.heap.size:=by
   have:=b1.size;have t:(w.alloc (.cells #[.bool g,.bool l,.string ⟨d.toArray⟩,.int .i64 x,.int .i64 s] 30)).heap.size=w.heap.size+1:=by show (w.heap.push _).size=_;simp
   omega
  refine ⟨?_,?_,?_,?_,?_⟩<;>rw [hb.cell (p:=⟨w.heap.size,_,none⟩) D,q1]<;>rfl
 obtain ⟨k,o,m,c3,q⟩:=b a1
 go_wp2_with (go_at_call 30;refine (GM l ⟨#[89]⟩ a.heap.size a.heap.size _ _ Z (by decide) a1.size).mono ?_)
 rintro e W ⟨rfl,I,b2⟩;have a2:=a1.trans b2;have u:=rc l [] ⟨#[89]⟩;obtain ⟨k,o,m,c3,q⟩:=b a2;have z1:(⟨#[89]⟩:ByteArray).size=1:=rfl;have z2:(⟨#[45]⟩:ByteArray).size=1:=rfl;rw [z1] at u;simp only [cA] at u;generalize e1:pp l [] (Lib.strCells ⟨#[89]⟩)=E at I u
 go_wp2_with (go_at_call 30;refine (GM g ⟨#[45]⟩ a.heap.size a.heap.size E W I (by rw [z2];omega) a2.size).mono ?_)
 rintro e W3 ⟨rfl,t,b3⟩;have v:=a2.trans b3;have N:=rc g E ⟨#[45]⟩;obtain ⟨k,o,m,c3,q⟩:=b v;rw [z2] at N;generalize U:pp g E (Lib.strCells ⟨#[45]⟩)=y at t N;have R:(⟨d.toArray⟩:ByteArray).size=d.length:=by show d.toArray.size=_;simp
 go_wp2_with (go_at_call 30;refine (GM true ⟨d.toArray⟩ a.heap.size a.heap.size y W3 t (by rw [R];omega) v.size).mono ?_)
 rintro e z ⟨rfl,P,b4⟩;have L:=v.trans b4;have M:=rc true y ⟨d.toArray⟩;obtain ⟨k,o,m,c3,q⟩:=b L;rw [R] at M;generalize e3:pp true y (Lib.strCells ⟨d.toArray⟩)=r at P M;have h3':Lib.IsBuilder 82 5 a.heap.size a.heap.size r z.drew:=P;have a4':=L.drew;obtain ⟨k,o,m,c3,q⟩:=b a4';have two (x:Nat) (hx:x<100):(Lib.decDigits x).length<=2:=by
  by_cases h:x<10
  ·rw [Lib.decDigits_one h];simp
  ·rw [Lib.decDigits_two h hx];simp
 have f (c:UInt8) (x:Nat) (hx:x<100):((⟨#[c]⟩:ByteArray)++⟨(Lib.decDigits x).toArray⟩).size<=3:=by
  have t:=two x hx;rw [ByteArray.size_append];show 1+(Lib.decDigits x).toArray.size<=3;simp only [vE];omega
 have room (x:Nat) (hx:x<100):¬9223372036854775807<1+(Lib.decDigits x).length:=by
  have:=two x hx;omega
 have rx:=room x (by omega);have rs:=room s (by omega)
 go_wp2_with fail
 refine wp_region_still_tail 8 mixed (by kernel_rfl) ?_;simp only [kE,kG,lE,cH]
 repeat still_step
 still_call (Tryz.strconv_Itoa_small x (by omega) _)
 still_step
 refine wpStill_nil ?_;change wpList _ _ _ _ _ z.drew;have ex:(Value.bool (decide (0<x)))=.bool (decide (0<x)):=rfl;have lx:=f 69 x (by omega);have ls:=f 83 s (by omega);generalize H:((⟨#[69]⟩:ByteArray)++⟨(Lib.decDigits x).toArray⟩)=F at lx
 go_wp2_with (go_at_call 30;refine (GM (decide (0<x)) F a.heap.size a.heap.size r z.drew h3' (by omega) a4'.size).mono ?_)
 rintro e C ⟨rfl,K,S⟩;have a5:=a4'.trans S;have n4:=rc (decide (0<x)) r F;generalize e4:pp (decide (0<x)) r (Lib.strCells F)=A at K n4;have h4':Lib.IsBuilder 82 5 a.heap.size a.heap.size A C.drew:=K;have a5':=a5.drew;obtain ⟨k,o,m,c3,q⟩:=b a5'
 go_wp2_with fail
 refine wp_region_still_tail 8 mixed (by kernel_rfl) ?_;simp only [kE,kG,lE,cH]
 repeat still_step
 still_call (Tryz.strconv_Itoa_small s (by omega) _)
 still_step
 refine wpStill_nil ?_;change wpList _ _ _ _ _ C.drew;generalize G:((⟨#[83]⟩:ByteArray)++⟨(Lib.decDigits s).toArray⟩)=Q at ls
 go_wp2_with (go_at_call 30;refine (GM (decide (0<s)) Q a.heap.size a.heap.size A C.drew h4' (by omega) a5'.size).mono ?_)
 rintro e W6 ⟨rfl,J,b6⟩;have O:=a5'.trans b6;have e6:pp (decide (0<s)) A (Lib.strCells Q)=Lib.byteCells (eh g l d x s):=by
  subst e1 U e3 e4 H G;exact SB g l d x s
 rw [e6] at J
 go_wp2_with (go_at_call 33;refine (Tryz.Builder_String_any a.heap.size a.heap.size (eh g l d x s) W6 J O.size).mono ?_)
 rintro e W7 ⟨rfl,b7⟩
 go_wp2
 go_ret2
 refine ⟨rfl,uw _ (b1.trans ((O.trans b7).mono b1.size))⟩
end Go.Sh
