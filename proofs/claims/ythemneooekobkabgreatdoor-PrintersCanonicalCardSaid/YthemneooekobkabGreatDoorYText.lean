
/- The text of a year: the walk of yearforms.Text, which writes to a strings.Builder.
   Conditions: none. -/
import Derived.Test.YthemneooekobkabGreatDoorCeQ
import Derived.StillTailTactics
set_option linter.unusedSimpArgs false
set_option linter.unusedVariables false
set_option maxRecDepth 100000
namespace Go.Sh
open Go.Abs Go.Proofs Go.RowKit
def sG (b:Bool) (a more:List Value):List Value:=cond b (a++more) a
theorem tX (b:Bool) (a:List Value) (s:ByteArray):(sG b a (Lib.strCells s)).length<=a.length+s.size:=by
 have:(Lib.strCells s).length=s.size:=by rw [Lib.strCells_eq,Lib.byteCells,u0];rfl
 unfold sG;cases b
 ·simp
 ·simp [this]
theorem NT (f:Bool) (s:ByteArray) (B b:Nat) (c:List Value) (w:World) (g:Lib.IsBuilder 238 5 B b c w) (a:c.length+s.size<=140737488355328) (d:B<=w.heap.size):
  Calls Tryz.prog 175 #[.bool f,.string s,.pointer (some ⟨b,0,none⟩)] w λe w'=>e=.returned (.tuple #[])/\Lib.IsBuilder 238 5 B b (sG f c (Lib.strCells s)) w'/\Below B w w':=by
 go_enter Tryz.func175,Tryz.ntmps175
 cases f
 ·go_wp2
  go_end0
  exact ⟨rfl,g,Below.refl _ _⟩
 ·go_wp2_with (go_at_call 176;refine (Tryz.Builder_WriteString B b c s _ g a d).mono ?_)
  rintro e w' ⟨rfl,i,h⟩
  go_wp2
  go_end0
  exact ⟨rfl,Or.inr i,h⟩
theorem yF {w w':World} (o:Obj) (h:Below (w.alloc o).heap.size (w.alloc o) w'):Below w.heap.size w w':=by
 have a:Below w.heap.size w (w.alloc o):=(Below.refl _ w).alloc (aW _) _;refine a.trans ⟨h.os,h.tape,h.output,h.size,λk b=>h.block k ?_⟩;have:=a.size;omega
theorem ychk (n:Nat) (g l:Bool) (d:aa) (x s r:Int) (h:cD n g l d x s=some r) (w:World) (f:GL ip w):
  Calls Tryz.prog 174 #[.agg #[.bool g,.bool l,.string ⟨d.toArray⟩,.int .i64 x,.int .i64 s]] w λe w'=>e=.returned (.int .i64 r)/\Below w.heap.size w w':=by
 refine (pure_yearforms_Check n (g,l,d,x,s) r h w _ f ?_).mono λe w' ⟨v,c,a,b⟩=>⟨?_,b.below⟩
 ·exact ⟨_,_,rfl,⟨_,rfl,⟨_,_,rfl,rfl,_,_,rfl,rfl,_,_,rfl,rfl,_,_,rfl,rfl,_,_,rfl,rfl,rfl⟩⟩,rfl⟩
 ·have:v=.int .i64 r:=a;rw [c,this]
theorem MY (n:Nat) (g l:Bool) (d:aa) (x s r:Int) (w:World) (h:cD n g l d x s=some r) (b:r≠0) (a:GL ip w):
  Calls Tryz.prog 138 #[.agg #[.bool g,.bool l,.string ⟨d.toArray⟩,.int .i64 x,.int .i64 s]] w λe w'=>e=.returned (.tuple #[.string ⟨#[]⟩,.int .i64 r])/\Below w.heap.size w w':=by
 go_enter Tryz.func138,Tryz.ntmps138
 go_wp2_with (go_at_call 174;refine (ychk n g l d x s r h _ (a.alloc _)).mono ?_)
 rintro e c ⟨rfl,b1⟩
 go_wp2
 go_ret2
 exact ⟨rfl,yF _ b1⟩
theorem Wu {w w':World} {c:Array Value} {e:TypeId} (a:Below (w.alloc (.cells c e)).heap.size (w.alloc (.cells c e)) w') (j:Nat):w'.cell? ⟨w.heap.size,j,none⟩=c[j]?:=by
 have h:w'.heap[w.heap.size]?=some (.cells c e (0,0)):=by
  rw [a.block _ (by show w.heap.size<(w.heap.push _).size;simp)];exact ki w _
 exact bu h
theorem DD (c:UInt8) (l:aa):Lib.strCells ((⟨#[c]⟩:ByteArray)++⟨l.toArray⟩)=Lib.byteCells (c::l):=by
 rw [Lib.strCells_eq,ByteArray.data_append];simp
theorem FU (c:Bool) (a b:aa):sG c (Lib.byteCells a) (Lib.byteCells b)=Lib.byteCells (a++cond c b []):=by
 cases c
 ·simp [sG]
 ·simp [sG,Lib.byteCells_append]
theorem XL (g l:Bool) (d:aa) (x s:Nat):
  sG (decide (0<s)) (sG (decide (0<x)) (sG true (sG g (sG l [] (Lib.strCells ⟨#[89]⟩)) (Lib.strCells ⟨#[45]⟩)) (Lib.strCells ⟨d.toArray⟩)) (Lib.strCells ((⟨#[69]⟩:ByteArray)++⟨(Lib.decDigits x).toArray⟩)))
   (Lib.strCells ((⟨#[83]⟩:ByteArray)++⟨(Lib.decDigits s).toArray⟩))=Lib.byteCells (gM g l d x s):=by
 have j:Lib.strCells ⟨#[89]⟩=Lib.byteCells [89]:=rfl;have f:Lib.strCells ⟨#[45]⟩=Lib.byteCells [45]:=rfl;have i:Lib.strCells ⟨d.toArray⟩=Lib.byteCells d:=by rw [Lib.strCells_eq]
 have k:([]:List Value)=Lib.byteCells []:=rfl;rw [DD,DD,j,f,i,k];simp only [FU];congr 1;have e {α:Type} (p:Prop) [Decidable p] (a b:List α):cond (decide p) a b=if p then a else b:=by by_cases h:p<;>simp [h]
 have c {α:Type} (p:Bool) (a b:List α):cond p a b=if p then a else b:=by cases p<;>rfl
 simp only [gM,cb,Int.natCast_pos,e,dW,c];simp
set_option maxHeartbeats 2000000 in
theorem Qg (n:Nat) (g l:Bool) (d:aa) (x s:Int) (w:World) (h:cD n g l d x s=some 0) (hs:vr d x s=true) (Z:GL ip w):
  Calls Tryz.prog 138 #[.agg #[.bool g,.bool l,.string ⟨d.toArray⟩,.int .i64 x,.int .i64 s]] w λe w'=>e=.returned (.tuple #[.string ⟨(gM g l d x s).toArray⟩,.int .i64 0])/\Below w.heap.size w w':=by
 have F:(0<=x/\x<100/\0<=s/\s<100)/\d.length<=1000:=by
  simp only [vr,aA,ck] at hs;exact ⟨hs.1,aI hs.2⟩
 obtain ⟨⟨hx0,hx1,hs0,hs1⟩,hd⟩:=F;clear hs;obtain ⟨x,rfl⟩:∃i:Nat,x=(i:Int):=⟨x.toNat,by omega⟩;obtain ⟨s,rfl⟩:∃i:Nat,s=(i:Int):=⟨s.toNat,by omega⟩;have mixed:Tryz.prog.follows .mixedOrders=true:=by kernel_rfl
 go_enter Tryz.func138,Tryz.ntmps138
 go_wp2_with (go_at_call 174;refine (ychk n g l d x s 0 h _ (Z.alloc _)).mono ?_)
 rintro e a ⟨rfl,b1⟩;have V:=Wu b1;have h0:Lib.IsBuilder 238 5 a.heap.size a.heap.size [] (a.alloc (.cells #[.pointer none,.slice none 0 0] 238)):=Lib.fresh_isBuilder 238 5 a;have a1:Below a.heap.size a (a.alloc (.cells #[.pointer none,.slice none 0 0] 238)):=(Below.refl _ a).alloc (aW _) _;have b:∀{j:World} (_:Below a.heap.size a j),j.cell? ⟨w.heap.size,0,none⟩=some (.bool g)/\j.cell? ⟨w.heap.size,1,none⟩=some (.bool l)/\j.cell? ⟨w.heap.size,2,none⟩=some (.string ⟨d.toArray⟩)/\j.cell? ⟨w.heap.size,3,none⟩=some (.int .i64 x)/\j.cell? ⟨w.heap.size,4,none⟩=some (.int .i64 s):=by
  intro j hb;have y:w.heap.size<a.heap.size:=by
   have:=b1.size;have t:(w.alloc (.cells #[.bool g,.bool l,.string ⟨d.toArray⟩,.int .i64 x,.int .i64 s] 24)).heap.size=w.heap.size+1:=by show (w.heap.push _).size=_;simp
   omega
  refine ⟨?_,?_,?_,?_,?_⟩<;>rw [hb.cell (p:=⟨w.heap.size,_,none⟩) y,V]<;>rfl
 obtain ⟨o,q,k,c3,m⟩:=b a1
 go_wp2_with (go_at_call 175;refine (NT l ⟨#[89]⟩ a.heap.size a.heap.size _ _ h0 (by decide) a1.size).mono ?_)
 rintro e W2 ⟨rfl,P,b2⟩;have a2:=a1.trans b2;have E:=tX l [] ⟨#[89]⟩;obtain ⟨o,q,k,c3,m⟩:=b a2;have z1:(⟨#[89]⟩:ByteArray).size=1:=rfl;have z2:(⟨#[45]⟩:ByteArray).size=1:=rfl;rw [z1] at E;simp only [aX] at E;generalize U:sG l [] (Lib.strCells ⟨#[89]⟩)=H at P E
 go_wp2_with (go_at_call 175;refine (NT g ⟨#[45]⟩ a.heap.size a.heap.size H W2 P (by rw [z2];omega) a2.size).mono ?_)
 rintro e W ⟨rfl,t,b3⟩;have G:=a2.trans b3;have Q:=tX g H ⟨#[45]⟩;obtain ⟨o,q,k,c3,m⟩:=b G;rw [z2] at Q;generalize S:sG g H (Lib.strCells ⟨#[45]⟩)=u at t Q;have I:(⟨d.toArray⟩:ByteArray).size=d.length:=by show d.toArray.size=_;simp
 go_wp2_with (go_at_call 175;refine (NT true ⟨d.toArray⟩ a.heap.size a.heap.size u W t (by rw [I];omega) G.size).mono ?_)
 rintro e z ⟨rfl,J,X⟩;have N:=G.trans X;have O:=tX true u ⟨d.toArray⟩;obtain ⟨o,q,k,c3,m⟩:=b N;rw [I] at O;generalize T:sG true u (Lib.strCells ⟨d.toArray⟩)=r at J O;have h3':Lib.IsBuilder 238 5 a.heap.size a.heap.size r z.drew:=J;have a4':=N.drew;obtain ⟨o,q,k,c3,m⟩:=b a4';have two (x:Nat) (hx:x<100):(Lib.decDigits x).length<=2:=by
  by_cases h:x<10
  ·rw [Lib.decDigits_one h];simp
  ·rw [Lib.decDigits_two h hx];simp
 have f (c:UInt8) (x:Nat) (hx:x<100):((⟨#[c]⟩:ByteArray)++⟨(Lib.decDigits x).toArray⟩).size<=3:=by
  have t:=two x hx;rw [ByteArray.size_append];show 1+(Lib.decDigits x).toArray.size<=3;simp only [wU];omega
 have room (x:Nat) (hx:x<100):¬9223372036854775807<1+(Lib.decDigits x).length:=by
  have:=two x hx;omega
 have rx:=room x (by omega);have rs:=room s (by omega)
 go_wp2_with fail
 refine wp_region_still_tail 8 mixed (by kernel_rfl) ?_;simp only [n6,lX,nO,cf]
 repeat still_step
 still_call (Tryz.strconv_Itoa_small x (by omega) _)
 still_step
 refine wpStill_nil ?_;change wpList _ _ _ _ _ z.drew;have ex:(Value.bool (decide (0<x)))=.bool (decide (0<x)):=rfl;have lx:=f 69 x (by omega);have ls:=f 83 s (by omega);generalize v:((⟨#[69]⟩:ByteArray)++⟨(Lib.decDigits x).toArray⟩)=C at lx
 go_wp2_with (go_at_call 175;refine (NT (decide (0<x)) C a.heap.size a.heap.size r z.drew h3' (by omega) a4'.size).mono ?_)
 rintro e B ⟨rfl,R,b5⟩;have a5:=a4'.trans b5;have n4:=tX (decide (0<x)) r C;generalize e4:sG (decide (0<x)) r (Lib.strCells C)=D at R n4;have h4':Lib.IsBuilder 238 5 a.heap.size a.heap.size D B.drew:=R;have a5':=a5.drew;obtain ⟨o,q,k,c3,m⟩:=b a5'
 go_wp2_with fail
 refine wp_region_still_tail 8 mixed (by kernel_rfl) ?_;simp only [n6,lX,nO,cf]
 repeat still_step
 still_call (Tryz.strconv_Itoa_small s (by omega) _)
 still_step
 refine wpStill_nil ?_;change wpList _ _ _ _ _ B.drew;generalize A:((⟨#[83]⟩:ByteArray)++⟨(Lib.decDigits s).toArray⟩)=K at ls
 go_wp2_with (go_at_call 175;refine (NT (decide (0<s)) K a.heap.size a.heap.size D B.drew h4' (by omega) a5'.size).mono ?_)
 rintro e W6 ⟨rfl,L,Y⟩;have M:=a5'.trans Y;have e6:sG (decide (0<s)) D (Lib.strCells K)=Lib.byteCells (gM g l d x s):=by
  subst U S T e4 v A;exact XL g l d x s
 rw [e6] at L
 go_wp2_with (go_at_call 178;refine (Tryz.Builder_String_any a.heap.size a.heap.size (gM g l d x s) W6 L M.size).mono ?_)
 rintro e W7 ⟨rfl,b7⟩
 go_wp2
 go_ret2
 refine ⟨rfl,yF _ (b1.trans ((M.trans b7).mono b1.size))⟩
end Go.Sh
