
/- The text of a year: the walk of yearforms.Text, which writes to a strings.Builder.
   Conditions: none. -/
import Derived.Test.YthemneooekobkaaGreatDoorCeP
import Derived.StillTailTactics
set_option linter.unusedSimpArgs false
set_option linter.unusedVariables false
set_option maxRecDepth 100000
namespace Go.Sh
open Go.Abs Go.Proofs Go.RowKit
def sZ (b:Bool) (a more:List Value):List Value:=cond b (a++more) a
theorem uL (b:Bool) (a:List Value) (s:ByteArray):(sZ b a (Lib.strCells s)).length<=a.length+s.size:=by
 have:(Lib.strCells s).length=s.size:=by rw [Lib.strCells_eq,Lib.byteCells,vH];rfl
 unfold sZ;cases b
 ·simp
 ·simp [this]
theorem OZ (d:Bool) (s:ByteArray) (B b:Nat) (c:List Value) (w:World) (g:Lib.IsBuilder 217 5 B b c w) (a:c.length+s.size<=140737488355328) (f:B<=w.heap.size):
  Calls Tryz.prog 190 #[.bool d,.string s,.pointer (some ⟨b,0,none⟩)] w λe w'=>e=.returned (.tuple #[])/\Lib.IsBuilder 217 5 B b (sZ d c (Lib.strCells s)) w'/\Below B w w':=by
 go_enter Tryz.func190,Tryz.ntmps190
 cases d
 ·go_wp2
  go_end0
  exact ⟨rfl,g,Below.refl _ _⟩
 ·go_wp2_with (go_at_call 165;refine (Tryz.Builder_WriteString B b c s _ g a f).mono ?_)
  rintro e w' ⟨rfl,h,i⟩
  go_wp2
  go_end0
  exact ⟨rfl,Or.inr h,i⟩
theorem zA {w w':World} (o:Obj) (h:Below (w.alloc o).heap.size (w.alloc o) w'):Below w.heap.size w w':=by
 have a:Below w.heap.size w (w.alloc o):=(Below.refl _ w).alloc (aX _) _;refine a.trans ⟨h.os,h.tape,h.output,h.size,λk b=>h.block k ?_⟩;have:=a.size;omega
theorem ychk (n:Nat) (g l:Bool) (d:aa) (x s r:Int) (h:cH n g l d x s=some r) (w:World) (a:GL gS w):
  Calls Tryz.prog 189 #[.agg #[.bool g,.bool l,.string ⟨d.toArray⟩,.int .i64 x,.int .i64 s]] w λe w'=>e=.returned (.int .i64 r)/\Below w.heap.size w w':=by
 refine (pure_yearforms_Check n (g,l,d,x,s) r h w _ a ?_).mono λe w' ⟨v,c,b,f⟩=>⟨?_,f.below⟩
 ·exact ⟨_,_,rfl,⟨_,rfl,⟨_,_,rfl,rfl,_,_,rfl,rfl,_,_,rfl,rfl,_,_,rfl,rfl,_,_,rfl,rfl,rfl⟩⟩,rfl⟩
 ·have:v=.int .i64 r:=b;rw [c,this]
theorem NH (n:Nat) (g l:Bool) (d:aa) (x s r:Int) (w:World) (h:cH n g l d x s=some r) (b:r≠0) (a:GL gS w):
  Calls Tryz.prog 137 #[.agg #[.bool g,.bool l,.string ⟨d.toArray⟩,.int .i64 x,.int .i64 s]] w λe w'=>e=.returned (.tuple #[.string ⟨#[]⟩,.int .i64 r])/\Below w.heap.size w w':=by
 go_enter Tryz.func137,Tryz.ntmps137
 go_wp2_with (go_at_call 189;refine (ychk n g l d x s r h _ (a.alloc _)).mono ?_)
 rintro e c ⟨rfl,b1⟩
 go_wp2
 go_ret2
 exact ⟨rfl,zA _ b1⟩
theorem Xt {w w':World} {c:Array Value} {e:TypeId} (a:Below (w.alloc (.cells c e)).heap.size (w.alloc (.cells c e)) w') (j:Nat):w'.cell? ⟨w.heap.size,j,none⟩=c[j]?:=by
 have h:w'.heap[w.heap.size]?=some (.cells c e (0,0)):=by
  rw [a.block _ (by show w.heap.size<(w.heap.push _).size;simp)];exact ko w _
 exact bi h
theorem D2 (c:UInt8) (l:aa):Lib.strCells ((⟨#[c]⟩:ByteArray)++⟨l.toArray⟩)=Lib.byteCells (c::l):=by
 rw [Lib.strCells_eq,ByteArray.data_append];simp
theorem G6 (c:Bool) (a b:aa):sZ c (Lib.byteCells a) (Lib.byteCells b)=Lib.byteCells (a++cond c b []):=by
 cases c
 ·simp [sZ]
 ·simp [sZ,Lib.byteCells_append]
theorem Zg (g l:Bool) (d:aa) (x s:Nat):
  sZ (decide (0<s)) (sZ (decide (0<x)) (sZ true (sZ g (sZ l [] (Lib.strCells ⟨#[89]⟩)) (Lib.strCells ⟨#[45]⟩)) (Lib.strCells ⟨d.toArray⟩)) (Lib.strCells ((⟨#[69]⟩:ByteArray)++⟨(Lib.decDigits x).toArray⟩)))
   (Lib.strCells ((⟨#[83]⟩:ByteArray)++⟨(Lib.decDigits s).toArray⟩))=Lib.byteCells (gQ g l d x s):=by
 have e:Lib.strCells ⟨#[89]⟩=Lib.byteCells [89]:=rfl;have j:Lib.strCells ⟨#[45]⟩=Lib.byteCells [45]:=rfl;have k:Lib.strCells ⟨d.toArray⟩=Lib.byteCells d:=by rw [Lib.strCells_eq]
 have f:([]:List Value)=Lib.byteCells []:=rfl;rw [D2,D2,e,j,k,f];simp only [G6];congr 1;have c {α:Type} (p:Prop) [Decidable p] (a b:List α):cond (decide p) a b=if p then a else b:=by by_cases h:p<;>simp [h]
 have i {α:Type} (p:Bool) (a b:List α):cond p a b=if p then a else b:=by cases p<;>rfl
 simp only [gQ,bO,Int.natCast_pos,c,dS,i];simp
set_option maxHeartbeats 2000000 in
theorem RH (n:Nat) (g l:Bool) (d:aa) (x s:Int) (w:World) (h:cH n g l d x s=some 0) (hs:vY d x s=true) (hg:GL gS w):
  Calls Tryz.prog 137 #[.agg #[.bool g,.bool l,.string ⟨d.toArray⟩,.int .i64 x,.int .i64 s]] w λe w'=>e=.returned (.tuple #[.string ⟨(gQ g l d x s).toArray⟩,.int .i64 0])/\Below w.heap.size w w':=by
 have z:(0<=x/\x<100/\0<=s/\s<100)/\d.length<=1000:=by
  simp only [vY,az,cg] at hs;exact ⟨hs.1,aL hs.2⟩
 obtain ⟨⟨U,Z,T,hs1⟩,hd⟩:=z;clear hs;obtain ⟨x,rfl⟩:∃i:Nat,x=(i:Int):=⟨x.toNat,by omega⟩;obtain ⟨s,rfl⟩:∃i:Nat,s=(i:Int):=⟨s.toNat,by omega⟩;have mixed:Tryz.prog.follows .mixedOrders=true:=by kernel_rfl
 go_enter Tryz.func137,Tryz.ntmps137
 go_wp2_with (go_at_call 189;refine (ychk n g l d x s 0 h _ (hg.alloc _)).mono ?_)
 rintro e a ⟨rfl,b1⟩;have q1:=Xt b1;have h0:Lib.IsBuilder 217 5 a.heap.size a.heap.size [] (a.alloc (.cells #[.pointer none,.slice none 0 0] 217)):=Lib.fresh_isBuilder 217 5 a;have a1:Below a.heap.size a (a.alloc (.cells #[.pointer none,.slice none 0 0] 217)):=(Below.refl _ a).alloc (aX _) _;have b:∀{j:World} (_:Below a.heap.size a j),j.cell? ⟨w.heap.size,0,none⟩=some (.bool g)/\j.cell? ⟨w.heap.size,1,none⟩=some (.bool l)/\j.cell? ⟨w.heap.size,2,none⟩=some (.string ⟨d.toArray⟩)/\j.cell? ⟨w.heap.size,3,none⟩=some (.int .i64 x)/\j.cell? ⟨w.heap.size,4,none⟩=some (.int .i64 s):=by
  intro j V;have C:w.heap.size<a.heap.size:=by
   have:=b1.size;have u:(w.alloc (.cells #[.bool g,.bool l,.string ⟨d.toArray⟩,.int .i64 x,.int .i64 s] 32)).heap.size=w.heap.size+1:=by show (w.heap.push _).size=_;simp
   omega
  refine ⟨?_,?_,?_,?_,?_⟩<;>rw [V.cell (p:=⟨w.heap.size,_,none⟩) C,q1]<;>rfl
 obtain ⟨o,k,r,m,q⟩:=b a1
 go_wp2_with (go_at_call 190;refine (OZ l ⟨#[89]⟩ a.heap.size a.heap.size _ _ h0 (by decide) a1.size).mono ?_)
 rintro e W2 ⟨rfl,M,b2⟩;have a2:=a1.trans b2;have E:=uL l [] ⟨#[89]⟩;obtain ⟨o,k,r,m,q⟩:=b a2;have z1:(⟨#[89]⟩:ByteArray).size=1:=rfl;have z2:(⟨#[45]⟩:ByteArray).size=1:=rfl;rw [z1] at E;simp only [bh] at E;generalize e1:sZ l [] (Lib.strCells ⟨#[89]⟩)=G at M E
 go_wp2_with (go_at_call 190;refine (OZ g ⟨#[45]⟩ a.heap.size a.heap.size G W2 M (by rw [z2];omega) a2.size).mono ?_)
 rintro e W3 ⟨rfl,u,b3⟩;have A:=a2.trans b3;have K:=uL g G ⟨#[45]⟩;obtain ⟨o,k,r,m,q⟩:=b A;rw [z2] at K;generalize e2:sZ g G (Lib.strCells ⟨#[45]⟩)=v at u K;have Q:(⟨d.toArray⟩:ByteArray).size=d.length:=by show d.toArray.size=_;simp
 go_wp2_with (go_at_call 190;refine (OZ true ⟨d.toArray⟩ a.heap.size a.heap.size v W3 u (by rw [Q];omega) A.size).mono ?_)
 rintro e B ⟨rfl,R,b4⟩;have O:=A.trans b4;have P:=uL true v ⟨d.toArray⟩;obtain ⟨o,k,r,m,q⟩:=b O;rw [Q] at P;generalize e3:sZ true v (Lib.strCells ⟨d.toArray⟩)=t at R P;have h3':Lib.IsBuilder 217 5 a.heap.size a.heap.size t B.drew:=R;have a4':=O.drew;obtain ⟨o,k,r,m,q⟩:=b a4';have two (x:Nat) (hx:x<100):(Lib.decDigits x).length<=2:=by
  by_cases h:x<10
  ·rw [Lib.decDigits_one h];simp
  ·rw [Lib.decDigits_two h hx];simp
 have f (c:UInt8) (x:Nat) (hx:x<100):((⟨#[c]⟩:ByteArray)++⟨(Lib.decDigits x).toArray⟩).size<=3:=by
  have u:=two x hx;rw [ByteArray.size_append];show 1+(Lib.decDigits x).toArray.size<=3;simp only [y4];omega
 have room (x:Nat) (hx:x<100):¬9223372036854775807<1+(Lib.decDigits x).length:=by
  have:=two x hx;omega
 have rx:=room x (by omega);have rs:=room s (by omega)
 go_wp2_with fail
 refine wp_region_still_tail 8 mixed (by kernel_rfl) ?_;simp only [np,nj,oM,cU]
 repeat still_step
 still_call (Tryz.strconv_Itoa_small x (by omega) _)
 still_step
 refine wpStill_nil ?_;change wpList _ _ _ _ _ B.drew;have ex:(Value.bool (decide (0<x)))=.bool (decide (0<x)):=rfl;have lx:=f 69 x (by omega);have ls:=f 83 s (by omega);generalize H:((⟨#[69]⟩:ByteArray)++⟨(Lib.decDigits x).toArray⟩)=I at lx
 go_wp2_with (go_at_call 190;refine (OZ (decide (0<x)) I a.heap.size a.heap.size t B.drew h3' (by omega) a4'.size).mono ?_)
 rintro e D ⟨rfl,J,b5⟩;have a5:=a4'.trans b5;have n4:=uL (decide (0<x)) t I;generalize Y:sZ (decide (0<x)) t (Lib.strCells I)=F at J n4;have h4':Lib.IsBuilder 217 5 a.heap.size a.heap.size F D.drew:=J;have a5':=a5.drew;obtain ⟨o,k,r,m,q⟩:=b a5'
 go_wp2_with fail
 refine wp_region_still_tail 8 mixed (by kernel_rfl) ?_;simp only [np,nj,oM,cU]
 repeat still_step
 still_call (Tryz.strconv_Itoa_small s (by omega) _)
 still_step
 refine wpStill_nil ?_;change wpList _ _ _ _ _ D.drew;generalize y:((⟨#[83]⟩:ByteArray)++⟨(Lib.decDigits s).toArray⟩)=L at ls
 go_wp2_with (go_at_call 190;refine (OZ (decide (0<s)) L a.heap.size a.heap.size F D.drew h4' (by omega) a5'.size).mono ?_)
 rintro e X ⟨rfl,N,b6⟩;have S:=a5'.trans b6;have W:sZ (decide (0<s)) F (Lib.strCells L)=Lib.byteCells (gQ g l d x s):=by
  subst e1 e2 e3 Y H y;exact Zg g l d x s
 rw [W] at N
 go_wp2_with (go_at_call 169;refine (Tryz.Builder_String_any a.heap.size a.heap.size (gQ g l d x s) X N S.size).mono ?_)
 rintro e W7 ⟨rfl,b7⟩
 go_wp2
 go_ret2
 refine ⟨rfl,zA _ (b1.trans ((S.trans b7).mono b1.size))⟩
end Go.Sh
