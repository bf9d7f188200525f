
/- The text of a year: the walk of yearforms.Text, which writes to a strings.Builder.
   Conditions: none. -/
import Derived.Test.YtfiponokimbeeaaGreatDoorCeR
import Derived.StillTailTactics
set_option linter.unusedSimpArgs false
set_option linter.unusedVariables false
set_option maxRecDepth 100000
namespace Go.Sh
open Go.Abs Go.Proofs Go.RowKit
def rX (b:Bool) (a more:List Value):List Value:=cond b (a++more) a
theorem tY (a:Bool) (b:List Value) (s:ByteArray):(rX a b (Lib.strCells s)).length<=b.length+s.size:=by
 have:(Lib.strCells s).length=s.size:=by rw [Lib.strCells_eq,Lib.byteCells,uV];rfl
 unfold rX;cases a
 ·simp
 ·simp [this]
theorem JD (f:Bool) (s:ByteArray) (B b:Nat) (c:List Value) (w:World) (g:Lib.IsBuilder 178 5 B b c w) (a:c.length+s.size<=140737488355328) (d:B<=w.heap.size):
  Calls Tryz.prog 104 #[.bool f,.string s,.pointer (some ⟨b,0,none⟩)] w λe w'=>e=.returned (.tuple #[])/\Lib.IsBuilder 178 5 B b (rX f c (Lib.strCells s)) w'/\Below B w w':=by
 go_enter Tryz.func104,Tryz.ntmps104
 cases f
 ·go_wp2
  go_end0
  exact ⟨rfl,g,Below.refl _ _⟩
 ·go_wp2_with (go_at_call 105;refine (Tryz.Builder_WriteString B b c s _ g a d).mono ?_)
  rintro e w' ⟨rfl,h,i⟩
  go_wp2
  go_end0
  exact ⟨rfl,Or.inr h,i⟩
theorem xd {w w':World} (o:Obj) (h:Below (w.alloc o).heap.size (w.alloc o) w'):Below w.heap.size w w':=by
 have a:Below w.heap.size w (w.alloc o):=(Below.refl _ w).alloc (aY _) _;refine a.trans ⟨h.os,h.tape,h.output,h.size,λk b=>h.block k ?_⟩;have:=a.size;omega
theorem ychk (n:Nat) (g l:Bool) (d:aa) (x s r:Int) (h:cG n g l d x s=some r) (w:World) (f:GL ie w):
  Calls Tryz.prog 103 #[.agg #[.bool g,.bool l,.string ⟨d.toArray⟩,.int .i64 x,.int .i64 s]] w λe w'=>e=.returned (.int .i64 r)/\Below w.heap.size w w':=by
 refine (pure_yearforms_Check n (g,l,d,x,s) r h w _ f ?_).mono λe w' ⟨v,b,c,a⟩=>⟨?_,a.below⟩
 ·exact ⟨_,_,rfl,⟨_,rfl,⟨_,_,rfl,rfl,_,_,rfl,rfl,_,_,rfl,rfl,_,_,rfl,rfl,_,_,rfl,rfl,rfl⟩⟩,rfl⟩
 ·have:v=.int .i64 r:=c;rw [b,this]
theorem JM (n:Nat) (g l:Bool) (d:aa) (x s r:Int) (w:World) (h:cG n g l d x s=some r) (c:r≠0) (a:GL ie w):
  Calls Tryz.prog 57 #[.agg #[.bool g,.bool l,.string ⟨d.toArray⟩,.int .i64 x,.int .i64 s]] w λe w'=>e=.returned (.tuple #[.string ⟨#[]⟩,.int .i64 r])/\Below w.heap.size w w':=by
 go_enter Tryz.func57,Tryz.ntmps57
 go_wp2_with (go_at_call 103;refine (ychk n g l d x s r h _ (a.alloc _)).mono ?_)
 rintro e b ⟨rfl,b1⟩
 go_wp2
 go_ret2
 exact ⟨rfl,xd _ b1⟩
theorem UO {w w':World} {c:Array Value} {e:TypeId} (a:Below (w.alloc (.cells c e)).heap.size (w.alloc (.cells c e)) w') (j:Nat):w'.cell? ⟨w.heap.size,j,none⟩=c[j]?:=by
 have h:w'.heap[w.heap.size]?=some (.cells c e (0,0)):=by
  rw [a.block _ (by show w.heap.size<(w.heap.push _).size;simp)];exact jW w _
 exact bp h
theorem C5 (c:UInt8) (l:aa):Lib.strCells ((⟨#[c]⟩:ByteArray)++⟨l.toArray⟩)=Lib.byteCells (c::l):=by
 rw [Lib.strCells_eq,ByteArray.data_append];simp
theorem Et (c:Bool) (a b:aa):rX c (Lib.byteCells a) (Lib.byteCells b)=Lib.byteCells (a++cond c b []):=by
 cases c
 ·simp [rX]
 ·simp [rX,Lib.byteCells_append]
theorem Xw (g l:Bool) (d:aa) (x s:Nat):
  rX (decide (0<s)) (rX (decide (0<x)) (rX true (rX g (rX l [] (Lib.strCells ⟨#[89]⟩)) (Lib.strCells ⟨#[45]⟩)) (Lib.strCells ⟨d.toArray⟩)) (Lib.strCells ((⟨#[69]⟩:ByteArray)++⟨(Lib.decDigits x).toArray⟩)))
   (Lib.strCells ((⟨#[83]⟩:ByteArray)++⟨(Lib.decDigits s).toArray⟩))=Lib.byteCells (gk g l d x s):=by
 have e:Lib.strCells ⟨#[89]⟩=Lib.byteCells [89]:=rfl;have k:Lib.strCells ⟨#[45]⟩=Lib.byteCells [45]:=rfl;have c:Lib.strCells ⟨d.toArray⟩=Lib.byteCells d:=by rw [Lib.strCells_eq]
 have f:([]:List Value)=Lib.byteCells []:=rfl;rw [C5,C5,e,k,c,f];simp only [Et];congr 1;have i {α:Type} (p:Prop) [Decidable p] (a b:List α):cond (decide p) a b=if p then a else b:=by by_cases h:p<;>simp [h]
 have j {α:Type} (p:Bool) (a b:List α):cond p a b=if p then a else b:=by cases p<;>rfl
 simp only [gk,cf,Int.natCast_pos,i,eK,j];simp
set_option maxHeartbeats 2000000 in
theorem PZ (n:Nat) (g l:Bool) (d:aa) (x s:Int) (w:World) (h:cG n g l d x s=some 0) (hs:vh d x s=true) (hg:GL ie w):
  Calls Tryz.prog 57 #[.agg #[.bool g,.bool l,.string ⟨d.toArray⟩,.int .i64 x,.int .i64 s]] w λe w'=>e=.returned (.tuple #[.string ⟨(gk g l d x s).toArray⟩,.int .i64 0])/\Below w.heap.size w w':=by
 have z:(0<=x/\x<100/\0<=s/\s<100)/\d.length<=1000:=by
  simp only [vh,az,cj] at hs;exact ⟨hs.1,aI hs.2⟩
 obtain ⟨⟨hx0,W,T,Z⟩,hd⟩:=z;clear hs;obtain ⟨x,rfl⟩:∃i:Nat,x=(i:Int):=⟨x.toNat,by omega⟩;obtain ⟨s,rfl⟩:∃i:Nat,s=(i:Int):=⟨s.toNat,by omega⟩;have mixed:Tryz.prog.follows .mixedOrders=true:=by kernel_rfl
 go_enter Tryz.func57,Tryz.ntmps57
 go_wp2_with (go_at_call 103;refine (ychk n g l d x s 0 h _ (hg.alloc _)).mono ?_)
 rintro e a ⟨rfl,b1⟩;have q1:=UO b1;have h0:Lib.IsBuilder 178 5 a.heap.size a.heap.size [] (a.alloc (.cells #[.pointer none,.slice none 0 0] 178)):=Lib.fresh_isBuilder 178 5 a;have a1:Below a.heap.size a (a.alloc (.cells #[.pointer none,.slice none 0 0] 178)):=(Below.refl _ a).alloc (aY _) _;have b:∀{j:World} (_:Below a.heap.size a j),j.cell? ⟨w.heap.size,0,none⟩=some (.bool g)/\j.cell? ⟨w.heap.size,1,none⟩=some (.bool l)/\j.cell? ⟨w.heap.size,2,none⟩=some (.string ⟨d.toArray⟩)/\j.cell? ⟨w.heap.size,3,none⟩=some (.int .i64 x)/\j.cell? ⟨w.heap.size,4,none⟩=some (.int .i64 s):=by
  intro j hb;have y:w.heap.size<a.heap.size:=by
   have:=b1.size;have t:(w.alloc (.cells #[.bool g,.bool l,.string ⟨d.toArray⟩,.int .i64 x,.int .i64 s] 27)).heap.size=w.heap.size+1:=by show (w.heap.push _).size=_;simp
   omega
  refine ⟨?_,?_,?_,?_,?_⟩<;>rw [hb.cell (p:=⟨w.heap.size,_,none⟩) y,q1]<;>rfl
 obtain ⟨k,m,o,q,c4⟩:=b a1
 go_wp2_with (go_at_call 104;refine (JD l ⟨#[89]⟩ a.heap.size a.heap.size _ _ h0 (by decide) a1.size).mono ?_)
 rintro e W2 ⟨rfl,I,b2⟩;have a2:=a1.trans b2;have D:=tY l [] ⟨#[89]⟩;obtain ⟨k,m,o,q,c4⟩:=b a2;have z1:(⟨#[89]⟩:ByteArray).size=1:=rfl;have z2:(⟨#[45]⟩:ByteArray).size=1:=rfl;rw [z1] at D;simp only [ba] at D;generalize e1:rX l [] (Lib.strCells ⟨#[89]⟩)=v at I D
 go_wp2_with (go_at_call 104;refine (JD g ⟨#[45]⟩ a.heap.size a.heap.size v W2 I (by rw [z2];omega) a2.size).mono ?_)
 rintro e U ⟨rfl,t,b3⟩;have H:=a2.trans b3;have Q:=tY g v ⟨#[45]⟩;obtain ⟨k,m,o,q,c4⟩:=b H;rw [z2] at Q;generalize X:rX g v (Lib.strCells ⟨#[45]⟩)=B at t Q;have K:(⟨d.toArray⟩:ByteArray).size=d.length:=by show d.toArray.size=_;simp
 go_wp2_with (go_at_call 104;refine (JD true ⟨d.toArray⟩ a.heap.size a.heap.size B U t (by rw [K];omega) H.size).mono ?_)
 rintro e E ⟨rfl,O,b4⟩;have J:=H.trans b4;have P:=tY true B ⟨d.toArray⟩;obtain ⟨k,m,o,q,c4⟩:=b J;rw [K] at P;generalize e3:rX true B (Lib.strCells ⟨d.toArray⟩)=r at O P;have h3':Lib.IsBuilder 178 5 a.heap.size a.heap.size r E.drew:=O;have a4':=J.drew;obtain ⟨k,m,o,q,c4⟩:=b a4';have two (x:Nat) (hx:x<100):(Lib.decDigits x).length<=2:=by
  by_cases h:x<10
  ·rw [Lib.decDigits_one h];simp
  ·rw [Lib.decDigits_two h hx];simp
 have f (c:UInt8) (x:Nat) (hx:x<100):((⟨#[c]⟩:ByteArray)++⟨(Lib.decDigits x).toArray⟩).size<=3:=by
  have t:=two x hx;rw [ByteArray.size_append];show 1+(Lib.decDigits x).toArray.size<=3;simp only [ym];omega
 have room (x:Nat) (hx:x<100):¬9223372036854775807<1+(Lib.decDigits x).length:=by
  have:=two x hx;omega
 have rx:=room x (by omega);have rs:=room s (by omega)
 go_wp2_with fail
 refine wp_region_still_tail 8 mixed (by kernel_rfl) ?_;simp only [nF,mH,oJ,cM]
 repeat still_step
 still_call (Tryz.strconv_Itoa_small x (by omega) _)
 still_step
 refine wpStill_nil ?_;change wpList _ _ _ _ _ E.drew;have ex:(Value.bool (decide (0<x)))=.bool (decide (0<x)):=rfl;have Y:=f 69 x (by omega);have ls:=f 83 s (by omega);generalize A:((⟨#[69]⟩:ByteArray)++⟨(Lib.decDigits x).toArray⟩)=G at Y
 go_wp2_with (go_at_call 104;refine (JD (decide (0<x)) G a.heap.size a.heap.size r E.drew h3' (by omega) a4'.size).mono ?_)
 rintro e F ⟨rfl,R,b5⟩;have S:=a4'.trans b5;have n4:=tY (decide (0<x)) r G;generalize V:rX (decide (0<x)) r (Lib.strCells G)=C at R n4;have h4':Lib.IsBuilder 178 5 a.heap.size a.heap.size C F.drew:=R;have a5':=S.drew;obtain ⟨k,m,o,q,c4⟩:=b a5'
 go_wp2_with fail
 refine wp_region_still_tail 8 mixed (by kernel_rfl) ?_;simp only [nF,mH,oJ,cM]
 repeat still_step
 still_call (Tryz.strconv_Itoa_small s (by omega) _)
 still_step
 refine wpStill_nil ?_;change wpList _ _ _ _ _ F.drew;generalize u:((⟨#[83]⟩:ByteArray)++⟨(Lib.decDigits s).toArray⟩)=M at ls
 go_wp2_with (go_at_call 104;refine (JD (decide (0<s)) M a.heap.size a.heap.size C F.drew h4' (by omega) a5'.size).mono ?_)
 rintro e W6 ⟨rfl,L,b6⟩;have N:=a5'.trans b6;have e6:rX (decide (0<s)) C (Lib.strCells M)=Lib.byteCells (gk g l d x s):=by
  subst e1 X e3 V A u;exact Xw g l d x s
 rw [e6] at L
 go_wp2_with (go_at_call 107;refine (Tryz.Builder_String_any a.heap.size a.heap.size (gk g l d x s) W6 L N.size).mono ?_)
 rintro e W7 ⟨rfl,b7⟩
 go_wp2
 go_ret2
 refine ⟨rfl,xd _ (b1.trans ((N.trans b7).mono b1.size))⟩
end Go.Sh
