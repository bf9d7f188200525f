
/- The text of a year: the walk of yearforms.Text, which writes to a strings.Builder.
   Conditions: none. -/
import Derived.Test.YtaogbalpingjhaaGreatDoorCeT
import Derived.StillTailTactics
set_option linter.unusedSimpArgs false
set_option linter.unusedVariables false
set_option maxRecDepth 100000
namespace Go.Sh
open Go.Abs Go.Proofs Go.RowKit
def mm (b:Bool) (a more:List Value):List Value:=cond b (a++more) a
theorem nL (a:Bool) (b:List Value) (s:ByteArray):(mm a b (Lib.strCells s)).length<=b.length+s.size:=by
 have:(Lib.strCells s).length=s.size:=by rw [Lib.strCells_eq,Lib.byteCells,yQ];rfl
 unfold mm;cases a
 ·simp
 ·simp [this]
theorem DF (f:Bool) (s:ByteArray) (B b:Nat) (c:List Value) (w:World) (g:Lib.IsBuilder 82 5 B b c w) (a:c.length+s.size<=140737488355328) (d:B<=w.heap.size):
  Calls Tryz.prog 30 #[.bool f,.string s,.pointer (some ⟨b,0,none⟩)] w λe w'=>e=.returned (.tuple #[])/\Lib.IsBuilder 82 5 B b (mm f c (Lib.strCells s)) w'/\Below B w w':=by
 go_enter Tryz.func30,Tryz.ntmps30
 cases f
 ·go_wp2
  go_end0
  exact ⟨rfl,g,Below.refl _ _⟩
 ·go_wp2_with (go_at_call 31;refine (Tryz.Builder_WriteString B b c s _ g a d).mono ?_)
  rintro e w' ⟨rfl,h,i⟩
  go_wp2
  go_end0
  exact ⟨rfl,Or.inr h,i⟩
theorem qf {w w':World} (o:Obj) (h:Below (w.alloc o).heap.size (w.alloc o) w'):Below w.heap.size w w':=by
 have a:Below w.heap.size w (w.alloc o):=(Below.refl _ w).alloc (aL _) _;refine a.trans ⟨h.os,h.tape,h.output,h.size,λk b=>h.block k ?_⟩;have:=a.size;omega
theorem ychk (n:Nat) (g l:Bool) (d:aa) (x s r:Int) (h:bi n g l d x s=some r) (w:World) (a:GL dH w):
  Calls Tryz.prog 29 #[.agg #[.bool g,.bool l,.string ⟨d.toArray⟩,.int .i64 x,.int .i64 s]] w λe w'=>e=.returned (.int .i64 r)/\Below w.heap.size w w':=by
 refine (pure_yearforms_Check n (g,l,d,x,s) r h w _ a ?_).mono λe w' ⟨v,f,c,b⟩=>⟨?_,b.below⟩
 ·exact ⟨_,_,rfl,⟨_,rfl,⟨_,_,rfl,rfl,_,_,rfl,rfl,_,_,rfl,rfl,_,_,rfl,rfl,_,_,rfl,rfl,rfl⟩⟩,rfl⟩
 ·have:v=.int .i64 r:=c;rw [f,this]
theorem AY (n:Nat) (g l:Bool) (d:aa) (x s r:Int) (w:World) (h:bi n g l d x s=some r) (c:r≠0) (a:GL dH w):
  Calls Tryz.prog 7 #[.agg #[.bool g,.bool l,.string ⟨d.toArray⟩,.int .i64 x,.int .i64 s]] w λe w'=>e=.returned (.tuple #[.string ⟨#[]⟩,.int .i64 r])/\Below w.heap.size w w':=by
 go_enter Tryz.func7,Tryz.ntmps7
 go_wp2_with (go_at_call 29;refine (ychk n g l d x s r h _ (a.alloc _)).mono ?_)
 rintro e f ⟨rfl,b⟩
 go_wp2
 go_ret2
 exact ⟨rfl,qf _ b⟩
theorem IX {w w':World} {c:Array Value} {e:TypeId} (a:Below (w.alloc (.cells c e)).heap.size (w.alloc (.cells c e)) w') (j:Nat):w'.cell? ⟨w.heap.size,j,none⟩=c[j]?:=by
 have h:w'.heap[w.heap.size]?=some (.cells c e (0,0)):=by
  rw [a.block _ (by show w.heap.size<(w.heap.push _).size;simp)];exact fD w _
 exact aO h
theorem u0 (c:UInt8) (l:aa):Lib.strCells ((⟨#[c]⟩:ByteArray)++⟨l.toArray⟩)=Lib.byteCells (c::l):=by
 rw [Lib.strCells_eq,ByteArray.data_append];simp
theorem xy (c:Bool) (a b:aa):mm c (Lib.byteCells a) (Lib.byteCells b)=Lib.byteCells (a++cond c b []):=by
 cases c
 ·simp [mm]
 ·simp [mm,Lib.byteCells_append]
theorem J0 (g l:Bool) (d:aa) (x s:Nat):
  mm (decide (0<s)) (mm (decide (0<x)) (mm true (mm g (mm l [] (Lib.strCells ⟨#[89]⟩)) (Lib.strCells ⟨#[45]⟩)) (Lib.strCells ⟨d.toArray⟩)) (Lib.strCells ((⟨#[69]⟩:ByteArray)++⟨(Lib.decDigits x).toArray⟩)))
   (Lib.strCells ((⟨#[83]⟩:ByteArray)++⟨(Lib.decDigits s).toArray⟩))=Lib.byteCells (pa g l d x s):=by
 have e:Lib.strCells ⟨#[89]⟩=Lib.byteCells [89]:=rfl;have j:Lib.strCells ⟨#[45]⟩=Lib.byteCells [45]:=rfl;have c:Lib.strCells ⟨d.toArray⟩=Lib.byteCells d:=by rw [Lib.strCells_eq]
 have f:([]:List Value)=Lib.byteCells []:=rfl;rw [u0,u0,e,j,c,f];simp only [xy];congr 1;have i {α:Type} (p:Prop) [Decidable p] (a b:List α):cond (decide p) a b=if p then a else b:=by by_cases h:p<;>simp [h]
 have k {α:Type} (p:Bool) (a b:List α):cond p a b=if p then a else b:=by cases p<;>rfl
 simp only [pa,bV,Int.natCast_pos,i,jt,k];simp
set_option maxHeartbeats 2000000 in
theorem ES (n:Nat) (g l:Bool) (d:aa) (x s:Int) (w:World) (h:bi n g l d x s=some 0) (t:tl d x s=true) (hg:GL dH w):
  Calls Tryz.prog 7 #[.agg #[.bool g,.bool l,.string ⟨d.toArray⟩,.int .i64 x,.int .i64 s]] w λe w'=>e=.returned (.tuple #[.string ⟨(pa g l d x s).toArray⟩,.int .i64 0])/\Below w.heap.size w w':=by
 have I:(0<=x/\x<100/\0<=s/\s<100)/\d.length<=1000:=by
  simp only [tl,av,bY] at t;exact ⟨t.1,ax t.2⟩
 obtain ⟨⟨hx0,hx1,hs0,hs1⟩,hd⟩:=I;clear t;obtain ⟨x,rfl⟩:∃i:Nat,x=(i:Int):=⟨x.toNat,by omega⟩;obtain ⟨s,rfl⟩:∃i:Nat,s=(i:Int):=⟨s.toNat,by omega⟩;have mixed:Tryz.prog.follows .mixedOrders=true:=by kernel_rfl
 go_enter Tryz.func7,Tryz.ntmps7
 go_wp2_with (go_at_call 29;refine (ychk n g l d x s 0 h _ (hg.alloc _)).mono ?_)
 rintro e a ⟨rfl,y⟩;have q1:=IX y;have h0:Lib.IsBuilder 82 5 a.heap.size a.heap.size [] (a.alloc (.cells #[.pointer none,.slice none 0 0] 82)):=Lib.fresh_isBuilder 82 5 a;have E:Below a.heap.size a (a.alloc (.cells #[.pointer none,.slice none 0 0] 82)):=(Below.refl _ a).alloc (aL _) _;have b:∀{j:World} (_:Below a.heap.size a j),j.cell? ⟨w.heap.size,0,none⟩=some (.bool g)/\j.cell? ⟨w.heap.size,1,none⟩=some (.bool l)/\j.cell? ⟨w.heap.size,2,none⟩=some (.string ⟨d.toArray⟩)/\j.cell? ⟨w.heap.size,3,none⟩=some (.int .i64 x)/\j.cell? ⟨w.heap.size,4,none⟩=some (.int .i64 s):=by
  intro j hb;have D:w.heap.size<a.heap.size:=by
   have:=y.size;have v:(w.alloc (.cells #[.bool g,.bool l,.string ⟨d.toArray⟩,.int .i64 x,.int .i64 s] 30)).heap.size=w.heap.size+1:=by show (w.heap.push _).size=_;simp
   omega
  refine ⟨?_,?_,?_,?_,?_⟩<;>rw [hb.cell (p:=⟨w.heap.size,_,none⟩) D,q1]<;>rfl
 obtain ⟨r,k,q,o,c4⟩:=b E
 go_wp2_with (go_at_call 30;refine (DF l ⟨#[89]⟩ a.heap.size a.heap.size _ _ h0 (by decide) E.size).mono ?_)
 rintro e W2 ⟨rfl,V,b2⟩;have z:=E.trans b2;have F:=nL l [] ⟨#[89]⟩;obtain ⟨r,k,q,o,c4⟩:=b z;have z1:(⟨#[89]⟩:ByteArray).size=1:=rfl;have S:(⟨#[45]⟩:ByteArray).size=1:=rfl;rw [z1] at F;simp only [jC] at F;generalize e1:mm l [] (Lib.strCells ⟨#[89]⟩)=L at V F
 go_wp2_with (go_at_call 30;refine (DF g ⟨#[45]⟩ a.heap.size a.heap.size L W2 V (by rw [S];omega) z.size).mono ?_)
 rintro e W3 ⟨rfl,v,b3⟩;have M:=z.trans b3;have O:=nL g L ⟨#[45]⟩;obtain ⟨r,k,q,o,c4⟩:=b M;rw [S] at O;generalize e2:mm g L (Lib.strCells ⟨#[45]⟩)=H at v O;have X:(⟨d.toArray⟩:ByteArray).size=d.length:=by show d.toArray.size=_;simp
 go_wp2_with (go_at_call 30;refine (DF true ⟨d.toArray⟩ a.heap.size a.heap.size H W3 v (by rw [X];omega) M.size).mono ?_)
 rintro e J ⟨rfl,P,b4⟩;have T:=M.trans b4;have Q:=nL true H ⟨d.toArray⟩;obtain ⟨r,k,q,o,c4⟩:=b T;rw [X] at Q;generalize e3:mm true H (Lib.strCells ⟨d.toArray⟩)=u at P Q;have h3':Lib.IsBuilder 82 5 a.heap.size a.heap.size u J.drew:=P;have a4':=T.drew;obtain ⟨r,k,q,o,c4⟩:=b a4';have two (x:Nat) (m:x<100):(Lib.decDigits x).length<=2:=by
  by_cases h:x<10
  ·rw [Lib.decDigits_one h];simp
  ·rw [Lib.decDigits_two h m];simp
 have f (c:UInt8) (x:Nat) (m:x<100):((⟨#[c]⟩:ByteArray)++⟨(Lib.decDigits x).toArray⟩).size<=3:=by
  have v:=two x m;rw [ByteArray.size_append];show 1+(Lib.decDigits x).toArray.size<=3;simp only [qD];omega
 have room (x:Nat) (m:x<100):¬9223372036854775807<1+(Lib.decDigits x).length:=by
  have:=two x m;omega
 have rx:=room x (by omega);have rs:=room s (by omega)
 go_wp2_with fail
 refine wp_region_still_tail 8 mixed (by kernel_rfl) ?_;simp only [lz,jR,sZ,ie]
 repeat still_step
 still_call (Tryz.strconv_Itoa_small x (by omega) _)
 still_step
 refine wpStill_nil ?_;change wpList _ _ _ _ _ J.drew;have ex:(Value.bool (decide (0<x)))=.bool (decide (0<x)):=rfl;have lx:=f 69 x (by omega);have Z:=f 83 s (by omega);generalize A:((⟨#[69]⟩:ByteArray)++⟨(Lib.decDigits x).toArray⟩)=G at lx
 go_wp2_with (go_at_call 30;refine (DF (decide (0<x)) G a.heap.size a.heap.size u J.drew h3' (by omega) a4'.size).mono ?_)
 rintro e B ⟨rfl,R,b5⟩;have a5:=a4'.trans b5;have Y:=nL (decide (0<x)) u G;generalize e4:mm (decide (0<x)) u (Lib.strCells G)=C at R Y;have h4':Lib.IsBuilder 82 5 a.heap.size a.heap.size C B.drew:=R;have a5':=a5.drew;obtain ⟨r,k,q,o,c4⟩:=b a5'
 go_wp2_with fail
 refine wp_region_still_tail 8 mixed (by kernel_rfl) ?_;simp only [lz,jR,sZ,ie]
 repeat still_step
 still_call (Tryz.strconv_Itoa_small s (by omega) _)
 still_step
 refine wpStill_nil ?_;change wpList _ _ _ _ _ B.drew;generalize K:((⟨#[83]⟩:ByteArray)++⟨(Lib.decDigits s).toArray⟩)=U at Z
 go_wp2_with (go_at_call 30;refine (DF (decide (0<s)) U a.heap.size a.heap.size C B.drew h4' (by omega) a5'.size).mono ?_)
 rintro e W6 ⟨rfl,W,b6⟩;have N:=a5'.trans b6;have e6:mm (decide (0<s)) C (Lib.strCells U)=Lib.byteCells (pa g l d x s):=by
  subst e1 e2 e3 e4 A K;exact J0 g l d x s
 rw [e6] at W
 go_wp2_with (go_at_call 33;refine (Tryz.Builder_String_any a.heap.size a.heap.size (pa g l d x s) W6 W N.size).mono ?_)
 rintro e W7 ⟨rfl,b7⟩
 go_wp2
 go_ret2
 refine ⟨rfl,qf _ (y.trans ((N.trans b7).mono y.size))⟩
end Go.Sh
