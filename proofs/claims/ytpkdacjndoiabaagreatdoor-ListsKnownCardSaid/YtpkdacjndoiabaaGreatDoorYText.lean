/- The text of a year: the walk of yearforms.Text, which writes to a strings.Builder.
   Conditions: none. -/
import Derived.Test.YtpkdacjndoiabaaGreatDoorCeL
import Derived.StillTailTactics
set_option linter.unusedSimpArgs false
set_option linter.unusedVariables false
set_option maxRecDepth 100000
namespace Go.Sh
open Go.Abs Go.Proofs Go.RowKit
def rz (is:Bool) (bs more:List Value):List Value:=cond is (bs++more) bs
theorem tK (is:Bool) (bs:List Value) (s:ByteArray):(rz is bs (Lib.strCells s)).length<=bs.length+s.size:=by
 have:(Lib.strCells s).length=s.size:=by rw [Lib.strCells_eq,Lib.byteCells,uz];rfl
 unfold rz
 cases is
 ·simp
 ·simp [this]
theorem Ib (is:Bool) (s:ByteArray) (B b:Nat) (bs:List Value) (w:World) (h0:Lib.IsBuilder 116 5 B b bs w) (hlen:bs.length+s.size<=140737488355328) (hBw:B<=w.heap.size):
  Calls Tryz.prog 122 #[.bool is,.string s,.pointer (some ⟨b,0,none⟩)] w λe w'=>e=.returned (.tuple #[])/\Lib.IsBuilder 116 5 B b (rz is bs (Lib.strCells s)) w'/\Below B w w':=by
 go_enter Tryz.func122,Tryz.ntmps122
 cases is
 ·go_wp2
  go_end0
  exact ⟨rfl,h0,Below.refl _ _⟩
 ·go_wp2_with (go_at_call 55;refine (Tryz.Builder_WriteString B b bs s _ h0 hlen hBw).mono ?_)
  rintro e w' ⟨rfl,h1,h2⟩
  go_wp2
  go_end0
  exact ⟨rfl,Or.inr h1,h2⟩
theorem wN {w w':World} (o:Obj) (h:Below (w.alloc o).heap.size (w.alloc o) w'):Below w.heap.size w w':=by
 have h0:Below w.heap.size w (w.alloc o):=(Below.refl _ w).alloc (aV _) _
 refine h0.trans ⟨h.os,h.tape,h.output,h.size,λk hk=>h.block k ?_⟩
 have:=h0.size
 omega
theorem ychk (n:Nat) (g l:Bool) (d:aa) (x s r:Int) (h:cu n g l d x s=some r) (w:World) (hg:GL iH w):
  Calls Tryz.prog 121 #[.agg #[.bool g,.bool l,.string ⟨d.toArray⟩,.int .i64 x,.int .i64 s]] w λe w'=>e=.returned (.int .i64 r)/\Below w.heap.size w w':=by
 refine (pure_yearforms_Check n (g,l,d,x,s) r h w _ hg ?_).mono λe w' ⟨v,h1,h2,h3⟩=>⟨?_,h3.below⟩
 ·exact ⟨_,_,rfl,⟨_,rfl,⟨_,_,rfl,rfl,_,_,rfl,rfl,_,_,rfl,rfl,_,_,rfl,rfl,_,_,rfl,rfl,rfl⟩⟩,rfl⟩
 ·have:v=.int .i64 r:=h2
  rw [h1,this]
theorem IS (n:Nat) (g l:Bool) (d:aa) (x s r:Int) (w:World) (h:cu n g l d x s=some r) (hr:r≠0) (hg:GL iH w):
  Calls Tryz.prog 76 #[.agg #[.bool g,.bool l,.string ⟨d.toArray⟩,.int .i64 x,.int .i64 s]] w λe w'=>e=.returned (.tuple #[.string ⟨#[]⟩,.int .i64 r])/\Below w.heap.size w w':=by
 go_enter Tryz.func76,Tryz.ntmps76
 go_wp2_with (go_at_call 121;refine (ychk n g l d x s r h _ (hg.alloc _)).mono ?_)
 rintro e w1 ⟨rfl,b1⟩
 go_wp2
 go_ret2
 exact ⟨rfl,wN _ b1⟩
theorem UF {w w':World} {c:Array Value} {e:TypeId} (hb:Below (w.alloc (.cells c e)).heap.size (w.alloc (.cells c e)) w') (j:Nat):w'.cell? ⟨w.heap.size,j,none⟩=c[j]?:=by
 have h:w'.heap[w.heap.size]?=some (.cells c e (0,0)):=by
  rw [hb.block _ (by show w.heap.size<(w.heap.push _).size;simp)]
  exact jw w _
 exact bH h
theorem AW (c:UInt8) (l:aa):Lib.strCells ((⟨#[c]⟩:ByteArray)++⟨l.toArray⟩)=Lib.byteCells (c::l):=by
 rw [Lib.strCells_eq,ByteArray.data_append]
 simp
theorem Ep (is:Bool) (a b:aa):rz is (Lib.byteCells a) (Lib.byteCells b)=Lib.byteCells (a++cond is b []):=by
 cases is
 ·simp [rz]
 ·simp [rz,Lib.byteCells_append]
theorem VS (g l:Bool) (d:aa) (x s:Nat):
  rz (decide (0<s)) (rz (decide (0<x)) (rz true (rz g (rz l [] (Lib.strCells ⟨#[89]⟩)) (Lib.strCells ⟨#[45]⟩)) (Lib.strCells ⟨d.toArray⟩)) (Lib.strCells ((⟨#[69]⟩:ByteArray)++⟨(Lib.decDigits x).toArray⟩)))
   (Lib.strCells ((⟨#[83]⟩:ByteArray)++⟨(Lib.decDigits s).toArray⟩))=Lib.byteCells (iO g l d x s):=by
 have h1:Lib.strCells ⟨#[89]⟩=Lib.byteCells [89]:=rfl
 have h2:Lib.strCells ⟨#[45]⟩=Lib.byteCells [45]:=rfl
 have h3:Lib.strCells ⟨d.toArray⟩=Lib.byteCells d:=by rw [Lib.strCells_eq]
 have h0:([]:List Value)=Lib.byteCells []:=rfl
 rw [AW,AW,h1,h2,h3,h0]
 simp only [Ep]
 congr 1
 have c1 {α:Type} (p:Prop) [Decidable p] (a b:List α):cond (decide p) a b=if p then a else b:=by by_cases h:p<;>simp [h]
 have c2 {α:Type} (p:Bool) (a b:List α):cond p a b=if p then a else b:=by cases p<;>rfl
 simp only [iO,bV,Int.natCast_pos,c1,dQ,c2]
 simp
set_option maxHeartbeats 2000000 in
theorem MY (n:Nat) (g l:Bool) (d:aa) (x s:Int) (w:World) (h:cu n g l d x s=some 0) (hs:uI d x s=true) (hg:GL iH w):
  Calls Tryz.prog 76 #[.agg #[.bool g,.bool l,.string ⟨d.toArray⟩,.int .i64 x,.int .i64 s]] w λe w'=>e=.returned (.tuple #[.string ⟨(iO g l d x s).toArray⟩,.int .i64 0])/\Below w.heap.size w w':=by
 have hsm:(0<=x/\x<100/\0<=s/\s<100)/\d.length<=1000:=by
  simp only [uI,az,cb] at hs
  exact ⟨hs.1,aI hs.2⟩
 obtain ⟨⟨hx0,hx1,hs0,hs1⟩,hd⟩:=hsm
 clear hs
 obtain ⟨x,rfl⟩:∃i:Nat,x=(i:Int):=⟨x.toNat,by omega⟩
 obtain ⟨s,rfl⟩:∃i:Nat,s=(i:Int):=⟨s.toNat,by omega⟩
 have mixed:Tryz.prog.follows .mixedOrders=true:=by kernel_rfl
 go_enter Tryz.func76,Tryz.ntmps76
 go_wp2_with (go_at_call 121;refine (ychk n g l d x s 0 h _ (hg.alloc _)).mono ?_)
 rintro e W1 ⟨rfl,b1⟩
 have q1:=UF b1
 have h0:Lib.IsBuilder 116 5 W1.heap.size W1.heap.size [] (W1.alloc (.cells #[.pointer none,.slice none 0 0] 116)):=Lib.fresh_isBuilder 116 5 W1
 have a1:Below W1.heap.size W1 (W1.alloc (.cells #[.pointer none,.slice none 0 0] 116)):=(Below.refl _ W1).alloc (aV _) _
 have at_:∀{W':World} (_:Below W1.heap.size W1 W'),W'.cell? ⟨w.heap.size,0,none⟩=some (.bool g)/\W'.cell? ⟨w.heap.size,1,none⟩=some (.bool l)/\W'.cell? ⟨w.heap.size,2,none⟩=some (.string ⟨d.toArray⟩)/\W'.cell? ⟨w.heap.size,3,none⟩=some (.int .i64 x)/\W'.cell? ⟨w.heap.size,4,none⟩=some (.int .i64 s):=by
  intro W' hb
  have hlt:w.heap.size<W1.heap.size:=by
   have:=b1.size
   have h2:(w.alloc (.cells #[.bool g,.bool l,.string ⟨d.toArray⟩,.int .i64 x,.int .i64 s] 24)).heap.size=w.heap.size+1:=by show (w.heap.push _).size=_;simp
   omega
  refine ⟨?_,?_,?_,?_,?_⟩<;>rw [hb.cell (p:=⟨w.heap.size,_,none⟩) hlt,q1]<;>rfl
 obtain ⟨c0,c1,c2,c3,c4⟩:=at_ a1
 go_wp2_with (go_at_call 122;refine (Ib l ⟨#[89]⟩ W1.heap.size W1.heap.size _ _ h0 (by decide) a1.size).mono ?_)
 rintro e W2 ⟨rfl,h1,b2⟩
 have a2:=a1.trans b2
 have n1:=tK l [] ⟨#[89]⟩
 obtain ⟨c0,c1,c2,c3,c4⟩:=at_ a2
 have z1:(⟨#[89]⟩:ByteArray).size=1:=rfl
 have z2:(⟨#[45]⟩:ByteArray).size=1:=rfl
 rw [z1] at n1
 simp only [bj] at n1
 generalize e1:rz l [] (Lib.strCells ⟨#[89]⟩)=t1 at h1 n1
 go_wp2_with (go_at_call 122;refine (Ib g ⟨#[45]⟩ W1.heap.size W1.heap.size t1 W2 h1 (by rw [z2];omega) a2.size).mono ?_)
 rintro e W3 ⟨rfl,h2,b3⟩
 have a3:=a2.trans b3
 have n2:=tK g t1 ⟨#[45]⟩
 obtain ⟨c0,c1,c2,c3,c4⟩:=at_ a3
 rw [z2] at n2
 generalize e2:rz g t1 (Lib.strCells ⟨#[45]⟩)=t2 at h2 n2
 have z3:(⟨d.toArray⟩:ByteArray).size=d.length:=by show d.toArray.size=_;simp
 go_wp2_with (go_at_call 122;refine (Ib true ⟨d.toArray⟩ W1.heap.size W1.heap.size t2 W3 h2 (by rw [z3];omega) a3.size).mono ?_)
 rintro e W4 ⟨rfl,h3,b4⟩
 have a4:=a3.trans b4
 have n3:=tK true t2 ⟨d.toArray⟩
 obtain ⟨c0,c1,c2,c3,c4⟩:=at_ a4
 rw [z3] at n3
 generalize e3:rz true t2 (Lib.strCells ⟨d.toArray⟩)=t3 at h3 n3
 have h3':Lib.IsBuilder 116 5 W1.heap.size W1.heap.size t3 W4.drew:=h3
 have a4':=a4.drew
 obtain ⟨c0,c1,c2,c3,c4⟩:=at_ a4'
 have two (x:Nat) (hx:x<100):(Lib.decDigits x).length<=2:=by
  by_cases h:x<10
  ·rw [Lib.decDigits_one h];simp
  ·rw [Lib.decDigits_two h hx];simp
 have len1 (c:UInt8) (x:Nat) (hx:x<100):((⟨#[c]⟩:ByteArray)++⟨(Lib.decDigits x).toArray⟩).size<=3:=by
  have h2:=two x hx
  rw [ByteArray.size_append]
  show 1+(Lib.decDigits x).toArray.size<=3
  simp only [xl]
  omega
 have room (x:Nat) (hx:x<100):¬9223372036854775807<1+(Lib.decDigits x).length:=by
  have:=two x hx
  omega
 have rx:=room x (by omega)
 have rs:=room s (by omega)
 go_wp2_with fail
 refine wp_region_still_tail 8 mixed (by kernel_rfl) ?_
 simp only [pX,nM,oC,gy]
 repeat still_step
 still_call (Tryz.strconv_Itoa_small x (by omega) _)
 still_step
 refine wpStill_nil ?_
 change wpList _ _ _ _ _ W4.drew
 have ex:(Value.bool (decide (0<x)))=.bool (decide (0<x)):=rfl
 have lx:=len1 69 x (by omega)
 have ls:=len1 83 s (by omega)
 generalize hzx:((⟨#[69]⟩:ByteArray)++⟨(Lib.decDigits x).toArray⟩)=zx at lx
 go_wp2_with (go_at_call 122;refine (Ib (decide (0<x)) zx W1.heap.size W1.heap.size t3 W4.drew h3' (by omega) a4'.size).mono ?_)
 rintro e W5 ⟨rfl,h4,b5⟩
 have a5:=a4'.trans b5
 have n4:=tK (decide (0<x)) t3 zx
 generalize e4:rz (decide (0<x)) t3 (Lib.strCells zx)=t4 at h4 n4
 have h4':Lib.IsBuilder 116 5 W1.heap.size W1.heap.size t4 W5.drew:=h4
 have a5':=a5.drew
 obtain ⟨c0,c1,c2,c3,c4⟩:=at_ a5'
 go_wp2_with fail
 refine wp_region_still_tail 8 mixed (by kernel_rfl) ?_
 simp only [pX,nM,oC,gy]
 repeat still_step
 still_call (Tryz.strconv_Itoa_small s (by omega) _)
 still_step
 refine wpStill_nil ?_
 change wpList _ _ _ _ _ W5.drew
 generalize hzs:((⟨#[83]⟩:ByteArray)++⟨(Lib.decDigits s).toArray⟩)=zs at ls
 go_wp2_with (go_at_call 122;refine (Ib (decide (0<s)) zs W1.heap.size W1.heap.size t4 W5.drew h4' (by omega) a5'.size).mono ?_)
 rintro e W6 ⟨rfl,h5,b6⟩
 have a6:=a5'.trans b6
 have e6:rz (decide (0<s)) t4 (Lib.strCells zs)=Lib.byteCells (iO g l d x s):=by
  subst e1 e2 e3 e4 hzx hzs
  exact VS g l d x s
 rw [e6] at h5
 go_wp2_with (go_at_call 56;refine (Tryz.Builder_String_any W1.heap.size W1.heap.size (iO g l d x s) W6 h5 a6.size).mono ?_)
 rintro e W7 ⟨rfl,b7⟩
 go_wp2
 go_ret2
 refine ⟨rfl,wN _ (b1.trans ((a6.trans b7).mono b1.size))⟩
end Go.Sh
