
import Derived.Test.YtadejcglcffgbaaGreatDoorCeT
import Derived.StillTailTactics
set_option linter.unusedSimpArgs false
set_option linter.unusedVariables false
set_option maxRecDepth 100000
set_option linter.defProp false
namespace Go.Sh
open Go.Abs Go.Proofs Go.RowKit
def sJ(b:Bool)(a more:List Value):List Value:=cond b (a++more) a
def uj(a:Bool)(b:List Value)(s:ByteArray):(sJ a b (Lib.strCells s)).length<=b.length+s.size:=by
 have:(Lib.strCells s).length=s.size:=by rw[Lib.strCells_eq,Lib.byteCells,tt];rfl
 unfold sJ;cases a
 ·simp
 ·simp[this]
def N9(f:Bool)(s:ByteArray)(B b:Nat)(c:List Value)(w:World)(g:Lib.IsBuilder 148 5 B b c w)(a:c.length+s.size<=140737488355328)(d:B<=w.heap.size):
  Calls Tryz.prog 74 #[.bool f,.string s,.pointer (some ⟨b,0,none⟩)] w λe w'=>e=.returned (.tuple #[])/\Lib.IsBuilder 148 5 B b (sJ f c (Lib.strCells s)) w'/\Below B w w':=by
 go_enter Tryz.func74,Tryz.ntmps74
 cases f
 ·go_wp2
  go_end0
  exact⟨rfl,g,Below.refl _ _⟩
 ·go_wp2_with (go_at_call 75;refine(Tryz.Builder_WriteString B b c s _ g a d).mono ?_)
  rintro e w' ⟨rfl,i,h⟩
  go_wp2
  go_end0
  exact⟨rfl,Or.inr i,h⟩
def yP{w w':World}(o:Obj)(h:Below (w.alloc o).heap.size (w.alloc o) w'):Below w.heap.size w w':=by
 have a:Below w.heap.size w (w.alloc o):=(Below.refl _ w).alloc (aU _) _;refine a.trans ⟨h.os,h.tape,h.output,h.size,λk b=>h.block k ?_⟩;have:=a.size;omega
def ychk(n:Nat)(g l:Bool)(d:aa)(x s r:Int)(h:cL n g l d x s=some r)(w:World)(b:GL gQ w):
  Calls Tryz.prog 73 #[.agg #[.bool g,.bool l,.string ⟨d.toArray⟩,.int .i64 x,.int .i64 s]] w λe w'=>e=.returned (.int .i64 r)/\Below w.heap.size w w':=by
 refine(pure_yearforms_Check n (g,l,d,x,s) r h w _ b ?_).mono λe w' ⟨v,c,a,f⟩=>⟨?_,f.below⟩
 ·exact⟨_,_,rfl,⟨_,rfl,⟨_,_,rfl,rfl,_,_,rfl,rfl,_,_,rfl,rfl,_,_,rfl,rfl,_,_,rfl,rfl,rfl⟩⟩,rfl⟩
 ·have:v=.int .i64 r:=a;rw[c,this]
def LZ(n:Nat)(g l:Bool)(d:aa)(x s r:Int)(w:World)(h:cL n g l d x s=some r)(c:r≠0)(a:GL gQ w):
  Calls Tryz.prog 37 #[.agg #[.bool g,.bool l,.string ⟨d.toArray⟩,.int .i64 x,.int .i64 s]] w λe w'=>e=.returned (.tuple #[.string ⟨#[]⟩,.int .i64 r])/\Below w.heap.size w w':=by
 go_enter Tryz.func37,Tryz.ntmps37
 go_wp2_with (go_at_call 73;refine(ychk n g l d x s r h _ (a.alloc _)).mono ?_)
 rintro e b ⟨rfl,b1⟩
 go_wp2
 go_ret2
 exact⟨rfl,yP _ b1⟩
def XG{w w':World}{c:Array Value}{e:TypeId}(a:Below (w.alloc (.cells c e)).heap.size (w.alloc (.cells c e)) w')(j:Nat):w'.cell? ⟨w.heap.size,j,none⟩=c[j]?:=by
 have h:w'.heap[w.heap.size]?=some (.cells c e (0,0)):=by
  rw[a.block _ (by show w.heap.size<(w.heap.push _).size;simp)];exact jV w _
 exact bg h
def E8(c:UInt8)(l:aa):Lib.strCells ((⟨#[c]⟩:ByteArray)++⟨l.toArray⟩)=Lib.byteCells (c::l):=by
 rw[Lib.strCells_eq,ByteArray.data_append];simp
def F4(c:Bool)(a b:aa):sJ c (Lib.byteCells a) (Lib.byteCells b)=Lib.byteCells (a++cond c b []):=by
 cases c
 ·simp[sJ]
 ·simp[sJ,Lib.byteCells_append]
def ZE(g l:Bool)(d:aa)(x s:Nat):
  sJ (decide (0<s)) (sJ (decide (0<x)) (sJ true (sJ g (sJ l [] (Lib.strCells ⟨#[89]⟩)) (Lib.strCells ⟨#[45]⟩)) (Lib.strCells ⟨d.toArray⟩)) (Lib.strCells ((⟨#[69]⟩:ByteArray)++⟨(Lib.decDigits x).toArray⟩)))
   (Lib.strCells ((⟨#[83]⟩:ByteArray)++⟨(Lib.decDigits s).toArray⟩))=Lib.byteCells (ir g l d x s):=by
 have e:Lib.strCells ⟨#[89]⟩=Lib.byteCells [89]:=rfl;have c:Lib.strCells ⟨#[45]⟩=Lib.byteCells [45]:=rfl;have i:Lib.strCells ⟨d.toArray⟩=Lib.byteCells d:=by rw[Lib.strCells_eq]
 have f:([]:List Value)=Lib.byteCells []:=rfl;rw[E8,E8,e,c,i,f];simp only[F4];congr 1;have j {α:Type} (p:Prop) [Decidable p] (a b:List α):cond (decide p) a b=if p then a else b:=by by_cases h:p<;>simp[h]
 have k {α:Type} (p:Bool) (a b:List α):cond p a b=if p then a else b:=by cases p<;>rfl
 simp only[ir,bX,Int.natCast_pos,j,dO,k];simp
set_option maxHeartbeats 2000000 in
def Q1(n:Nat)(g l:Bool)(d:aa)(x s:Int)(w:World)(h:cL n g l d x s=some 0)(hs:vK d x s=true)(Z:GL gQ w):
  Calls Tryz.prog 37 #[.agg #[.bool g,.bool l,.string ⟨d.toArray⟩,.int .i64 x,.int .i64 s]] w λe w'=>e=.returned (.tuple #[.string ⟨(ir g l d x s).toArray⟩,.int .i64 0])/\Below w.heap.size w w':=by
 have v:(0<=x/\x<100/\0<=s/\s<100)/\d.length<=1000:=by
  simp only[vK,aB,ch]at hs;exact⟨hs.1,aI hs.2⟩
 obtain⟨⟨hx0,Y,hs0,W⟩,hd⟩:=v;clear hs;obtain⟨x,rfl⟩:∃i:Nat,x=(i:Int):=⟨x.toNat,by omega⟩;obtain⟨s,rfl⟩:∃i:Nat,s=(i:Int):=⟨s.toNat,by omega⟩;have mixed:Tryz.prog.follows .mixedOrders=true:=by kernel_rfl
 go_enter Tryz.func37,Tryz.ntmps37
 go_wp2_with (go_at_call 73;refine(ychk n g l d x s 0 h _ (Z.alloc _)).mono ?_)
 rintro e a ⟨rfl,b1⟩;have V:=XG b1;have T:Lib.IsBuilder 148 5 a.heap.size a.heap.size [] (a.alloc (.cells #[.pointer none,.slice none 0 0] 148)):=Lib.fresh_isBuilder 148 5 a;have a1:Below a.heap.size a (a.alloc (.cells #[.pointer none,.slice none 0 0] 148)):=(Below.refl _ a).alloc (aU _) _;have b:∀{j:World} (_:Below a.heap.size a j),j.cell? ⟨w.heap.size,0,none⟩=some (.bool g)/\j.cell? ⟨w.heap.size,1,none⟩=some (.bool l)/\j.cell? ⟨w.heap.size,2,none⟩=some (.string ⟨d.toArray⟩)/\j.cell? ⟨w.heap.size,3,none⟩=some (.int .i64 x)/\j.cell? ⟨w.heap.size,4,none⟩=some (.int .i64 s):=by
  intro j R;have A:w.heap.size<a.heap.size:=by
   have:=b1.size;have q:(w.alloc (.cells #[.bool g,.bool l,.string ⟨d.toArray⟩,.int .i64 x,.int .i64 s] 27)).heap.size=w.heap.size+1:=by show(w.heap.push _).size=_;simp
   omega
  refine⟨?_,?_,?_,?_,?_⟩<;>rw[R.cell (p:=⟨w.heap.size,_,none⟩) A,V]<;>rfl
 obtain⟨m,o,k,c3,c4⟩:=b a1
 go_wp2_with (go_at_call 74;refine(N9 l ⟨#[89]⟩ a.heap.size a.heap.size _ _ T (by decide) a1.size).mono ?_)
 rintro e W2 ⟨rfl,N,b2⟩;have a2:=a1.trans b2;have C:=uj l [] ⟨#[89]⟩;obtain⟨m,o,k,c3,c4⟩:=b a2;have z1:(⟨#[89]⟩:ByteArray).size=1:=rfl;have z2:(⟨#[45]⟩:ByteArray).size=1:=rfl;rw[z1]at C;simp only[cE]at C;generalize e1:sJ l [] (Lib.strCells ⟨#[89]⟩)=G at N C
 go_wp2_with (go_at_call 74;refine(N9 g ⟨#[45]⟩ a.heap.size a.heap.size G W2 N (by rw[z2];omega) a2.size).mono ?_)
 rintro e W3 ⟨rfl,q,b3⟩;have F:=a2.trans b3;have O:=uj g G ⟨#[45]⟩;obtain⟨m,o,k,c3,c4⟩:=b F;rw[z2]at O;generalize e2:sJ g G (Lib.strCells ⟨#[45]⟩)=y at q O;have K:(⟨d.toArray⟩:ByteArray).size=d.length:=by show d.toArray.size=_;simp
 go_wp2_with (go_at_call 74;refine(N9 true ⟨d.toArray⟩ a.heap.size a.heap.size y W3 q (by rw[K];omega) F.size).mono ?_)
 rintro e z ⟨rfl,Q,b4⟩;have M:=F.trans b4;have L:=uj true y ⟨d.toArray⟩;obtain⟨m,o,k,c3,c4⟩:=b M;rw[K]at L;generalize e3:sJ true y (Lib.strCells ⟨d.toArray⟩)=r at Q L;have h3':Lib.IsBuilder 148 5 a.heap.size a.heap.size r z.drew:=Q;have a4':=M.drew;obtain⟨m,o,k,c3,c4⟩:=b a4';have two (x:Nat) (hx:x<100):(Lib.decDigits x).length<=2:=by
  by_cases h:x<10
  ·rw[Lib.decDigits_one h];simp
  ·rw[Lib.decDigits_two h hx];simp
 have f (c:UInt8) (x:Nat) (hx:x<100):((⟨#[c]⟩:ByteArray)++⟨(Lib.decDigits x).toArray⟩).size<=3:=by
  have q:=two x hx;rw[ByteArray.size_append];show 1+(Lib.decDigits x).toArray.size<=3;simp only[wU];omega
 have room (x:Nat) (hx:x<100):¬9223372036854775807<1+(Lib.decDigits x).length:=by
  have:=two x hx;omega
 have rx:=room x (by omega);have rs:=room s (by omega)
 go_wp2_with fail
 refine wp_region_still_tail 8 mixed (by kernel_rfl) ?_;simp only[mU,mV,oi,cS]
 repeat still_step
 still_call (Tryz.strconv_Itoa_small x (by omega) _)
 still_step
 refine wpStill_nil ?_;change wpList _ _ _ _ _ z.drew;have ex:(Value.bool (decide (0<x)))=.bool (decide (0<x)):=rfl;have S:=f 69 x (by omega);have U:=f 83 s (by omega);generalize B:((⟨#[69]⟩:ByteArray)++⟨(Lib.decDigits x).toArray⟩)=t at S
 go_wp2_with (go_at_call 74;refine(N9 (decide (0<x)) t a.heap.size a.heap.size r z.drew h3' (by omega) a4'.size).mono ?_)
 rintro e u ⟨rfl,P,X⟩;have a5:=a4'.trans X;have n4:=uj (decide (0<x)) r t;generalize e4:sJ (decide (0<x)) r (Lib.strCells t)=E at P n4;have h4':Lib.IsBuilder 148 5 a.heap.size a.heap.size E u.drew:=P;have a5':=a5.drew;obtain⟨m,o,k,c3,c4⟩:=b a5'
 go_wp2_with fail
 refine wp_region_still_tail 8 mixed (by kernel_rfl) ?_;simp only[mU,mV,oi,cS]
 repeat still_step
 still_call (Tryz.strconv_Itoa_small s (by omega) _)
 still_step
 refine wpStill_nil ?_;change wpList _ _ _ _ _ u.drew;generalize D:((⟨#[83]⟩:ByteArray)++⟨(Lib.decDigits s).toArray⟩)=I at U
 go_wp2_with (go_at_call 74;refine(N9 (decide (0<s)) I a.heap.size a.heap.size E u.drew h4' (by omega) a5'.size).mono ?_)
 rintro e W6 ⟨rfl,J,b6⟩;have H:=a5'.trans b6;have e6:sJ (decide (0<s)) E (Lib.strCells I)=Lib.byteCells (ir g l d x s):=by
  subst e1 e2 e3 e4 B D;exact ZE g l d x s
 rw[e6]at J
 go_wp2_with (go_at_call 77;refine(Tryz.Builder_String_any a.heap.size a.heap.size (ir g l d x s) W6 J H.size).mono ?_)
 rintro e W7 ⟨rfl,b7⟩
 go_wp2
 go_ret2
 refine⟨rfl,yP _ (b1.trans ((H.trans b7).mono b1.size))⟩
end Go.Sh
