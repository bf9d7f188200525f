
import Derived.Test.YtibehcmomiplnabGreatDoorCeV
import Derived.StillTailTactics
set_option linter.unusedSimpArgs false
set_option linter.unusedVariables false
set_option linter.defProp false
set_option maxRecDepth 100000
namespace Go.Sh
open Go.Abs Go.Proofs Go.RowKit
def uV(b:Bool)(a more:List Value):List Value:=cond b (a++more) a
def wN(b:Bool)(a:List Value)(s:ByteArray):(uV b a (Lib.strCells s)).length<=a.length+s.size:=by
 have:(Lib.strCells s).length=s.size:=by rw[Lib.strCells_eq,Lib.byteCells,vF];rfl
 unfold uV;cases b
 ·simp
 ·simp[this]
def Qg(f:Bool)(s:ByteArray)(B b:Nat)(c:List Value)(w:World)(g:Lib.IsBuilder 235 5 B b c w)(a:c.length+s.size<=140737488355328)(d:B<=w.heap.size):
  Calls Tryz.prog 161 #[.bool f,.string s,.pointer (some ⟨b,0,none⟩)] w λe w'=>e=.returned (.tuple #[])/\Lib.IsBuilder 235 5 B b (uV f c (Lib.strCells s)) w'/\Below B w w':=by
 go_enter Tryz.func161,Tryz.ntmps161
 cases f
 ·go_wp2
  go_end0
  exact⟨rfl,g,Below.refl _ _⟩
 ·go_wp2_with (go_at_call 162;refine(Tryz.Builder_WriteString B b c s _ g a d).mono ?_)
  rintro e w' ⟨rfl,h,i⟩
  go_wp2
  go_end0
  exact⟨rfl,Or.inr h,i⟩
def AX{w w':World}(o:Obj)(h:Below (w.alloc o).heap.size (w.alloc o) w'):Below w.heap.size w w':=by
 have a:Below w.heap.size w (w.alloc o):=(Below.refl _ w).alloc (bi _) _;refine a.trans ⟨h.os,h.tape,h.output,h.size,λk b=>h.block k ?_⟩;have:=a.size;omega
def ychk(n:Nat)(g l:Bool)(d:aa)(x s r:Int)(h:di n g l d x s=some r)(w:World)(f:GL iI w):
  Calls Tryz.prog 160 #[.agg #[.bool g,.bool l,.string ⟨d.toArray⟩,.int .i64 x,.int .i64 s]] w λe w'=>e=.returned (.int .i64 r)/\Below w.heap.size w w':=by
 refine(pure_yearforms_Check n (g,l,d,x,s) r h w _ f ?_).mono λe w' ⟨v,a,c,b⟩=>⟨?_,b.below⟩
 ·exact⟨_,_,rfl,⟨_,rfl,⟨_,_,rfl,rfl,_,_,rfl,rfl,_,_,rfl,rfl,_,_,rfl,rfl,_,_,rfl,rfl,rfl⟩⟩,rfl⟩
 ·have:v=.int .i64 r:=c;rw[a,this]
def PN(n:Nat)(g l:Bool)(d:aa)(x s r:Int)(w:World)(h:di n g l d x s=some r)(c:r≠0)(a:GL iI w):
  Calls Tryz.prog 103 #[.agg #[.bool g,.bool l,.string ⟨d.toArray⟩,.int .i64 x,.int .i64 s]] w λe w'=>e=.returned (.tuple #[.string ⟨#[]⟩,.int .i64 r])/\Below w.heap.size w w':=by
 go_enter Tryz.func103,Tryz.ntmps103
 go_wp2_with (go_at_call 160;refine(ychk n g l d x s r h _ (a.alloc _)).mono ?_)
 rintro e b ⟨rfl,b1⟩
 go_wp2
 go_ret2
 exact⟨rfl,AX _ b1⟩
def aao{w w':World}{c:Array Value}{e:TypeId}(a:Below (w.alloc (.cells c e)).heap.size (w.alloc (.cells c e)) w')(j:Nat):w'.cell? ⟨w.heap.size,j,none⟩=c[j]?:=by
 have h:w'.heap[w.heap.size]?=some (.cells c e (0,0)):=by
  rw[a.block _ (by show w.heap.size<(w.heap.push _).size;simp)];exact lA w _
 exact bB h
def HK(c:UInt8)(l:aa):Lib.strCells ((⟨#[c]⟩:ByteArray)++⟨l.toArray⟩)=Lib.byteCells (c::l):=by
 rw[Lib.strCells_eq,ByteArray.data_append];simp
def Ip(c:Bool)(a b:aa):uV c (Lib.byteCells a) (Lib.byteCells b)=Lib.byteCells (a++cond c b []):=by
 cases c
 ·simp[uV]
 ·simp[uV,Lib.byteCells_append]
def acb(g l:Bool)(d:aa)(x s:Nat):
  uV (decide (0<s)) (uV (decide (0<x)) (uV true (uV g (uV l [] (Lib.strCells ⟨#[89]⟩)) (Lib.strCells ⟨#[45]⟩)) (Lib.strCells ⟨d.toArray⟩)) (Lib.strCells ((⟨#[69]⟩:ByteArray)++⟨(Lib.decDigits x).toArray⟩)))
   (Lib.strCells ((⟨#[83]⟩:ByteArray)++⟨(Lib.decDigits s).toArray⟩))=Lib.byteCells (fZ g l d x s):=by
 have j:Lib.strCells ⟨#[89]⟩=Lib.byteCells [89]:=rfl;have k:Lib.strCells ⟨#[45]⟩=Lib.byteCells [45]:=rfl;have c:Lib.strCells ⟨d.toArray⟩=Lib.byteCells d:=by rw[Lib.strCells_eq]
 have f:([]:List Value)=Lib.byteCells []:=rfl;rw[HK,HK,j,k,c,f];simp only[Ip];congr 1;have i {α:Type} (p:Prop) [Decidable p] (a b:List α):cond (decide p) a b=if p then a else b:=by by_cases h:p<;>simp[h]
 have e {α:Type} (p:Bool) (a b:List α):cond p a b=if p then a else b:=by cases p<;>rfl
 simp only[fZ,co,Int.natCast_pos,i,eo,e];simp
set_option maxHeartbeats 2000000 in
def UM(n:Nat)(g l:Bool)(d:aa)(x s:Int)(w:World)(h:di n g l d x s=some 0)(hs:xZ d x s=true)(hg:GL iI w):
  Calls Tryz.prog 103 #[.agg #[.bool g,.bool l,.string ⟨d.toArray⟩,.int .i64 x,.int .i64 s]] w λe w'=>e=.returned (.tuple #[.string ⟨(fZ g l d x s).toArray⟩,.int .i64 0])/\Below w.heap.size w w':=by
 have C:(0<=x/\x<100/\0<=s/\s<100)/\d.length<=1000:=by
  simp only[xZ,aD,cK]at hs;exact⟨hs.1,aR hs.2⟩
 obtain⟨⟨hx0,hx1,Z,X⟩,hd⟩:=C;clear hs;obtain⟨x,rfl⟩:∃i:Nat,x=(i:Int):=⟨x.toNat,by omega⟩;obtain⟨s,rfl⟩:∃i:Nat,s=(i:Int):=⟨s.toNat,by omega⟩;have mixed:Tryz.prog.follows .mixedOrders=true:=by kernel_rfl
 go_enter Tryz.func103,Tryz.ntmps103
 go_wp2_with (go_at_call 160;refine(ychk n g l d x s 0 h _ (hg.alloc _)).mono ?_)
 rintro e a ⟨rfl,b1⟩;have q1:=aao b1;have h0:Lib.IsBuilder 235 5 a.heap.size a.heap.size [] (a.alloc (.cells #[.pointer none,.slice none 0 0] 235)):=Lib.fresh_isBuilder 235 5 a;have a1:Below a.heap.size a (a.alloc (.cells #[.pointer none,.slice none 0 0] 235)):=(Below.refl _ a).alloc (bi _) _;have b:∀{j:World} (_:Below a.heap.size a j),j.cell? ⟨w.heap.size,0,none⟩=some (.bool g)/\j.cell? ⟨w.heap.size,1,none⟩=some (.bool l)/\j.cell? ⟨w.heap.size,2,none⟩=some (.string ⟨d.toArray⟩)/\j.cell? ⟨w.heap.size,3,none⟩=some (.int .i64 x)/\j.cell? ⟨w.heap.size,4,none⟩=some (.int .i64 s):=by
  intro j S;have v:w.heap.size<a.heap.size:=by
   have:=b1.size;have r:(w.alloc (.cells #[.bool g,.bool l,.string ⟨d.toArray⟩,.int .i64 x,.int .i64 s] 27)).heap.size=w.heap.size+1:=by show(w.heap.push _).size=_;simp
   omega
  refine⟨?_,?_,?_,?_,?_⟩<;>rw[S.cell (p:=⟨w.heap.size,_,none⟩) v,q1]<;>rfl
 obtain⟨o,m,k,c3,c4⟩:=b a1
 go_wp2_with (go_at_call 161;refine(Qg l ⟨#[89]⟩ a.heap.size a.heap.size _ _ h0 (by decide) a1.size).mono ?_)
 rintro e W2 ⟨rfl,Q,b2⟩;have a2:=a1.trans b2;have E:=wN l [] ⟨#[89]⟩;obtain⟨o,m,k,c3,c4⟩:=b a2;have z1:(⟨#[89]⟩:ByteArray).size=1:=rfl;have z2:(⟨#[45]⟩:ByteArray).size=1:=rfl;rw[z1]at E;simp only[bU]at E;generalize e1:uV l [] (Lib.strCells ⟨#[89]⟩)=B at Q E
 go_wp2_with (go_at_call 161;refine(Qg g ⟨#[45]⟩ a.heap.size a.heap.size B W2 Q (by rw[z2];omega) a2.size).mono ?_)
 rintro e W3 ⟨rfl,r,b3⟩;have G:=a2.trans b3;have J:=wN g B ⟨#[45]⟩;obtain⟨o,m,k,c3,c4⟩:=b G;rw[z2]at J;generalize e2:uV g B (Lib.strCells ⟨#[45]⟩)=D at r J;have K:(⟨d.toArray⟩:ByteArray).size=d.length:=by show d.toArray.size=_;simp
 go_wp2_with (go_at_call 161;refine(Qg true ⟨d.toArray⟩ a.heap.size a.heap.size D W3 r (by rw[K];omega) G.size).mono ?_)
 rintro e u ⟨rfl,I,R⟩;have O:=G.trans R;have N:=wN true D ⟨d.toArray⟩;obtain⟨o,m,k,c3,c4⟩:=b O;rw[K]at N;generalize T:uV true D (Lib.strCells ⟨d.toArray⟩)=q at I N;have h3':Lib.IsBuilder 235 5 a.heap.size a.heap.size q u.drew:=I;have a4':=O.drew;obtain⟨o,m,k,c3,c4⟩:=b a4';have two (x:Nat) (hx:x<100):(Lib.decDigits x).length<=2:=by
  by_cases h:x<10
  ·rw[Lib.decDigits_one h];simp
  ·rw[Lib.decDigits_two h hx];simp
 have f (c:UInt8) (x:Nat) (hx:x<100):((⟨#[c]⟩:ByteArray)++⟨(Lib.decDigits x).toArray⟩).size<=3:=by
  have r:=two x hx;rw[ByteArray.size_append];show 1+(Lib.decDigits x).toArray.size<=3;simp only[A8];omega
 have room (x:Nat) (hx:x<100):¬9223372036854775807<1+(Lib.decDigits x).length:=by
  have:=two x hx;omega
 have rx:=room x (by omega);have rs:=room s (by omega)
 go_wp2_with fail
 refine wp_region_still_tail 8 mixed (by kernel_rfl) ?_;simp only[ox,oq,pP,cM]
 repeat still_step
 still_call (Tryz.strconv_Itoa_small x (by omega) _)
 still_step
 refine wpStill_nil ?_;change wpList _ _ _ _ _ u.drew;have ex:(Value.bool (decide (0<x)))=.bool (decide (0<x)):=rfl;have U:=f 69 x (by omega);have ls:=f 83 s (by omega);generalize y:((⟨#[69]⟩:ByteArray)++⟨(Lib.decDigits x).toArray⟩)=A at U
 go_wp2_with (go_at_call 161;refine(Qg (decide (0<x)) A a.heap.size a.heap.size q u.drew h3' (by omega) a4'.size).mono ?_)
 rintro e t ⟨rfl,H,V⟩;have a5:=a4'.trans V;have n4:=wN (decide (0<x)) q A;generalize Y:uV (decide (0<x)) q (Lib.strCells A)=z at H n4;have h4':Lib.IsBuilder 235 5 a.heap.size a.heap.size z t.drew:=H;have a5':=a5.drew;obtain⟨o,m,k,c3,c4⟩:=b a5'
 go_wp2_with fail
 refine wp_region_still_tail 8 mixed (by kernel_rfl) ?_;simp only[ox,oq,pP,cM]
 repeat still_step
 still_call (Tryz.strconv_Itoa_small s (by omega) _)
 still_step
 refine wpStill_nil ?_;change wpList _ _ _ _ _ t.drew;generalize F:((⟨#[83]⟩:ByteArray)++⟨(Lib.decDigits s).toArray⟩)=M at ls
 go_wp2_with (go_at_call 161;refine(Qg (decide (0<s)) M a.heap.size a.heap.size z t.drew h4' (by omega) a5'.size).mono ?_)
 rintro e W6 ⟨rfl,P,b6⟩;have L:=a5'.trans b6;have e6:uV (decide (0<s)) z (Lib.strCells M)=Lib.byteCells (fZ g l d x s):=by
  subst e1 e2 T Y y F;exact acb g l d x s
 rw[e6]at P
 go_wp2_with (go_at_call 164;refine(Tryz.Builder_String_any a.heap.size a.heap.size (fZ g l d x s) W6 P L.size).mono ?_)
 rintro e W7 ⟨rfl,W⟩
 go_wp2
 go_ret2
 refine⟨rfl,AX _ (b1.trans ((L.trans W).mono b1.size))⟩
end Go.Sh
