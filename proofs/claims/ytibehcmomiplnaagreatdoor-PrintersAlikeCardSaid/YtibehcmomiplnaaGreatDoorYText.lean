
import Derived.Test.YtibehcmomiplnaaGreatDoorCeR
import Derived.StillTailTactics
set_option linter.unusedSimpArgs false
set_option linter.unusedVariables false
set_option maxRecDepth 100000
set_option linter.defProp false
namespace Go.Sh
open Go.Abs Go.Proofs Go.RowKit
def sV(b:Bool)(a more:List Value):List Value:=cond b (a++more) a
def uv(a:Bool)(b:List Value)(s:ByteArray):(sV a b (Lib.strCells s)).length<=b.length+s.size:=by
 have:(Lib.strCells s).length=s.size:=by rw[Lib.strCells_eq,Lib.byteCells,vN];rfl
 unfold sV;cases a
 ·simp
 ·simp[this]
def M3(f:Bool)(s:ByteArray)(B b:Nat)(c:List Value)(w:World)(g:Lib.IsBuilder 189 5 B b c w)(a:c.length+s.size<=140737488355328)(d:B<=w.heap.size):
  Calls Tryz.prog 126 #[.bool f,.string s,.pointer (some ⟨b,0,none⟩)] w λe w'=>e=.returned (.tuple #[])/\Lib.IsBuilder 189 5 B b (sV f c (Lib.strCells s)) w'/\Below B w w':=by
 go_enter Tryz.func126,Tryz.ntmps126
 cases f
 ·go_wp2
  go_end0
  exact⟨rfl,g,Below.refl _ _⟩
 ·go_wp2_with (go_at_call 127;refine(Tryz.Builder_WriteString B b c s _ g a d).mono ?_)
  rintro e w' ⟨rfl,h,i⟩
  go_wp2
  go_end0
  exact⟨rfl,Or.inr h,i⟩
def yM{w w':World}(o:Obj)(h:Below (w.alloc o).heap.size (w.alloc o) w'):Below w.heap.size w w':=by
 have a:Below w.heap.size w (w.alloc o):=(Below.refl _ w).alloc (bg _) _;refine a.trans ⟨h.os,h.tape,h.output,h.size,λk b=>h.block k ?_⟩;have:=a.size;omega
def ychk(n:Nat)(g l:Bool)(d:aa)(x s r:Int)(h:cM n g l d x s=some r)(w:World)(f:GL gX w):
  Calls Tryz.prog 125 #[.agg #[.bool g,.bool l,.string ⟨d.toArray⟩,.int .i64 x,.int .i64 s]] w λe w'=>e=.returned (.int .i64 r)/\Below w.heap.size w w':=by
 refine(pure_yearforms_Check n (g,l,d,x,s) r h w _ f ?_).mono λe w' ⟨v,a,c,b⟩=>⟨?_,b.below⟩
 ·exact⟨_,_,rfl,⟨_,rfl,⟨_,_,rfl,rfl,_,_,rfl,rfl,_,_,rfl,rfl,_,_,rfl,rfl,_,_,rfl,rfl,rfl⟩⟩,rfl⟩
 ·have:v=.int .i64 r:=c;rw[a,this]
def LQ(n:Nat)(g l:Bool)(d:aa)(x s r:Int)(w:World)(h:cM n g l d x s=some r)(c:r≠0)(a:GL gX w):
  Calls Tryz.prog 87 #[.agg #[.bool g,.bool l,.string ⟨d.toArray⟩,.int .i64 x,.int .i64 s]] w λe w'=>e=.returned (.tuple #[.string ⟨#[]⟩,.int .i64 r])/\Below w.heap.size w w':=by
 go_enter Tryz.func87,Tryz.ntmps87
 go_wp2_with (go_at_call 125;refine(ychk n g l d x s r h _ (a.alloc _)).mono ?_)
 rintro e b ⟨rfl,b1⟩
 go_wp2
 go_ret2
 exact⟨rfl,yM _ b1⟩
def Wq{w w':World}{c:Array Value}{e:TypeId}(a:Below (w.alloc (.cells c e)).heap.size (w.alloc (.cells c e)) w')(j:Nat):w'.cell? ⟨w.heap.size,j,none⟩=c[j]?:=by
 have h:w'.heap[w.heap.size]?=some (.cells c e (0,0)):=by
  rw[a.block _ (by show w.heap.size<(w.heap.push _).size;simp)];exact kq w _
 exact bh h
def EG(c:UInt8)(l:aa):Lib.strCells ((⟨#[c]⟩:ByteArray)++⟨l.toArray⟩)=Lib.byteCells (c::l):=by
 rw[Lib.strCells_eq,ByteArray.data_append];simp
def Ha(c:Bool)(a b:aa):sV c (Lib.byteCells a) (Lib.byteCells b)=Lib.byteCells (a++cond c b []):=by
 cases c
 ·simp[sV]
 ·simp[sV,Lib.byteCells_append]
def Zd(g l:Bool)(d:aa)(x s:Nat):
  sV (decide (0<s)) (sV (decide (0<x)) (sV true (sV g (sV l [] (Lib.strCells ⟨#[89]⟩)) (Lib.strCells ⟨#[45]⟩)) (Lib.strCells ⟨d.toArray⟩)) (Lib.strCells ((⟨#[69]⟩:ByteArray)++⟨(Lib.decDigits x).toArray⟩)))
   (Lib.strCells ((⟨#[83]⟩:ByteArray)++⟨(Lib.decDigits s).toArray⟩))=Lib.byteCells (gB g l d x s):=by
 have e:Lib.strCells ⟨#[89]⟩=Lib.byteCells [89]:=rfl;have k:Lib.strCells ⟨#[45]⟩=Lib.byteCells [45]:=rfl;have f:Lib.strCells ⟨d.toArray⟩=Lib.byteCells d:=by rw[Lib.strCells_eq]
 have i:([]:List Value)=Lib.byteCells []:=rfl;rw[EG,EG,e,k,f,i];simp only[Ha];congr 1;have j {α:Type} (p:Prop) [Decidable p] (a b:List α):cond (decide p) a b=if p then a else b:=by by_cases h:p<;>simp[h]
 have c {α:Type} (p:Bool) (a b:List α):cond p a b=if p then a else b:=by cases p<;>rfl
 simp only[gB,bX,Int.natCast_pos,j,dQ,c];simp
set_option maxHeartbeats 2000000 in
def Qm(n:Nat)(g l:Bool)(d:aa)(x s:Int)(w:World)(h:cM n g l d x s=some 0)(hs:vY d x s=true)(hg:GL gX w):
  Calls Tryz.prog 87 #[.agg #[.bool g,.bool l,.string ⟨d.toArray⟩,.int .i64 x,.int .i64 s]] w λe w'=>e=.returned (.tuple #[.string ⟨(gB g l d x s).toArray⟩,.int .i64 0])/\Below w.heap.size w w':=by
 have u:(0<=x/\x<100/\0<=s/\s<100)/\d.length<=1000:=by
  simp only[vY,aA,cb]at hs;exact⟨hs.1,aM hs.2⟩
 obtain⟨⟨hx0,hx1,Y,T⟩,hd⟩:=u;clear hs;obtain⟨x,rfl⟩:∃i:Nat,x=(i:Int):=⟨x.toNat,by omega⟩;obtain⟨s,rfl⟩:∃i:Nat,s=(i:Int):=⟨s.toNat,by omega⟩;have mixed:Tryz.prog.follows .mixedOrders=true:=by kernel_rfl
 go_enter Tryz.func87,Tryz.ntmps87
 go_wp2_with (go_at_call 125;refine(ychk n g l d x s 0 h _ (hg.alloc _)).mono ?_)
 rintro e a ⟨rfl,b1⟩;have q1:=Wq b1;have h0:Lib.IsBuilder 189 5 a.heap.size a.heap.size [] (a.alloc (.cells #[.pointer none,.slice none 0 0] 189)):=Lib.fresh_isBuilder 189 5 a;have a1:Below a.heap.size a (a.alloc (.cells #[.pointer none,.slice none 0 0] 189)):=(Below.refl _ a).alloc (bg _) _;have b:∀{j:World} (_:Below a.heap.size a j),j.cell? ⟨w.heap.size,0,none⟩=some (.bool g)/\j.cell? ⟨w.heap.size,1,none⟩=some (.bool l)/\j.cell? ⟨w.heap.size,2,none⟩=some (.string ⟨d.toArray⟩)/\j.cell? ⟨w.heap.size,3,none⟩=some (.int .i64 x)/\j.cell? ⟨w.heap.size,4,none⟩=some (.int .i64 s):=by
  intro j hb;have v:w.heap.size<a.heap.size:=by
   have:=b1.size;have r:(w.alloc (.cells #[.bool g,.bool l,.string ⟨d.toArray⟩,.int .i64 x,.int .i64 s] 27)).heap.size=w.heap.size+1:=by show(w.heap.push _).size=_;simp
   omega
  refine⟨?_,?_,?_,?_,?_⟩<;>rw[hb.cell (p:=⟨w.heap.size,_,none⟩) v,q1]<;>rfl
 obtain⟨m,o,k,c3,c4⟩:=b a1
 go_wp2_with (go_at_call 126;refine(M3 l ⟨#[89]⟩ a.heap.size a.heap.size _ _ h0 (by decide) a1.size).mono ?_)
 rintro e W2 ⟨rfl,H,b2⟩;have a2:=a1.trans b2;have A:=uv l [] ⟨#[89]⟩;obtain⟨m,o,k,c3,c4⟩:=b a2;have z1:(⟨#[89]⟩:ByteArray).size=1:=rfl;have z2:(⟨#[45]⟩:ByteArray).size=1:=rfl;rw[z1]at A;simp only[aX]at A;generalize Z:sV l [] (Lib.strCells ⟨#[89]⟩)=G at H A
 go_wp2_with (go_at_call 126;refine(M3 g ⟨#[45]⟩ a.heap.size a.heap.size G W2 H (by rw[z2];omega) a2.size).mono ?_)
 rintro e W3 ⟨rfl,r,S⟩;have F:=a2.trans S;have I:=uv g G ⟨#[45]⟩;obtain⟨m,o,k,c3,c4⟩:=b F;rw[z2]at I;generalize e2:sV g G (Lib.strCells ⟨#[45]⟩)=D at r I;have N:(⟨d.toArray⟩:ByteArray).size=d.length:=by show d.toArray.size=_;simp
 go_wp2_with (go_at_call 126;refine(M3 true ⟨d.toArray⟩ a.heap.size a.heap.size D W3 r (by rw[N];omega) F.size).mono ?_)
 rintro e C ⟨rfl,P,V⟩;have L:=F.trans V;have O:=uv true D ⟨d.toArray⟩;obtain⟨m,o,k,c3,c4⟩:=b L;rw[N]at O;generalize e3:sV true D (Lib.strCells ⟨d.toArray⟩)=q at P O;have h3':Lib.IsBuilder 189 5 a.heap.size a.heap.size q C.drew:=P;have a4':=L.drew;obtain⟨m,o,k,c3,c4⟩:=b a4';have two (x:Nat) (hx:x<100):(Lib.decDigits x).length<=2:=by
  by_cases h:x<10
  ·rw[Lib.decDigits_one h];simp
  ·rw[Lib.decDigits_two h hx];simp
 have f (c:UInt8) (x:Nat) (hx:x<100):((⟨#[c]⟩:ByteArray)++⟨(Lib.decDigits x).toArray⟩).size<=3:=by
  have r:=two x hx;rw[ByteArray.size_append];show 1+(Lib.decDigits x).toArray.size<=3;simp only[zi];omega
 have room (x:Nat) (hx:x<100):¬9223372036854775807<1+(Lib.decDigits x).length:=by
  have:=two x hx;omega
 have rx:=room x (by omega);have rs:=room s (by omega)
 go_wp2_with fail
 refine wp_region_still_tail 8 mixed (by kernel_rfl) ?_;simp only[nq,nr,oM,dk]
 repeat still_step
 still_call (Tryz.strconv_Itoa_small x (by omega) _)
 still_step
 refine wpStill_nil ?_;change wpList _ _ _ _ _ C.drew;have ex:(Value.bool (decide (0<x)))=.bool (decide (0<x)):=rfl;have lx:=f 69 x (by omega);have ls:=f 83 s (by omega);generalize z:((⟨#[69]⟩:ByteArray)++⟨(Lib.decDigits x).toArray⟩)=B at lx
 go_wp2_with (go_at_call 126;refine(M3 (decide (0<x)) B a.heap.size a.heap.size q C.drew h3' (by omega) a4'.size).mono ?_)
 rintro e E ⟨rfl,K,W⟩;have a5:=a4'.trans W;have n4:=uv (decide (0<x)) q B;generalize e4:sV (decide (0<x)) q (Lib.strCells B)=t at K n4;have h4':Lib.IsBuilder 189 5 a.heap.size a.heap.size t E.drew:=K;have a5':=a5.drew;obtain⟨m,o,k,c3,c4⟩:=b a5'
 go_wp2_with fail
 refine wp_region_still_tail 8 mixed (by kernel_rfl) ?_;simp only[nq,nr,oM,dk]
 repeat still_step
 still_call (Tryz.strconv_Itoa_small s (by omega) _)
 still_step
 refine wpStill_nil ?_;change wpList _ _ _ _ _ E.drew;generalize y:((⟨#[83]⟩:ByteArray)++⟨(Lib.decDigits s).toArray⟩)=M at ls
 go_wp2_with (go_at_call 126;refine(M3 (decide (0<s)) M a.heap.size a.heap.size t E.drew h4' (by omega) a5'.size).mono ?_)
 rintro e X ⟨rfl,J,U⟩;have Q:=a5'.trans U;have e6:sV (decide (0<s)) t (Lib.strCells M)=Lib.byteCells (gB g l d x s):=by
  subst Z e2 e3 e4 z y;exact Zd g l d x s
 rw[e6]at J
 go_wp2_with (go_at_call 129;refine(Tryz.Builder_String_any a.heap.size a.heap.size (gB g l d x s) X J Q.size).mono ?_)
 rintro e W7 ⟨rfl,R⟩
 go_wp2
 go_ret2
 refine⟨rfl,yM _ (b1.trans ((Q.trans R).mono b1.size))⟩
end Go.Sh
