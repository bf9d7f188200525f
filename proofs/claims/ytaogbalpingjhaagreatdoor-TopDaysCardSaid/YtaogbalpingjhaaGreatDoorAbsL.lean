
/- An operation's effect hangs on what it looks at, and on nothing else.
   Conditions: none; generic over the program. -/
import Derived.Test.YtaogbalpingjhaaGreatDoorAbsJ
set_option linter.unusedSimpArgs false
set_option linter.unusedVariables false
namespace Go.Abs
variable {P:Program}
section
variable {α β γ:Type}
@[simp] theorem iO (a:α) (f:α->Option β):ob (some a) f=f a:=rfl
@[simp] theorem ot (f:α->Option β):ob none f=none:=rfl
theorem cq (o:Option α) (f:α->Option β) (g:β->Option γ):ob (ob o f) g=ob o λa=>ob (f a) g:=by cases o<;>rfl
theorem mU (b:Bool) (x y:Option α) (g:α->Option β):ob (cond b x y) g=cond b (ob x g) (ob y g):=by cases b<;>rfl
theorem tN (op:BinOp) (k:IntKind) (x y:Int) (c:V->Option α) (g:α->Option β):intK op k x y (λv=>ob (c v) g)=ob (intK op k x y c) g:=by
 cases op<;>simp only [intK,mU,ot]
theorem Ey (op:BinOp) (x y:aa) (c:V->Option α) (g:α->Option β):strK op x y (λv=>ob (c v) g)=ob (strK op x y c) g:=by
 cases op<;>simp only [strK,ot,cq]
theorem EN (op:BinOp) (t:TypeId) (x y:V) (c:V->Option α) (g:α->Option β):binK P op t x y (λv=>ob (c v) g)=ob (binK P op t x y c) g:=by
 unfold binK;split
 ·split
  ·exact tN ..
  ·exact tN ..
  ·split
   ·exact tN ..
   ·rfl
 ·exact Ey ..
 ·split
  ·split<;>rfl
  ·split<;>rfl
  ·rfl
theorem HY (op:UnOp) (x:V) (c:V->Option α) (g:α->Option β):unK op x (λv=>ob (c v) g)=ob (unK op x c) g:=by
 unfold unK;split<;>rfl
theorem qB (t:TypeId) (blk:Blk) (o:Nat) (c:V->Option α) (g:α->Option β):kQ P t blk o (λv=>ob (c v) g)=ob (kQ P t blk o c) g:=by
 unfold kQ;split
 ·split<;>rfl
 ·split<;>rfl
 ·rfl
theorem nV (t:TypeId) (blk:Blk) (o:Nat) (c:V->Option α) (g:α->Option β):sq P t blk o (λv=>ob (c v) g)=ob (sq P t blk o c) g:=by
 unfold sq;split
 ·exact qB ..
 ·exact qB ..
 ·split
  ·split<;>simp only [cq]
  ·simp only [cq]
  ·rfl
 ·split
  ·split<;>simp only [cq]
  ·rfl
 ·split
  ·simp only [cq]
  ·rfl
 ·rfl
theorem l5 (t:TypeId) (blk:Blk) (o:Nat) (v:V) (c:Blk->Option α) (g:α->Option β):lV P t blk o v (λv=>ob (c v) g)=ob (lV P t blk o v c) g:=by
 unfold lV;split
 ·split<;>rfl
 ·split
  ·split
   ·simp only [mU,ot]
   ·rfl
  ·split<;>rfl
  ·rfl
 ·rfl
theorem oC (n len:Nat) (h:Option Int) (c:Nat->Option α) (g:α->Option β):hiK n len h (λv=>ob (c v) g)=ob (hiK n len h c) g:=by
 unfold hiK;split
 ·rfl
 ·simp only [cq]
theorem qp (h:Nat) (l:Option Int) (c:Nat->Option α) (g:α->Option β):loK h l (λv=>ob (c v) g)=ob (loK h l c) g:=by
 unfold loK;split
 ·rfl
 ·simp only [cq]
theorem xl (ρ:Operand->Option V) (H:List (Nat×Blk)) (t:TypeId) (x:Operand) (lo hi:Option Operand) (b:Operand) (c:Eff->Option α) (g:α->Option β):
  oJ P ρ H t x lo hi b (λe=>ob (c e) g)=ob (oJ P ρ H t x lo hi b c) g:=by
 unfold oJ;split
 ·simp only [cq];congr 1;funext a;split
  ·split
   ·split
    ·split
     ·split
      ·split
       ·simp only [cq]
       ·rfl
      ·rfl
     ·simp only [cq]
     ·simp only [cq]
     ·rfl
    ·rfl
   ·rfl
  ·rfl
 ·rfl
theorem yV:∀(l:List (Int×Nat)) (n:Int) (c:Nat->Option α) (g:α->Option β),mapK l n (λx=>ob (c x) g)=ob (mapK l n c) g
 | [],_,_,_=>rfl
 | (m,u)::l,n,c,g=>by
  simp only [mapK];cases (n==m) with
  | true=>rfl
  | false=>exact yV l n c g
theorem FR (ρ:Operand->Option V) (H:List (Nat×Blk)) (f:Nat) (op:Op) (c:Eff->Option α) (g:α->Option β):
  effK P ρ H f op (λe=>ob (c e) g)=ob (effK P ρ H f op c) g:=by
 unfold effK;split
 case h_1=>simp only [cq]
 case h_2=>simp only [cq]
 case h_3=>
  split
  ·simp only [mU,cq]
  ·rfl
 case h_4=>simp only [cq]
 case h_5=>simp only [cq]
 case h_6=>
  simp only [cq];congr 1;funext z;congr 1;funext i;split
  ·split
   ·simp only [cq]
   ·rfl
  ·split
   ·simp only [cq]
   ·rfl
  ·rfl
 case h_7=>
  split
  ·split
   ·simp only [cq];congr 1;funext z;congr 1;funext i;split
    ·simp only [cq];congr 1;funext l;split
     ·split
      ·simp only [cq]
      ·rfl
     ·rfl
    ·rfl
   ·rfl
  ·rfl
 case h_8=>
  simp only [cq];congr 1;funext a;congr 1;funext b;split
  ·split
   ·simp only [cq];congr 1;funext z;split
    ·split
     ·simp only [cq,mU,ot]
     ·rfl
    ·rfl
   ·rfl
  ·rfl
 case h_9=>
  split
  ·split
   ·exact nV ..
   ·rfl
  ·split
   ·split
    ·simp only [cq];congr 1;funext x;exact nV ..
    ·rfl
   ·rfl
  ·rfl
 case h_10=>
  split
  ·simp only [cq];congr 1;funext v;split
   ·exact l5 ..
   ·rfl
  ·simp only [cq];congr 1;funext v;split
   ·split
    ·simp only [cq];congr 1;funext x;rw [<-l5];congr 1;funext d;split
     ·simp only [cq]
     ·rfl
    ·rfl
   ·rfl
  ·rfl
 case h_11=>split<;>rfl
 case h_12=>
  simp only [cq];congr 1;funext a;congr 1;funext b;split
  ·rfl
  ·split
   ·split
    ·rename_i m rd j;cases Nat.blt 0 m<;>rfl
    ·rfl
   ·exact EN ..
 case h_13=>
  simp only [cq];congr 1;funext a;exact HY ..
 case h_14=>
  simp only [cq];congr 1;funext a;split
  ·split
   ·split<;>rfl
   ·split
    ·split<;>rfl
    ·split<;>rfl
    ·split
     ·split
      ·split
       ·simp only [mU,ot]
       ·rfl
      ·rfl
     ·rfl
    ·split
     ·split
      ·split<;>rfl
      ·rfl
     ·rfl
    ·split
     ·split
      ·split
       ·split
        ·simp only [mU,ot]
        ·rfl
       ·rfl
      ·rfl
     ·rfl
    ·split
     ·split<;>rfl
     ·rfl
    ·rfl
   ·split
    ·split
     ·split<;>rfl
     ·rfl
    ·rfl
   ·rfl
  ·rfl
 case h_15=>
  simp only [cq];congr 1;funext a;split<;>rfl
 case h_16=>
  split
  ·split
   ·simp only [cq]
   ·rfl
  ·split
   ·simp only [cq]
   ·rfl
  ·rfl
 case h_17=>
  split
  ·exact xl ..
  ·simp only [cq];congr 1;funext a;congr 1;funext l;congr 1;funext h;split
   ·split
    ·simp only [<-oC,<-qp]
    ·rfl
   ·split
    ·split
     ·simp only [<-oC,<-qp]
     ·rfl
    ·rfl
   ·split
    ·split
     ·simp only [<-oC,<-qp]
     ·rw [<-oC];congr 1;funext h;split<;>rfl
     ·split
      ·split
       ·simp only [<-oC,<-qp]
       ·rfl
      ·rfl
     ·split
      ·simp only [<-oC,<-qp]
      ·rfl
     ·rfl
    ·rfl
   ·rfl
 case h_18=>
  split
  ·split
   ·split
    ·split<;>rfl
    ·rfl
   ·rfl
  ·split
   ·split
    ·split<;>rfl
    ·rfl
   ·rfl
  ·rfl
 case h_19=>
  split
  ·split
   ·split
    ·split
     ·split<;>rfl
     ·split
      ·simp only [cq]
      ·rfl
    ·rfl
   ·rfl
  ·rfl
 case h_20=>
  split
  ·split
   ·split
    ·split
     ·simp only [cq]
     ·rfl
    ·split
     ·simp only [cq]
     ·rfl
    ·rfl
   ·split
    ·split
     ·simp only [cq]
     ·rfl
    ·split
     ·split
      ·simp only [cq]
      ·rfl
     ·rfl
    ·split
     ·simp only [cq]
     ·rfl
    ·rfl
   ·rfl
  ·rfl
 case h_21=>
  split
  ·split
   ·split
    ·rfl
    ·split
     ·split
      ·split
       ·simp only [cq]
       ·rfl
      ·rfl
     ·split
      ·simp only [cq]
      ·simp only [cq]
      ·split
       ·split
        ·simp only [cq]
        ·rfl
       ·rfl
      ·split
       ·simp only [cq]
       ·rfl
      ·rfl
     ·rfl
   ·split
    ·simp only [cq]
    ·rfl
   ·rfl
  ·rfl
 case h_22=>
  split
  ·split<;>rfl
  ·rfl
 case h_23=>repeat' (first | rfl | split)
 case h_24=>
  split
  ·split
   ·split
    ·split
     ·split
      ·split
       ·exact yV ..
       ·rfl
      ·rfl
     ·rfl
    ·rfl
   ·rfl
  ·rfl
 case h_25=>
  split
  ·split<;>rfl
  ·rfl
 case h_26=>
  split
  ·split
   ·simp only [mU]
   ·rfl
  ·rfl
 case h_27=>
  split
  ·simp only [cq]
  ·rfl
 case h_28=>
  split
  ·split
   ·rfl
   ·split
    ·split<;>rfl
    ·rfl
   ·rfl
  ·rfl
 case h_29=>
  split
  ·simp only [cq];congr 1;funext args;split
   ·split
    ·split
     ·split<;>rfl
     ·rfl
    ·split
     ·split<;>rfl
     ·rfl
    ·split
     ·split<;>rfl
     ·rfl
    ·split
     ·split
      ·split<;>rfl
      ·rfl
     ·rfl
    ·split
     ·split<;>rfl
     ·rfl
    ·split
     ·split<;>rfl
     ·rfl
    ·rfl
   ·split
    ·split
     ·split<;>rfl
     ·rfl
    ·split
     ·split<;>rfl
     ·rfl
    ·split
     ·split<;>rfl
     ·rfl
    ·rfl
   ·split
    ·split<;>rfl
    ·rfl
   ·split
    ·split<;>rfl
    ·rfl
   ·rfl
  ·rfl
 case h_30=>rfl
end
end Go.Abs
