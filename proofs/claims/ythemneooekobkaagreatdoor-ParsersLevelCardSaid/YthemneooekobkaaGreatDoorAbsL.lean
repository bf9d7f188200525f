
/- An operation's effect hangs on what it looks at, and on nothing else.
   Conditions: none; generic over the program. -/
import Derived.Test.YthemneooekobkaaGreatDoorAbsJ
set_option linter.unusedSimpArgs false
set_option linter.unusedVariables false
namespace Go.Abs
variable {P:Program}
section
variable {α β γ:Type}
@[simp] theorem kQ (a:α) (f:α->Option β):ob (some a) f=f a:=rfl
@[simp] theorem rJ (f:α->Option β):ob none f=none:=rfl
theorem dS (o:Option α) (f:α->Option β) (g:β->Option γ):ob (ob o f) g=ob o λa=>ob (f a) g:=by cases o<;>rfl
theorem qB (b:Bool) (x y:Option α) (g:α->Option β):ob (cond b x y) g=cond b (ob x g) (ob y g):=by cases b<;>rfl
theorem yf (op:BinOp) (k:IntKind) (x y:Int) (c:V->Option α) (g:α->Option β):intK op k x y (λv=>ob (c v) g)=ob (intK op k x y c) g:=by
 cases op<;>simp only [intK,qB,rJ]
theorem LU (op:BinOp) (x y:aa) (c:V->Option α) (g:α->Option β):strK op x y (λv=>ob (c v) g)=ob (strK op x y c) g:=by
 cases op<;>simp only [strK,rJ,dS]
theorem LL (op:BinOp) (t:TypeId) (x y:V) (c:V->Option α) (g:α->Option β):binK P op t x y (λv=>ob (c v) g)=ob (binK P op t x y c) g:=by
 unfold binK;split
 ·split
  ·exact yf ..
  ·exact yf ..
  ·split
   ·exact yf ..
   ·rfl
 ·exact LU ..
 ·split
  ·split<;>rfl
  ·split<;>rfl
  ·rfl
theorem PH (op:UnOp) (x:V) (c:V->Option α) (g:α->Option β):unK op x (λv=>ob (c v) g)=ob (unK op x c) g:=by
 unfold unK;split<;>rfl
theorem tL (t:TypeId) (blk:Blk) (o:Nat) (c:V->Option α) (g:α->Option β):ny P t blk o (λv=>ob (c v) g)=ob (ny P t blk o c) g:=by
 unfold ny;split
 ·split<;>rfl
 ·split<;>rfl
 ·rfl
theorem rk (t:TypeId) (blk:Blk) (o:Nat) (c:V->Option α) (g:α->Option β):vX P t blk o (λv=>ob (c v) g)=ob (vX P t blk o c) g:=by
 unfold vX;split
 ·exact tL ..
 ·exact tL ..
 ·split
  ·split<;>simp only [dS]
  ·simp only [dS]
  ·rfl
 ·split
  ·split<;>simp only [dS]
  ·rfl
 ·split
  ·simp only [dS]
  ·rfl
 ·rfl
theorem pH (t:TypeId) (blk:Blk) (o:Nat) (v:V) (c:Blk->Option α) (g:α->Option β):n6 P t blk o v (λv=>ob (c v) g)=ob (n6 P t blk o v c) g:=by
 unfold n6;split
 ·split<;>rfl
 ·split
  ·split
   ·simp only [qB,rJ]
   ·rfl
  ·split<;>rfl
  ·rfl
 ·rfl
theorem sq (n len:Nat) (h:Option Int) (c:Nat->Option α) (g:α->Option β):hiK n len h (λv=>ob (c v) g)=ob (hiK n len h c) g:=by
 unfold hiK;split
 ·rfl
 ·simp only [dS]
theorem uY (h:Nat) (l:Option Int) (c:Nat->Option α) (g:α->Option β):loK h l (λv=>ob (c v) g)=ob (loK h l c) g:=by
 unfold loK;split
 ·rfl
 ·simp only [dS]
theorem CC (ρ:Operand->Option V) (H:List (Nat×Blk)) (t:TypeId) (x:Operand) (lo hi:Option Operand) (mx:Operand) (c:Eff->Option α) (g:α->Option β):
  so P ρ H t x lo hi mx (λe=>ob (c e) g)=ob (so P ρ H t x lo hi mx c) g:=by
 unfold so;split
 ·simp only [dS];congr 1;funext a;split
  ·split
   ·split
    ·split
     ·split
      ·split
       ·simp only [dS]
       ·rfl
      ·rfl
     ·simp only [dS]
     ·simp only [dS]
     ·rfl
    ·rfl
   ·rfl
  ·rfl
 ·rfl
theorem C5:∀(l:List (Int×Nat)) (n:Int) (c:Nat->Option α) (g:α->Option β),mapK l n (λx=>ob (c x) g)=ob (mapK l n c) g
 | [],_,_,_=>rfl
 | (m,u)::l,n,c,g=>by
  simp only [mapK];cases (n==m) with
  | true=>rfl
  | false=>exact C5 l n c g
theorem LN (ρ:Operand->Option V) (H:List (Nat×Blk)) (f:Nat) (op:Op) (c:Eff->Option α) (g:α->Option β):
  effK P ρ H f op (λe=>ob (c e) g)=ob (effK P ρ H f op c) g:=by
 unfold effK;split
 case h_1=>simp only [dS]
 case h_2=>simp only [dS]
 case h_3=>
  split
  ·simp only [qB,dS]
  ·rfl
 case h_4=>simp only [dS]
 case h_5=>simp only [dS]
 case h_6=>
  simp only [dS];congr 1;funext z;congr 1;funext i;split
  ·split
   ·simp only [dS]
   ·rfl
  ·split
   ·simp only [dS]
   ·rfl
  ·rfl
 case h_7=>
  split
  ·split
   ·simp only [dS];congr 1;funext z;congr 1;funext i;split
    ·simp only [dS];congr 1;funext l;split
     ·split
      ·simp only [dS]
      ·rfl
     ·rfl
    ·rfl
   ·rfl
  ·rfl
 case h_8=>
  simp only [dS];congr 1;funext a;congr 1;funext b;split
  ·split
   ·simp only [dS];congr 1;funext z;split
    ·split
     ·simp only [dS,qB,rJ]
     ·rfl
    ·rfl
   ·rfl
  ·rfl
 case h_9=>
  split
  ·split
   ·exact rk ..
   ·rfl
  ·split
   ·split
    ·simp only [dS];congr 1;funext x;exact rk ..
    ·rfl
   ·rfl
  ·rfl
 case h_10=>
  split
  ·simp only [dS];congr 1;funext v;split
   ·exact pH ..
   ·rfl
  ·simp only [dS];congr 1;funext v;split
   ·split
    ·simp only [dS];congr 1;funext x;rw [<-pH];congr 1;funext d;split
     ·simp only [dS]
     ·rfl
    ·rfl
   ·rfl
  ·rfl
 case h_11=>split<;>rfl
 case h_12=>
  simp only [dS];congr 1;funext a;congr 1;funext b;split
  ·rfl
  ·split
   ·split
    ·rename_i m rd j;cases Nat.blt 0 m<;>rfl
    ·rfl
   ·exact LL ..
 case h_13=>
  simp only [dS];congr 1;funext a;exact PH ..
 case h_14=>
  simp only [dS];congr 1;funext a;split
  ·split
   ·split<;>rfl
   ·split
    ·split<;>rfl
    ·split<;>rfl
    ·split
     ·split
      ·split
       ·simp only [qB,rJ]
       ·rfl
      ·rfl
     ·rfl
    ·split
     ·split
      ·split<;>rfl
      ·rfl
     ·rfl
    ·split
     ·split
      ·split
       ·split
        ·simp only [qB,rJ]
        ·rfl
       ·rfl
      ·rfl
     ·rfl
    ·split
     ·split<;>rfl
     ·rfl
    ·rfl
   ·split
    ·split
     ·split<;>rfl
     ·rfl
    ·rfl
   ·rfl
  ·rfl
 case h_15=>
  simp only [dS];congr 1;funext a;split<;>rfl
 case h_16=>
  split
  ·split
   ·simp only [dS]
   ·rfl
  ·split
   ·simp only [dS]
   ·rfl
  ·rfl
 case h_17=>
  split
  ·exact CC ..
  ·simp only [dS];congr 1;funext a;congr 1;funext l;congr 1;funext h;split
   ·split
    ·simp only [<-sq,<-uY]
    ·rfl
   ·split
    ·split
     ·simp only [<-sq,<-uY]
     ·rfl
    ·rfl
   ·split
    ·split
     ·simp only [<-sq,<-uY]
     ·rw [<-sq];congr 1;funext h;split<;>rfl
     ·split
      ·split
       ·simp only [<-sq,<-uY]
       ·rfl
      ·rfl
     ·split
      ·simp only [<-sq,<-uY]
      ·rfl
     ·rfl
    ·rfl
   ·rfl
 case h_18=>
  split
  ·split
   ·split
    ·split<;>rfl
    ·rfl
   ·rfl
  ·split
   ·split
    ·split<;>rfl
    ·rfl
   ·rfl
  ·rfl
 case h_19=>
  split
  ·split
   ·split
    ·split
     ·split<;>rfl
     ·split
      ·simp only [dS]
      ·rfl
    ·rfl
   ·rfl
  ·rfl
 case h_20=>
  split
  ·split
   ·split
    ·split
     ·simp only [dS]
     ·rfl
    ·split
     ·simp only [dS]
     ·rfl
    ·rfl
   ·split
    ·split
     ·simp only [dS]
     ·rfl
    ·split
     ·split
      ·simp only [dS]
      ·rfl
     ·rfl
    ·split
     ·simp only [dS]
     ·rfl
    ·rfl
   ·rfl
  ·rfl
 case h_21=>
  split
  ·split
   ·split
    ·rfl
    ·split
     ·split
      ·split
       ·simp only [dS]
       ·rfl
      ·rfl
     ·split
      ·simp only [dS]
      ·simp only [dS]
      ·split
       ·split
        ·simp only [dS]
        ·rfl
       ·rfl
      ·split
       ·simp only [dS]
       ·rfl
      ·rfl
     ·rfl
   ·split
    ·simp only [dS]
    ·rfl
   ·rfl
  ·rfl
 case h_22=>
  split
  ·split<;>rfl
  ·rfl
 case h_23=>repeat' (first | rfl | split)
 case h_24=>
  split
  ·split
   ·split
    ·split
     ·split
      ·split
       ·exact C5 ..
       ·rfl
      ·rfl
     ·rfl
    ·rfl
   ·rfl
  ·rfl
 case h_25=>
  split
  ·split<;>rfl
  ·rfl
 case h_26=>
  split
  ·split
   ·simp only [qB]
   ·rfl
  ·rfl
 case h_27=>
  split
  ·simp only [dS]
  ·rfl
 case h_28=>
  split
  ·split
   ·rfl
   ·split
    ·split<;>rfl
    ·rfl
   ·rfl
  ·rfl
 case h_29=>
  split
  ·simp only [dS];congr 1;funext args;split
   ·split
    ·split
     ·split<;>rfl
     ·rfl
    ·split
     ·split<;>rfl
     ·rfl
    ·split
     ·split<;>rfl
     ·rfl
    ·split
     ·split
      ·split<;>rfl
      ·rfl
     ·rfl
    ·split
     ·split<;>rfl
     ·rfl
    ·split
     ·split<;>rfl
     ·rfl
    ·rfl
   ·split
    ·split
     ·split<;>rfl
     ·rfl
    ·split
     ·split<;>rfl
     ·rfl
    ·split
     ·split<;>rfl
     ·rfl
    ·rfl
   ·split
    ·split<;>rfl
    ·rfl
   ·split
    ·split<;>rfl
    ·rfl
   ·rfl
  ·rfl
 case h_30=>rfl
end
end Go.Abs
