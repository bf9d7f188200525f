
/- An operation's effect hangs on what it looks at, and on nothing else.
   Conditions: none; generic over the program. -/
import Derived.Test.YtfiponokimbeeaaGreatDoorAbsJ
set_option linter.unusedSimpArgs false
set_option linter.unusedVariables false
namespace Go.Abs
variable {P:Program}
section
variable {α β γ:Type}
@[simp] theorem mN (a:α) (f:α->Option β):ob (some a) f=f a:=rfl
@[simp] theorem uW (f:α->Option β):ob none f=none:=rfl
theorem eY (o:Option α) (f:α->Option β) (g:β->Option γ):ob (ob o f) g=ob o λa=>ob (f a) g:=by cases o<;>rfl
theorem sH (b:Bool) (x y:Option α) (g:α->Option β):ob (cond b x y) g=cond b (ob x g) (ob y g):=by cases b<;>rfl
theorem A6 (op:BinOp) (k:IntKind) (x y:Int) (c:V->Option α) (g:α->Option β):intK op k x y (λv=>ob (c v) g)=ob (intK op k x y c) g:=by
 cases op<;>simp only [intK,sH,uW]
theorem Pm (op:BinOp) (x y:aa) (c:V->Option α) (g:α->Option β):strK op x y (λv=>ob (c v) g)=ob (strK op x y c) g:=by
 cases op<;>simp only [strK,uW,eY]
theorem P6 (op:BinOp) (t:TypeId) (x y:V) (c:V->Option α) (g:α->Option β):binK P op t x y (λv=>ob (c v) g)=ob (binK P op t x y c) g:=by
 unfold binK;split
 ·split
  ·exact A6 ..
  ·exact A6 ..
  ·split
   ·exact A6 ..
   ·rfl
 ·exact Pm ..
 ·split
  ·split<;>rfl
  ·split<;>rfl
  ·rfl
theorem S3 (op:UnOp) (x:V) (c:V->Option α) (g:α->Option β):unK op x (λv=>ob (c v) g)=ob (unK op x c) g:=by
 unfold unK;split<;>rfl
theorem wH (t:TypeId) (blk:Blk) (o:Nat) (c:V->Option α) (g:α->Option β):pt P t blk o (λv=>ob (c v) g)=ob (pt P t blk o c) g:=by
 unfold pt;split
 ·split<;>rfl
 ·split<;>rfl
 ·rfl
theorem ub (t:TypeId) (blk:Blk) (o:Nat) (c:V->Option α) (g:α->Option β):yD P t blk o (λv=>ob (c v) g)=ob (yD P t blk o c) g:=by
 unfold yD;split
 ·exact wH ..
 ·exact wH ..
 ·split
  ·split<;>simp only [eY]
  ·simp only [eY]
  ·rfl
 ·split
  ·split<;>simp only [eY]
  ·rfl
 ·split
  ·simp only [eY]
  ·rfl
 ·rfl
theorem rr (t:TypeId) (blk:Blk) (o:Nat) (v:V) (c:Blk->Option α) (g:α->Option β):qI P t blk o v (λv=>ob (c v) g)=ob (qI P t blk o v c) g:=by
 unfold qI;split
 ·split<;>rfl
 ·split
  ·split
   ·simp only [sH,uW]
   ·rfl
  ·split<;>rfl
  ·rfl
 ·rfl
theorem uy (n len:Nat) (h:Option Int) (c:Nat->Option α) (g:α->Option β):hiK n len h (λv=>ob (c v) g)=ob (hiK n len h c) g:=by
 unfold hiK;split
 ·rfl
 ·simp only [eY]
theorem xM (h:Nat) (l:Option Int) (c:Nat->Option α) (g:α->Option β):loK h l (λv=>ob (c v) g)=ob (loK h l c) g:=by
 unfold loK;split
 ·rfl
 ·simp only [eY]
theorem EH (ρ:Operand->Option V) (H:List (Nat×Blk)) (t:TypeId) (x:Operand) (lo hi:Option Operand) (mx:Operand) (c:Eff->Option α) (g:α->Option β):
  uE P ρ H t x lo hi mx (λe=>ob (c e) g)=ob (uE P ρ H t x lo hi mx c) g:=by
 unfold uE;split
 ·simp only [eY];congr 1;funext a;split
  ·split
   ·split
    ·split
     ·split
      ·split
       ·simp only [eY]
       ·rfl
      ·rfl
     ·simp only [eY]
     ·simp only [eY]
     ·rfl
    ·rfl
   ·rfl
  ·rfl
 ·rfl
theorem F7:∀(l:List (Int×Nat)) (n:Int) (c:Nat->Option α) (g:α->Option β),mapK l n (λx=>ob (c x) g)=ob (mapK l n c) g
 | [],_,_,_=>rfl
 | (m,u)::l,n,c,g=>by
  simp only [mapK];cases (n==m) with
  | true=>rfl
  | false=>exact F7 l n c g
theorem OO (ρ:Operand->Option V) (H:List (Nat×Blk)) (f:Nat) (op:Op) (c:Eff->Option α) (g:α->Option β):
  effK P ρ H f op (λe=>ob (c e) g)=ob (effK P ρ H f op c) g:=by
 unfold effK;split
 case h_1=>simp only [eY]
 case h_2=>simp only [eY]
 case h_3=>
  split
  ·simp only [sH,eY]
  ·rfl
 case h_4=>simp only [eY]
 case h_5=>simp only [eY]
 case h_6=>
  simp only [eY];congr 1;funext z;congr 1;funext i;split
  ·split
   ·simp only [eY]
   ·rfl
  ·split
   ·simp only [eY]
   ·rfl
  ·rfl
 case h_7=>
  split
  ·split
   ·simp only [eY];congr 1;funext z;congr 1;funext i;split
    ·simp only [eY];congr 1;funext l;split
     ·split
      ·simp only [eY]
      ·rfl
     ·rfl
    ·rfl
   ·rfl
  ·rfl
 case h_8=>
  simp only [eY];congr 1;funext a;congr 1;funext b;split
  ·split
   ·simp only [eY];congr 1;funext z;split
    ·split
     ·simp only [eY,sH,uW]
     ·rfl
    ·rfl
   ·rfl
  ·rfl
 case h_9=>
  split
  ·split
   ·exact ub ..
   ·rfl
  ·split
   ·split
    ·simp only [eY];congr 1;funext x;exact ub ..
    ·rfl
   ·rfl
  ·rfl
 case h_10=>
  split
  ·simp only [eY];congr 1;funext v;split
   ·exact rr ..
   ·rfl
  ·simp only [eY];congr 1;funext v;split
   ·split
    ·simp only [eY];congr 1;funext x;rw [<-rr];congr 1;funext d;split
     ·simp only [eY]
     ·rfl
    ·rfl
   ·rfl
  ·rfl
 case h_11=>split<;>rfl
 case h_12=>
  simp only [eY];congr 1;funext a;congr 1;funext b;split
  ·rfl
  ·split
   ·split
    ·rename_i m rd j;cases Nat.blt 0 m<;>rfl
    ·rfl
   ·exact P6 ..
 case h_13=>
  simp only [eY];congr 1;funext a;exact S3 ..
 case h_14=>
  simp only [eY];congr 1;funext a;split
  ·split
   ·split<;>rfl
   ·split
    ·split<;>rfl
    ·split<;>rfl
    ·split
     ·split
      ·split
       ·simp only [sH,uW]
       ·rfl
      ·rfl
     ·rfl
    ·split
     ·split
      ·split<;>rfl
      ·rfl
     ·rfl
    ·split
     ·split
      ·split
       ·split
        ·simp only [sH,uW]
        ·rfl
       ·rfl
      ·rfl
     ·rfl
    ·split
     ·split<;>rfl
     ·rfl
    ·rfl
   ·split
    ·split
     ·split<;>rfl
     ·rfl
    ·rfl
   ·rfl
  ·rfl
 case h_15=>
  simp only [eY];congr 1;funext a;split<;>rfl
 case h_16=>
  split
  ·split
   ·simp only [eY]
   ·rfl
  ·split
   ·simp only [eY]
   ·rfl
  ·rfl
 case h_17=>
  split
  ·exact EH ..
  ·simp only [eY];congr 1;funext a;congr 1;funext l;congr 1;funext h;split
   ·split
    ·simp only [<-uy,<-xM]
    ·rfl
   ·split
    ·split
     ·simp only [<-uy,<-xM]
     ·rfl
    ·rfl
   ·split
    ·split
     ·simp only [<-uy,<-xM]
     ·rw [<-uy];congr 1;funext h;split<;>rfl
     ·split
      ·split
       ·simp only [<-uy,<-xM]
       ·rfl
      ·rfl
     ·split
      ·simp only [<-uy,<-xM]
      ·rfl
     ·rfl
    ·rfl
   ·rfl
 case h_18=>
  split
  ·split
   ·split
    ·split<;>rfl
    ·rfl
   ·rfl
  ·split
   ·split
    ·split<;>rfl
    ·rfl
   ·rfl
  ·rfl
 case h_19=>
  split
  ·split
   ·split
    ·split
     ·split<;>rfl
     ·split
      ·simp only [eY]
      ·rfl
    ·rfl
   ·rfl
  ·rfl
 case h_20=>
  split
  ·split
   ·split
    ·split
     ·simp only [eY]
     ·rfl
    ·split
     ·simp only [eY]
     ·rfl
    ·rfl
   ·split
    ·split
     ·simp only [eY]
     ·rfl
    ·split
     ·split
      ·simp only [eY]
      ·rfl
     ·rfl
    ·split
     ·simp only [eY]
     ·rfl
    ·rfl
   ·rfl
  ·rfl
 case h_21=>
  split
  ·split
   ·split
    ·rfl
    ·split
     ·split
      ·split
       ·simp only [eY]
       ·rfl
      ·rfl
     ·split
      ·simp only [eY]
      ·simp only [eY]
      ·split
       ·split
        ·simp only [eY]
        ·rfl
       ·rfl
      ·split
       ·simp only [eY]
       ·rfl
      ·rfl
     ·rfl
   ·split
    ·simp only [eY]
    ·rfl
   ·rfl
  ·rfl
 case h_22=>
  split
  ·split<;>rfl
  ·rfl
 case h_23=>repeat' (first | rfl | split)
 case h_24=>
  split
  ·split
   ·split
    ·split
     ·split
      ·split
       ·exact F7 ..
       ·rfl
      ·rfl
     ·rfl
    ·rfl
   ·rfl
  ·rfl
 case h_25=>
  split
  ·split<;>rfl
  ·rfl
 case h_26=>
  split
  ·split
   ·simp only [sH]
   ·rfl
  ·rfl
 case h_27=>
  split
  ·simp only [eY]
  ·rfl
 case h_28=>
  split
  ·split
   ·rfl
   ·split
    ·split<;>rfl
    ·rfl
   ·rfl
  ·rfl
 case h_29=>
  split
  ·simp only [eY];congr 1;funext args;split
   ·split
    ·split
     ·split<;>rfl
     ·rfl
    ·split
     ·split<;>rfl
     ·rfl
    ·split
     ·split<;>rfl
     ·rfl
    ·split
     ·split
      ·split<;>rfl
      ·rfl
     ·rfl
    ·split
     ·split<;>rfl
     ·rfl
    ·split
     ·split<;>rfl
     ·rfl
    ·rfl
   ·split
    ·split
     ·split<;>rfl
     ·rfl
    ·split
     ·split<;>rfl
     ·rfl
    ·split
     ·split<;>rfl
     ·rfl
    ·rfl
   ·split
    ·split<;>rfl
    ·rfl
   ·split
    ·split<;>rfl
    ·rfl
   ·rfl
  ·rfl
 case h_30=>rfl
end
end Go.Abs
