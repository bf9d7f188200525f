
/- An operation's effect hangs on what it looks at, and on nothing else.
   Conditions: none; generic over the program. -/
import Derived.Test.YthemneooekobkaaGreatDoorAbsJ
set_option linter.unusedSimpArgs false
set_option linter.unusedVariables false
namespace Go.Abs
variable {P:Program}
section
variable {α β γ:Type}
@[simp] theorem mV (a:α) (f:α->Option β):ob (some a) f=f a:=rfl
@[simp] theorem vn (f:α->Option β):ob none f=none:=rfl
theorem eZ (o:Option α) (f:α->Option β) (g:β->Option γ):ob (ob o f) g=ob o λa=>ob (f a) g:=by cases o<;>rfl
theorem th (b:Bool) (x y:Option α) (g:α->Option β):ob (cond b x y) g=cond b (ob x g) (ob y g):=by cases b<;>rfl
theorem BJ (op:BinOp) (k:IntKind) (x y:Int) (c:V->Option α) (g:α->Option β):intK op k x y (λv=>ob (c v) g)=ob (intK op k x y c) g:=by
 cases op<;>simp only [intK,th,vn]
theorem Pz (op:BinOp) (x y:aa) (c:V->Option α) (g:α->Option β):strK op x y (λv=>ob (c v) g)=ob (strK op x y c) g:=by
 cases op<;>simp only [strK,vn,eZ]
theorem QM (op:BinOp) (t:TypeId) (x y:V) (c:V->Option α) (g:α->Option β):binK P op t x y (λv=>ob (c v) g)=ob (binK P op t x y c) g:=by
 unfold binK;split
 ·split
  ·exact BJ ..
  ·exact BJ ..
  ·split
   ·exact BJ ..
   ·rfl
 ·exact Pz ..
 ·split
  ·split<;>rfl
  ·split<;>rfl
  ·rfl
theorem SR (op:UnOp) (x:V) (c:V->Option α) (g:α->Option β):unK op x (λv=>ob (c v) g)=ob (unK op x c) g:=by
 unfold unK;split<;>rfl
theorem wK (t:TypeId) (blk:Blk) (o:Nat) (c:V->Option α) (g:α->Option β):qf P t blk o (λv=>ob (c v) g)=ob (qf P t blk o c) g:=by
 unfold qf;split
 ·split<;>rfl
 ·split<;>rfl
 ·rfl
theorem ut (t:TypeId) (blk:Blk) (o:Nat) (c:V->Option α) (g:α->Option β):zf P t blk o (λv=>ob (c v) g)=ob (zf P t blk o c) g:=by
 unfold zf;split
 ·exact wK ..
 ·exact wK ..
 ·split
  ·split<;>simp only [eZ]
  ·simp only [eZ]
  ·rfl
 ·split
  ·split<;>simp only [eZ]
  ·rfl
 ·split
  ·simp only [eZ]
  ·rfl
 ·rfl
theorem so (t:TypeId) (blk:Blk) (o:Nat) (v:V) (c:Blk->Option α) (g:α->Option β):rc P t blk o v (λv=>ob (c v) g)=ob (rc P t blk o v c) g:=by
 unfold rc;split
 ·split<;>rfl
 ·split
  ·split
   ·simp only [th,vn]
   ·rfl
  ·split<;>rfl
  ·rfl
 ·rfl
theorem vB (n len:Nat) (h:Option Int) (c:Nat->Option α) (g:α->Option β):hiK n len h (λv=>ob (c v) g)=ob (hiK n len h c) g:=by
 unfold hiK;split
 ·rfl
 ·simp only [eZ]
theorem wR (h:Nat) (l:Option Int) (c:Nat->Option α) (g:α->Option β):loK h l (λv=>ob (c v) g)=ob (loK h l c) g:=by
 unfold loK;split
 ·rfl
 ·simp only [eZ]
theorem Gq (ρ:Operand->Option V) (H:List (Nat×Blk)) (t:TypeId) (x:Operand) (lo hi:Option Operand) (mx:Operand) (c:Eff->Option α) (g:α->Option β):
  uV P ρ H t x lo hi mx (λe=>ob (c e) g)=ob (uV P ρ H t x lo hi mx c) g:=by
 unfold uV;split
 ·simp only [eZ];congr 1;funext a;split
  ·split
   ·split
    ·split
     ·split
      ·split
       ·simp only [eZ]
       ·rfl
      ·rfl
     ·simp only [eZ]
     ·simp only [eZ]
     ·rfl
    ·rfl
   ·rfl
  ·rfl
 ·rfl
theorem G4:∀(l:List (Int×Nat)) (n:Int) (c:Nat->Option α) (g:α->Option β),mapK l n (λx=>ob (c x) g)=ob (mapK l n c) g
 | [],_,_,_=>rfl
 | (m,u)::l,n,c,g=>by
  simp only [mapK];cases (n==m) with
  | true=>rfl
  | false=>exact G4 l n c g
theorem Pn (ρ:Operand->Option V) (H:List (Nat×Blk)) (f:Nat) (op:Op) (c:Eff->Option α) (g:α->Option β):
  effK P ρ H f op (λe=>ob (c e) g)=ob (effK P ρ H f op c) g:=by
 unfold effK;split
 case h_1=>simp only [eZ]
 case h_2=>simp only [eZ]
 case h_3=>
  split
  ·simp only [th,eZ]
  ·rfl
 case h_4=>simp only [eZ]
 case h_5=>simp only [eZ]
 case h_6=>
  simp only [eZ];congr 1;funext z;congr 1;funext i;split
  ·split
   ·simp only [eZ]
   ·rfl
  ·split
   ·simp only [eZ]
   ·rfl
  ·rfl
 case h_7=>
  split
  ·split
   ·simp only [eZ];congr 1;funext z;congr 1;funext i;split
    ·simp only [eZ];congr 1;funext l;split
     ·split
      ·simp only [eZ]
      ·rfl
     ·rfl
    ·rfl
   ·rfl
  ·rfl
 case h_8=>
  simp only [eZ];congr 1;funext a;congr 1;funext b;split
  ·split
   ·simp only [eZ];congr 1;funext z;split
    ·split
     ·simp only [eZ,th,vn]
     ·rfl
    ·rfl
   ·rfl
  ·rfl
 case h_9=>
  split
  ·split
   ·exact ut ..
   ·rfl
  ·split
   ·split
    ·simp only [eZ];congr 1;funext x;exact ut ..
    ·rfl
   ·rfl
  ·rfl
 case h_10=>
  split
  ·simp only [eZ];congr 1;funext v;split
   ·exact so ..
   ·rfl
  ·simp only [eZ];congr 1;funext v;split
   ·split
    ·simp only [eZ];congr 1;funext x;rw [<-so];congr 1;funext d;split
     ·simp only [eZ]
     ·rfl
    ·rfl
   ·rfl
  ·rfl
 case h_11=>split<;>rfl
 case h_12=>
  simp only [eZ];congr 1;funext a;congr 1;funext b;split
  ·rfl
  ·split
   ·split
    ·rename_i m rd j;cases Nat.blt 0 m<;>rfl
    ·rfl
   ·exact QM ..
 case h_13=>
  simp only [eZ];congr 1;funext a;exact SR ..
 case h_14=>
  simp only [eZ];congr 1;funext a;split
  ·split
   ·split<;>rfl
   ·split
    ·split<;>rfl
    ·split<;>rfl
    ·split
     ·split
      ·split
       ·simp only [th,vn]
       ·rfl
      ·rfl
     ·rfl
    ·split
     ·split
      ·split<;>rfl
      ·rfl
     ·rfl
    ·split
     ·split
      ·split
       ·split
        ·simp only [th,vn]
        ·rfl
       ·rfl
      ·rfl
     ·rfl
    ·split
     ·split<;>rfl
     ·rfl
    ·rfl
   ·split
    ·split
     ·split<;>rfl
     ·rfl
    ·rfl
   ·rfl
  ·rfl
 case h_15=>
  simp only [eZ];congr 1;funext a;split<;>rfl
 case h_16=>
  split
  ·split
   ·simp only [eZ]
   ·rfl
  ·split
   ·simp only [eZ]
   ·rfl
  ·rfl
 case h_17=>
  split
  ·exact Gq ..
  ·simp only [eZ];congr 1;funext a;congr 1;funext l;congr 1;funext h;split
   ·split
    ·simp only [<-vB,<-wR]
    ·rfl
   ·split
    ·split
     ·simp only [<-vB,<-wR]
     ·rfl
    ·rfl
   ·split
    ·split
     ·simp only [<-vB,<-wR]
     ·rw [<-vB];congr 1;funext h;split<;>rfl
     ·split
      ·split
       ·simp only [<-vB,<-wR]
       ·rfl
      ·rfl
     ·split
      ·simp only [<-vB,<-wR]
      ·rfl
     ·rfl
    ·rfl
   ·rfl
 case h_18=>
  split
  ·split
   ·split
    ·split<;>rfl
    ·rfl
   ·rfl
  ·split
   ·split
    ·split<;>rfl
    ·rfl
   ·rfl
  ·rfl
 case h_19=>
  split
  ·split
   ·split
    ·split
     ·split<;>rfl
     ·split
      ·simp only [eZ]
      ·rfl
    ·rfl
   ·rfl
  ·rfl
 case h_20=>
  split
  ·split
   ·split
    ·split
     ·simp only [eZ]
     ·rfl
    ·split
     ·simp only [eZ]
     ·rfl
    ·rfl
   ·split
    ·split
     ·simp only [eZ]
     ·rfl
    ·split
     ·split
      ·simp only [eZ]
      ·rfl
     ·rfl
    ·split
     ·simp only [eZ]
     ·rfl
    ·rfl
   ·rfl
  ·rfl
 case h_21=>
  split
  ·split
   ·split
    ·rfl
    ·split
     ·split
      ·split
       ·simp only [eZ]
       ·rfl
      ·rfl
     ·split
      ·simp only [eZ]
      ·simp only [eZ]
      ·split
       ·split
        ·simp only [eZ]
        ·rfl
       ·rfl
      ·split
       ·simp only [eZ]
       ·rfl
      ·rfl
     ·rfl
   ·split
    ·simp only [eZ]
    ·rfl
   ·rfl
  ·rfl
 case h_22=>
  split
  ·split<;>rfl
  ·rfl
 case h_23=>repeat' (first | rfl | split)
 case h_24=>
  split
  ·split
   ·split
    ·split
     ·split
      ·split
       ·exact G4 ..
       ·rfl
      ·rfl
     ·rfl
    ·rfl
   ·rfl
  ·rfl
 case h_25=>
  split
  ·split<;>rfl
  ·rfl
 case h_26=>
  split
  ·split
   ·simp only [th]
   ·rfl
  ·rfl
 case h_27=>
  split
  ·simp only [eZ]
  ·rfl
 case h_28=>
  split
  ·split
   ·rfl
   ·split
    ·split<;>rfl
    ·rfl
   ·rfl
  ·rfl
 case h_29=>
  split
  ·simp only [eZ];congr 1;funext args;split
   ·split
    ·split
     ·split<;>rfl
     ·rfl
    ·split
     ·split<;>rfl
     ·rfl
    ·split
     ·split<;>rfl
     ·rfl
    ·split
     ·split
      ·split<;>rfl
      ·rfl
     ·rfl
    ·split
     ·split<;>rfl
     ·rfl
    ·split
     ·split<;>rfl
     ·rfl
    ·rfl
   ·split
    ·split
     ·split<;>rfl
     ·rfl
    ·split
     ·split<;>rfl
     ·rfl
    ·split
     ·split<;>rfl
     ·rfl
    ·rfl
   ·split
    ·split<;>rfl
    ·rfl
   ·split
    ·split<;>rfl
    ·rfl
   ·rfl
  ·rfl
 case h_30=>rfl
end
end Go.Abs
