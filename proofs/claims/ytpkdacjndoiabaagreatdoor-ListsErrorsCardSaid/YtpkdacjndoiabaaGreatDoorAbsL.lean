/- An operation's effect hangs on what it looks at, and on nothing else.
   Conditions: none; generic over the program. -/
import Derived.Test.YtpkdacjndoiabaaGreatDoorAbsJ
set_option linter.unusedSimpArgs false
namespace Go.Abs
variable {P:Program}
section
variable {α β γ:Type}
@[simp] theorem lg (a:α) (f:α->Option β):ob (some a) f=f a:=rfl
@[simp] theorem sd (f:α->Option β):ob none f=none:=rfl
theorem dL (o:Option α) (f:α->Option β) (g:β->Option γ):ob (ob o f) g=ob o λa=>ob (f a) g:=by cases o<;>rfl
theorem qR (b:Bool) (x y:Option α) (g:α->Option β):ob (cond b x y) g=cond b (ob x g) (ob y g):=by cases b<;>rfl
theorem za (op:BinOp) (k:IntKind) (x y:Int) (c:V->Option α) (g:α->Option β):intK op k x y (λv=>ob (c v) g)=ob (intK op k x y c) g:=by
 cases op<;>simp only [intK,qR,sd]
theorem JX (op:BinOp) (x y:aa) (c:V->Option α) (g:α->Option β):strK op x y (λv=>ob (c v) g)=ob (strK op x y c) g:=by
 cases op<;>simp only [strK,sd,dL]
theorem J4 (op:BinOp) (t:TypeId) (x y:V) (c:V->Option α) (g:α->Option β):binK P op t x y (λv=>ob (c v) g)=ob (binK P op t x y c) g:=by
 unfold binK
 split
 ·split
  ·exact za ..
  ·exact za ..
  ·split
   ·exact za ..
   ·rfl
 ·exact JX ..
 ·split
  ·split<;>rfl
  ·split<;>rfl
  ·rfl
theorem OE (op:UnOp) (x:V) (c:V->Option α) (g:α->Option β):unK op x (λv=>ob (c v) g)=ob (unK op x c) g:=by
 unfold unK;split<;>rfl
theorem vY (t:TypeId) (blk:Blk) (o:Nat) (c:V->Option α) (g:α->Option β):np P t blk o (λv=>ob (c v) g)=ob (np P t blk o c) g:=by
 unfold np
 split
 ·split<;>rfl
 ·split<;>rfl
 ·rfl
theorem qX (t:TypeId) (blk:Blk) (o:Nat) (c:V->Option α) (g:α->Option β):wj P t blk o (λv=>ob (c v) g)=ob (wj P t blk o c) g:=by
 unfold wj
 split
 ·exact vY ..
 ·exact vY ..
 ·split
  ·split<;>simp only [dL]
  ·simp only [dL]
  ·rfl
 ·split
  ·split<;>simp only [dL]
  ·rfl
 ·split
  ·simp only [dL]
  ·rfl
 ·rfl
theorem pm (t:TypeId) (blk:Blk) (o:Nat) (v:V) (c:Blk->Option α) (g:α->Option β):pi P t blk o v (λv=>ob (c v) g)=ob (pi P t blk o v c) g:=by
 unfold pi
 split
 ·split<;>rfl
 ·split
  ·split
   ·simp only [qR,sd]
   ·rfl
  ·split<;>rfl
  ·rfl
 ·rfl
theorem sC (n len:Nat) (h:Option Int) (c:Nat->Option α) (g:α->Option β):hiK n len h (λv=>ob (c v) g)=ob (hiK n len h c) g:=by
 unfold hiK;split
 ·rfl
 ·simp only [dL]
theorem vT (h:Nat) (l:Option Int) (c:Nat->Option α) (g:α->Option β):loK h l (λv=>ob (c v) g)=ob (loK h l c) g:=by
 unfold loK;split
 ·rfl
 ·simp only [dL]
theorem BF (ρ:Operand->Option V) (H:List (Nat×Blk)) (t:TypeId) (x:Operand) (lo hi:Option Operand) (mx:Operand) (c:Eff->Option α) (g:α->Option β):
  sM P ρ H t x lo hi mx (λe=>ob (c e) g)=ob (sM P ρ H t x lo hi mx c) g:=by
 unfold sM
 split
 ·simp only [dL]
  congr 1;funext a
  split
  ·split
   ·split
    ·split
     ·split
      ·split
       ·simp only [dL]
       ·rfl
      ·rfl
     ·simp only [dL]
     ·simp only [dL]
     ·rfl
    ·rfl
   ·rfl
  ·rfl
 ·rfl
theorem DK:∀(l:List (Int×Nat)) (n:Int) (c:Nat->Option α) (g:α->Option β),mapK l n (λx=>ob (c x) g)=ob (mapK l n c) g
 | [],_,_,_=>rfl
 | (m,u)::l,n,c,g=>by
  simp only [mapK]
  cases (n==m) with
  | true=>rfl
  | false=>exact DK l n c g
theorem KB (ρ:Operand->Option V) (H:List (Nat×Blk)) (f:Nat) (op:Op) (c:Eff->Option α) (g:α->Option β):
  effK P ρ H f op (λe=>ob (c e) g)=ob (effK P ρ H f op c) g:=by
 unfold effK
 split
 case h_1=>simp only [dL]
 case h_2=>simp only [dL]
 case h_3=>
  split
  ·simp only [qR,dL]
  ·rfl
 case h_4=>simp only [dL]
 case h_5=>simp only [dL]
 case h_6=>
  simp only [dL]
  congr 1;funext z
  congr 1;funext ps
  split
  ·split
   ·simp only [dL]
   ·rfl
  ·split
   ·simp only [dL]
   ·rfl
  ·rfl
 case h_7=>
  split
  ·split
   ·simp only [dL]
    congr 1;funext z
    congr 1;funext ps
    split
    ·simp only [dL]
     congr 1;funext l
     split
     ·split
      ·simp only [dL]
      ·rfl
     ·rfl
    ·rfl
   ·rfl
  ·rfl
 case h_8=>
  simp only [dL]
  congr 1;funext a
  congr 1;funext b
  split
  ·split
   ·simp only [dL]
    congr 1;funext z
    split
    ·split
     ·simp only [dL,qR,sd]
     ·rfl
    ·rfl
   ·rfl
  ·rfl
 case h_9=>
  split
  ·split
   ·exact qX ..
   ·rfl
  ·split
   ·split
    ·simp only [dL]
     congr 1;funext x
     exact qX ..
    ·rfl
   ·rfl
  ·rfl
 case h_10=>
  split
  ·simp only [dL]
   congr 1;funext v
   split
   ·exact pm ..
   ·rfl
  ·simp only [dL]
   congr 1;funext v
   split
   ·split
    ·simp only [dL]
     congr 1;funext x
     rw [<-pm]
     congr 1;funext blk'
     split
     ·simp only [dL]
     ·rfl
    ·rfl
   ·rfl
  ·rfl
 case h_11=>split<;>rfl
 case h_12=>
  simp only [dL]
  congr 1;funext a
  congr 1;funext b
  split
  ·rfl
  ·split
   ·split
    ·rename_i m rd hl
     cases Nat.blt 0 m<;>rfl
    ·rfl
   ·exact J4 ..
 case h_13=>
  simp only [dL]
  congr 1;funext a
  exact OE ..
 case h_14=>
  simp only [dL]
  congr 1;funext a
  split
  ·split
   ·split<;>rfl
   ·split
    ·split<;>rfl
    ·split<;>rfl
    ·split
     ·split
      ·split
       ·simp only [qR,sd]
       ·rfl
      ·rfl
     ·rfl
    ·split
     ·split
      ·split<;>rfl
      ·rfl
     ·rfl
    ·split
     ·split
      ·split
       ·split
        ·simp only [qR,sd]
        ·rfl
       ·rfl
      ·rfl
     ·rfl
    ·split
     ·split<;>rfl
     ·rfl
    ·rfl
   ·split
    ·split
     ·split<;>rfl
     ·rfl
    ·rfl
   ·rfl
  ·rfl
 case h_15=>
  simp only [dL]
  congr 1;funext a
  split<;>rfl
 case h_16=>
  split
  ·split
   ·simp only [dL]
   ·rfl
  ·split
   ·simp only [dL]
   ·rfl
  ·rfl
 case h_17=>
  split
  ·exact BF ..
  ·simp only [dL]
   congr 1;funext a
   congr 1;funext l
   congr 1;funext h
   split
   ·split
    ·simp only [<-sC,<-vT]
    ·rfl
   ·split
    ·split
     ·simp only [<-sC,<-vT]
     ·rfl
    ·rfl
   ·split
    ·split
     ·simp only [<-sC,<-vT]
     ·rw [<-sC]
      congr 1;funext h
      split<;>rfl
     ·split
      ·split
       ·simp only [<-sC,<-vT]
       ·rfl
      ·rfl
     ·split
      ·simp only [<-sC,<-vT]
      ·rfl
     ·rfl
    ·rfl
   ·rfl
 case h_18=>
  split
  ·split
   ·split
    ·split<;>rfl
    ·rfl
   ·rfl
  ·split
   ·split
    ·split<;>rfl
    ·rfl
   ·rfl
  ·rfl
 case h_19=>
  split
  ·split
   ·split
    ·split
     ·split<;>rfl
     ·split
      ·simp only [dL]
      ·rfl
    ·rfl
   ·rfl
  ·rfl
 case h_20=>
  split
  ·split
   ·split
    ·split
     ·simp only [dL]
     ·rfl
    ·split
     ·simp only [dL]
     ·rfl
    ·rfl
   ·split
    ·split
     ·simp only [dL]
     ·rfl
    ·split
     ·split
      ·simp only [dL]
      ·rfl
     ·rfl
    ·split
     ·simp only [dL]
     ·rfl
    ·rfl
   ·rfl
  ·rfl
 case h_21=>
  split
  ·split
   ·split
    ·rfl
    ·split
     ·split
      ·split
       ·simp only [dL]
       ·rfl
      ·rfl
     ·split
      ·simp only [dL]
      ·simp only [dL]
      ·split
       ·split
        ·simp only [dL]
        ·rfl
       ·rfl
      ·split
       ·simp only [dL]
       ·rfl
      ·rfl
     ·rfl
   ·split
    ·simp only [dL]
    ·rfl
   ·rfl
  ·rfl
 case h_22=>
  split
  ·split<;>rfl
  ·rfl
 case h_23=>repeat' (first | rfl | split)
 case h_24=>
  split
  ·split
   ·split
    ·split
     ·split
      ·split
       ·exact DK ..
       ·rfl
      ·rfl
     ·rfl
    ·rfl
   ·rfl
  ·rfl
 case h_25=>
  split
  ·split<;>rfl
  ·rfl
 case h_26=>
  split
  ·split
   ·simp only [qR]
   ·rfl
  ·rfl
 case h_27=>
  split
  ·simp only [dL]
  ·rfl
 case h_28=>
  split
  ·split
   ·rfl
   ·split
    ·split<;>rfl
    ·rfl
   ·rfl
  ·rfl
 case h_29=>
  split
  ·simp only [dL]
   congr 1;funext args
   split
   ·split
    ·split
     ·split<;>rfl
     ·rfl
    ·split
     ·split<;>rfl
     ·rfl
    ·split
     ·split<;>rfl
     ·rfl
    ·split
     ·split
      ·split<;>rfl
      ·rfl
     ·rfl
    ·split
     ·split<;>rfl
     ·rfl
    ·split
     ·split<;>rfl
     ·rfl
    ·rfl
   ·split
    ·split
     ·split<;>rfl
     ·rfl
    ·split
     ·split<;>rfl
     ·rfl
    ·split
     ·split<;>rfl
     ·rfl
    ·rfl
   ·split
    ·split<;>rfl
    ·rfl
   ·split
    ·split<;>rfl
    ·rfl
   ·rfl
  ·rfl
 case h_30=>rfl
end
end Go.Abs
