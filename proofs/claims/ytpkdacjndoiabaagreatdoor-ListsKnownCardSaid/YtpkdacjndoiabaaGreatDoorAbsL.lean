/- An operation's effect hangs on what it looks at, and on nothing else.
   Conditions: none; generic over the program. -/
import Derived.Test.YtpkdacjndoiabaaGreatDoorAbsJ
set_option linter.unusedSimpArgs false
namespace Go.Abs
variable {P:Program}
section
variable {α β γ:Type}
@[simp] theorem mf (a:α) (f:α->Option β):ob (some a) f=f a:=rfl
@[simp] theorem tY (f:α->Option β):ob none f=none:=rfl
theorem eH (o:Option α) (f:α->Option β) (g:β->Option γ):ob (ob o f) g=ob o λa=>ob (f a) g:=by cases o<;>rfl
theorem sF (b:Bool) (x y:Option α) (g:α->Option β):ob (cond b x y) g=cond b (ob x g) (ob y g):=by cases b<;>rfl
theorem zB (op:BinOp) (k:IntKind) (x y:Int) (c:V->Option α) (g:α->Option β):intK op k x y (λv=>ob (c v) g)=ob (intK op k x y c) g:=by
 cases op<;>simp only [intK,sF,tY]
theorem Me (op:BinOp) (x y:aa) (c:V->Option α) (g:α->Option β):strK op x y (λv=>ob (c v) g)=ob (strK op x y c) g:=by
 cases op<;>simp only [strK,tY,eH]
theorem N3 (op:BinOp) (t:TypeId) (x y:V) (c:V->Option α) (g:α->Option β):binK P op t x y (λv=>ob (c v) g)=ob (binK P op t x y c) g:=by
 unfold binK
 split
 ·split
  ·exact zB ..
  ·exact zB ..
  ·split
   ·exact zB ..
   ·rfl
 ·exact Me ..
 ·split
  ·split<;>rfl
  ·split<;>rfl
  ·rfl
theorem OZ (op:UnOp) (x:V) (c:V->Option α) (g:α->Option β):unK op x (λv=>ob (c v) g)=ob (unK op x c) g:=by
 unfold unK;split<;>rfl
theorem vD (t:TypeId) (blk:Blk) (o:Nat) (c:V->Option α) (g:α->Option β):pf P t blk o (λv=>ob (c v) g)=ob (pf P t blk o c) g:=by
 unfold pf
 split
 ·split<;>rfl
 ·split<;>rfl
 ·rfl
theorem tQ (t:TypeId) (blk:Blk) (o:Nat) (c:V->Option α) (g:α->Option β):xQ P t blk o (λv=>ob (c v) g)=ob (xQ P t blk o c) g:=by
 unfold xQ
 split
 ·exact vD ..
 ·exact vD ..
 ·split
  ·split<;>simp only [eH]
  ·simp only [eH]
  ·rfl
 ·split
  ·split<;>simp only [eH]
  ·rfl
 ·split
  ·simp only [eH]
  ·rfl
 ·rfl
theorem qO (t:TypeId) (blk:Blk) (o:Nat) (v:V) (c:Blk->Option α) (g:α->Option β):qA P t blk o v (λv=>ob (c v) g)=ob (qA P t blk o v c) g:=by
 unfold qA
 split
 ·split<;>rfl
 ·split
  ·split
   ·simp only [sF,tY]
   ·rfl
  ·split<;>rfl
  ·rfl
 ·rfl
theorem tX (n len:Nat) (h:Option Int) (c:Nat->Option α) (g:α->Option β):hiK n len h (λv=>ob (c v) g)=ob (hiK n len h c) g:=by
 unfold hiK;split
 ·rfl
 ·simp only [eH]
theorem xn (h:Nat) (l:Option Int) (c:Nat->Option α) (g:α->Option β):loK h l (λv=>ob (c v) g)=ob (loK h l c) g:=by
 unfold loK;split
 ·rfl
 ·simp only [eH]
theorem Ek (ρ:Operand->Option V) (H:List (Nat×Blk)) (t:TypeId) (x:Operand) (lo hi:Option Operand) (mx:Operand) (c:Eff->Option α) (g:α->Option β):
  uc P ρ H t x lo hi mx (λe=>ob (c e) g)=ob (uc P ρ H t x lo hi mx c) g:=by
 unfold uc
 split
 ·simp only [eH]
  congr 1;funext a
  split
  ·split
   ·split
    ·split
     ·split
      ·split
       ·simp only [eH]
       ·rfl
      ·rfl
     ·simp only [eH]
     ·simp only [eH]
     ·rfl
    ·rfl
   ·rfl
  ·rfl
 ·rfl
theorem EM:∀(l:List (Int×Nat)) (n:Int) (c:Nat->Option α) (g:α->Option β),mapK l n (λx=>ob (c x) g)=ob (mapK l n c) g
 | [],_,_,_=>rfl
 | (m,u)::l,n,c,g=>by
  simp only [mapK]
  cases (n==m) with
  | true=>rfl
  | false=>exact EM l n c g
theorem NV (ρ:Operand->Option V) (H:List (Nat×Blk)) (f:Nat) (op:Op) (c:Eff->Option α) (g:α->Option β):
  effK P ρ H f op (λe=>ob (c e) g)=ob (effK P ρ H f op c) g:=by
 unfold effK
 split
 case h_1=>simp only [eH]
 case h_2=>simp only [eH]
 case h_3=>
  split
  ·simp only [sF,eH]
  ·rfl
 case h_4=>simp only [eH]
 case h_5=>simp only [eH]
 case h_6=>
  simp only [eH]
  congr 1;funext z
  congr 1;funext ps
  split
  ·split
   ·simp only [eH]
   ·rfl
  ·split
   ·simp only [eH]
   ·rfl
  ·rfl
 case h_7=>
  split
  ·split
   ·simp only [eH]
    congr 1;funext z
    congr 1;funext ps
    split
    ·simp only [eH]
     congr 1;funext l
     split
     ·split
      ·simp only [eH]
      ·rfl
     ·rfl
    ·rfl
   ·rfl
  ·rfl
 case h_8=>
  simp only [eH]
  congr 1;funext a
  congr 1;funext b
  split
  ·split
   ·simp only [eH]
    congr 1;funext z
    split
    ·split
     ·simp only [eH,sF,tY]
     ·rfl
    ·rfl
   ·rfl
  ·rfl
 case h_9=>
  split
  ·split
   ·exact tQ ..
   ·rfl
  ·split
   ·split
    ·simp only [eH]
     congr 1;funext x
     exact tQ ..
    ·rfl
   ·rfl
  ·rfl
 case h_10=>
  split
  ·simp only [eH]
   congr 1;funext v
   split
   ·exact qO ..
   ·rfl
  ·simp only [eH]
   congr 1;funext v
   split
   ·split
    ·simp only [eH]
     congr 1;funext x
     rw [<-qO]
     congr 1;funext blk'
     split
     ·simp only [eH]
     ·rfl
    ·rfl
   ·rfl
  ·rfl
 case h_11=>split<;>rfl
 case h_12=>
  simp only [eH]
  congr 1;funext a
  congr 1;funext b
  split
  ·rfl
  ·split
   ·split
    ·rename_i m rd hl
     cases Nat.blt 0 m<;>rfl
    ·rfl
   ·exact N3 ..
 case h_13=>
  simp only [eH]
  congr 1;funext a
  exact OZ ..
 case h_14=>
  simp only [eH]
  congr 1;funext a
  split
  ·split
   ·split<;>rfl
   ·split
    ·split<;>rfl
    ·split<;>rfl
    ·split
     ·split
      ·split
       ·simp only [sF,tY]
       ·rfl
      ·rfl
     ·rfl
    ·split
     ·split
      ·split<;>rfl
      ·rfl
     ·rfl
    ·split
     ·split
      ·split
       ·split
        ·simp only [sF,tY]
        ·rfl
       ·rfl
      ·rfl
     ·rfl
    ·split
     ·split<;>rfl
     ·rfl
    ·rfl
   ·split
    ·split
     ·split<;>rfl
     ·rfl
    ·rfl
   ·rfl
  ·rfl
 case h_15=>
  simp only [eH]
  congr 1;funext a
  split<;>rfl
 case h_16=>
  split
  ·split
   ·simp only [eH]
   ·rfl
  ·split
   ·simp only [eH]
   ·rfl
  ·rfl
 case h_17=>
  split
  ·exact Ek ..
  ·simp only [eH]
   congr 1;funext a
   congr 1;funext l
   congr 1;funext h
   split
   ·split
    ·simp only [<-tX,<-xn]
    ·rfl
   ·split
    ·split
     ·simp only [<-tX,<-xn]
     ·rfl
    ·rfl
   ·split
    ·split
     ·simp only [<-tX,<-xn]
     ·rw [<-tX]
      congr 1;funext h
      split<;>rfl
     ·split
      ·split
       ·simp only [<-tX,<-xn]
       ·rfl
      ·rfl
     ·split
      ·simp only [<-tX,<-xn]
      ·rfl
     ·rfl
    ·rfl
   ·rfl
 case h_18=>
  split
  ·split
   ·split
    ·split<;>rfl
    ·rfl
   ·rfl
  ·split
   ·split
    ·split<;>rfl
    ·rfl
   ·rfl
  ·rfl
 case h_19=>
  split
  ·split
   ·split
    ·split
     ·split<;>rfl
     ·split
      ·simp only [eH]
      ·rfl
    ·rfl
   ·rfl
  ·rfl
 case h_20=>
  split
  ·split
   ·split
    ·split
     ·simp only [eH]
     ·rfl
    ·split
     ·simp only [eH]
     ·rfl
    ·rfl
   ·split
    ·split
     ·simp only [eH]
     ·rfl
    ·split
     ·split
      ·simp only [eH]
      ·rfl
     ·rfl
    ·split
     ·simp only [eH]
     ·rfl
    ·rfl
   ·rfl
  ·rfl
 case h_21=>
  split
  ·split
   ·split
    ·rfl
    ·split
     ·split
      ·split
       ·simp only [eH]
       ·rfl
      ·rfl
     ·split
      ·simp only [eH]
      ·simp only [eH]
      ·split
       ·split
        ·simp only [eH]
        ·rfl
       ·rfl
      ·split
       ·simp only [eH]
       ·rfl
      ·rfl
     ·rfl
   ·split
    ·simp only [eH]
    ·rfl
   ·rfl
  ·rfl
 case h_22=>
  split
  ·split<;>rfl
  ·rfl
 case h_23=>repeat' (first | rfl | split)
 case h_24=>
  split
  ·split
   ·split
    ·split
     ·split
      ·split
       ·exact EM ..
       ·rfl
      ·rfl
     ·rfl
    ·rfl
   ·rfl
  ·rfl
 case h_25=>
  split
  ·split<;>rfl
  ·rfl
 case h_26=>
  split
  ·split
   ·simp only [sF]
   ·rfl
  ·rfl
 case h_27=>
  split
  ·simp only [eH]
  ·rfl
 case h_28=>
  split
  ·split
   ·rfl
   ·split
    ·split<;>rfl
    ·rfl
   ·rfl
  ·rfl
 case h_29=>
  split
  ·simp only [eH]
   congr 1;funext args
   split
   ·split
    ·split
     ·split<;>rfl
     ·rfl
    ·split
     ·split<;>rfl
     ·rfl
    ·split
     ·split<;>rfl
     ·rfl
    ·split
     ·split
      ·split<;>rfl
      ·rfl
     ·rfl
    ·split
     ·split<;>rfl
     ·rfl
    ·split
     ·split<;>rfl
     ·rfl
    ·rfl
   ·split
    ·split
     ·split<;>rfl
     ·rfl
    ·split
     ·split<;>rfl
     ·rfl
    ·split
     ·split<;>rfl
     ·rfl
    ·rfl
   ·split
    ·split<;>rfl
    ·rfl
   ·split
    ·split<;>rfl
    ·rfl
   ·rfl
  ·rfl
 case h_30=>rfl
end
end Go.Abs
