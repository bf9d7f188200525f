/- An operation's effect hangs on what it looks at, and on nothing else.
   Conditions: none; generic over the program. -/
import Derived.Test.YtpkdacjndoiabaaGreatDoorAbsJ
set_option linter.unusedSimpArgs false
namespace Go.Abs
variable {P:Program}
section
variable {α β γ:Type}
@[simp] theorem lR (a:α) (f:α->Option β):ob (some a) f=f a:=rfl
@[simp] theorem tn (f:α->Option β):ob none f=none:=rfl
theorem eq (o:Option α) (f:α->Option β) (g:β->Option γ):ob (ob o f) g=ob o λa=>ob (f a) g:=by cases o<;>rfl
theorem qW (b:Bool) (x y:Option α) (g:α->Option β):ob (cond b x y) g=cond b (ob x g) (ob y g):=by cases b<;>rfl
theorem yI (op:BinOp) (k:IntKind) (x y:Int) (c:V->Option α) (g:α->Option β):intK op k x y (λv=>ob (c v) g)=ob (intK op k x y c) g:=by
 cases op<;>simp only [intK,qW,tn]
theorem Jb (op:BinOp) (x y:aa) (c:V->Option α) (g:α->Option β):strK op x y (λv=>ob (c v) g)=ob (strK op x y c) g:=by
 cases op<;>simp only [strK,tn,eq]
theorem Jh (op:BinOp) (t:TypeId) (x y:V) (c:V->Option α) (g:α->Option β):binK P op t x y (λv=>ob (c v) g)=ob (binK P op t x y c) g:=by
 unfold binK
 split
 ·split
  ·exact yI ..
  ·exact yI ..
  ·split
   ·exact yI ..
   ·rfl
 ·exact Jb ..
 ·split
  ·split<;>rfl
  ·split<;>rfl
  ·rfl
theorem L5 (op:UnOp) (x:V) (c:V->Option α) (g:α->Option β):unK op x (λv=>ob (c v) g)=ob (unK op x c) g:=by
 unfold unK;split<;>rfl
theorem vn (t:TypeId) (blk:Blk) (o:Nat) (c:V->Option α) (g:α->Option β):oM P t blk o (λv=>ob (c v) g)=ob (oM P t blk o c) g:=by
 unfold oM
 split
 ·split<;>rfl
 ·split<;>rfl
 ·rfl
theorem sA (t:TypeId) (blk:Blk) (o:Nat) (c:V->Option α) (g:α->Option β):wL P t blk o (λv=>ob (c v) g)=ob (wL P t blk o c) g:=by
 unfold wL
 split
 ·exact vn ..
 ·exact vn ..
 ·split
  ·split<;>simp only [eq]
  ·simp only [eq]
  ·rfl
 ·split
  ·split<;>simp only [eq]
  ·rfl
 ·split
  ·simp only [eq]
  ·rfl
 ·rfl
theorem qt (t:TypeId) (blk:Blk) (o:Nat) (v:V) (c:Blk->Option α) (g:α->Option β):pX P t blk o v (λv=>ob (c v) g)=ob (pX P t blk o v c) g:=by
 unfold pX
 split
 ·split<;>rfl
 ·split
  ·split
   ·simp only [qW,tn]
   ·rfl
  ·split<;>rfl
  ·rfl
 ·rfl
theorem th (n len:Nat) (h:Option Int) (c:Nat->Option α) (g:α->Option β):hiK n len h (λv=>ob (c v) g)=ob (hiK n len h c) g:=by
 unfold hiK;split
 ·rfl
 ·simp only [eq]
theorem ve (h:Nat) (l:Option Int) (c:Nat->Option α) (g:α->Option β):loK h l (λv=>ob (c v) g)=ob (loK h l c) g:=by
 unfold loK;split
 ·rfl
 ·simp only [eq]
theorem Cd (ρ:Operand->Option V) (H:List (Nat×Blk)) (t:TypeId) (x:Operand) (lo hi:Option Operand) (mx:Operand) (c:Eff->Option α) (g:α->Option β):
  sW P ρ H t x lo hi mx (λe=>ob (c e) g)=ob (sW P ρ H t x lo hi mx c) g:=by
 unfold sW
 split
 ·simp only [eq]
  congr 1;funext a
  split
  ·split
   ·split
    ·split
     ·split
      ·split
       ·simp only [eq]
       ·rfl
      ·rfl
     ·simp only [eq]
     ·simp only [eq]
     ·rfl
    ·rfl
   ·rfl
  ·rfl
 ·rfl
theorem Cs:∀(l:List (Int×Nat)) (n:Int) (c:Nat->Option α) (g:α->Option β),mapK l n (λx=>ob (c x) g)=ob (mapK l n c) g
 | [],_,_,_=>rfl
 | (m,u)::l,n,c,g=>by
  simp only [mapK]
  cases (n==m) with
  | true=>rfl
  | false=>exact Cs l n c g
theorem JJ (ρ:Operand->Option V) (H:List (Nat×Blk)) (f:Nat) (op:Op) (c:Eff->Option α) (g:α->Option β):
  effK P ρ H f op (λe=>ob (c e) g)=ob (effK P ρ H f op c) g:=by
 unfold effK
 split
 case h_1=>simp only [eq]
 case h_2=>simp only [eq]
 case h_3=>
  split
  ·simp only [qW,eq]
  ·rfl
 case h_4=>simp only [eq]
 case h_5=>simp only [eq]
 case h_6=>
  simp only [eq]
  congr 1;funext z
  congr 1;funext ps
  split
  ·split
   ·simp only [eq]
   ·rfl
  ·split
   ·simp only [eq]
   ·rfl
  ·rfl
 case h_7=>
  split
  ·split
   ·simp only [eq]
    congr 1;funext z
    congr 1;funext ps
    split
    ·simp only [eq]
     congr 1;funext l
     split
     ·split
      ·simp only [eq]
      ·rfl
     ·rfl
    ·rfl
   ·rfl
  ·rfl
 case h_8=>
  simp only [eq]
  congr 1;funext a
  congr 1;funext b
  split
  ·split
   ·simp only [eq]
    congr 1;funext z
    split
    ·split
     ·simp only [eq,qW,tn]
     ·rfl
    ·rfl
   ·rfl
  ·rfl
 case h_9=>
  split
  ·split
   ·exact sA ..
   ·rfl
  ·split
   ·split
    ·simp only [eq]
     congr 1;funext x
     exact sA ..
    ·rfl
   ·rfl
  ·rfl
 case h_10=>
  split
  ·simp only [eq]
   congr 1;funext v
   split
   ·exact qt ..
   ·rfl
  ·simp only [eq]
   congr 1;funext v
   split
   ·split
    ·simp only [eq]
     congr 1;funext x
     rw [<-qt]
     congr 1;funext blk'
     split
     ·simp only [eq]
     ·rfl
    ·rfl
   ·rfl
  ·rfl
 case h_11=>split<;>rfl
 case h_12=>
  simp only [eq]
  congr 1;funext a
  congr 1;funext b
  split
  ·rfl
  ·split
   ·split
    ·rename_i m rd hl
     cases Nat.blt 0 m<;>rfl
    ·rfl
   ·exact Jh ..
 case h_13=>
  simp only [eq]
  congr 1;funext a
  exact L5 ..
 case h_14=>
  simp only [eq]
  congr 1;funext a
  split
  ·split
   ·split<;>rfl
   ·split
    ·split<;>rfl
    ·split<;>rfl
    ·split
     ·split
      ·split
       ·simp only [qW,tn]
       ·rfl
      ·rfl
     ·rfl
    ·split
     ·split
      ·split<;>rfl
      ·rfl
     ·rfl
    ·split
     ·split
      ·split
       ·split
        ·simp only [qW,tn]
        ·rfl
       ·rfl
      ·rfl
     ·rfl
    ·split
     ·split<;>rfl
     ·rfl
    ·rfl
   ·split
    ·split
     ·split<;>rfl
     ·rfl
    ·rfl
   ·rfl
  ·rfl
 case h_15=>
  simp only [eq]
  congr 1;funext a
  split<;>rfl
 case h_16=>
  split
  ·split
   ·simp only [eq]
   ·rfl
  ·split
   ·simp only [eq]
   ·rfl
  ·rfl
 case h_17=>
  split
  ·exact Cd ..
  ·simp only [eq]
   congr 1;funext a
   congr 1;funext l
   congr 1;funext h
   split
   ·split
    ·simp only [<-th,<-ve]
    ·rfl
   ·split
    ·split
     ·simp only [<-th,<-ve]
     ·rfl
    ·rfl
   ·split
    ·split
     ·simp only [<-th,<-ve]
     ·rw [<-th]
      congr 1;funext h
      split<;>rfl
     ·split
      ·split
       ·simp only [<-th,<-ve]
       ·rfl
      ·rfl
     ·split
      ·simp only [<-th,<-ve]
      ·rfl
     ·rfl
    ·rfl
   ·rfl
 case h_18=>
  split
  ·split
   ·split
    ·split<;>rfl
    ·rfl
   ·rfl
  ·split
   ·split
    ·split<;>rfl
    ·rfl
   ·rfl
  ·rfl
 case h_19=>
  split
  ·split
   ·split
    ·split
     ·split<;>rfl
     ·split
      ·simp only [eq]
      ·rfl
    ·rfl
   ·rfl
  ·rfl
 case h_20=>
  split
  ·split
   ·split
    ·split
     ·simp only [eq]
     ·rfl
    ·split
     ·simp only [eq]
     ·rfl
    ·rfl
   ·split
    ·split
     ·simp only [eq]
     ·rfl
    ·split
     ·split
      ·simp only [eq]
      ·rfl
     ·rfl
    ·split
     ·simp only [eq]
     ·rfl
    ·rfl
   ·rfl
  ·rfl
 case h_21=>
  split
  ·split
   ·split
    ·rfl
    ·split
     ·split
      ·split
       ·simp only [eq]
       ·rfl
      ·rfl
     ·split
      ·simp only [eq]
      ·simp only [eq]
      ·split
       ·split
        ·simp only [eq]
        ·rfl
       ·rfl
      ·split
       ·simp only [eq]
       ·rfl
      ·rfl
     ·rfl
   ·split
    ·simp only [eq]
    ·rfl
   ·rfl
  ·rfl
 case h_22=>
  split
  ·split<;>rfl
  ·rfl
 case h_23=>repeat' (first | rfl | split)
 case h_24=>
  split
  ·split
   ·split
    ·split
     ·split
      ·split
       ·exact Cs ..
       ·rfl
      ·rfl
     ·rfl
    ·rfl
   ·rfl
  ·rfl
 case h_25=>
  split
  ·split<;>rfl
  ·rfl
 case h_26=>
  split
  ·split
   ·simp only [qW]
   ·rfl
  ·rfl
 case h_27=>
  split
  ·simp only [eq]
  ·rfl
 case h_28=>
  split
  ·split
   ·rfl
   ·split
    ·split<;>rfl
    ·rfl
   ·rfl
  ·rfl
 case h_29=>
  split
  ·simp only [eq]
   congr 1;funext args
   split
   ·split
    ·split
     ·split<;>rfl
     ·rfl
    ·split
     ·split<;>rfl
     ·rfl
    ·split
     ·split<;>rfl
     ·rfl
    ·split
     ·split
      ·split<;>rfl
      ·rfl
     ·rfl
    ·split
     ·split<;>rfl
     ·rfl
    ·split
     ·split<;>rfl
     ·rfl
    ·rfl
   ·split
    ·split
     ·split<;>rfl
     ·rfl
    ·split
     ·split<;>rfl
     ·rfl
    ·split
     ·split<;>rfl
     ·rfl
    ·rfl
   ·split
    ·split<;>rfl
    ·rfl
   ·split
    ·split<;>rfl
    ·rfl
   ·rfl
  ·rfl
 case h_30=>rfl
end
end Go.Abs
