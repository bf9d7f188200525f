/- An operation's effect hangs on what it looks at, and on nothing else.
   Conditions: none; generic over the program. -/
import Derived.Test.YtplhepcdmkbioaaGreatDoorAbsJ
namespace Go.Abs
variable {P:Program}
section
variable {α β γ:Type}
@[simp] theorem iq (a:α) (f:α->Option β):ob (some a) f=f a:=rfl
@[simp] theorem mT (f:α->Option β):ob none f=none:=rfl
theorem cK (o:Option α) (f:α->Option β) (g:β->Option γ):ob (ob o f) g=ob o λa=>ob (f a) g:=by cases o<;>rfl
theorem l6 (b:Bool) (x y:Option α) (g:α->Option β):ob (cond b x y) g=cond b (ob x g) (ob y g):=by cases b<;>rfl
theorem rF (op:BinOp) (k:IntKind) (x y:Int) (c:V->Option α) (g:α->Option β):intK op k x y (λv=>ob (c v) g)=ob (intK op k x y c) g:=by
 cases op<;>simp only [intK,l6,mT]
theorem BE (op:BinOp) (x y:List UInt8) (c:V->Option α) (g:α->Option β):strK op x y (λv=>ob (c v) g)=ob (strK op x y c) g:=by
 cases op<;>simp only [strK,mT,cK]
theorem BJ (op:BinOp) (t:TypeId) (x y:V) (c:V->Option α) (g:α->Option β):binK P op t x y (λv=>ob (c v) g)=ob (binK P op t x y c) g:=by
 unfold binK
 split
 ·split
  ·exact rF ..
  ·exact rF ..
  ·split
   ·exact rF ..
   ·rfl
 ·exact BE ..
 ·split
  ·split<;>rfl
  ·split<;>rfl
  ·rfl
theorem En (op:UnOp) (x:V) (c:V->Option α) (g:α->Option β):unK op x (λv=>ob (c v) g)=ob (unK op x c) g:=by
 unfold unK;split<;>rfl
theorem oZ (t:TypeId) (blk:Blk) (o:Nat) (c:V->Option α) (g:α->Option β):kv P t blk o (λv=>ob (c v) g)=ob (kv P t blk o c) g:=by
 unfold kv
 split
 ·split<;>rfl
 ·split<;>rfl
 ·rfl
theorem mc (t:TypeId) (blk:Blk) (o:Nat) (c:V->Option α) (g:α->Option β):pU P t blk o (λv=>ob (c v) g)=ob (pU P t blk o c) g:=by
 unfold pU
 split
 ·exact oZ ..
 ·exact oZ ..
 ·split
  ·split<;>simp only [cK]
  ·simp only [cK]
  ·rfl
 ·split
  ·split<;>simp only [cK]
  ·rfl
 ·split
  ·simp only [cK]
  ·rfl
 ·rfl
theorem lq (t:TypeId) (blk:Blk) (o:Nat) (v:V) (c:Blk->Option α) (g:α->Option β):kL P t blk o v (λv=>ob (c v) g)=ob (kL P t blk o v c) g:=by
 unfold kL
 split
 ·split<;>rfl
 ·split
  ·split
   ·simp only [l6,mT]
   ·rfl
  ·split<;>rfl
  ·rfl
 ·rfl
theorem mO (n len:Nat) (h:Option Int) (c:Nat->Option α) (g:α->Option β):hiK n len h (λv=>ob (c v) g)=ob (hiK n len h c) g:=by
 unfold hiK;split
 ·rfl
 ·simp only [cK]
theorem oH (h:Nat) (l:Option Int) (c:Nat->Option α) (g:α->Option β):loK h l (λv=>ob (c v) g)=ob (loK h l c) g:=by
 unfold loK;split
 ·rfl
 ·simp only [cK]
theorem ue (ρ:Operand->Option V) (H:List (Nat×Blk)) (t:TypeId) (x:Operand) (lo hi:Option Operand) (mx:Operand) (c:Eff->Option α) (g:α->Option β):
  nj P ρ H t x lo hi mx (λe=>ob (c e) g)=ob (nj P ρ H t x lo hi mx c) g:=by
 unfold nj
 split
 ·simp only [cK]
  congr 1;funext a
  split
  ·split
   ·split
    ·split
     ·split
      ·split
       ·simp only [cK]
       ·rfl
      ·rfl
     ·simp only [cK]
     ·simp only [cK]
     ·rfl
    ·rfl
   ·rfl
  ·rfl
 ·rfl
theorem vO:∀(l:List (Int×Nat)) (n:Int) (c:Nat->Option α) (g:α->Option β),mapK l n (λx=>ob (c x) g)=ob (mapK l n c) g
 | [],_,_,_=>rfl
 | (m,u)::l,n,c,g=>by
  simp only [mapK]
  cases (n==m) with
  | true=>rfl
  | false=>exact vO l n c g
theorem BK (ρ:Operand->Option V) (H:List (Nat×Blk)) (f:Nat) (op:Op) (c:Eff->Option α) (g:α->Option β):
  effK P ρ H f op (λe=>ob (c e) g)=ob (effK P ρ H f op c) g:=by
 unfold effK
 split
 case h_1=>simp only [cK]
 case h_2=>simp only [cK]
 case h_3=>
  split
  ·simp only [l6,cK]
  ·rfl
 case h_4=>simp only [cK]
 case h_5=>simp only [cK]
 case h_6=>
  simp only [cK]
  congr 1;funext z
  congr 1;funext ps
  split
  ·split
   ·simp only [cK]
   ·rfl
  ·split
   ·simp only [cK]
   ·rfl
  ·rfl
 case h_7=>
  split
  ·split
   ·simp only [cK]
    congr 1;funext z
    congr 1;funext ps
    split
    ·simp only [cK]
     congr 1;funext l
     split
     ·split
      ·simp only [cK]
      ·rfl
     ·rfl
    ·rfl
   ·rfl
  ·rfl
 case h_8=>
  simp only [cK]
  congr 1;funext a
  congr 1;funext b
  split
  ·split
   ·simp only [cK]
    congr 1;funext z
    split
    ·split
     ·simp only [cK,l6,mT]
     ·rfl
    ·rfl
   ·rfl
  ·rfl
 case h_9=>
  split
  ·split
   ·exact mc ..
   ·rfl
  ·split
   ·split
    ·simp only [cK]
     congr 1;funext x
     exact mc ..
    ·rfl
   ·rfl
  ·rfl
 case h_10=>
  split
  ·simp only [cK]
   congr 1;funext v
   split
   ·exact lq ..
   ·rfl
  ·simp only [cK]
   congr 1;funext v
   split
   ·split
    ·simp only [cK]
     congr 1;funext x
     rw [<-lq]
     congr 1;funext blk'
     split
     ·simp only [cK]
     ·rfl
    ·rfl
   ·rfl
  ·rfl
 case h_11=>split<;>rfl
 case h_12=>
  simp only [cK]
  congr 1;funext a
  congr 1;funext b
  split
  ·rfl
  ·split
   ·split
    ·rename_i m rd hl
     cases Nat.blt 0 m<;>rfl
    ·rfl
   ·exact BJ ..
 case h_13=>
  simp only [cK]
  congr 1;funext a
  exact En ..
 case h_14=>
  simp only [cK]
  congr 1;funext a
  split
  ·split
   ·split<;>rfl
   ·split
    ·split<;>rfl
    ·split<;>rfl
    ·split
     ·split
      ·split
       ·simp only [l6,mT]
       ·rfl
      ·rfl
     ·rfl
    ·split
     ·split
      ·split<;>rfl
      ·rfl
     ·rfl
    ·split
     ·split
      ·split
       ·split
        ·simp only [l6,mT]
        ·rfl
       ·rfl
      ·rfl
     ·rfl
    ·split
     ·split<;>rfl
     ·rfl
    ·rfl
   ·split
    ·split
     ·split<;>rfl
     ·rfl
    ·rfl
   ·rfl
  ·rfl
 case h_15=>
  simp only [cK]
  congr 1;funext a
  split<;>rfl
 case h_16=>
  split
  ·split
   ·simp only [cK]
   ·rfl
  ·split
   ·simp only [cK]
   ·rfl
  ·rfl
 case h_17=>
  split
  ·exact ue ..
  ·simp only [cK]
   congr 1;funext a
   congr 1;funext l
   congr 1;funext h
   split
   ·split
    ·simp only [<-mO,<-oH]
    ·rfl
   ·split
    ·split
     ·simp only [<-mO,<-oH]
     ·rfl
    ·rfl
   ·split
    ·split
     ·simp only [<-mO,<-oH]
     ·rw [<-mO]
      congr 1;funext h
      split<;>rfl
     ·split
      ·split
       ·simp only [<-mO,<-oH]
       ·rfl
      ·rfl
     ·split
      ·simp only [<-mO,<-oH]
      ·rfl
     ·rfl
    ·rfl
   ·rfl
 case h_18=>
  split
  ·split
   ·split
    ·split<;>rfl
    ·rfl
   ·rfl
  ·split
   ·split
    ·split<;>rfl
    ·rfl
   ·rfl
  ·rfl
 case h_19=>
  split
  ·split
   ·split
    ·split
     ·split<;>rfl
     ·split
      ·simp only [cK]
      ·rfl
    ·rfl
   ·rfl
  ·rfl
 case h_20=>
  split
  ·split
   ·split
    ·split
     ·simp only [cK]
     ·rfl
    ·split
     ·simp only [cK]
     ·rfl
    ·rfl
   ·split
    ·split
     ·simp only [cK]
     ·rfl
    ·split
     ·split
      ·simp only [cK]
      ·rfl
     ·rfl
    ·split
     ·simp only [cK]
     ·rfl
    ·rfl
   ·rfl
  ·rfl
 case h_21=>
  split
  ·split
   ·split
    ·rfl
    ·split
     ·split
      ·split
       ·simp only [cK]
       ·rfl
      ·rfl
     ·split
      ·simp only [cK]
      ·simp only [cK]
      ·split
       ·split
        ·simp only [cK]
        ·rfl
       ·rfl
      ·split
       ·simp only [cK]
       ·rfl
      ·rfl
     ·rfl
   ·split
    ·simp only [cK]
    ·rfl
   ·rfl
  ·rfl
 case h_22=>
  split
  ·split<;>rfl
  ·rfl
 case h_23=>repeat' (first | rfl | split)
 case h_24=>
  split
  ·split
   ·split
    ·split
     ·split
      ·split
       ·exact vO ..
       ·rfl
      ·rfl
     ·rfl
    ·rfl
   ·rfl
  ·rfl
 case h_25=>
  split
  ·split<;>rfl
  ·rfl
 case h_26=>
  split
  ·split
   ·simp only [l6]
   ·rfl
  ·rfl
 case h_27=>
  split
  ·simp only [cK]
  ·rfl
 case h_28=>
  split
  ·split
   ·rfl
   ·split
    ·split<;>rfl
    ·rfl
   ·rfl
  ·rfl
 case h_29=>
  split
  ·simp only [cK]
   congr 1;funext args
   split
   ·split
    ·split
     ·split<;>rfl
     ·rfl
    ·split
     ·split<;>rfl
     ·rfl
    ·split
     ·split<;>rfl
     ·rfl
    ·split
     ·split
      ·split<;>rfl
      ·rfl
     ·rfl
    ·split
     ·split<;>rfl
     ·rfl
    ·split
     ·split<;>rfl
     ·rfl
    ·rfl
   ·split
    ·split
     ·split<;>rfl
     ·rfl
    ·split
     ·split<;>rfl
     ·rfl
    ·split
     ·split<;>rfl
     ·rfl
    ·rfl
   ·split
    ·split<;>rfl
    ·rfl
   ·split
    ·split<;>rfl
    ·rfl
   ·rfl
  ·rfl
 case h_30=>rfl
end
end Go.Abs
