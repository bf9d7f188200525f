/- An operation's effect hangs on what it looks at, and on nothing else.
   Conditions: none; generic over the program. -/
import Derived.Test.YtlampgohpnchdaaGreatDoorAbsJ
namespace Go.Abs
variable {P:Program}
section
variable {α β γ:Type}
@[simp] theorem il (a:α) (f:α->Option β):ob (some a) f=f a:=rfl
@[simp] theorem mS (f:α->Option β):ob none f=none:=rfl
theorem cB (o:Option α) (f:α->Option β) (g:β->Option γ):ob (ob o f) g=ob o λa=>ob (f a) g:=by cases o<;>rfl
theorem l3 (b:Bool) (x y:Option α) (g:α->Option β):ob (cond b x y) g=cond b (ob x g) (ob y g):=by cases b<;>rfl
theorem qU (op:BinOp) (k:IntKind) (x y:Int) (c:V->Option α) (g:α->Option β):intK op k x y (λv=>ob (c v) g)=ob (intK op k x y c) g:=by
 cases op<;>simp only [intK,l3,mS]
theorem BM (op:BinOp) (x y:List UInt8) (c:V->Option α) (g:α->Option β):strK op x y (λv=>ob (c v) g)=ob (strK op x y c) g:=by
 cases op<;>simp only [strK,mS,cB]
theorem BB (op:BinOp) (t:TypeId) (x y:V) (c:V->Option α) (g:α->Option β):binK P op t x y (λv=>ob (c v) g)=ob (binK P op t x y c) g:=by
 unfold binK
 split
 ·split
  ·exact qU ..
  ·exact qU ..
  ·split
   ·exact qU ..
   ·rfl
 ·exact BM ..
 ·split
  ·split<;>rfl
  ·split<;>rfl
  ·rfl
theorem Dj (op:UnOp) (x:V) (c:V->Option α) (g:α->Option β):unK op x (λv=>ob (c v) g)=ob (unK op x c) g:=by
 unfold unK;split<;>rfl
theorem o5 (t:TypeId) (blk:Blk) (o:Nat) (c:V->Option α) (g:α->Option β):kh P t blk o (λv=>ob (c v) g)=ob (kh P t blk o c) g:=by
 unfold kh
 split
 ·split<;>rfl
 ·split<;>rfl
 ·rfl
theorem mD (t:TypeId) (blk:Blk) (o:Nat) (c:V->Option α) (g:α->Option β):pM P t blk o (λv=>ob (c v) g)=ob (pM P t blk o c) g:=by
 unfold pM
 split
 ·exact o5 ..
 ·exact o5 ..
 ·split
  ·split<;>simp only [cB]
  ·simp only [cB]
  ·rfl
 ·split
  ·split<;>simp only [cB]
  ·rfl
 ·split
  ·simp only [cB]
  ·rfl
 ·rfl
theorem lC (t:TypeId) (blk:Blk) (o:Nat) (v:V) (c:Blk->Option α) (g:α->Option β):kV P t blk o v (λv=>ob (c v) g)=ob (kV P t blk o v c) g:=by
 unfold kV
 split
 ·split<;>rfl
 ·split
  ·split
   ·simp only [l3,mS]
   ·rfl
  ·split<;>rfl
  ·rfl
 ·rfl
theorem m9 (n len:Nat) (h:Option Int) (c:Nat->Option α) (g:α->Option β):hiK n len h (λv=>ob (c v) g)=ob (hiK n len h c) g:=by
 unfold hiK;split
 ·rfl
 ·simp only [cB]
theorem oI (h:Nat) (l:Option Int) (c:Nat->Option α) (g:α->Option β):loK h l (λv=>ob (c v) g)=ob (loK h l c) g:=by
 unfold loK;split
 ·rfl
 ·simp only [cB]
theorem uJ (ρ:Operand->Option V) (H:List (Nat×Blk)) (t:TypeId) (x:Operand) (lo hi:Option Operand) (mx:Operand) (c:Eff->Option α) (g:α->Option β):
  m7 P ρ H t x lo hi mx (λe=>ob (c e) g)=ob (m7 P ρ H t x lo hi mx c) g:=by
 unfold m7
 split
 ·simp only [cB]
  congr 1;funext a
  split
  ·split
   ·split
    ·split
     ·split
      ·split
       ·simp only [cB]
       ·rfl
      ·rfl
     ·simp only [cB]
     ·simp only [cB]
     ·rfl
    ·rfl
   ·rfl
  ·rfl
 ·rfl
theorem vG:∀(l:List (Int×Nat)) (n:Int) (c:Nat->Option α) (g:α->Option β),mapK l n (λx=>ob (c x) g)=ob (mapK l n c) g
 | [],_,_,_=>rfl
 | (m,u)::l,n,c,g=>by
  simp only [mapK]
  cases (n==m) with
  | true=>rfl
  | false=>exact vG l n c g
theorem Ar (ρ:Operand->Option V) (H:List (Nat×Blk)) (f:Nat) (op:Op) (c:Eff->Option α) (g:α->Option β):
  effK P ρ H f op (λe=>ob (c e) g)=ob (effK P ρ H f op c) g:=by
 unfold effK
 split
 case h_1=>simp only [cB]
 case h_2=>simp only [cB]
 case h_3=>
  split
  ·simp only [l3,cB]
  ·rfl
 case h_4=>simp only [cB]
 case h_5=>simp only [cB]
 case h_6=>
  simp only [cB]
  congr 1;funext z
  congr 1;funext ps
  split
  ·split
   ·simp only [cB]
   ·rfl
  ·split
   ·simp only [cB]
   ·rfl
  ·rfl
 case h_7=>
  split
  ·split
   ·simp only [cB]
    congr 1;funext z
    congr 1;funext ps
    split
    ·simp only [cB]
     congr 1;funext l
     split
     ·split
      ·simp only [cB]
      ·rfl
     ·rfl
    ·rfl
   ·rfl
  ·rfl
 case h_8=>
  simp only [cB]
  congr 1;funext a
  congr 1;funext b
  split
  ·split
   ·simp only [cB]
    congr 1;funext z
    split
    ·split
     ·simp only [cB,l3,mS]
     ·rfl
    ·rfl
   ·rfl
  ·rfl
 case h_9=>
  split
  ·split
   ·exact mD ..
   ·rfl
  ·split
   ·split
    ·simp only [cB]
     congr 1;funext x
     exact mD ..
    ·rfl
   ·rfl
  ·rfl
 case h_10=>
  split
  ·simp only [cB]
   congr 1;funext v
   split
   ·exact lC ..
   ·rfl
  ·simp only [cB]
   congr 1;funext v
   split
   ·split
    ·simp only [cB]
     congr 1;funext x
     rw [<-lC]
     congr 1;funext blk'
     split
     ·simp only [cB]
     ·rfl
    ·rfl
   ·rfl
  ·rfl
 case h_11=>split<;>rfl
 case h_12=>
  simp only [cB]
  congr 1;funext a
  congr 1;funext b
  split
  ·rfl
  ·split
   ·split
    ·rename_i m rd hl
     cases Nat.blt 0 m<;>rfl
    ·rfl
   ·exact BB ..
 case h_13=>
  simp only [cB]
  congr 1;funext a
  exact Dj ..
 case h_14=>
  simp only [cB]
  congr 1;funext a
  split
  ·split
   ·split<;>rfl
   ·split
    ·split<;>rfl
    ·split<;>rfl
    ·split
     ·split
      ·split
       ·simp only [l3,mS]
       ·rfl
      ·rfl
     ·rfl
    ·split
     ·split
      ·split<;>rfl
      ·rfl
     ·rfl
    ·split
     ·split
      ·split
       ·split
        ·simp only [l3,mS]
        ·rfl
       ·rfl
      ·rfl
     ·rfl
    ·split
     ·split<;>rfl
     ·rfl
    ·rfl
   ·split
    ·split
     ·split<;>rfl
     ·rfl
    ·rfl
   ·rfl
  ·rfl
 case h_15=>
  simp only [cB]
  congr 1;funext a
  split<;>rfl
 case h_16=>
  split
  ·split
   ·simp only [cB]
   ·rfl
  ·split
   ·simp only [cB]
   ·rfl
  ·rfl
 case h_17=>
  split
  ·exact uJ ..
  ·simp only [cB]
   congr 1;funext a
   congr 1;funext l
   congr 1;funext h
   split
   ·split
    ·simp only [<-m9,<-oI]
    ·rfl
   ·split
    ·split
     ·simp only [<-m9,<-oI]
     ·rfl
    ·rfl
   ·split
    ·split
     ·simp only [<-m9,<-oI]
     ·rw [<-m9]
      congr 1;funext h
      split<;>rfl
     ·split
      ·split
       ·simp only [<-m9,<-oI]
       ·rfl
      ·rfl
     ·split
      ·simp only [<-m9,<-oI]
      ·rfl
     ·rfl
    ·rfl
   ·rfl
 case h_18=>
  split
  ·split
   ·split
    ·split<;>rfl
    ·rfl
   ·rfl
  ·split
   ·split
    ·split<;>rfl
    ·rfl
   ·rfl
  ·rfl
 case h_19=>
  split
  ·split
   ·split
    ·split
     ·split<;>rfl
     ·split
      ·simp only [cB]
      ·rfl
    ·rfl
   ·rfl
  ·rfl
 case h_20=>
  split
  ·split
   ·split
    ·split
     ·simp only [cB]
     ·rfl
    ·split
     ·simp only [cB]
     ·rfl
    ·rfl
   ·split
    ·split
     ·simp only [cB]
     ·rfl
    ·split
     ·split
      ·simp only [cB]
      ·rfl
     ·rfl
    ·split
     ·simp only [cB]
     ·rfl
    ·rfl
   ·rfl
  ·rfl
 case h_21=>
  split
  ·split
   ·split
    ·rfl
    ·split
     ·split
      ·split
       ·simp only [cB]
       ·rfl
      ·rfl
     ·split
      ·simp only [cB]
      ·simp only [cB]
      ·split
       ·split
        ·simp only [cB]
        ·rfl
       ·rfl
      ·split
       ·simp only [cB]
       ·rfl
      ·rfl
     ·rfl
   ·split
    ·simp only [cB]
    ·rfl
   ·rfl
  ·rfl
 case h_22=>
  split
  ·split<;>rfl
  ·rfl
 case h_23=>repeat' (first | rfl | split)
 case h_24=>
  split
  ·split
   ·split
    ·split
     ·split
      ·split
       ·exact vG ..
       ·rfl
      ·rfl
     ·rfl
    ·rfl
   ·rfl
  ·rfl
 case h_25=>
  split
  ·split<;>rfl
  ·rfl
 case h_26=>
  split
  ·split
   ·simp only [l3]
   ·rfl
  ·rfl
 case h_27=>
  split
  ·simp only [cB]
  ·rfl
 case h_28=>
  split
  ·split
   ·rfl
   ·split
    ·split<;>rfl
    ·rfl
   ·rfl
  ·rfl
 case h_29=>
  split
  ·simp only [cB]
   congr 1;funext args
   split
   ·split
    ·split
     ·split<;>rfl
     ·rfl
    ·split
     ·split<;>rfl
     ·rfl
    ·split
     ·split<;>rfl
     ·rfl
    ·split
     ·split
      ·split<;>rfl
      ·rfl
     ·rfl
    ·split
     ·split<;>rfl
     ·rfl
    ·split
     ·split<;>rfl
     ·rfl
    ·rfl
   ·split
    ·split
     ·split<;>rfl
     ·rfl
    ·split
     ·split<;>rfl
     ·rfl
    ·split
     ·split<;>rfl
     ·rfl
    ·rfl
   ·split
    ·split<;>rfl
    ·rfl
   ·split
    ·split<;>rfl
    ·rfl
   ·rfl
  ·rfl
 case h_30=>rfl
end
end Go.Abs
