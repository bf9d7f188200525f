
import Derived.Test.YtibehcmomiplnabGreatDoorAbsJ
set_option linter.unusedSimpArgs false
set_option linter.unusedVariables false
set_option linter.defProp false
namespace Go.Abs
variable {P:Program}
section
variable {α β γ:Type}
@[simp] def oO(a:α)(f:α->Option β):ob (some a) f=f a:=rfl
@[simp] def xc(f:α->Option β):ob none f=none:=rfl
def fP(o:Option α)(f:α->Option β)(g:β->Option γ):ob (ob o f) g=ob o λa=>ob (f a) g:=by cases o<;>rfl
def vC(b:Bool)(x y:Option α)(g:α->Option β):ob (cond b x y) g=cond b (ob x g) (ob y g):=by cases b<;>rfl
def Ey(op:BinOp)(k:IntKind)(x y:Int)(c:V->Option α)(g:α->Option β):intK op k x y (λv=>ob (c v) g)=ob (intK op k x y c) g:=by
 cases op<;>simp only[intK,vC,xc]
def UI(op:BinOp)(x y:aa)(c:V->Option α)(g:α->Option β):strK op x y (λv=>ob (c v) g)=ob (strK op x y c) g:=by
 cases op<;>simp only[strK,xc,fP]
def UK(op:BinOp)(t:TypeId)(x y:V)(c:V->Option α)(g:α->Option β):binK P op t x y (λv=>ob (c v) g)=ob (binK P op t x y c) g:=by
 unfold binK;split
 ·split
  ·exact Ey ..
  ·exact Ey ..
  ·split
   ·exact Ey ..
   ·rfl
 ·exact UI ..
 ·split
  ·split<;>rfl
  ·split<;>rfl
  ·rfl
def Xu(op:UnOp)(x:V)(c:V->Option α)(g:α->Option β):unK op x (λv=>ob (c v) g)=ob (unK op x c) g:=by
 unfold unK;split<;>rfl
def zL(t:TypeId)(blk:Blk)(o:Nat)(c:V->Option α)(g:α->Option β):sg P t blk o (λv=>ob (c v) g)=ob (sg P t blk o c) g:=by
 unfold sg;split
 ·split<;>rfl
 ·split<;>rfl
 ·rfl
def wm(t:TypeId)(blk:Blk)(o:Nat)(c:V->Option α)(g:α->Option β):BC P t blk o (λv=>ob (c v) g)=ob (BC P t blk o c) g:=by
 unfold BC;split
 ·exact zL ..
 ·exact zL ..
 ·split
  ·split<;>simp only[fP]
  ·simp only[fP]
  ·rfl
 ·split
  ·split<;>simp only[fP]
  ·rfl
 ·split
  ·simp only[fP]
  ·rfl
 ·rfl
def uA(t:TypeId)(blk:Blk)(o:Nat)(v:V)(c:Blk->Option α)(g:α->Option β):tW P t blk o v (λv=>ob (c v) g)=ob (tW P t blk o v c) g:=by
 unfold tW;split
 ·split<;>rfl
 ·split
  ·split
   ·simp only[vC,xc]
   ·rfl
  ·split<;>rfl
  ·rfl
 ·rfl
def xC(n len:Nat)(h:Option Int)(c:Nat->Option α)(g:α->Option β):hiK n len h (λv=>ob (c v) g)=ob (hiK n len h c) g:=by
 unfold hiK;split
 ·rfl
 ·simp only[fP]
def zR(h:Nat)(l:Option Int)(c:Nat->Option α)(g:α->Option β):loK h l (λv=>ob (c v) g)=ob (loK h l c) g:=by
 unfold loK;split
 ·rfl
 ·simp only[fP]
def H3(ρ:Operand->Option V)(H:List (Nat×Blk))(t:TypeId)(x:Operand)(lo hi:Option Operand)(mx:Operand)(c:Eff->Option α)(g:α->Option β):
  xN P ρ H t x lo hi mx (λe=>ob (c e) g)=ob (xN P ρ H t x lo hi mx c) g:=by
 unfold xN;split
 ·simp only[fP];congr 1;funext a;split
  ·split
   ·split
    ·split
     ·split
      ·split
       ·simp only[fP]
       ·rfl
      ·rfl
     ·simp only[fP]
     ·simp only[fP]
     ·rfl
    ·rfl
   ·rfl
  ·rfl
 ·rfl
def Ln:∀(l:List (Int×Nat)) (n:Int) (c:Nat->Option α) (g:α->Option β),mapK l n (λx=>ob (c x) g)=ob (mapK l n c) g
 | [],_,_,_=>rfl
 | (m,u)::l,n,c,g=>by
  simp only[mapK];cases(n==m)with
  | true=>rfl
  | false=>exact Ln l n c g
def TG(ρ:Operand->Option V)(H:List (Nat×Blk))(f:Nat)(op:Op)(c:Eff->Option α)(g:α->Option β):
  effK P ρ H f op (λe=>ob (c e) g)=ob (effK P ρ H f op c) g:=by
 unfold effK;split
 case h_1=>simp only[fP]
 case h_2=>simp only[fP]
 case h_3=>
  split
  ·simp only[vC,fP]
  ·rfl
 case h_4=>simp only[fP]
 case h_5=>simp only[fP]
 case h_6=>
  simp only[fP];congr 1;funext z;congr 1;funext i;split
  ·split
   ·simp only[fP]
   ·rfl
  ·split
   ·simp only[fP]
   ·rfl
  ·rfl
 case h_7=>
  split
  ·split
   ·simp only[fP];congr 1;funext z;congr 1;funext i;split
    ·simp only[fP];congr 1;funext l;split
     ·split
      ·simp only[fP]
      ·rfl
     ·rfl
    ·rfl
   ·rfl
  ·rfl
 case h_8=>
  simp only[fP];congr 1;funext a;congr 1;funext b;split
  ·split
   ·simp only[fP];congr 1;funext z;split
    ·split
     ·simp only[fP,vC,xc]
     ·rfl
    ·rfl
   ·rfl
  ·rfl
 case h_9=>
  split
  ·split
   ·exact wm ..
   ·rfl
  ·split
   ·split
    ·simp only[fP];congr 1;funext x;exact wm ..
    ·rfl
   ·rfl
  ·rfl
 case h_10=>
  split
  ·simp only[fP];congr 1;funext v;split
   ·exact uA ..
   ·rfl
  ·simp only[fP];congr 1;funext v;split
   ·split
    ·simp only[fP];congr 1;funext x;rw[<-uA];congr 1;funext d;split
     ·simp only[fP]
     ·rfl
    ·rfl
   ·rfl
  ·rfl
 case h_11=>split<;>rfl
 case h_12=>
  simp only[fP];congr 1;funext a;congr 1;funext b;split
  ·rfl
  ·split
   ·split
    ·rename_i m rd j;cases Nat.blt 0 m<;>rfl
    ·rfl
   ·exact UK ..
 case h_13=>
  simp only[fP];congr 1;funext a;exact Xu ..
 case h_14=>
  simp only[fP];congr 1;funext a;split
  ·split
   ·split<;>rfl
   ·split
    ·split<;>rfl
    ·split<;>rfl
    ·split
     ·split
      ·split
       ·simp only[vC,xc]
       ·rfl
      ·rfl
     ·rfl
    ·split
     ·split
      ·split<;>rfl
      ·rfl
     ·rfl
    ·split
     ·split
      ·split
       ·split
        ·simp only[vC,xc]
        ·rfl
       ·rfl
      ·rfl
     ·rfl
    ·split
     ·split<;>rfl
     ·rfl
    ·rfl
   ·split
    ·split
     ·split<;>rfl
     ·rfl
    ·rfl
   ·rfl
  ·rfl
 case h_15=>
  simp only[fP];congr 1;funext a;split<;>rfl
 case h_16=>
  split
  ·split
   ·simp only[fP]
   ·rfl
  ·split
   ·simp only[fP]
   ·rfl
  ·rfl
 case h_17=>
  split
  ·exact H3 ..
  ·simp only[fP];congr 1;funext a;congr 1;funext l;congr 1;funext h;split
   ·split
    ·simp only[<-xC,<-zR]
    ·rfl
   ·split
    ·split
     ·simp only[<-xC,<-zR]
     ·rfl
    ·rfl
   ·split
    ·split
     ·simp only[<-xC,<-zR]
     ·rw[<-xC];congr 1;funext h;split<;>rfl
     ·split
      ·split
       ·simp only[<-xC,<-zR]
       ·rfl
      ·rfl
     ·split
      ·simp only[<-xC,<-zR]
      ·rfl
     ·rfl
    ·rfl
   ·rfl
 case h_18=>
  split
  ·split
   ·split
    ·split<;>rfl
    ·rfl
   ·rfl
  ·split
   ·split
    ·split<;>rfl
    ·rfl
   ·rfl
  ·rfl
 case h_19=>
  split
  ·split
   ·split
    ·split
     ·split<;>rfl
     ·split
      ·simp only[fP]
      ·rfl
    ·rfl
   ·rfl
  ·rfl
 case h_20=>
  split
  ·split
   ·split
    ·split
     ·simp only[fP]
     ·rfl
    ·split
     ·simp only[fP]
     ·rfl
    ·rfl
   ·split
    ·split
     ·simp only[fP]
     ·rfl
    ·split
     ·split
      ·simp only[fP]
      ·rfl
     ·rfl
    ·split
     ·simp only[fP]
     ·rfl
    ·rfl
   ·rfl
  ·rfl
 case h_21=>
  split
  ·split
   ·split
    ·rfl
    ·split
     ·split
      ·split
       ·simp only[fP]
       ·rfl
      ·rfl
     ·split
      ·simp only[fP]
      ·simp only[fP]
      ·split
       ·split
        ·simp only[fP]
        ·rfl
       ·rfl
      ·split
       ·simp only[fP]
       ·rfl
      ·rfl
     ·rfl
   ·split
    ·simp only[fP]
    ·rfl
   ·rfl
  ·rfl
 case h_22=>
  split
  ·split<;>rfl
  ·rfl
 case h_23=>repeat' (first | rfl | split)
 case h_24=>
  split
  ·split
   ·split
    ·split
     ·split
      ·split
       ·exact Ln ..
       ·rfl
      ·rfl
     ·rfl
    ·rfl
   ·rfl
  ·rfl
 case h_25=>
  split
  ·split<;>rfl
  ·rfl
 case h_26=>
  split
  ·split
   ·simp only[vC]
   ·rfl
  ·rfl
 case h_27=>
  split
  ·simp only[fP]
  ·rfl
 case h_28=>
  split
  ·split
   ·rfl
   ·split
    ·split<;>rfl
    ·rfl
   ·rfl
  ·rfl
 case h_29=>
  split
  ·simp only[fP];congr 1;funext args;split
   ·split
    ·split
     ·split<;>rfl
     ·rfl
    ·split
     ·split<;>rfl
     ·rfl
    ·split
     ·split<;>rfl
     ·rfl
    ·split
     ·split
      ·split<;>rfl
      ·rfl
     ·rfl
    ·split
     ·split<;>rfl
     ·rfl
    ·split
     ·split<;>rfl
     ·rfl
    ·rfl
   ·split
    ·split
     ·split<;>rfl
     ·rfl
    ·split
     ·split<;>rfl
     ·rfl
    ·split
     ·split<;>rfl
     ·rfl
    ·rfl
   ·split
    ·split<;>rfl
    ·rfl
   ·split
    ·split<;>rfl
    ·rfl
   ·rfl
  ·rfl
 case h_30=>rfl
end
end Go.Abs
