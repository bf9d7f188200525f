
import Derived.Test.YtjkmipianfkncaaGreatDoorAbsJ
set_option linter.unusedSimpArgs false
set_option linter.unusedVariables false
set_option linter.defProp false
namespace Go.Abs
variable {P:Program}
section
variable {α β γ:Type}
@[simp] def lY(a:α)(f:α->Option β):ob (some a) f=f a:=rfl
@[simp] def t7(f:α->Option β):ob none f=none:=rfl
def eF(o:Option α)(f:α->Option β)(g:β->Option γ):ob (ob o f) g=ob o λa=>ob (f a) g:=by cases o<;>rfl
def r7(b:Bool)(x y:Option α)(g:α->Option β):ob (cond b x y) g=cond b (ob x g) (ob y g):=by cases b<;>rfl
def zX(op:BinOp)(k:IntKind)(x y:Int)(c:V->Option α)(g:α->Option β):intK op k x y (λv=>ob (c v) g)=ob (intK op k x y c) g:=by
 cases op<;>simp only[intK,r7,t7]
def MB(op:BinOp)(x y:aa)(c:V->Option α)(g:α->Option β):strK op x y (λv=>ob (c v) g)=ob (strK op x y c) g:=by
 cases op<;>simp only[strK,t7,eF]
def Nl(op:BinOp)(t:TypeId)(x y:V)(c:V->Option α)(g:α->Option β):binK P op t x y (λv=>ob (c v) g)=ob (binK P op t x y c) g:=by
 unfold binK;split
 ·split
  ·exact zX ..
  ·exact zX ..
  ·split
   ·exact zX ..
   ·rfl
 ·exact MB ..
 ·split
  ·split<;>rfl
  ·split<;>rfl
  ·rfl
def Qq(op:UnOp)(x:V)(c:V->Option α)(g:α->Option β):unK op x (λv=>ob (c v) g)=ob (unK op x c) g:=by
 unfold unK;split<;>rfl
def vL(t:TypeId)(blk:Blk)(o:Nat)(c:V->Option α)(g:α->Option β):oN P t blk o (λv=>ob (c v) g)=ob (oN P t blk o c) g:=by
 unfold oN;split
 ·split<;>rfl
 ·split<;>rfl
 ·rfl
def sP(t:TypeId)(blk:Blk)(o:Nat)(c:V->Option α)(g:α->Option β):xC P t blk o (λv=>ob (c v) g)=ob (xC P t blk o c) g:=by
 unfold xC;split
 ·exact vL ..
 ·exact vL ..
 ·split
  ·split<;>simp only[eF]
  ·simp only[eF]
  ·rfl
 ·split
  ·split<;>simp only[eF]
  ·rfl
 ·split
  ·simp only[eF]
  ·rfl
 ·rfl
def qL(t:TypeId)(blk:Blk)(o:Nat)(v:V)(c:Blk->Option α)(g:α->Option β):pH P t blk o v (λv=>ob (c v) g)=ob (pH P t blk o v c) g:=by
 unfold pH;split
 ·split<;>rfl
 ·split
  ·split
   ·simp only[r7,t7]
   ·rfl
  ·split<;>rfl
  ·rfl
 ·rfl
def tA(n len:Nat)(h:Option Int)(c:Nat->Option α)(g:α->Option β):hiK n len h (λv=>ob (c v) g)=ob (hiK n len h c) g:=by
 unfold hiK;split
 ·rfl
 ·simp only[eF]
def vO(h:Nat)(l:Option Int)(c:Nat->Option α)(g:α->Option β):loK h l (λv=>ob (c v) g)=ob (loK h l c) g:=by
 unfold loK;split
 ·rfl
 ·simp only[eF]
def Ee(ρ:Operand->Option V)(H:List (Nat×Blk))(t:TypeId)(x:Operand)(lo hi:Option Operand)(mx:Operand)(c:Eff->Option α)(g:α->Option β):
  tU P ρ H t x lo hi mx (λe=>ob (c e) g)=ob (tU P ρ H t x lo hi mx c) g:=by
 unfold tU;split
 ·simp only[eF];congr 1;funext a;split
  ·split
   ·split
    ·split
     ·split
      ·split
       ·simp only[eF]
       ·rfl
      ·rfl
     ·simp only[eF]
     ·simp only[eF]
     ·rfl
    ·rfl
   ·rfl
  ·rfl
 ·rfl
def Fj:∀(l:List (Int×Nat)) (n:Int) (c:Nat->Option α) (g:α->Option β),mapK l n (λx=>ob (c x) g)=ob (mapK l n c) g
 | [],_,_,_=>rfl
 | (m,u)::l,n,c,g=>by
  simp only[mapK];cases(n==m)with
  | true=>rfl
  | false=>exact Fj l n c g
def MS(ρ:Operand->Option V)(H:List (Nat×Blk))(f:Nat)(op:Op)(c:Eff->Option α)(g:α->Option β):
  effK P ρ H f op (λe=>ob (c e) g)=ob (effK P ρ H f op c) g:=by
 unfold effK;split
 case h_1=>simp only[eF]
 case h_2=>simp only[eF]
 case h_3=>
  split
  ·simp only[r7,eF]
  ·rfl
 case h_4=>simp only[eF]
 case h_5=>simp only[eF]
 case h_6=>
  simp only[eF];congr 1;funext z;congr 1;funext i;split
  ·split
   ·simp only[eF]
   ·rfl
  ·split
   ·simp only[eF]
   ·rfl
  ·rfl
 case h_7=>
  split
  ·split
   ·simp only[eF];congr 1;funext z;congr 1;funext i;split
    ·simp only[eF];congr 1;funext l;split
     ·split
      ·simp only[eF]
      ·rfl
     ·rfl
    ·rfl
   ·rfl
  ·rfl
 case h_8=>
  simp only[eF];congr 1;funext a;congr 1;funext b;split
  ·split
   ·simp only[eF];congr 1;funext z;split
    ·split
     ·simp only[eF,r7,t7]
     ·rfl
    ·rfl
   ·rfl
  ·rfl
 case h_9=>
  split
  ·split
   ·exact sP ..
   ·rfl
  ·split
   ·split
    ·simp only[eF];congr 1;funext x;exact sP ..
    ·rfl
   ·rfl
  ·rfl
 case h_10=>
  split
  ·simp only[eF];congr 1;funext v;split
   ·exact qL ..
   ·rfl
  ·simp only[eF];congr 1;funext v;split
   ·split
    ·simp only[eF];congr 1;funext x;rw[<-qL];congr 1;funext d;split
     ·simp only[eF]
     ·rfl
    ·rfl
   ·rfl
  ·rfl
 case h_11=>split<;>rfl
 case h_12=>
  simp only[eF];congr 1;funext a;congr 1;funext b;split
  ·rfl
  ·split
   ·split
    ·rename_i m rd j;cases Nat.blt 0 m<;>rfl
    ·rfl
   ·exact Nl ..
 case h_13=>
  simp only[eF];congr 1;funext a;exact Qq ..
 case h_14=>
  simp only[eF];congr 1;funext a;split
  ·split
   ·split<;>rfl
   ·split
    ·split<;>rfl
    ·split<;>rfl
    ·split
     ·split
      ·split
       ·simp only[r7,t7]
       ·rfl
      ·rfl
     ·rfl
    ·split
     ·split
      ·split<;>rfl
      ·rfl
     ·rfl
    ·split
     ·split
      ·split
       ·split
        ·simp only[r7,t7]
        ·rfl
       ·rfl
      ·rfl
     ·rfl
    ·split
     ·split<;>rfl
     ·rfl
    ·rfl
   ·split
    ·split
     ·split<;>rfl
     ·rfl
    ·rfl
   ·rfl
  ·rfl
 case h_15=>
  simp only[eF];congr 1;funext a;split<;>rfl
 case h_16=>
  split
  ·split
   ·simp only[eF]
   ·rfl
  ·split
   ·simp only[eF]
   ·rfl
  ·rfl
 case h_17=>
  split
  ·exact Ee ..
  ·simp only[eF];congr 1;funext a;congr 1;funext l;congr 1;funext h;split
   ·split
    ·simp only[<-tA,<-vO]
    ·rfl
   ·split
    ·split
     ·simp only[<-tA,<-vO]
     ·rfl
    ·rfl
   ·split
    ·split
     ·simp only[<-tA,<-vO]
     ·rw[<-tA];congr 1;funext h;split<;>rfl
     ·split
      ·split
       ·simp only[<-tA,<-vO]
       ·rfl
      ·rfl
     ·split
      ·simp only[<-tA,<-vO]
      ·rfl
     ·rfl
    ·rfl
   ·rfl
 case h_18=>
  split
  ·split
   ·split
    ·split<;>rfl
    ·rfl
   ·rfl
  ·split
   ·split
    ·split<;>rfl
    ·rfl
   ·rfl
  ·rfl
 case h_19=>
  split
  ·split
   ·split
    ·split
     ·split<;>rfl
     ·split
      ·simp only[eF]
      ·rfl
    ·rfl
   ·rfl
  ·rfl
 case h_20=>
  split
  ·split
   ·split
    ·split
     ·simp only[eF]
     ·rfl
    ·split
     ·simp only[eF]
     ·rfl
    ·rfl
   ·split
    ·split
     ·simp only[eF]
     ·rfl
    ·split
     ·split
      ·simp only[eF]
      ·rfl
     ·rfl
    ·split
     ·simp only[eF]
     ·rfl
    ·rfl
   ·rfl
  ·rfl
 case h_21=>
  split
  ·split
   ·split
    ·rfl
    ·split
     ·split
      ·split
       ·simp only[eF]
       ·rfl
      ·rfl
     ·split
      ·simp only[eF]
      ·simp only[eF]
      ·split
       ·split
        ·simp only[eF]
        ·rfl
       ·rfl
      ·split
       ·simp only[eF]
       ·rfl
      ·rfl
     ·rfl
   ·split
    ·simp only[eF]
    ·rfl
   ·rfl
  ·rfl
 case h_22=>
  split
  ·split<;>rfl
  ·rfl
 case h_23=>repeat' (first | rfl | split)
 case h_24=>
  split
  ·split
   ·split
    ·split
     ·split
      ·split
       ·exact Fj ..
       ·rfl
      ·rfl
     ·rfl
    ·rfl
   ·rfl
  ·rfl
 case h_25=>
  split
  ·split<;>rfl
  ·rfl
 case h_26=>
  split
  ·split
   ·simp only[r7]
   ·rfl
  ·rfl
 case h_27=>
  split
  ·simp only[eF]
  ·rfl
 case h_28=>
  split
  ·split
   ·rfl
   ·split
    ·split<;>rfl
    ·rfl
   ·rfl
  ·rfl
 case h_29=>
  split
  ·simp only[eF];congr 1;funext args;split
   ·split
    ·split
     ·split<;>rfl
     ·rfl
    ·split
     ·split<;>rfl
     ·rfl
    ·split
     ·split<;>rfl
     ·rfl
    ·split
     ·split
      ·split<;>rfl
      ·rfl
     ·rfl
    ·split
     ·split<;>rfl
     ·rfl
    ·split
     ·split<;>rfl
     ·rfl
    ·rfl
   ·split
    ·split
     ·split<;>rfl
     ·rfl
    ·split
     ·split<;>rfl
     ·rfl
    ·split
     ·split<;>rfl
     ·rfl
    ·rfl
   ·split
    ·split<;>rfl
    ·rfl
   ·split
    ·split<;>rfl
    ·rfl
   ·rfl
  ·rfl
 case h_30=>rfl
end
end Go.Abs
