
import Derived.Test.YtadejcglcffgbabGreatDoorAbsJ
set_option linter.unusedSimpArgs false
set_option linter.unusedVariables false
set_option linter.defProp false
namespace Go.Abs
variable {P:Program}
section
variable {α β γ:Type}
@[simp] def ke(a:α)(f:α->Option β):ob (some a) f=f a:=rfl
@[simp] def ql(f:α->Option β):ob none f=none:=rfl
def dA(o:Option α)(f:α->Option β)(g:β->Option γ):ob (ob o f) g=ob o λa=>ob (f a) g:=by cases o<;>rfl
def o6(b:Bool)(x y:Option α)(g:α->Option β):ob (cond b x y) g=cond b (ob x g) (ob y g):=by cases b<;>rfl
def vW(op:BinOp)(k:IntKind)(x y:Int)(c:V->Option α)(g:α->Option β):intK op k x y (λv=>ob (c v) g)=ob (intK op k x y c) g:=by
 cases op<;>simp only[intK,o6,ql]
def G7(op:BinOp)(x y:aa)(c:V->Option α)(g:α->Option β):strK op x y (λv=>ob (c v) g)=ob (strK op x y c) g:=by
 cases op<;>simp only[strK,ql,dA]
def IS(op:BinOp)(t:TypeId)(x y:V)(c:V->Option α)(g:α->Option β):binK P op t x y (λv=>ob (c v) g)=ob (binK P op t x y c) g:=by
 unfold binK;split
 ·split
  ·exact vW ..
  ·exact vW ..
  ·split
   ·exact vW ..
   ·rfl
 ·exact G7 ..
 ·split
  ·split<;>rfl
  ·split<;>rfl
  ·rfl
def KI(op:UnOp)(x:V)(c:V->Option α)(g:α->Option β):unK op x (λv=>ob (c v) g)=ob (unK op x c) g:=by
 unfold unK;split<;>rfl
def uh(t:TypeId)(blk:Blk)(o:Nat)(c:V->Option α)(g:α->Option β):mC P t blk o (λv=>ob (c v) g)=ob (mC P t blk o c) g:=by
 unfold mC;split
 ·split<;>rfl
 ·split<;>rfl
 ·rfl
def pZ(t:TypeId)(blk:Blk)(o:Nat)(c:V->Option α)(g:α->Option β):uu P t blk o (λv=>ob (c v) g)=ob (uu P t blk o c) g:=by
 unfold uu;split
 ·exact uh ..
 ·exact uh ..
 ·split
  ·split<;>simp only[dA]
  ·simp only[dA]
  ·rfl
 ·split
  ·split<;>simp only[dA]
  ·rfl
 ·split
  ·simp only[dA]
  ·rfl
 ·rfl
def nH(t:TypeId)(blk:Blk)(o:Nat)(v:V)(c:Blk->Option α)(g:α->Option β):nC P t blk o v (λv=>ob (c v) g)=ob (nC P t blk o v c) g:=by
 unfold nC;split
 ·split<;>rfl
 ·split
  ·split
   ·simp only[o6,ql]
   ·rfl
  ·split<;>rfl
  ·rfl
 ·rfl
def qj(n len:Nat)(h:Option Int)(c:Nat->Option α)(g:α->Option β):hiK n len h (λv=>ob (c v) g)=ob (hiK n len h c) g:=by
 unfold hiK;split
 ·rfl
 ·simp only[dA]
def sY(h:Nat)(l:Option Int)(c:Nat->Option α)(g:α->Option β):loK h l (λv=>ob (c v) g)=ob (loK h l c) g:=by
 unfold loK;split
 ·rfl
 ·simp only[dA]
def zM(ρ:Operand->Option V)(H:List (Nat×Blk))(t:TypeId)(x:Operand)(lo hi:Option Operand)(b:Operand)(c:Eff->Option α)(g:α->Option β):
  qI P ρ H t x lo hi b (λe=>ob (c e) g)=ob (qI P ρ H t x lo hi b c) g:=by
 unfold qI;split
 ·simp only[dA];congr 1;funext a;split
  ·split
   ·split
    ·split
     ·split
      ·split
       ·simp only[dA]
       ·rfl
      ·rfl
     ·simp only[dA]
     ·simp only[dA]
     ·rfl
    ·rfl
   ·rfl
  ·rfl
 ·rfl
def AD:∀(l:List (Int×Nat)) (n:Int) (c:Nat->Option α) (g:α->Option β),mapK l n (λx=>ob (c x) g)=ob (mapK l n c) g
 | [],_,_,_=>rfl
 | (m,u)::l,n,c,g=>by
  simp only[mapK];cases(n==m)with
  | true=>rfl
  | false=>exact AD l n c g
def Iq(ρ:Operand->Option V)(H:List (Nat×Blk))(f:Nat)(op:Op)(c:Eff->Option α)(g:α->Option β):
  effK P ρ H f op (λe=>ob (c e) g)=ob (effK P ρ H f op c) g:=by
 unfold effK;split
 case h_1=>simp only[dA]
 case h_2=>simp only[dA]
 case h_3=>
  split
  ·simp only[o6,dA]
  ·rfl
 case h_4=>simp only[dA]
 case h_5=>simp only[dA]
 case h_6=>
  simp only[dA];congr 1;funext z;congr 1;funext i;split
  ·split
   ·simp only[dA]
   ·rfl
  ·split
   ·simp only[dA]
   ·rfl
  ·rfl
 case h_7=>
  split
  ·split
   ·simp only[dA];congr 1;funext z;congr 1;funext i;split
    ·simp only[dA];congr 1;funext l;split
     ·split
      ·simp only[dA]
      ·rfl
     ·rfl
    ·rfl
   ·rfl
  ·rfl
 case h_8=>
  simp only[dA];congr 1;funext a;congr 1;funext b;split
  ·split
   ·simp only[dA];congr 1;funext z;split
    ·split
     ·simp only[dA,o6,ql]
     ·rfl
    ·rfl
   ·rfl
  ·rfl
 case h_9=>
  split
  ·split
   ·exact pZ ..
   ·rfl
  ·split
   ·split
    ·simp only[dA];congr 1;funext x;exact pZ ..
    ·rfl
   ·rfl
  ·rfl
 case h_10=>
  split
  ·simp only[dA];congr 1;funext v;split
   ·exact nH ..
   ·rfl
  ·simp only[dA];congr 1;funext v;split
   ·split
    ·simp only[dA];congr 1;funext x;rw[<-nH];congr 1;funext d;split
     ·simp only[dA]
     ·rfl
    ·rfl
   ·rfl
  ·rfl
 case h_11=>split<;>rfl
 case h_12=>
  simp only[dA];congr 1;funext a;congr 1;funext b;split
  ·rfl
  ·split
   ·split
    ·rename_i m rd j;cases Nat.blt 0 m<;>rfl
    ·rfl
   ·exact IS ..
 case h_13=>
  simp only[dA];congr 1;funext a;exact KI ..
 case h_14=>
  simp only[dA];congr 1;funext a;split
  ·split
   ·split<;>rfl
   ·split
    ·split<;>rfl
    ·split<;>rfl
    ·split
     ·split
      ·split
       ·simp only[o6,ql]
       ·rfl
      ·rfl
     ·rfl
    ·split
     ·split
      ·split<;>rfl
      ·rfl
     ·rfl
    ·split
     ·split
      ·split
       ·split
        ·simp only[o6,ql]
        ·rfl
       ·rfl
      ·rfl
     ·rfl
    ·split
     ·split<;>rfl
     ·rfl
    ·rfl
   ·split
    ·split
     ·split<;>rfl
     ·rfl
    ·rfl
   ·rfl
  ·rfl
 case h_15=>
  simp only[dA];congr 1;funext a;split<;>rfl
 case h_16=>
  split
  ·split
   ·simp only[dA]
   ·rfl
  ·split
   ·simp only[dA]
   ·rfl
  ·rfl
 case h_17=>
  split
  ·exact zM ..
  ·simp only[dA];congr 1;funext a;congr 1;funext l;congr 1;funext h;split
   ·split
    ·simp only[<-qj,<-sY]
    ·rfl
   ·split
    ·split
     ·simp only[<-qj,<-sY]
     ·rfl
    ·rfl
   ·split
    ·split
     ·simp only[<-qj,<-sY]
     ·rw[<-qj];congr 1;funext h;split<;>rfl
     ·split
      ·split
       ·simp only[<-qj,<-sY]
       ·rfl
      ·rfl
     ·split
      ·simp only[<-qj,<-sY]
      ·rfl
     ·rfl
    ·rfl
   ·rfl
 case h_18=>
  split
  ·split
   ·split
    ·split<;>rfl
    ·rfl
   ·rfl
  ·split
   ·split
    ·split<;>rfl
    ·rfl
   ·rfl
  ·rfl
 case h_19=>
  split
  ·split
   ·split
    ·split
     ·split<;>rfl
     ·split
      ·simp only[dA]
      ·rfl
    ·rfl
   ·rfl
  ·rfl
 case h_20=>
  split
  ·split
   ·split
    ·split
     ·simp only[dA]
     ·rfl
    ·split
     ·simp only[dA]
     ·rfl
    ·rfl
   ·split
    ·split
     ·simp only[dA]
     ·rfl
    ·split
     ·split
      ·simp only[dA]
      ·rfl
     ·rfl
    ·split
     ·simp only[dA]
     ·rfl
    ·rfl
   ·rfl
  ·rfl
 case h_21=>
  split
  ·split
   ·split
    ·rfl
    ·split
     ·split
      ·split
       ·simp only[dA]
       ·rfl
      ·rfl
     ·split
      ·simp only[dA]
      ·simp only[dA]
      ·split
       ·split
        ·simp only[dA]
        ·rfl
       ·rfl
      ·split
       ·simp only[dA]
       ·rfl
      ·rfl
     ·rfl
   ·split
    ·simp only[dA]
    ·rfl
   ·rfl
  ·rfl
 case h_22=>
  split
  ·split<;>rfl
  ·rfl
 case h_23=>repeat' (first | rfl | split)
 case h_24=>
  split
  ·split
   ·split
    ·split
     ·split
      ·split
       ·exact AD ..
       ·rfl
      ·rfl
     ·rfl
    ·rfl
   ·rfl
  ·rfl
 case h_25=>
  split
  ·split<;>rfl
  ·rfl
 case h_26=>
  split
  ·split
   ·simp only[o6]
   ·rfl
  ·rfl
 case h_27=>
  split
  ·simp only[dA]
  ·rfl
 case h_28=>
  split
  ·split
   ·rfl
   ·split
    ·split<;>rfl
    ·rfl
   ·rfl
  ·rfl
 case h_29=>
  split
  ·simp only[dA];congr 1;funext args;split
   ·split
    ·split
     ·split<;>rfl
     ·rfl
    ·split
     ·split<;>rfl
     ·rfl
    ·split
     ·split<;>rfl
     ·rfl
    ·split
     ·split
      ·split<;>rfl
      ·rfl
     ·rfl
    ·split
     ·split<;>rfl
     ·rfl
    ·split
     ·split<;>rfl
     ·rfl
    ·rfl
   ·split
    ·split
     ·split<;>rfl
     ·rfl
    ·split
     ·split<;>rfl
     ·rfl
    ·split
     ·split<;>rfl
     ·rfl
    ·rfl
   ·split
    ·split<;>rfl
    ·rfl
   ·split
    ·split<;>rfl
    ·rfl
   ·rfl
  ·rfl
 case h_30=>rfl
end
end Go.Abs
