
import Derived.Test.YtadejcglcffgbacGreatDoorAbsJ
set_option linter.unusedSimpArgs false
set_option linter.unusedVariables false
set_option linter.defProp false
namespace Go.Abs
variable {P:Program}
section
variable {α β γ:Type}
@[simp] def jB(a:α)(f:α->Option β):ob (some a) f=f a:=rfl
@[simp] def qg(f:α->Option β):ob none f=none:=rfl
def cV(o:Option α)(f:α->Option β)(g:β->Option γ):ob (ob o f) g=ob o λa=>ob (f a) g:=by cases o<;>rfl
def od(b:Bool)(x y:Option α)(g:α->Option β):ob (cond b x y) g=cond b (ob x g) (ob y g):=by cases b<;>rfl
def wF(op:BinOp)(k:IntKind)(x y:Int)(c:V->Option α)(g:α->Option β):intK op k x y (λv=>ob (c v) g)=ob (intK op k x y c) g:=by
 cases op<;>simp only[intK,od,qg]
def Ht(op:BinOp)(x y:aa)(c:V->Option α)(g:α->Option β):strK op x y (λv=>ob (c v) g)=ob (strK op x y c) g:=by
 cases op<;>simp only[strK,qg,cV]
def H6(op:BinOp)(t:TypeId)(x y:V)(c:V->Option α)(g:α->Option β):binK P op t x y (λv=>ob (c v) g)=ob (binK P op t x y c) g:=by
 unfold binK;split
 ·split
  ·exact wF ..
  ·exact wF ..
  ·split
   ·exact wF ..
   ·rfl
 ·exact Ht ..
 ·split
  ·split<;>rfl
  ·split<;>rfl
  ·rfl
def JK(op:UnOp)(x:V)(c:V->Option α)(g:α->Option β):unK op x (λv=>ob (c v) g)=ob (unK op x c) g:=by
 unfold unK;split<;>rfl
def sU(t:TypeId)(blk:Blk)(o:Nat)(c:V->Option α)(g:α->Option β):lP P t blk o (λv=>ob (c v) g)=ob (lP P t blk o c) g:=by
 unfold lP;split
 ·split<;>rfl
 ·split<;>rfl
 ·rfl
def pp(t:TypeId)(blk:Blk)(o:Nat)(c:V->Option α)(g:α->Option β):uj P t blk o (λv=>ob (c v) g)=ob (uj P t blk o c) g:=by
 unfold uj;split
 ·exact sU ..
 ·exact sU ..
 ·split
  ·split<;>simp only[cV]
  ·simp only[cV]
  ·rfl
 ·split
  ·split<;>simp only[cV]
  ·rfl
 ·split
  ·simp only[cV]
  ·rfl
 ·rfl
def np(t:TypeId)(blk:Blk)(o:Nat)(v:V)(c:Blk->Option α)(g:α->Option β):ml P t blk o v (λv=>ob (c v) g)=ob (ml P t blk o v c) g:=by
 unfold ml;split
 ·split<;>rfl
 ·split
  ·split
   ·simp only[od,qg]
   ·rfl
  ·split<;>rfl
  ·rfl
 ·rfl
def ql(n len:Nat)(h:Option Int)(c:Nat->Option α)(g:α->Option β):hiK n len h (λv=>ob (c v) g)=ob (hiK n len h c) g:=by
 unfold hiK;split
 ·rfl
 ·simp only[cV]
def su(h:Nat)(l:Option Int)(c:Nat->Option α)(g:α->Option β):loK h l (λv=>ob (c v) g)=ob (loK h l c) g:=by
 unfold loK;split
 ·rfl
 ·simp only[cV]
def zt(ρ:Operand->Option V)(H:List (Nat×Blk))(t:TypeId)(x:Operand)(lo hi:Option Operand)(b:Operand)(c:Eff->Option α)(g:α->Option β):
  pS P ρ H t x lo hi b (λe=>ob (c e) g)=ob (pS P ρ H t x lo hi b c) g:=by
 unfold pS;split
 ·simp only[cV];congr 1;funext a;split
  ·split
   ·split
    ·split
     ·split
      ·split
       ·simp only[cV]
       ·rfl
      ·rfl
     ·simp only[cV]
     ·simp only[cV]
     ·rfl
    ·rfl
   ·rfl
  ·rfl
 ·rfl
def zW:∀(l:List (Int×Nat)) (n:Int) (c:Nat->Option α) (g:α->Option β),mapK l n (λx=>ob (c x) g)=ob (mapK l n c) g
 | [],_,_,_=>rfl
 | (m,u)::l,n,c,g=>by
  simp only[mapK];cases(n==m)with
  | true=>rfl
  | false=>exact zW l n c g
def HM(ρ:Operand->Option V)(H:List (Nat×Blk))(f:Nat)(op:Op)(c:Eff->Option α)(g:α->Option β):
  effK P ρ H f op (λe=>ob (c e) g)=ob (effK P ρ H f op c) g:=by
 unfold effK;split
 case h_1=>simp only[cV]
 case h_2=>simp only[cV]
 case h_3=>
  split
  ·simp only[od,cV]
  ·rfl
 case h_4=>simp only[cV]
 case h_5=>simp only[cV]
 case h_6=>
  simp only[cV];congr 1;funext z;congr 1;funext i;split
  ·split
   ·simp only[cV]
   ·rfl
  ·split
   ·simp only[cV]
   ·rfl
  ·rfl
 case h_7=>
  split
  ·split
   ·simp only[cV];congr 1;funext z;congr 1;funext i;split
    ·simp only[cV];congr 1;funext l;split
     ·split
      ·simp only[cV]
      ·rfl
     ·rfl
    ·rfl
   ·rfl
  ·rfl
 case h_8=>
  simp only[cV];congr 1;funext a;congr 1;funext b;split
  ·split
   ·simp only[cV];congr 1;funext z;split
    ·split
     ·simp only[cV,od,qg]
     ·rfl
    ·rfl
   ·rfl
  ·rfl
 case h_9=>
  split
  ·split
   ·exact pp ..
   ·rfl
  ·split
   ·split
    ·simp only[cV];congr 1;funext x;exact pp ..
    ·rfl
   ·rfl
  ·rfl
 case h_10=>
  split
  ·simp only[cV];congr 1;funext v;split
   ·exact np ..
   ·rfl
  ·simp only[cV];congr 1;funext v;split
   ·split
    ·simp only[cV];congr 1;funext x;rw[<-np];congr 1;funext d;split
     ·simp only[cV]
     ·rfl
    ·rfl
   ·rfl
  ·rfl
 case h_11=>split<;>rfl
 case h_12=>
  simp only[cV];congr 1;funext a;congr 1;funext b;split
  ·rfl
  ·split
   ·split
    ·rename_i m rd j;cases Nat.blt 0 m<;>rfl
    ·rfl
   ·exact H6 ..
 case h_13=>
  simp only[cV];congr 1;funext a;exact JK ..
 case h_14=>
  simp only[cV];congr 1;funext a;split
  ·split
   ·split<;>rfl
   ·split
    ·split<;>rfl
    ·split<;>rfl
    ·split
     ·split
      ·split
       ·simp only[od,qg]
       ·rfl
      ·rfl
     ·rfl
    ·split
     ·split
      ·split<;>rfl
      ·rfl
     ·rfl
    ·split
     ·split
      ·split
       ·split
        ·simp only[od,qg]
        ·rfl
       ·rfl
      ·rfl
     ·rfl
    ·split
     ·split<;>rfl
     ·rfl
    ·rfl
   ·split
    ·split
     ·split<;>rfl
     ·rfl
    ·rfl
   ·rfl
  ·rfl
 case h_15=>
  simp only[cV];congr 1;funext a;split<;>rfl
 case h_16=>
  split
  ·split
   ·simp only[cV]
   ·rfl
  ·split
   ·simp only[cV]
   ·rfl
  ·rfl
 case h_17=>
  split
  ·exact zt ..
  ·simp only[cV];congr 1;funext a;congr 1;funext l;congr 1;funext h;split
   ·split
    ·simp only[<-ql,<-su]
    ·rfl
   ·split
    ·split
     ·simp only[<-ql,<-su]
     ·rfl
    ·rfl
   ·split
    ·split
     ·simp only[<-ql,<-su]
     ·rw[<-ql];congr 1;funext h;split<;>rfl
     ·split
      ·split
       ·simp only[<-ql,<-su]
       ·rfl
      ·rfl
     ·split
      ·simp only[<-ql,<-su]
      ·rfl
     ·rfl
    ·rfl
   ·rfl
 case h_18=>
  split
  ·split
   ·split
    ·split<;>rfl
    ·rfl
   ·rfl
  ·split
   ·split
    ·split<;>rfl
    ·rfl
   ·rfl
  ·rfl
 case h_19=>
  split
  ·split
   ·split
    ·split
     ·split<;>rfl
     ·split
      ·simp only[cV]
      ·rfl
    ·rfl
   ·rfl
  ·rfl
 case h_20=>
  split
  ·split
   ·split
    ·split
     ·simp only[cV]
     ·rfl
    ·split
     ·simp only[cV]
     ·rfl
    ·rfl
   ·split
    ·split
     ·simp only[cV]
     ·rfl
    ·split
     ·split
      ·simp only[cV]
      ·rfl
     ·rfl
    ·split
     ·simp only[cV]
     ·rfl
    ·rfl
   ·rfl
  ·rfl
 case h_21=>
  split
  ·split
   ·split
    ·rfl
    ·split
     ·split
      ·split
       ·simp only[cV]
       ·rfl
      ·rfl
     ·split
      ·simp only[cV]
      ·simp only[cV]
      ·split
       ·split
        ·simp only[cV]
        ·rfl
       ·rfl
      ·split
       ·simp only[cV]
       ·rfl
      ·rfl
     ·rfl
   ·split
    ·simp only[cV]
    ·rfl
   ·rfl
  ·rfl
 case h_22=>
  split
  ·split<;>rfl
  ·rfl
 case h_23=>repeat' (first | rfl | split)
 case h_24=>
  split
  ·split
   ·split
    ·split
     ·split
      ·split
       ·exact zW ..
       ·rfl
      ·rfl
     ·rfl
    ·rfl
   ·rfl
  ·rfl
 case h_25=>
  split
  ·split<;>rfl
  ·rfl
 case h_26=>
  split
  ·split
   ·simp only[od]
   ·rfl
  ·rfl
 case h_27=>
  split
  ·simp only[cV]
  ·rfl
 case h_28=>
  split
  ·split
   ·rfl
   ·split
    ·split<;>rfl
    ·rfl
   ·rfl
  ·rfl
 case h_29=>
  split
  ·simp only[cV];congr 1;funext args;split
   ·split
    ·split
     ·split<;>rfl
     ·rfl
    ·split
     ·split<;>rfl
     ·rfl
    ·split
     ·split<;>rfl
     ·rfl
    ·split
     ·split
      ·split<;>rfl
      ·rfl
     ·rfl
    ·split
     ·split<;>rfl
     ·rfl
    ·split
     ·split<;>rfl
     ·rfl
    ·rfl
   ·split
    ·split
     ·split<;>rfl
     ·rfl
    ·split
     ·split<;>rfl
     ·rfl
    ·split
     ·split<;>rfl
     ·rfl
    ·rfl
   ·split
    ·split<;>rfl
    ·rfl
   ·split
    ·split<;>rfl
    ·rfl
   ·rfl
  ·rfl
 case h_30=>rfl
end
end Go.Abs
