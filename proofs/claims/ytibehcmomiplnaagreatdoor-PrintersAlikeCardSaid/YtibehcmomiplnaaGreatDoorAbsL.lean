
import Derived.Test.YtibehcmomiplnaaGreatDoorAbsJ
set_option linter.unusedSimpArgs false
set_option linter.unusedVariables false
set_option linter.defProp false
namespace Go.Abs
variable {P:Program}
section
variable {α β γ:Type}
@[simp] def nB(a:α)(f:α->Option β):ob (some a) f=f a:=rfl
@[simp] def vM(f:α->Option β):ob none f=none:=rfl
def fp(o:Option α)(f:α->Option β)(g:β->Option γ):ob (ob o f) g=ob o λa=>ob (f a) g:=by cases o<;>rfl
def tM(b:Bool)(x y:Option α)(g:α->Option β):ob (cond b x y) g=cond b (ob x g) (ob y g):=by cases b<;>rfl
def CS(op:BinOp)(k:IntKind)(x y:Int)(c:V->Option α)(g:α->Option β):intK op k x y (λv=>ob (c v) g)=ob (intK op k x y c) g:=by
 cases op<;>simp only[intK,tM,vM]
def Qf(op:BinOp)(x y:aa)(c:V->Option α)(g:α->Option β):strK op x y (λv=>ob (c v) g)=ob (strK op x y c) g:=by
 cases op<;>simp only[strK,vM,fp]
def Qc(op:BinOp)(t:TypeId)(x y:V)(c:V->Option α)(g:α->Option β):binK P op t x y (λv=>ob (c v) g)=ob (binK P op t x y c) g:=by
 unfold binK;split
 ·split
  ·exact CS ..
  ·exact CS ..
  ·split
   ·exact CS ..
   ·rfl
 ·exact Qf ..
 ·split
  ·split<;>rfl
  ·split<;>rfl
  ·rfl
def TP(op:UnOp)(x:V)(c:V->Option α)(g:α->Option β):unK op x (λv=>ob (c v) g)=ob (unK op x c) g:=by
 unfold unK;split<;>rfl
def yn(t:TypeId)(blk:Blk)(o:Nat)(c:V->Option α)(g:α->Option β):qR P t blk o (λv=>ob (c v) g)=ob (qR P t blk o c) g:=by
 unfold qR;split
 ·split<;>rfl
 ·split<;>rfl
 ·rfl
def uC(t:TypeId)(blk:Blk)(o:Nat)(c:V->Option α)(g:α->Option β):zC P t blk o (λv=>ob (c v) g)=ob (zC P t blk o c) g:=by
 unfold zC;split
 ·exact yn ..
 ·exact yn ..
 ·split
  ·split<;>simp only[fp]
  ·simp only[fp]
  ·rfl
 ·split
  ·split<;>simp only[fp]
  ·rfl
 ·split
  ·simp only[fp]
  ·rfl
 ·rfl
def sS(t:TypeId)(blk:Blk)(o:Nat)(v:V)(c:Blk->Option α)(g:α->Option β):rV P t blk o v (λv=>ob (c v) g)=ob (rV P t blk o v c) g:=by
 unfold rV;split
 ·split<;>rfl
 ·split
  ·split
   ·simp only[tM,vM]
   ·rfl
  ·split<;>rfl
  ·rfl
 ·rfl
def vC(n len:Nat)(h:Option Int)(c:Nat->Option α)(g:α->Option β):hiK n len h (λv=>ob (c v) g)=ob (hiK n len h c) g:=by
 unfold hiK;split
 ·rfl
 ·simp only[fp]
def yP(h:Nat)(l:Option Int)(c:Nat->Option α)(g:α->Option β):loK h l (λv=>ob (c v) g)=ob (loK h l c) g:=by
 unfold loK;split
 ·rfl
 ·simp only[fp]
def Gp(ρ:Operand->Option V)(H:List (Nat×Blk))(t:TypeId)(x:Operand)(lo hi:Option Operand)(mx:Operand)(c:Eff->Option α)(g:α->Option β):
  vo P ρ H t x lo hi mx (λe=>ob (c e) g)=ob (vo P ρ H t x lo hi mx c) g:=by
 unfold vo;split
 ·simp only[fp];congr 1;funext a;split
  ·split
   ·split
    ·split
     ·split
      ·split
       ·simp only[fp]
       ·rfl
      ·rfl
     ·simp only[fp]
     ·simp only[fp]
     ·rfl
    ·rfl
   ·rfl
  ·rfl
 ·rfl
def HF:∀(l:List (Int×Nat)) (n:Int) (c:Nat->Option α) (g:α->Option β),mapK l n (λx=>ob (c x) g)=ob (mapK l n c) g
 | [],_,_,_=>rfl
 | (m,u)::l,n,c,g=>by
  simp only[mapK];cases(n==m)with
  | true=>rfl
  | false=>exact HF l n c g
def QP(ρ:Operand->Option V)(H:List (Nat×Blk))(f:Nat)(op:Op)(c:Eff->Option α)(g:α->Option β):
  effK P ρ H f op (λe=>ob (c e) g)=ob (effK P ρ H f op c) g:=by
 unfold effK;split
 case h_1=>simp only[fp]
 case h_2=>simp only[fp]
 case h_3=>
  split
  ·simp only[tM,fp]
  ·rfl
 case h_4=>simp only[fp]
 case h_5=>simp only[fp]
 case h_6=>
  simp only[fp];congr 1;funext z;congr 1;funext i;split
  ·split
   ·simp only[fp]
   ·rfl
  ·split
   ·simp only[fp]
   ·rfl
  ·rfl
 case h_7=>
  split
  ·split
   ·simp only[fp];congr 1;funext z;congr 1;funext i;split
    ·simp only[fp];congr 1;funext l;split
     ·split
      ·simp only[fp]
      ·rfl
     ·rfl
    ·rfl
   ·rfl
  ·rfl
 case h_8=>
  simp only[fp];congr 1;funext a;congr 1;funext b;split
  ·split
   ·simp only[fp];congr 1;funext z;split
    ·split
     ·simp only[fp,tM,vM]
     ·rfl
    ·rfl
   ·rfl
  ·rfl
 case h_9=>
  split
  ·split
   ·exact uC ..
   ·rfl
  ·split
   ·split
    ·simp only[fp];congr 1;funext x;exact uC ..
    ·rfl
   ·rfl
  ·rfl
 case h_10=>
  split
  ·simp only[fp];congr 1;funext v;split
   ·exact sS ..
   ·rfl
  ·simp only[fp];congr 1;funext v;split
   ·split
    ·simp only[fp];congr 1;funext x;rw[<-sS];congr 1;funext d;split
     ·simp only[fp]
     ·rfl
    ·rfl
   ·rfl
  ·rfl
 case h_11=>split<;>rfl
 case h_12=>
  simp only[fp];congr 1;funext a;congr 1;funext b;split
  ·rfl
  ·split
   ·split
    ·rename_i m rd j;cases Nat.blt 0 m<;>rfl
    ·rfl
   ·exact Qc ..
 case h_13=>
  simp only[fp];congr 1;funext a;exact TP ..
 case h_14=>
  simp only[fp];congr 1;funext a;split
  ·split
   ·split<;>rfl
   ·split
    ·split<;>rfl
    ·split<;>rfl
    ·split
     ·split
      ·split
       ·simp only[tM,vM]
       ·rfl
      ·rfl
     ·rfl
    ·split
     ·split
      ·split<;>rfl
      ·rfl
     ·rfl
    ·split
     ·split
      ·split
       ·split
        ·simp only[tM,vM]
        ·rfl
       ·rfl
      ·rfl
     ·rfl
    ·split
     ·split<;>rfl
     ·rfl
    ·rfl
   ·split
    ·split
     ·split<;>rfl
     ·rfl
    ·rfl
   ·rfl
  ·rfl
 case h_15=>
  simp only[fp];congr 1;funext a;split<;>rfl
 case h_16=>
  split
  ·split
   ·simp only[fp]
   ·rfl
  ·split
   ·simp only[fp]
   ·rfl
  ·rfl
 case h_17=>
  split
  ·exact Gp ..
  ·simp only[fp];congr 1;funext a;congr 1;funext l;congr 1;funext h;split
   ·split
    ·simp only[<-vC,<-yP]
    ·rfl
   ·split
    ·split
     ·simp only[<-vC,<-yP]
     ·rfl
    ·rfl
   ·split
    ·split
     ·simp only[<-vC,<-yP]
     ·rw[<-vC];congr 1;funext h;split<;>rfl
     ·split
      ·split
       ·simp only[<-vC,<-yP]
       ·rfl
      ·rfl
     ·split
      ·simp only[<-vC,<-yP]
      ·rfl
     ·rfl
    ·rfl
   ·rfl
 case h_18=>
  split
  ·split
   ·split
    ·split<;>rfl
    ·rfl
   ·rfl
  ·split
   ·split
    ·split<;>rfl
    ·rfl
   ·rfl
  ·rfl
 case h_19=>
  split
  ·split
   ·split
    ·split
     ·split<;>rfl
     ·split
      ·simp only[fp]
      ·rfl
    ·rfl
   ·rfl
  ·rfl
 case h_20=>
  split
  ·split
   ·split
    ·split
     ·simp only[fp]
     ·rfl
    ·split
     ·simp only[fp]
     ·rfl
    ·rfl
   ·split
    ·split
     ·simp only[fp]
     ·rfl
    ·split
     ·split
      ·simp only[fp]
      ·rfl
     ·rfl
    ·split
     ·simp only[fp]
     ·rfl
    ·rfl
   ·rfl
  ·rfl
 case h_21=>
  split
  ·split
   ·split
    ·rfl
    ·split
     ·split
      ·split
       ·simp only[fp]
       ·rfl
      ·rfl
     ·split
      ·simp only[fp]
      ·simp only[fp]
      ·split
       ·split
        ·simp only[fp]
        ·rfl
       ·rfl
      ·split
       ·simp only[fp]
       ·rfl
      ·rfl
     ·rfl
   ·split
    ·simp only[fp]
    ·rfl
   ·rfl
  ·rfl
 case h_22=>
  split
  ·split<;>rfl
  ·rfl
 case h_23=>repeat' (first | rfl | split)
 case h_24=>
  split
  ·split
   ·split
    ·split
     ·split
      ·split
       ·exact HF ..
       ·rfl
      ·rfl
     ·rfl
    ·rfl
   ·rfl
  ·rfl
 case h_25=>
  split
  ·split<;>rfl
  ·rfl
 case h_26=>
  split
  ·split
   ·simp only[tM]
   ·rfl
  ·rfl
 case h_27=>
  split
  ·simp only[fp]
  ·rfl
 case h_28=>
  split
  ·split
   ·rfl
   ·split
    ·split<;>rfl
    ·rfl
   ·rfl
  ·rfl
 case h_29=>
  split
  ·simp only[fp];congr 1;funext args;split
   ·split
    ·split
     ·split<;>rfl
     ·rfl
    ·split
     ·split<;>rfl
     ·rfl
    ·split
     ·split<;>rfl
     ·rfl
    ·split
     ·split
      ·split<;>rfl
      ·rfl
     ·rfl
    ·split
     ·split<;>rfl
     ·rfl
    ·split
     ·split<;>rfl
     ·rfl
    ·rfl
   ·split
    ·split
     ·split<;>rfl
     ·rfl
    ·split
     ·split<;>rfl
     ·rfl
    ·split
     ·split<;>rfl
     ·rfl
    ·rfl
   ·split
    ·split<;>rfl
    ·rfl
   ·split
    ·split<;>rfl
    ·rfl
   ·rfl
  ·rfl
 case h_30=>rfl
end
end Go.Abs
