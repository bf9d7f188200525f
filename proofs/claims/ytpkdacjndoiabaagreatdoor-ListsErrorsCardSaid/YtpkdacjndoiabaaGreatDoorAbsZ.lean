/- Opening a law's arguments: rows of numbers, bools and strings; slices of such rows.
   Conditions: none; generic over the program. -/
import Derived.Test.YtpkdacjndoiabaaGreatDoorAbsY
set_option linter.unusedSimpArgs false
set_option linter.unusedVariables false
namespace Go.Abs
open Go.RowKit Go.ChangeShapes Go.WideShapes
def Lf.wf:(a:Lf)->a.den->Prop
 | .i k,n=>(Lit.int k n).wf=true
 | .bo,_=>True
 | .s,l=>l.length<=maxLen
def oP:(t:List Lf)->den t->Prop
 | [],_=>True
 | [a],x=>a.wf x
 | a::b::l,x=>a.wf x.1/\oP (b::l) x.2
def wS:(t u:List Lf)->den t->den u->den (t++u)
 | [],_,_,y=>y
 | [a],[],x,_=>x
 | [a],b::u,x,y=>(x,y)
 | a::b::t,u,x,y=>(x.1,wS (b::t) u x.2 y)
theorem qp:∀(t u:List Lf) (x:den t) (y:den u),vals (t++u) (wS t u x y)=vals t x++vals u y
 | [],u,x,y=>rfl
 | [a],[],x,y=>rfl
 | [a],b::u,x,y=>rfl
 | a::b::t,u,x,y=>by
  show a.val x.1::vals (b::t++u) (wS (b::t) u x.2 y)=_
  rw [qp (b::t) u x.2 y];rfl
theorem vz:∀(t u:List Lf) (x:den t) (y:den u),oP t x->oP u y->oP (t++u) (wS t u x y)
 | [],u,x,y,_,h=>h
 | [a],[],x,y,h,_=>h
 | [a],b::u,x,y,h,h'=>⟨h,h'⟩
 | a::b::t,u,x,y,h,h'=>⟨h.1,vz (b::t) u x.2 y h.2 h'⟩
def offF (ok:TypeId->Bool) (sz:TypeId->Nat) (tot:Nat):Nat->List Field->Bool
 | o,[]=>Nat.beq o tot
 | o,f::l=>Nat.beq f.offset o&&(ok f.type&&offF ok sz tot (o+sz f.type) l)
def wu (P:Program):Nat->TypeId->Bool
 | 0,_=>false
 | d+1,t=>match P.underlying t with
  | some (.int _)=>true
  | some .bool=>true
  | some .string=>true
  | some (.array n e)=>wu P d e&&Nat.beq (P.cellsOf t) (n*P.cellsOf e)
  | some (.struct fs)=>offF (wu P d) P.cellsOf (P.cellsOf t) 0 fs.toList
  | _=>false
section
variable {H:Type} {enc:TypeId×Value->H} {P:Program} {w:World} {base:Nat} {spare:Nat->Bool} {held:Bool}
theorem xc {α:Type} (cs:List α) (o n:Nat):cs.drop o=(cs.drop o).take n++cs.drop (o+n):=by
 rw [<-xk];exact (uG n _).symm
theorem xf {d fuel:Nat} (ih:∀{e:TypeId} {tr:List Lf} {cs:List Value} {x:DataW H×List MemPlace},qs P d e=some tr->wu P d e=true->DataW.trod enc P w base spare held fuel e cs=some x->∃r:den tr,cs=vals tr r/\oP tr r)
  (cs:List Value):∀(fs:List Field) (o:Nat) (tr:List Lf) (ys:List (DataW H×List MemPlace)),H8 (qs P d) fs=some tr->offF (wu P d) P.cellsOf cs.length o fs=true->
   (fs.mapM λf=>DataW.trod enc P w base spare held fuel f.type ((cs.drop f.offset).take (P.cellsOf f.type)))=some ys->∃r:den tr,cs.drop o=vals tr r/\oP tr r
 | [],o,tr,ys,h1,h2,h3=>by
  simp only [H8,am] at h1;subst h1
  have:=bc h2
  exact ⟨(),by rw [this];simp [vals],trivial⟩
 | f::fs,o,tr,ys,h1,h2,h3=>by
  simp only [H8] at h1
  split at h1
  case h_2=>cases h1
  rename_i a ha
  split at h1
  case h_2=>cases h1
  rename_i b hb
  simp only [am] at h1;subst h1
  simp only [offF,ay] at h2
  obtain ⟨h4,h5,h6⟩:=h2
  have h4:=bc h4
  subst h4
  rw [uE] at h3
  simp only [Option.bind_eq_bind,xI] at h3
  obtain ⟨y,hy,zs,hzs,_⟩:=h3
  obtain ⟨r1,e1,w1⟩:=ih ha h5 hy
  obtain ⟨r2,e2,w2⟩:=xf ih cs fs _ b zs hb h6 hzs
  exact ⟨wS a b r1 r2,by rw [qp,<-e1,<-e2];exact xc cs _ _,vz a b r1 r2 w1 w2⟩
theorem zW {n0:Nat} {l:List Lf} {e:TypeId} {fuel:Nat} (ih:∀{cs:List Value} {x:DataW H×List MemPlace},DataW.trod enc P w base spare held fuel e cs=some x->∃r:den l,cs=vals l r/\oP l r)
  (cs:List Value) (z:Nat) (hl:cs.length=n0*z):∀(n i:Nat),i+n=n0->(∀j,i<=j->j<n0->∃y,DataW.trod enc P w base spare held fuel e ((cs.drop (j*z)).take z)=some y)->∃r:den (repL n l),cs.drop (i*z)=vals (repL n l) r/\oP (repL n l) r
 | 0,i,hi,_=>by
  have:i=n0:=by omega
  subst this
  exact ⟨(),by rw [rf (by omega)];rfl,trivial⟩
 | n+1,i,hi,h=>by
  obtain ⟨y,hy⟩:=h i (by omega) (by omega)
  obtain ⟨r1,e1,w1⟩:=ih hy
  obtain ⟨r2,e2,w2⟩:=zW ih cs z hl n (i+1) (by omega) (λj h1 h2=>h j (by omega) h2)
  refine ⟨wS l (repL n l) r1 r2,?_,vz _ _ r1 r2 w1 w2⟩
  show _=vals (l++repL n l) _
  rw [qp,<-e1,<-e2,yz]
  exact xc cs _ _
theorem rG:∀(d fuel:Nat) {e:TypeId} {tr:List Lf} {cs:List Value} {x:DataW H×List MemPlace},qs P d e=some tr->wu P d e=true->
  DataW.trod enc P w base spare held fuel e cs=some x->∃r:den tr,cs=vals tr r/\oP tr r
 | 0,_,_,_,_,_,h,_,_=>by simp [qs] at h
 | _+1,0,_,_,_,_,_,_,h=>by simp [DataW.trod] at h
 | d+1,fuel+1,e,tr,cs,x,h1,h2,h3=>by
  unfold qs at h1
  unfold wu at h2
  cases hu:P.underlying e with
  | none=>rw [hu] at h1;cases h1
  | some desc=>
   rw [hu] at h1 h2
   cases desc with
   | int k=>
    simp only [am] at h1;subst h1
    obtain ⟨m,rfl,_,hw⟩:=Du hu h3
    exact ⟨m,rfl,hw⟩
   | bool=>
    simp only [am] at h1;subst h1
    obtain ⟨b,rfl,_⟩:=DataW.trod_bool hu h3
    exact ⟨b,rfl,trivial⟩
   | string=>
    simp only [am] at h1;subst h1
    obtain ⟨s,rfl,_,hs⟩:=DataW.trod_string hu h3
    exact ⟨s.data.toList,by simp [vals,Lf.val],hs⟩
   | array n el=>
    simp only at h1 h2
    split at h1
    case h_2=>cases h1
    rename_i l _ hl
    simp only [am] at h1;subst h1
    simp only [ay] at h2
    have hz:=bc h2.2
    unfold DataW.trod at h3
    rw [hu] at h3
    simp only at h3
    split at h3
    case isFalse=>cases h3
    rename_i hlen
    simp only [Bq] at h3
    obtain ⟨xs,h4,_⟩:=h3
    have:=zW (fuel:=fuel) (l:=l) (e:=el) (λh=>rG d fuel hl h2.1 h) cs (P.cellsOf el) (by rw [hlen,hz]) n 0 (by omega) (λj _ hj=>by
     have hg:=mapM_some_get h4 j j (by simp [hj])
     have hln:=mapM_some_length h4
     have hjx:j<xs.length:=by rw [hln];simpa using hj
     rw [bD hjx] at hg
     exact ⟨_,hg⟩)
    simpa using this
   | struct fs=>
    simp only at h1 h2
    unfold DataW.trod at h3
    rw [hu] at h3
    simp only at h3
    split at h3
    case isFalse=>cases h3
    rename_i hlen
    simp only [Bq] at h3
    obtain ⟨xs,h4,_⟩:=h3
    have:=xf (d:=d) (fuel:=fuel) (λha hb hc=>rG d fuel ha hb hc) cs fs.toList 0 tr xs h1 (by rw [hlen];exact h2) h4
    simpa using this
   | _=>cases h1
theorem Gk {d:Nat} {t:TypeId} {tr:List Lf} {v:Value} {dd:DataW H} {ps:List MemPlace} (hr:qs P d t=some tr) (ho:wu P d t=true) (hd:DataW.Trod enc P w base spare held t v dd ps):
  ∃r:den tr,v.cells.toList=vals tr r/\oP tr r:=by
 obtain ⟨fuel,hf⟩:=hd
 exact rG d fuel hr ho hf
end
section
variable {H:Type} {enc:TypeId×Value->H} {P:Program} {w:World} {held:Bool}
theorem uz {t e:TypeId} {tr:List Lf} {d fuel:Nat} {v:Value} {x:DataW H×List MemPlace} (ht:P.underlying t=some (.slice e)) (hr:qs P d e=some tr) (ho:wu P d e=true) (hc:P.cellsOf e=tr.length) (hp:0<tr.length)
  (h:DataW.trod enc P w 0 (λ_=>true) held fuel t [v]=some x):∃(l:List (den tr)) (ρ:Option Rf),(∀y∈l,oP tr y)/\l.length<=maxLen/\wo w v tr l ρ:=by
 rcases DataW.trod_slice ht h with ⟨hcs,_⟩ | ⟨a,len,cap,elems,rest,n,_,hcs,_,_,hl,hm,hlen,hel,hsp,_⟩
 ·simp only [Ei,sA] at hcs
  subst hcs
  exact ⟨[],none,by simp,by simp,rfl,none,rfl⟩
 ·simp only [Ei,sA] at hcs
  subst hcs
  by_cases h0:cap=0
  ·have hlen0:len=0:=by omega
   subst h0 hlen0
   exact ⟨[],none,by simp,by simp,rfl,some a,rfl⟩
  have each:∀i,i<cap->∃r:den tr,w.cells? 0 (a.add (i*tr.length)) tr.length=some (vals tr r)/\oP tr r:=by
   intro i hi
   have:∃y,(w.cells? 0 (a.add (i*P.cellsOf e)) (P.cellsOf e)).bind (DataW.trod enc P w 0 (λ_=>true) held n e)=some y:=by
    by_cases hi2:i<len
    ·rw [hel i hi2,bD (by omega)];exact ⟨_,rfl⟩
    ·obtain ⟨hrl,hr'⟩:=hsp rfl
     have:=hr' (i - len) (by omega)
     rw [show len+(i - len)=i by omega] at this
     rw [this,bD (by omega)];exact ⟨_,rfl⟩
   obtain ⟨y,hy⟩:=this
   rw [xI] at hy
   obtain ⟨cs,h1,h2⟩:=hy
   obtain ⟨r,rfl,hw⟩:=rG d n hr ho h2
   rw [hc] at h1
   exact ⟨r,h1,hw⟩
  obtain ⟨b,off,spot⟩:=a
  have hspot:spot=none:=by
   obtain ⟨r,h1,_⟩:=each 0 (by omega)
   have h2:=(B9 h1).2.2 0 hp
   have h3:(vals tr r)[0]?=some ((vals tr r)[0]'(by rw [fA];exact hp)):=bD _
   rw [h3] at h2
   simpa [Addr.add] using World.cell?_spot h2
  subst hspot
  have cellAt:∀i,i<cap->∀r:den tr,w.cells? 0 ((⟨b,off,none⟩:Addr).add (i*tr.length)) tr.length=some (vals tr r)->∀j,j<tr.length->w.cell? ⟨b,off+(i*tr.length+j),none⟩=(vals tr r)[j]?:=by
   intro i hi r h1 j hj
   have:=(B9 h1).2.2 j hj
   rw [<-this]
   congr 1
   unfold Addr.add
   by_cases hz:i*tr.length=0
   ·by_cases hj0:j=0
    ·simp [hz,hj0]
    ·simp [hz,hj0]
   ·by_cases hj0:j=0
    ·simp [hz,hj0]
    ·simp [hz,hj0,gN]
  have hobj:∃cs e' fr,w.heap[b]?=some (.cells cs e' fr):=by
   obtain ⟨r,h1,_⟩:=each 0 (by omega)
   have:=cellAt 0 (by omega) r h1 0 hp
   rw [bD (by rw [fA];exact hp)] at this
   unfold World.cell? at this
   simp only at this
   split at this
   ·rename_i cs e' fr hh;exact ⟨cs,e',fr,hh⟩
   ·cases this
  obtain ⟨cs,e',fr,hh⟩:=hobj
  have hget:∀i,i<cap->∀r:den tr,w.cells? 0 ((⟨b,off,none⟩:Addr).add (i*tr.length)) tr.length=some (vals tr r)->∀j,j<tr.length->cs[off+(i*tr.length+j)]?=(vals tr r)[j]?:=λi hi r h1 j hj=>by
   rw [<-bn hh];exact cellAt i hi r h1 j hj
  have hsize:off+cap*tr.length<=cs.size:=by
   obtain ⟨r,h1,_⟩:=each (cap - 1) (by omega)
   have:=hget (cap - 1) (by omega) r h1 (tr.length - 1) (by omega)
   rw [bD (by rw [fA];omega)] at this
   have hlt:off+((cap - 1)*tr.length+(tr.length - 1))<cs.size:=by
    rcases aH (off+((cap - 1)*tr.length+(tr.length - 1))) cs.size with h' | h'
    ·exact h'
    ·rw [tt h'] at this;cases this
   have e1:cap*tr.length=(cap - 1)*tr.length+tr.length:=by rw [<-yz];congr 1;omega
   omega
  have rows:∀m,m<=cap->∃l:List (den tr),l.length=m/\(∀y∈l,oP tr y)/\(cs.toList.drop off).take (m*tr.length)=l.flatMap (vals tr):=by
   intro m
   induction m with
   | zero=>intro _;exact ⟨[],rfl,by simp,by simp⟩
   | succ m ih=>
    intro hm'
    obtain ⟨l,h1,h2,h3⟩:=ih (by omega)
    obtain ⟨r,h4,h5⟩:=each m (by omega)
    refine ⟨l++[r],by simp [h1],λy hy=>?_,?_⟩
    ·simp only [jY,cq,pf,qQ] at hy
     rcases hy with hy | rfl
     ·exact h2 y hy
     ·exact h5
    ·rw [Ef,<-h3,yz,List.take_add,mX,List.flatMap_nil,sT]
     congr 1
     apply wF
     intro j
     by_cases hj:j<tr.length
     ·rw [oa hj,jT,jT,pT,<-hget m (by omega) r h4 j hj]
     ·rw [eo (by rw [de];omega),eo (by rw [fA];omega)]
  obtain ⟨l,h1,h2,h3⟩:=rows len hl
  exact ⟨l,some ⟨b,len,cap,off,true⟩,h2,by omega,rfl,rfl,_,hh,cs,e',fr,rfl,h1,hl,hsize,by rw [h1];exact h3,.inl rfl⟩
theorem yW {t:TypeId} {fs:Array Field} {v:Value} {r:Reach} {b0:Nat} {l:List Value} (ht:P.underlying t=some (.struct fs)) (hval:Value.okWide P w r b0 t v) (h:v.cells.toList=l):v=.agg l.toArray:=by
 simp only [Value.okWide,ht] at hval
 obtain ⟨cs,rfl,_⟩:=hval
 subst h
 simp [Value.cells]
end
end Go.Abs
