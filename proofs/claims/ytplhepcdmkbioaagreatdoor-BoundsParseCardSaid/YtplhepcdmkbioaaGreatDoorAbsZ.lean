/- Opening a law's arguments: rows of numbers, bools and strings; slices of such rows.
   Conditions: none; generic over the program. -/
import Derived.Test.YtplhepcdmkbioaaGreatDoorAbsY
set_option linter.unusedVariables false
namespace Go.Abs
open Go.RowKit Go.ChangeShapes Go.WideShapes
def Lf.wf:(a:Lf)->a.den->Prop
 | .i k,n=>(Lit.int k n).wf=true
 | .bo,_=>True
 | .s,l=>l.length<=maxLen
def pd:(t:List Lf)->den t->Prop
 | [],_=>True
 | [a],x=>a.wf x
 | a::b::l,x=>a.wf x.1/\pd (b::l) x.2
def qu:(t u:List Lf)->den t->den u->den (t++u)
 | [],_,_,y=>y
 | [a],[],x,_=>x
 | [a],b::u,x,y=>(x,y)
 | a::b::t,u,x,y=>(x.1,qu (b::t) u x.2 y)
theorem lM:∀(t u:List Lf) (x:den t) (y:den u),vals (t++u) (qu t u x y)=vals t x++vals u y
 | [],u,x,y=>rfl
 | [a],[],x,y=>rfl
 | [a],b::u,x,y=>rfl
 | a::b::t,u,x,y=>by
  show a.val x.1::vals (b::t++u) (qu (b::t) u x.2 y)=_
  rw [lM (b::t) u x.2 y];rfl
theorem pb:∀(t u:List Lf) (x:den t) (y:den u),pd t x->pd u y->pd (t++u) (qu t u x y)
 | [],u,x,y,_,h=>h
 | [a],[],x,y,h,_=>h
 | [a],b::u,x,y,h,h'=>⟨h,h'⟩
 | a::b::t,u,x,y,h,h'=>⟨h.1,pb (b::t) u x.2 y h.2 h'⟩
def offF (ok:TypeId->Bool) (sz:TypeId->Nat) (tot:Nat):Nat->List Field->Bool
 | o,[]=>Nat.beq o tot
 | o,f::l=>Nat.beq f.offset o&&(ok f.type&&offF ok sz tot (o+sz f.type) l)
def ua (P:Program):Nat->TypeId->Bool
 | 0,_=>false
 | d+1,t=>match P.underlying t with
  | some (.int _)=>true
  | some .bool=>true
  | some .string=>true
  | some (.array n e)=>ua P d e&&Nat.beq (P.cellsOf t) (n*P.cellsOf e)
  | some (.struct fs)=>offF (ua P d) P.cellsOf (P.cellsOf t) 0 fs.toList
  | _=>false
section
variable {H:Type} {enc:TypeId×Value->H} {P:Program} {w:World} {base:Nat} {spare:Nat->Bool} {held:Bool}
theorem pW {α:Type} (cs:List α) (o n:Nat):cs.drop o=(cs.drop o).take n++cs.drop (o+n):=by
 rw [<-List.drop_drop];exact (List.take_append_drop n _).symm
theorem pZ {d fuel:Nat} (ih:∀{e:TypeId} {tr:List Lf} {cs:List Value} {x:DataW H×List MemPlace},nL P d e=some tr->ua P d e=true->DataW.trod enc P w base spare held fuel e cs=some x->∃r:den tr,cs=vals tr r/\pd tr r)
  (cs:List Value):∀(fs:List Field) (o:Nat) (tr:List Lf) (ys:List (DataW H×List MemPlace)),yP (nL P d) fs=some tr->offF (ua P d) P.cellsOf cs.length o fs=true->
   (fs.mapM λf=>DataW.trod enc P w base spare held fuel f.type ((cs.drop f.offset).take (P.cellsOf f.type)))=some ys->∃r:den tr,cs.drop o=vals tr r/\pd tr r
 | [],o,tr,ys,h1,h2,h3=>by
  simp only [yP,Option.some.injEq] at h1;subst h1
  have:=Nat.eq_of_beq_eq_true h2
  exact ⟨(),by rw [this];simp [vals],trivial⟩
 | f::fs,o,tr,ys,h1,h2,h3=>by
  simp only [yP] at h1
  split at h1
  case h_2=>cases h1
  rename_i a ha
  split at h1
  case h_2=>cases h1
  rename_i b hb
  simp only [Option.some.injEq] at h1;subst h1
  simp only [offF,Bool.and_eq_true] at h2
  obtain ⟨h4,h5,h6⟩:=h2
  have h4:=Nat.eq_of_beq_eq_true h4
  subst h4
  rw [List.mapM_cons] at h3
  simp only [Option.bind_eq_bind,Option.bind_eq_some_iff] at h3
  obtain ⟨y,hy,zs,hzs,_⟩:=h3
  obtain ⟨r1,e1,w1⟩:=ih ha h5 hy
  obtain ⟨r2,e2,w2⟩:=pZ ih cs fs _ b zs hb h6 hzs
  exact ⟨qu a b r1 r2,by rw [lM,<-e1,<-e2];exact pW cs _ _,pb a b r1 r2 w1 w2⟩
theorem tc {n0:Nat} {l:List Lf} {e:TypeId} {fuel:Nat} (ih:∀{cs:List Value} {x:DataW H×List MemPlace},DataW.trod enc P w base spare held fuel e cs=some x->∃r:den l,cs=vals l r/\pd l r)
  (cs:List Value) (z:Nat) (hl:cs.length=n0*z):∀(n i:Nat),i+n=n0->(∀j,i<=j->j<n0->∃y,DataW.trod enc P w base spare held fuel e ((cs.drop (j*z)).take z)=some y)->∃r:den (repL n l),cs.drop (i*z)=vals (repL n l) r/\pd (repL n l) r
 | 0,i,hi,_=>by
  have:i=n0:=by omega
  subst this
  exact ⟨(),by rw [List.drop_eq_nil_of_le (by omega)];rfl,trivial⟩
 | n+1,i,hi,h=>by
  obtain ⟨y,hy⟩:=h i (by omega) (by omega)
  obtain ⟨r1,e1,w1⟩:=ih hy
  obtain ⟨r2,e2,w2⟩:=tc ih cs z hl n (i+1) (by omega) (λj h1 h2=>h j (by omega) h2)
  refine ⟨qu l (repL n l) r1 r2,?_,pb _ _ r1 r2 w1 w2⟩
  show _=vals (l++repL n l) _
  rw [lM,<-e1,<-e2,Nat.succ_mul]
  exact pW cs _ _
theorem rB:∀(d fuel:Nat) {e:TypeId} {tr:List Lf} {cs:List Value} {x:DataW H×List MemPlace},nL P d e=some tr->ua P d e=true->
  DataW.trod enc P w base spare held fuel e cs=some x->∃r:den tr,cs=vals tr r/\pd tr r
 | 0,_,_,_,_,_,h,_,_=>by simp [nL] at h
 | _+1,0,_,_,_,_,_,_,h=>by simp [DataW.trod] at h
 | d+1,fuel+1,e,tr,cs,x,h1,h2,h3=>by
  unfold nL at h1
  unfold ua at h2
  cases hu:P.underlying e with
  | none=>rw [hu] at h1;cases h1
  | some desc=>
   rw [hu] at h1 h2
   cases desc with
   | int k=>
    simp only [Option.some.injEq] at h1;subst h1
    obtain ⟨m,rfl,_,hw⟩:=DataW.trod_int hu h3
    exact ⟨m,rfl,hw⟩
   | bool=>
    simp only [Option.some.injEq] at h1;subst h1
    obtain ⟨b,rfl,_⟩:=DataW.trod_bool hu h3
    exact ⟨b,rfl,trivial⟩
   | string=>
    simp only [Option.some.injEq] at h1;subst h1
    obtain ⟨s,rfl,_,hs⟩:=DataW.trod_string hu h3
    exact ⟨s.data.toList,by simp [vals,Lf.val],hs⟩
   | array n el=>
    simp only at h1 h2
    split at h1
    case h_2=>cases h1
    rename_i l _ hl
    simp only [Option.some.injEq] at h1;subst h1
    simp only [Bool.and_eq_true] at h2
    have hz:=Nat.eq_of_beq_eq_true h2.2
    unfold DataW.trod at h3
    rw [hu] at h3
    simp only at h3
    split at h3
    case isFalse=>cases h3
    rename_i hlen
    simp only [Option.map_eq_some_iff] at h3
    obtain ⟨xs,h4,_⟩:=h3
    have:=tc (fuel:=fuel) (l:=l) (e:=el) (λh=>rB d fuel hl h2.1 h) cs (P.cellsOf el) (by rw [hlen,hz]) n 0 (by omega) (λj _ hj=>by
     have hg:=mapM_some_get h4 j j (by simp [hj])
     have hln:=mapM_some_length h4
     have hjx:j<xs.length:=by rw [hln];simpa using hj
     rw [List.getElem?_eq_getElem hjx] at hg
     exact ⟨_,hg⟩)
    simpa using this
   | struct fs=>
    simp only at h1 h2
    unfold DataW.trod at h3
    rw [hu] at h3
    simp only at h3
    split at h3
    case isFalse=>cases h3
    rename_i hlen
    simp only [Option.map_eq_some_iff] at h3
    obtain ⟨xs,h4,_⟩:=h3
    have:=pZ (d:=d) (fuel:=fuel) (λha hb hc=>rB d fuel ha hb hc) cs fs.toList 0 tr xs h1 (by rw [hlen];exact h2) h4
    simpa using this
   | _=>cases h1
theorem yn {d:Nat} {t:TypeId} {tr:List Lf} {v:Value} {dd:DataW H} {ps:List MemPlace} (hr:nL P d t=some tr) (ho:ua P d t=true) (hd:DataW.Trod enc P w base spare held t v dd ps):
  ∃r:den tr,v.cells.toList=vals tr r/\pd tr r:=by
 obtain ⟨fuel,hf⟩:=hd
 exact rB d fuel hr ho hf
end
section
variable {H:Type} {enc:TypeId×Value->H} {P:Program} {w:World} {held:Bool}
theorem rC {t:TypeId} {fs:Array Field} {v:Value} {r:Reach} {b0:Nat} {l:List Value} (ht:P.underlying t=some (.struct fs)) (hval:Value.okWide P w r b0 t v) (h:v.cells.toList=l):v=.agg l.toArray:=by
 simp only [Value.okWide,ht] at hval
 obtain ⟨cs,rfl,_⟩:=hval
 subst h
 simp [Value.cells]
end
end Go.Abs
