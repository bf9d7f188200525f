/- Opening a law's arguments: rows of numbers, bools and strings; slices of such rows.
   Conditions: none; generic over the program. -/
import Derived.Test.YtlampgohpnchdaaGreatDoorAbsY
set_option linter.unusedVariables false
namespace Go.Abs
open Go.RowKit Go.ChangeShapes Go.WideShapes
def Lf.wf:(a:Lf)->a.den->Prop
 | .i k,n=>(Lit.int k n).wf=true
 | .bo,_=>True
 | .s,l=>l.length<=maxLen
def kE:(t:List Lf)->den t->Prop
 | [],_=>True
 | [a],x=>a.wf x
 | a::b::l,x=>a.wf x.1/\kE (b::l) x.2
def qs:(t u:List Lf)->den t->den u->den (t++u)
 | [],_,_,y=>y
 | [a],[],x,_=>x
 | [a],b::u,x,y=>(x,y)
 | a::b::t,u,x,y=>(x.1,qs (b::t) u x.2 y)
theorem ma:∀(t u:List Lf) (x:den t) (y:den u),vals (t++u) (qs t u x y)=vals t x++vals u y
 | [],u,x,y=>rfl
 | [a],[],x,y=>rfl
 | [a],b::u,x,y=>rfl
 | a::b::t,u,x,y=>by
  show a.val x.1::vals (b::t++u) (qs (b::t) u x.2 y)=_
  rw [ma (b::t) u x.2 y];rfl
theorem ov:∀(t u:List Lf) (x:den t) (y:den u),kE t x->kE u y->kE (t++u) (qs t u x y)
 | [],u,x,y,_,h=>h
 | [a],[],x,y,h,_=>h
 | [a],b::u,x,y,h,h'=>⟨h,h'⟩
 | a::b::t,u,x,y,h,h'=>⟨h.1,ov (b::t) u x.2 y h.2 h'⟩
def offF (ok:TypeId->Bool) (sz:TypeId->Nat) (tot:Nat):Nat->List Field->Bool
 | o,[]=>Nat.beq o tot
 | o,f::l=>Nat.beq f.offset o&&(ok f.type&&offF ok sz tot (o+sz f.type) l)
def pP (P:Program):Nat->TypeId->Bool
 | 0,_=>false
 | d+1,t=>match P.underlying t with
  | some (.int _)=>true
  | some .bool=>true
  | some .string=>true
  | some (.array n e)=>pP P d e&&Nat.beq (P.cellsOf t) (n*P.cellsOf e)
  | some (.struct fs)=>offF (pP P d) P.cellsOf (P.cellsOf t) 0 fs.toList
  | _=>false
section
variable {H:Type} {enc:TypeId×Value->H} {P:Program} {w:World} {base:Nat} {spare:Nat->Bool} {held:Bool}
theorem qy {α:Type} (cs:List α) (o n:Nat):cs.drop o=(cs.drop o).take n++cs.drop (o+n):=by
 rw [<-List.drop_drop];exact (List.take_append_drop n _).symm
theorem qa {d fuel:Nat} (ih:∀{e:TypeId} {tr:List Lf} {cs:List Value} {x:DataW H×List MemPlace},lX P d e=some tr->pP P d e=true->DataW.trod enc P w base spare held fuel e cs=some x->∃r:den tr,cs=vals tr r/\kE tr r)
  (cs:List Value):∀(fs:List Field) (o:Nat) (tr:List Lf) (ys:List (DataW H×List MemPlace)),zO (lX P d) fs=some tr->offF (pP P d) P.cellsOf cs.length o fs=true->
   (fs.mapM λf=>DataW.trod enc P w base spare held fuel f.type ((cs.drop f.offset).take (P.cellsOf f.type)))=some ys->∃r:den tr,cs.drop o=vals tr r/\kE tr r
 | [],o,tr,ys,h1,h2,h3=>by
  simp only [zO,Option.some.injEq] at h1;subst h1
  have:=Nat.eq_of_beq_eq_true h2
  exact ⟨(),by rw [this];simp [vals],trivial⟩
 | f::fs,o,tr,ys,h1,h2,h3=>by
  simp only [zO] at h1
  split at h1
  case h_2=>cases h1
  rename_i a ha
  split at h1
  case h_2=>cases h1
  rename_i b hb
  simp only [Option.some.injEq] at h1;subst h1
  simp only [offF,Bool.and_eq_true] at h2
  obtain ⟨h4,h5,h6⟩:=h2
  have h4:=Nat.eq_of_beq_eq_true h4
  subst h4
  rw [List.mapM_cons] at h3
  simp only [Option.bind_eq_bind,Option.bind_eq_some_iff] at h3
  obtain ⟨y,hy,zs,hzs,_⟩:=h3
  obtain ⟨r1,e1,w1⟩:=ih ha h5 hy
  obtain ⟨r2,e2,w2⟩:=qa ih cs fs _ b zs hb h6 hzs
  exact ⟨qs a b r1 r2,by rw [ma,<-e1,<-e2];exact qy cs _ _,ov a b r1 r2 w1 w2⟩
theorem sM {n0:Nat} {l:List Lf} {e:TypeId} {fuel:Nat} (ih:∀{cs:List Value} {x:DataW H×List MemPlace},DataW.trod enc P w base spare held fuel e cs=some x->∃r:den l,cs=vals l r/\kE l r)
  (cs:List Value) (z:Nat) (hl:cs.length=n0*z):∀(n i:Nat),i+n=n0->(∀j,i<=j->j<n0->∃y,DataW.trod enc P w base spare held fuel e ((cs.drop (j*z)).take z)=some y)->∃r:den (repL n l),cs.drop (i*z)=vals (repL n l) r/\kE (repL n l) r
 | 0,i,hi,_=>by
  have:i=n0:=by omega
  subst this
  exact ⟨(),by rw [List.drop_eq_nil_of_le (by omega)];rfl,trivial⟩
 | n+1,i,hi,h=>by
  obtain ⟨y,hy⟩:=h i (by omega) (by omega)
  obtain ⟨r1,e1,w1⟩:=ih hy
  obtain ⟨r2,e2,w2⟩:=sM ih cs z hl n (i+1) (by omega) (λj h1 h2=>h j (by omega) h2)
  refine ⟨qs l (repL n l) r1 r2,?_,ov _ _ r1 r2 w1 w2⟩
  show _=vals (l++repL n l) _
  rw [ma,<-e1,<-e2,Nat.succ_mul]
  exact qy cs _ _
theorem nX:∀(d fuel:Nat) {e:TypeId} {tr:List Lf} {cs:List Value} {x:DataW H×List MemPlace},lX P d e=some tr->pP P d e=true->
  DataW.trod enc P w base spare held fuel e cs=some x->∃r:den tr,cs=vals tr r/\kE tr r
 | 0,_,_,_,_,_,h,_,_=>by simp [lX] at h
 | _+1,0,_,_,_,_,_,_,h=>by simp [DataW.trod] at h
 | d+1,fuel+1,e,tr,cs,x,h1,h2,h3=>by
  unfold lX at h1
  unfold pP at h2
  cases hu:P.underlying e with
  | none=>rw [hu] at h1;cases h1
  | some desc=>
   rw [hu] at h1 h2
   cases desc with
   | int k=>
    simp only [Option.some.injEq] at h1;subst h1
    obtain ⟨m,rfl,_,hw⟩:=DataW.trod_int hu h3
    exact ⟨m,rfl,hw⟩
   | bool=>
    simp only [Option.some.injEq] at h1;subst h1
    obtain ⟨b,rfl,_⟩:=DataW.trod_bool hu h3
    exact ⟨b,rfl,trivial⟩
   | string=>
    simp only [Option.some.injEq] at h1;subst h1
    obtain ⟨s,rfl,_,hs⟩:=DataW.trod_string hu h3
    exact ⟨s.data.toList,by simp [vals,Lf.val],hs⟩
   | array n el=>
    simp only at h1 h2
    split at h1
    case h_2=>cases h1
    rename_i l _ hl
    simp only [Option.some.injEq] at h1;subst h1
    simp only [Bool.and_eq_true] at h2
    have hz:=Nat.eq_of_beq_eq_true h2.2
    unfold DataW.trod at h3
    rw [hu] at h3
    simp only at h3
    split at h3
    case isFalse=>cases h3
    rename_i hlen
    simp only [Option.map_eq_some_iff] at h3
    obtain ⟨xs,h4,_⟩:=h3
    have:=sM (fuel:=fuel) (l:=l) (e:=el) (λh=>nX d fuel hl h2.1 h) cs (P.cellsOf el) (by rw [hlen,hz]) n 0 (by omega) (λj _ hj=>by
     have hg:=mapM_some_get h4 j j (by simp [hj])
     have hln:=mapM_some_length h4
     have hjx:j<xs.length:=by rw [hln];simpa using hj
     rw [List.getElem?_eq_getElem hjx] at hg
     exact ⟨_,hg⟩)
    simpa using this
   | struct fs=>
    simp only at h1 h2
    unfold DataW.trod at h3
    rw [hu] at h3
    simp only at h3
    split at h3
    case isFalse=>cases h3
    rename_i hlen
    simp only [Option.map_eq_some_iff] at h3
    obtain ⟨xs,h4,_⟩:=h3
    have:=qa (d:=d) (fuel:=fuel) (λha hb hc=>nX d fuel ha hb hc) cs fs.toList 0 tr xs h1 (by rw [hlen];exact h2) h4
    simpa using this
   | _=>cases h1
end
section
variable {H:Type} {enc:TypeId×Value->H} {P:Program} {w:World} {held:Bool}
theorem kR {t e:TypeId} {tr:List Lf} {d fuel:Nat} {v:Value} {x:DataW H×List MemPlace} (ht:P.underlying t=some (.slice e)) (hr:lX P d e=some tr) (ho:pP P d e=true) (hc:P.cellsOf e=tr.length) (hp:0<tr.length)
  (h:DataW.trod enc P w 0 (λ_=>true) held fuel t [v]=some x):∃(l:List (den tr)) (ρ:Option Rf),(∀y∈l,kE tr y)/\l.length<=maxLen/\mV w v tr l ρ:=by
 rcases DataW.trod_slice ht h with ⟨hcs,_⟩ | ⟨a,len,cap,elems,rest,n,_,hcs,_,_,hl,hm,hlen,hel,hsp,_⟩
 ·simp only [List.cons.injEq,and_true] at hcs
  subst hcs
  exact ⟨[],none,by simp,by simp,rfl,none,rfl⟩
 ·simp only [List.cons.injEq,and_true] at hcs
  subst hcs
  by_cases h0:cap=0
  ·have hlen0:len=0:=by omega
   subst h0 hlen0
   exact ⟨[],none,by simp,by simp,rfl,some a,rfl⟩
  have each:∀i,i<cap->∃r:den tr,w.cells? 0 (a.add (i*tr.length)) tr.length=some (vals tr r)/\kE tr r:=by
   intro i hi
   have:∃y,(w.cells? 0 (a.add (i*P.cellsOf e)) (P.cellsOf e)).bind (DataW.trod enc P w 0 (λ_=>true) held n e)=some y:=by
    by_cases hi2:i<len
    ·rw [hel i hi2,List.getElem?_eq_getElem (by omega)];exact ⟨_,rfl⟩
    ·obtain ⟨hrl,hr'⟩:=hsp rfl
     have:=hr' (i - len) (by omega)
     rw [show len+(i - len)=i by omega] at this
     rw [this,List.getElem?_eq_getElem (by omega)];exact ⟨_,rfl⟩
   obtain ⟨y,hy⟩:=this
   rw [Option.bind_eq_some_iff] at hy
   obtain ⟨cs,h1,h2⟩:=hy
   obtain ⟨r,rfl,hw⟩:=nX d n hr ho h2
   rw [hc] at h1
   exact ⟨r,h1,hw⟩
  obtain ⟨b,off,spot⟩:=a
  have hspot:spot=none:=by
   obtain ⟨r,h1,_⟩:=each 0 (by omega)
   have h2:=(World.cells?_some h1).2.2 0 hp
   have h3:(vals tr r)[0]?=some ((vals tr r)[0]'(by rw [dH];exact hp)):=List.getElem?_eq_getElem _
   rw [h3] at h2
   simpa [Addr.add] using World.cell?_spot h2
  subst hspot
  have cellAt:∀i,i<cap->∀r:den tr,w.cells? 0 ((⟨b,off,none⟩:Addr).add (i*tr.length)) tr.length=some (vals tr r)->∀j,j<tr.length->w.cell? ⟨b,off+(i*tr.length+j),none⟩=(vals tr r)[j]?:=by
   intro i hi r h1 j hj
   have:=(World.cells?_some h1).2.2 j hj
   rw [<-this]
   congr 1
   unfold Addr.add
   by_cases hz:i*tr.length=0
   ·by_cases hj0:j=0
    ·simp [hz,hj0]
    ·simp [hz,hj0]
   ·by_cases hj0:j=0
    ·simp [hz,hj0]
    ·simp [hz,hj0,Nat.add_assoc]
  have hobj:∃cs e' fr,w.heap[b]?=some (.cells cs e' fr):=by
   obtain ⟨r,h1,_⟩:=each 0 (by omega)
   have:=cellAt 0 (by omega) r h1 0 hp
   rw [List.getElem?_eq_getElem (by rw [dH];exact hp)] at this
   unfold World.cell? at this
   simp only at this
   split at this
   ·rename_i cs e' fr hh;exact ⟨cs,e',fr,hh⟩
   ·cases this
  obtain ⟨cs,e',fr,hh⟩:=hobj
  have hget:∀i,i<cap->∀r:den tr,w.cells? 0 ((⟨b,off,none⟩:Addr).add (i*tr.length)) tr.length=some (vals tr r)->∀j,j<tr.length->cs[off+(i*tr.length+j)]?=(vals tr r)[j]?:=λi hi r h1 j hj=>by
   rw [<-aW hh];exact cellAt i hi r h1 j hj
  have hsize:off+cap*tr.length<=cs.size:=by
   obtain ⟨r,h1,_⟩:=each (cap - 1) (by omega)
   have:=hget (cap - 1) (by omega) r h1 (tr.length - 1) (by omega)
   rw [List.getElem?_eq_getElem (by rw [dH];omega)] at this
   have hlt:off+((cap - 1)*tr.length+(tr.length - 1))<cs.size:=by
    rcases Nat.lt_or_ge (off+((cap - 1)*tr.length+(tr.length - 1))) cs.size with h' | h'
    ·exact h'
    ·rw [Array.getElem?_eq_none h'] at this;cases this
   have e1:cap*tr.length=(cap - 1)*tr.length+tr.length:=by rw [<-Nat.succ_mul];congr 1;omega
   omega
  have rows:∀m,m<=cap->∃l:List (den tr),l.length=m/\(∀y∈l,kE tr y)/\(cs.toList.drop off).take (m*tr.length)=l.flatMap (vals tr):=by
   intro m
   induction m with
   | zero=>intro _;exact ⟨[],rfl,by simp,by simp⟩
   | succ m ih=>
    intro hm'
    obtain ⟨l,h1,h2,h3⟩:=ih (by omega)
    obtain ⟨r,h4,h5⟩:=each m (by omega)
    refine ⟨l++[r],by simp [h1],λy hy=>?_,?_⟩
    ·simp only [List.mem_append,List.mem_cons,List.not_mem_nil,or_false] at hy
     rcases hy with hy | rfl
     ·exact h2 y hy
     ·exact h5
    ·rw [List.flatMap_append,<-h3,Nat.succ_mul,List.take_add,List.flatMap_cons,List.flatMap_nil,List.append_nil]
     congr 1
     apply List.ext_getElem?
     intro j
     by_cases hj:j<tr.length
     ·rw [List.getElem?_take_of_lt hj,List.getElem?_drop,List.getElem?_drop,Array.getElem?_toList,<-hget m (by omega) r h4 j hj]
     ·rw [List.getElem?_eq_none (by rw [List.length_take];omega),List.getElem?_eq_none (by rw [dH];omega)]
  obtain ⟨l,h1,h2,h3⟩:=rows len hl
  exact ⟨l,some ⟨b,len,cap,off,true⟩,h2,by omega,rfl,rfl,_,hh,cs,e',fr,rfl,h1,hl,hsize,by rw [h1];exact h3,.inl rfl⟩
theorem sA {t e:TypeId} {v:Value} {r:Reach} {b0:Nat} (ht:P.underlying t=some (.slice e)) (hval:Value.okWide P w r b0 t v):v.cells=#[v]:=by
 simp only [Value.okWide,ht,Cell.okWide] at hval
 unfold Cell.ok at hval
 rw [ht] at hval
 split at hval<;>first | rfl | exact hval.elim | simp_all [Value.cells]
theorem qS {t e:TypeId} {tr:List Lf} {d:Nat} {v:Value} {dd:DataW H} {ps:List MemPlace} (ht:P.underlying t=some (.slice e)) (hr:lX P d e=some tr) (ho:pP P d e=true) (hc:P.cellsOf e=tr.length) (hp:0<tr.length)
  (hv:v.cells=#[v]) (hd:DataW.Trod enc P w 0 (λ_=>true) held t v dd ps):∃(l:List (den tr)) (ρ:Option Rf),(∀y∈l,kE tr y)/\l.length<=maxLen/\mV w v tr l ρ:=by
 obtain ⟨fuel,hf⟩:=hd
 rw [hv] at hf
 exact kR ht hr ho hc hp hf
end
end Go.Abs
