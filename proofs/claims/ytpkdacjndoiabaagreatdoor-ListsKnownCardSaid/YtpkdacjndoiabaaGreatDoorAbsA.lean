/- The abstract values and the abstract memory of the interpreter, and how they relate to the model's own.
   Conditions: none; everything here is generic over the program. -/
import Derived.Tactics
import Derived.Below
import Derived.Test.YtpkdacjndoiabaaGreatDoorGlob
set_option linter.unusedSimpArgs false
namespace Go
abbrev aa:=List UInt8
abbrev lP:=@Array.ext'
abbrev Qv:=@Array.ext_getElem?
abbrev qc:=@Array.getD_eq_getD_getElem?
abbrev QY:=@Array.getElem?_append_left
abbrev RB:=@Array.getElem?_eq_getElem
abbrev vU:=@Array.getElem?_eq_none
abbrev TY:=@Array.getElem?_replicate
abbrev QJ:=@Array.getElem?_setIfInBounds
abbrev QV:=@Array.getElem?_setIfInBounds_ne
abbrev r7:=@Array.getElem?_toList
abbrev JP:=@Array.length_toList
abbrev Of:=@Array.mapM_eq_mapM_toList
abbrev Gl:=@Array.map_empty
abbrev wa:=@Array.toList_append
abbrev uQ:=@BEq.rfl
abbrev Bc:=@Bool.and_eq_false_iff
abbrev az:=@Bool.and_eq_true
abbrev Fq:=@Bool.and_false
abbrev JZ:=@Bool.and_self
abbrev yi:=@Bool.and_true
abbrev uO:=@Bool.eq_iff_iff
abbrev Gw:=@Bool.false_and
abbrev bP:=@Bool.false_eq_true
abbrev xH:=@Bool.false_or
abbrev FQ:=@Bool.not_eq_true
abbrev kl:=@Bool.not_eq_true'
abbrev jq:=@Bool.not_false
abbrev dn:=@Bool.not_true
abbrev rE:=@Bool.or_eq_false_iff
abbrev gX:=@Bool.or_eq_true
abbrev HT:=@Bool.or_false
abbrev mU:=@Bool.true_and
abbrev Gi:=@Bool.true_or
abbrev iO9:=@ByteArray.ext
abbrev FV:=@Classical.em
abbrev sX:=@Go.Code.wp_mono
abbrev Ks:=@Decidable.not_not
abbrev yI:=@Eq.trans
abbrev It:=@Int.dvd_of_emod_eq_zero
abbrev JJ:=@Int.emod_lt_of_pos
abbrev KV:=@Int.emod_nonneg
abbrev yT:=@Int.le_refl
abbrev yo:=@Int.mul_comm
abbrev OO:=@Int.mul_le_mul_of_nonneg_right
abbrev Gh:=@Int.natCast_mul
abbrev Ko:=@Int.sub_add_cancel
abbrev OJ:=@Int.tdiv_eq_ediv_of_nonneg
abbrev JM:=@Int.tmod_eq_emod
abbrev KA:=@Int.tmod_eq_emod_of_nonneg
abbrev bV:=@Int.toNat_natCast
abbrev Gg:=@Int.toNat_of_nonneg
abbrev yR:=@Int.zero_sub
abbrev GA:=@Go.IntKind.wrap_i64
abbrev oG:=@List.all_cons
abbrev dF:=@List.all_eq_true
abbrev Jp:=@List.any_cons
abbrev sK:=@List.any_eq_false
abbrev tg:=@List.any_eq_true
abbrev jr:=@List.append_assoc
abbrev pM:=@List.append_nil
abbrev KU:=@List.cons.injEq
abbrev fP:=@List.cons_append
abbrev JA:=@List.countP_cons
abbrev FB:=@List.drop_append
abbrev kR:=@List.drop_drop
abbrev wU:=@List.drop_eq_getElem_cons
abbrev jo:=@List.drop_eq_nil_of_le
abbrev A7:=@List.drop_left'
abbrev IC:=@List.drop_length
abbrev oC:=@List.drop_succ_cons
abbrev wW:=@List.drop_take
abbrev gy:=@List.drop_zero
abbrev yx:=@List.eq_nil_of_length_eq_zero
abbrev JC:=@List.eq_of_mem_replicate
abbrev Cm:=@List.ext_getElem?
abbrev I0:=@List.filter_append
abbrev OC:=@List.filter_cons_of_neg
abbrev Ov:=@List.filter_cons_of_pos
abbrev F9:=@List.filter_filter
abbrev AZ:=@List.findSome?_cons
abbrev OI:=@List.findSome?_eq_none_iff
abbrev Jf:=@List.flatMap_append
abbrev pQ:=@List.flatMap_cons
abbrev Jk:=@List.flatten_cons
abbrev FM:=@List.foldl_append
abbrev uE:=@List.foldl_cons
abbrev GE:=@List.foldl_nil
abbrev CQ:=@List.getD_eq_getElem?_getD
abbrev nh:=@List.getElem?_append_left
abbrev pO:=@List.getElem?_append_right
abbrev EX:=@List.getElem?_cons_succ
abbrev lD:=@List.getElem?_cons_zero
abbrev mn:=@List.getElem?_drop
abbrev bp:=@List.getElem?_eq_getElem
abbrev gU:=@List.getElem?_eq_none
abbrev od:=@List.getElem?_eq_some_iff
abbrev my:=@List.getElem?_map
abbrev Jd:=@List.getElem?_set_self
abbrev HV:=@List.getElem?_take
abbrev pN:=@List.getElem?_take_of_lt
abbrev Ef:=@List.getElem_mem
abbrev qg:=@List.head?_cons
abbrev AE:=@List.isEmpty_eq_false_iff
abbrev aM:=@List.length_append
abbrev aD:=@List.length_cons
abbrev co:=@List.length_drop
abbrev Aa:=@List.length_filter_le
abbrev zT:=@List.length_filter_lt_length_iff_exists
abbrev uz:=@List.length_map
abbrev bj:=@List.length_nil
abbrev Dx:=@List.length_pos_of_mem
abbrev AB:=@List.length_replicate
abbrev ut:=@List.length_reverse
abbrev Ei:=@List.length_set
abbrev cO:=@List.length_take
abbrev C0:=@List.mapM_cons
abbrev D7:=@List.map_append
abbrev fE:=@List.map_cons
abbrev rW:=@List.map_map
abbrev nU:=@List.mem_append
abbrev dl:=@List.mem_cons
abbrev gq:=@List.mem_cons_of_mem
abbrev nV:=@List.mem_cons_self
abbrev mY:=@List.mem_filter
abbrev eJ:=@List.mem_map
abbrev gQ:=@List.mem_of_getElem?
abbrev JF:=@List.mem_or_eq_of_mem_set
abbrev kq:=@List.mem_range
abbrev zo:=@List.mem_range'_1
abbrev D6:=@List.mem_singleton
abbrev dQ:=@List.nil_append
abbrev C2:=@List.nodup_append
abbrev vR:=@List.nodup_cons
abbrev sC:=@List.not_mem_nil
abbrev vN:=@List.range'_succ
abbrev rQ:=@List.replicate_succ
abbrev wB:=@List.reverse_reverse
abbrev Lt:=@List.set_eq_take_append_cons_drop
abbrev xl:=@List.size_toArray
abbrev oO:=@List.take_add_one
abbrev DY:=@List.take_append
abbrev zu:=@List.take_append_drop
abbrev uu:=@List.take_append_of_le_length
abbrev oU:=@List.take_length
abbrev iP:=@List.take_of_length_le
abbrev pX:=@List.take_succ_cons
abbrev J9:=@List.take_succ_eq_append_getElem
abbrev AI:=@List.take_take
abbrev nM:=@List.take_zero
abbrev gO:=@Nat.add_assoc
abbrev oS:=@Nat.add_comm
abbrev gL:=@Nat.add_mul
abbrev xb:=@Nat.add_right_cancel_iff
abbrev DD:=@Nat.add_sub_cancel
abbrev Df:=@Nat.add_sub_cancel_left
abbrev cD:=@Nat.add_zero
abbrev iV:=@Nat.beq_eq
abbrev dG:=@Nat.ble_eq_true_of_le
abbrev DW:=@Nat.div_le_self
abbrev Es:=@Nat.div_mul_le_self
abbrev sy:=@Nat.div_one
abbrev bE:=@Nat.eq_of_beq_eq_true
abbrev zS:=@Nat.eq_zero_or_pos
abbrev Au:=@Nat.le_add_right
abbrev Db:=@Nat.le_max_left
abbrev aI:=@Nat.le_of_ble_eq_true
abbrev xK:=@Nat.le_of_eq
abbrev aV:=@Nat.le_refl
abbrev qC:=@Nat.le_trans
abbrev Aw:=@Nat.le_zero
abbrev Du:=@Nat.lt_irrefl
abbrev qj:=@Nat.lt_of_lt_of_le
abbrev aG:=@Nat.lt_or_ge
abbrev DX:=@Nat.lt_trichotomy
abbrev sd:=@Nat.min_eq_left
abbrev qK:=@Nat.mod_eq_of_lt
abbrev zO:=@Nat.mod_lt
abbrev DL:=@Nat.mul_assoc
abbrev wk:=@Nat.mul_comm
abbrev C9:=@Nat.mul_le_mul
abbrev nX:=@Nat.mul_le_mul_right
abbrev qf:=@Nat.mul_one
abbrev Ao:=@Nat.ne_of_lt
abbrev zq:=@Nat.one_le_pow
abbrev vI:=@Nat.one_mul
abbrev AT:=@Nat.or_comm
abbrev nW:=@Nat.pow_le_pow_right
abbrev rU:=@Nat.pow_succ
abbrev zR:=@Nat.pow_zero
abbrev zw:=@Nat.sub_self
abbrev wl:=@Nat.sub_zero
abbrev cY:=@Nat.zero_add
abbrev sj:=@Nat.zero_le
abbrev Ap:=@Nat.zero_mul
abbrev DG:=@Go.Oper.apart_spec
abbrev wv:=@Option.getD_some
abbrev yZ:=@Option.isSome_iff_exists
abbrev wE:=@Option.isSome_none
abbrev D9:=@Option.map_id
abbrev iJ:=@Option.map_none
abbrev eK:=@Option.map_some
abbrev Et:=@Option.none_or
abbrev bg:=@Option.some.inj
abbrev aq:=@Option.some.injEq
abbrev bO:=@Prod.mk.injEq
abbrev ay:=@Go.Result.andThen_ok
abbrev wo:=@Go.Result.ok.injEq
abbrev aw:=@Go.Sem.run_bind
abbrev aA:=@Go.Sem.run_pure
abbrev zt:=@Sum.inr.inj
abbrev se:=@Sum.inr.injEq
abbrev gH:=@UInt8.toNat_inj
abbrev DZ:=@UInt8.toNat_ofNat'
abbrev xI:=@Go.World.alloc_eq
abbrev ur:=@and_congr_right
abbrev xq:=@and_true
abbrev aN:=@beq_eq_false_iff_ne
abbrev bB:=@beq_iff_eq
abbrev qw:=@beq_self_eq_true
abbrev eM:=@bne_self_eq_false
abbrev af:=@cond_false
abbrev aj:=@cond_true
abbrev dm:=@congrArg
abbrev nq:=@decide_eq_decide
abbrev au:=@decide_eq_false
abbrev rZ:=@decide_eq_false_iff_not
abbrev ar:=@decide_eq_true
abbrev cb:=@decide_eq_true_eq
abbrev m7:=@decide_false
abbrev nY:=@decide_true
abbrev oW:=@exists_congr
abbrev xJ:=@false_and
abbrev C7:=@forall_eq_or_imp
abbrev aE:=@if_false
abbrev ab:=@if_neg
abbrev ae:=@if_pos
abbrev aQ:=@if_true
abbrev Em:=@not_false_eq_true
abbrev um:=@not_true_eq_false
abbrev uy:=@or_false
abbrev wR:=@Go.run_loadCells_list
abbrev xF:=@Go.run_newObj
abbrev aW:=@Go.run_underlying
abbrev js:=@true_and
end Go
namespace Go.Abs
inductive Lf where
 | i (k:IntKind)
 | bo
 | s
 deriving Inhabited,DecidableEq
@[reducible] def Lf.den:Lf->Type
 | .i _=>Int
 | .bo=>Bool
 | .s=>aa
@[reducible] def den:List Lf->Type
 | []=>Unit
 | [a]=>a.den
 | a::b::l=>a.den×den (b::l)
inductive V where
 | unk
 | pr (z b j o:Nat)
 | ws (b:Nat)
 | rs (z b j n:Nat) (cap:Option Nat)
 | b (x:Bool)
 | i (k:IntKind) (n:Int)
 | s (l:aa)
 | pn
 | p (b o:Nat)
 | sn
 | sl (b o len:Nat) (cap:Option Nat)
 | fn (f:Nat) (cap:List V)
 | nf
 | ni
 | it (t:Nat) (v:V)
 | ag (l:List V)
 | ai (k:IntKind) (n:Nat) (l:List Int)
 | tp (l:List V)
 | mp (b:Nat)
 deriving Inhabited
structure Rf where
 r:Nat
 n:Nat:=0
 k:Nat:=0
  /-- Of a block of rows: where the rows begin. -/
 o:Nat:=0
  /-- Is it only read? Then others may lie there, too. -/
 fz:Bool:=false
abbrev Rf.of (r n k:Nat):Rf:=⟨r,n,k,0,false⟩
abbrev Inj:=Nat->Option (Option Rf)
def fnW (K f:Nat) (cs:Array Value):Value:=
 match Nat.blt f K with
 | true=>.func (.func f) #[] cs
 | false=>.func (.func (f - K)) cs #[]
def fnV (f:Nat) (cs:Array Value):Value:=fnW 1000000 f cs
theorem SY (K f:Nat) (cs:Array Value):∃g b c,fnW K f cs=.func (.func g) b c:=by
 unfold fnW
 split
 ·exact ⟨_,_,_,rfl⟩
 ·exact ⟨_,_,_,rfl⟩
theorem ye (f:Nat) (cs:Array Value):∃g b c,fnV f cs=.func (.func g) b c:=SY _ f cs
theorem PT {K f:Nat} (h:Nat.blt f K=true) (cs:Array Value):fnW K f cs=.func (.func f) #[] cs:=by
 unfold fnW;rw [h]
theorem Ey {f:Nat} (h:Nat.blt f 1000000=true) (cs:Array Value):fnV f cs=.func (.func f) #[] cs:=PT h cs
theorem Md (K f:Nat) (cs:Array Value):fnW K (f+K) cs=.func (.func f) cs #[]:=by
 unfold fnW
 cases h:Nat.blt (f+K) K with
 | true=>have:f+K<K:=aI h;omega
 | false=>simp
theorem LU (f:Nat) (cs:Array Value):fnV (f+1000000) cs=.func (.func f) cs #[]:=Md _ f cs
def fnFW (K f:Nat):Nat:=match Nat.blt f K with | true=>f | false=>f - K
def fnAW {α:Type} (K f:Nat) (args cap:List α):List α:=match Nat.blt f K with | true=>args++cap | false=>cap++args
def fnF (f:Nat):Nat:=fnFW 1000000 f
def fnA {α:Type} (f:Nat) (args cap:List α):List α:=fnAW 1000000 f args cap
def L2 (c:Option Nat) (k:Nat):Prop:=∀m,c=some m->k=m
theorem kb {k:Nat}:L2 none k:=λ_ h=>by cases h
theorem qN {k:Nat}:L2 (some k) k:=λ_ h=>by cases h;rfl
mutual
def VR (ι:Inj):V->Value->Prop
 | .b x,v=>v=.bool x
 | .i k n,v=>v=.int k n
 | .s l,v=>v=.string ⟨l.toArray⟩
 | .pn,v=>v=.pointer none
 | .p b o,v=>∃q,ι b=some (some q)/\v=.pointer (some ⟨q.r,o,none⟩)
 | .sn,v=>v=.slice none 0 0
 | .sl b o len cap,v=>∃q c,ι b=some (some q)/\(∀n,cap=some n->c=n)/\len<=c/\v=.slice (some ⟨q.r,o,none⟩) len c
 | .unk,v=>v.cells=#[v]/\v.oneCell'=true
 | .pr z b j o,v=>∃q,ι b=some (some q)/\v=.pointer (some ⟨q.r,q.o+(j*z+o),none⟩)
 | .ws b,v=>(∃q,ι b=some (some q)/\v=.slice (some ⟨q.r,q.o,none⟩) q.n q.k)\/(ι b=some none/\∃a,v=.slice a 0 0)
 | .rs z b j n cm,v=>(∃q c o,ι b=some (some q)/\(n<=c/\L2 cm c)/\(0<n->o=q.o+j*z)/\v=.slice (some ⟨q.r,o,none⟩) n c)\/(ι b=some none/\(n=0/\L2 cm 0)/\∃a,v=.slice a 0 0)
 | .fn f cap,v=>∃cs,v=fnV f cs/\VRs ι cap cs.toList
 | .nf,v=>v=.nilFunc
 | .ni,v=>v=.nilIface
 | .it t x,v=>∃y,v=.iface t y/\VR ι x y
 | .ag l,v=>∃cs:Array Value,v=.agg cs/\VRs ι l cs.toList
 | .ai k n l,v=>l.length=n/\v=.agg (l.map (Value.int k)).toArray
 | .tp l,v=>∃cs:Array Value,v=.tuple cs/\VRs ι l cs.toList
 | .mp b,v=>∃q,ι b=some (some q)/\v=.map (some q.r)
def VRs (ι:Inj):List V->List Value->Prop
 | [],vs=>vs=[]
 | x::l,vs=>∃y ys,vs=y::ys/\VR ι x y/\VRs ι l ys
end
mutual
theorem VR.mono {ι ι':Inj} (h:∀b r,ι b=some r->ι' b=some r):∀(v:V) (x:Value),VR ι v x->VR ι' v x
 | .b _,_,hx | .i _ _,_,hx | .s _,_,hx | .pn,_,hx | .sn,_,hx | .nf,_,hx | .ni,_,hx | .ai _ _ _,_,hx | .unk,_,hx=>by simpa [VR] using hx
 | .p b o,x,hx | .pr z b j o,x,hx | .mp b,x,hx=>by
  simp only [VR] at hx ⊢
  obtain ⟨r,h1,h2⟩:=hx
  exact ⟨r,h _ _ h1,h2⟩
 | .ws b,x,hx=>by
  simp only [VR] at hx ⊢
  rcases hx with ⟨q,h1,h2⟩ | ⟨h1,h2⟩
  ·exact .inl ⟨q,h _ _ h1,h2⟩
  ·exact .inr ⟨h _ _ h1,h2⟩
 | .rs z b j n _,x,hx=>by
  simp only [VR] at hx ⊢
  rcases hx with ⟨q,c,o,h1,h2⟩ | ⟨h1,h2⟩
  ·exact .inl ⟨q,c,o,h _ _ h1,h2⟩
  ·exact .inr ⟨h _ _ h1,h2⟩
 | .sl b o len cap,x,hx=>by
  simp only [VR] at hx ⊢
  obtain ⟨r,c,h1,h2⟩:=hx
  exact ⟨r,c,h _ _ h1,h2⟩
 | .fn f cap,x,hx=>by
  simp only [VR] at hx ⊢
  obtain ⟨cs,h1,h2⟩:=hx
  exact ⟨cs,h1,VRs.mono h _ _ h2⟩
 | .it t v,x,hx=>by
  simp only [VR] at hx ⊢
  obtain ⟨y,h1,h2⟩:=hx
  exact ⟨y,h1,VR.mono h _ _ h2⟩
 | .ag l,x,hx=>by
  simp only [VR] at hx ⊢
  obtain ⟨cs,h1,h2⟩:=hx
  exact ⟨cs,h1,VRs.mono h _ _ h2⟩
 | .tp l,x,hx=>by
  simp only [VR] at hx ⊢
  obtain ⟨cs,h1,h2⟩:=hx
  exact ⟨cs,h1,VRs.mono h _ _ h2⟩
theorem VRs.mono {ι ι':Inj} (h:∀b r,ι b=some r->ι' b=some r):∀(l:List V) (xs:List Value),VRs ι l xs->VRs ι' l xs
 | [],_,hx=>by simpa [VRs] using hx
 | v::l,xs,hx=>by
  simp only [VRs] at hx ⊢
  obtain ⟨y,ys,h1,h2,h3⟩:=hx
  exact ⟨y,ys,h1,VR.mono h _ _ h2,VRs.mono h _ _ h3⟩
end
theorem VRs.length {ι:Inj}:∀{l:List V} {xs:List Value},VRs ι l xs->xs.length=l.length
 | [],_,h=>by simp only [VRs] at h;simp [h]
 | _::_,_,h=>by
  simp only [VRs] at h
  obtain ⟨y,ys,rfl,_,h3⟩:=h
  simp [VRs.length h3]
theorem VRs.get {ι:Inj}:∀{l:List V} {xs:List Value} {j:Nat} {v:V},VRs ι l xs->l[j]?=some v->∃x,xs[j]?=some x/\VR ι v x
 | [],_,_,_,_,hj=>by simp at hj
 | _::_,_,0,_,h,hj=>by
  simp only [VRs] at h
  obtain ⟨y,ys,rfl,h2,_⟩:=h
  simp only [lD,aq] at hj
  subst hj
  exact ⟨y,by simp,h2⟩
 | _::_,_,j+1,_,h,hj=>by
  simp only [VRs] at h
  obtain ⟨y,ys,rfl,_,h3⟩:=h
  simp only [EX] at hj ⊢
  exact VRs.get h3 hj
theorem VRs.of_get {ι:Inj}:∀{l:List V} {xs:List Value},xs.length=l.length->(∀(j:Nat) (v:V) (x:Value),l[j]?=some v->xs[j]?=some x->VR ι v x)->VRs ι l xs
 | [],xs,hl,_=>by simp only [VRs];exact yx (by simpa using hl)
 | v::l,[],hl,_=>by simp at hl
 | v::l,x::xs,hl,h=>by
  simp only [VRs]
  refine ⟨x,xs,rfl,h 0 v x (by simp) (by simp),VRs.of_get (by simpa using hl) λj v' x' h1 h2=>h (j+1) v' x' (by simpa using h1) (by simpa using h2)⟩
theorem VRs.append {ι:Inj}:∀{l:List V} {xs:List Value} {m:List V} {ys:List Value},VRs ι l xs->VRs ι m ys->VRs ι (l++m) (xs++ys)
 | [],_,_,_,h,h'=>by simp only [VRs] at h;subst h;simpa using h'
 | _::_,_,_,_,h,h'=>by
  simp only [VRs] at h
  obtain ⟨y,ys,rfl,h2,h3⟩:=h
  simp only [fP,VRs]
  exact ⟨y,_,rfl,h2,VRs.append h3 h'⟩
theorem VRs.drop {ι:Inj}:∀{l:List V} {xs:List Value} (n:Nat),VRs ι l xs->VRs ι (l.drop n) (xs.drop n)
 | _,_,0,h=>by simpa using h
 | [],_,_+1,h=>by simp only [VRs] at h;subst h;simp [VRs]
 | _::_,_,n+1,h=>by
  simp only [VRs] at h
  obtain ⟨y,ys,rfl,_,h3⟩:=h
  simpa using VRs.drop n h3
theorem VRs.take {ι:Inj}:∀{l:List V} {xs:List Value} (n:Nat),VRs ι l xs->VRs ι (l.take n) (xs.take n)
 | _,_,0,_=>by simp [VRs]
 | [],_,_+1,h=>by simp only [VRs] at h;subst h;simp [VRs]
 | _::_,_,n+1,h=>by
  simp only [VRs] at h
  obtain ⟨y,ys,rfl,h2,h3⟩:=h
  simp only [pX,VRs]
  exact ⟨y,_,rfl,h2,VRs.take n h3⟩
theorem VRs.set {ι:Inj}:∀{l:List V} {xs:List Value} (n:Nat) {v:V} {x:Value},VRs ι l xs->VR ι v x->VRs ι (l.set n v) (xs.set n x)
 | [],_,_,_,_,h,_=>by simp only [VRs] at h;subst h;simp [VRs]
 | _::_,_,0,_,_,h,hv=>by
  simp only [VRs] at h
  obtain ⟨y,ys,rfl,_,h3⟩:=h
  simp only [List.set_cons_zero,VRs]
  exact ⟨_,_,rfl,hv,h3⟩
 | _::_,_,n+1,_,_,h,hv=>by
  simp only [VRs] at h
  obtain ⟨y,ys,rfl,h2,h3⟩:=h
  simp only [List.set_cons_succ,VRs]
  exact ⟨_,_,rfl,h2,VRs.set n h3 hv⟩
theorem VRs.ints {ι:Inj} (k:IntKind):∀(l:List Int),VRs ι (l.map (V.i k)) (l.map (Value.int k))
 | []=>by simp [VRs]
 | n::l=>by simp only [fE,VRs];exact ⟨_,_,rfl,by simp [VR],VRs.ints k l⟩
def Lf.toV:(a:Lf)->a.den->V
 | .i k,n=>.i k n
 | .bo,x=>.b x
 | .s,l=>.s l
def Lf.val:(a:Lf)->a.den->Value
 | .i k,n=>.int k n
 | .bo,x=>.bool x
 | .s,l=>.string ⟨l.toArray⟩
def cells:(t:List Lf)->den t->List V
 | [],_=>[]
 | [a],x=>[a.toV x]
 | a::b::l,x=>a.toV x.1::cells (b::l) x.2
def vals:(t:List Lf)->den t->List Value
 | [],_=>[]
 | [a],x=>[a.val x]
 | a::b::l,x=>a.val x.1::vals (b::l) x.2
theorem Lf.ok (ι:Inj):∀(a:Lf) (x:a.den),VR ι (a.toV x) (a.val x)
 | .i _,_=>by simp [Lf.toV,Lf.val,VR]
 | .bo,_=>by simp [Lf.toV,Lf.val,VR]
 | .s,_=>by simp [Lf.toV,Lf.val,VR]
theorem Lf.ok_iff (ι:Inj):∀(a:Lf) (x:a.den) (y:Value),VR ι (a.toV x) y↔y=a.val x
 | .i _,_,_=>by simp [Lf.toV,Lf.val,VR]
 | .bo,_,_=>by simp [Lf.toV,Lf.val,VR]
 | .s,_,_=>by simp [Lf.toV,Lf.val,VR]
theorem nu (ι:Inj):∀(t:List Lf) (x:den t) (ys:List Value),VRs ι (cells t x) ys↔ys=vals t x
 | [],_,ys=>by simp [cells,vals,VRs]
 | [a],x,ys=>by
  simp only [cells,vals,VRs]
  constructor
  ·rintro ⟨y,zs,rfl,h,rfl⟩
   rw [(a.ok_iff ι x y).1 h]
  ·rintro rfl
   exact ⟨_,_,rfl,a.ok ι x,rfl⟩
 | a::b::l,x,ys=>by
  simp only [cells,vals,VRs]
  constructor
  ·rintro ⟨y,zs,rfl,h,h'⟩
   rw [(a.ok_iff ι _ y).1 h,(nu ι (b::l) x.2 zs).1 h']
  ·rintro rfl
   exact ⟨_,_,rfl,a.ok ι _,(nu ι (b::l) x.2 _).2 rfl⟩
theorem kv:∀(t:List Lf) (x:den t),(cells t x).length=t.length
 | [],_=>rfl
 | [_],_=>rfl
 | _::b::l,x=>by simp [cells,kv (b::l) x.2]
theorem jL:∀(t:List Lf) (x:den t),(vals t x).length=t.length
 | [],_=>rfl
 | [_],_=>rfl
 | _::b::l,x=>by simp [vals,jL (b::l) x.2]
inductive Blk where
 | dead
 | rows (t:List Lf) (l:List (den t))
 | cells (l:List V)
 | ints (k:IntKind) (n:Nat) (l:List Int)
 | iter (s:aa) (pos:Nat)
 | mp (k:IntKind) (l:List (Int×Nat))
 deriving Inhabited
def NF (fr:Nat×Nat) (n:Nat):Prop:=∀j,j<n->¬(fr.1<=j/\j<fr.2)
def BR (ι:Inj) (q:Rf):Blk->Obj->Prop
 | .dead,_=>True
 | .rows t l,o=>∃cs e fr,o=.cells cs e fr/\l.length=q.n/\q.n<=q.k/\q.o+q.k*t.length<=cs.size/\(cs.toList.drop q.o).take (l.length*t.length)=l.flatMap (vals t)/\(q.fz=true\/NF fr cs.size)
 | .cells l,o=>∃cs e fr,o=.cells cs e fr/\VRs ι l cs.toList/\NF fr cs.size
 | .ints k n l,o=>∃e fr,o=.cells (l.map (Value.int k)).toArray e fr/\l.length=n/\NF fr n
 | .iter s pos,o=>o=.stringIter ⟨s.toArray⟩ pos
 | .mp k l,o=>∃es clock,o=.map es clock/\es.toList.map (λe=>(e.key,e.val))=l.map λp=>(Value.int k p.1,fnV p.2 #[])
theorem BR.mono {ι ι':Inj} {q:Rf} (h:∀b r,ι b=some r->ι' b=some r):∀{blk:Blk} {o:Obj},BR ι q blk o->BR ι' q blk o
 | .dead,_,_=>trivial
 | .rows t l,o,hb=>hb
 | .cells l,o,hb=>by
  obtain ⟨cs,e,fr,h1,h2,h3⟩:=hb
  exact ⟨cs,e,fr,h1,VRs.mono h _ _ h2,h3⟩
 | .ints k n l,o,hb=>hb
 | .iter s pos,o,hb=>hb
 | .mp k l,o,hb=>hb
def look {α:Type}:List (Nat×α)->Nat->Option α
 | [],_=>none
 | (k,v)::l,n=>cond (Nat.beq k n) (some v) (look l n)
theorem aU {α:Type} (k:Nat) (v:α) (l:List (Nat×α)) (n:Nat):look ((k,v)::l) n=if k=n then some v else look l n:=by
 simp only [look]
 by_cases h:k=n
 ·subst h;simp
 ·have:Nat.beq k n=false:=by
   cases hb:Nat.beq k n
   ·rfl
   ·exact absurd (bE hb) h
  simp [this,h]
structure St where
 T:List (Nat×Option V)
 H:List (Nat×Blk)
 nb:Nat
  /-- So many blocks came in. -/
 lo:Nat:=0
  /-- The first so many of them are only read. -/
 ro:Nat:=0
  /-- From this one on they may be moved (blocks of rows, by append). -/
 rb:Nat:=0
 deriving Inhabited
def TR (ι:Inj) (T:List (Nat×Option V)) (tm:Array Value):Prop:=
 ∀t v,look T t=some (some v)->∃x,tm[t]?=some x/\VR ι v x
def BW (ι:Inj) (w:World) (b:Nat) (blk:Blk):Prop:=
 (∃q o,ι b=some (some q)/\w.heap[q.r]?=some o/\BR ι q blk o)\/(ι b=some none/\∃t,blk=.rows t [])
structure WR (ι:Inj) (H:List (Nat×Blk)) (nb:Nat) (w:World):Prop where
 inj:∀b b' q q',ι b=some (some q)->ι b'=some (some q')->q.r=q'.r->b=b'\/(q.fz=true/\q'.fz=true)
 low:∀b q,ι b=some q->b<nb
 dom:∀b q,ι b=some (some q)->q.r<w.heap.size
 blk:∀b blk,look H b=some blk->blk≠.dead->BW ι w b blk
theorem BW.real {ι:Inj} {w:World} {b:Nat} {blk:Blk} (h:BW ι w b blk) (hn:∀t,blk≠.rows t []):∃q o,ι b=some (some q)/\w.heap[q.r]?=some o/\BR ι q blk o:=by
 rcases h with h | ⟨_,t,h⟩
 ·exact h
 ·exact absurd h (hn t)
theorem BW.map {ι ι':Inj} {w w':World} {b b':Nat} {blk blk':Blk} (h:BW ι w b blk) (hb:ι' b'=ι b) (hw:∀q,ι b=some (some q)->w'.heap[q.r]?=w.heap[q.r]?)
  (hr:∀q o,BR ι q blk o->BR ι' q blk' o) (hn:∀t,blk=.rows t []->blk'=.rows t []):BW ι' w' b' blk':=by
 rcases h with ⟨q,o,h1,h2,h3⟩ | ⟨h1,t,h2⟩
 ·exact .inl ⟨q,o,by rw [hb,h1],by rw [hw q h1,h2],hr q o h3⟩
 ·exact .inr ⟨by rw [hb,h1],t,hn t h2⟩
structure Fr (ι0:Inj) (w0 w:World):Prop where
 os:w.os=w0.os
 tape:w.tape=w0.tape
 output:w.output=w0.output
 size:w0.heap.size<=w.heap.size
 blk:∀k,k<w0.heap.size->(∀b q,ι0 b=some (some q)->q.r≠k)->w.heap[k]?=w0.heap[k]?
theorem Fr.refl (ι0:Inj) (w:World):Fr ι0 w w:=⟨rfl,rfl,rfl,aV _,λ_ _ _=>rfl⟩
def roI (ι0:Inj) (ro:Nat):Inj:=λb=>cond (Nat.blt b ro) none (ι0 b)
theorem pw {ι0:Inj} {ro b:Nat} {r:Option Rf} (h:roI ι0 ro b=some r):ι0 b=some r:=by
 unfold roI at h
 cases hb:Nat.blt b ro with
 | true=>simp [hb] at h
 | false=>simpa [hb] using h
theorem Jn {ι0:Inj} {ro b:Nat} {r:Option Rf} (h:roI ι0 ro b=some r):ro<=b:=by
 unfold roI at h
 rcases aG b ro with h' | h'
 ·rw [show Nat.blt b ro=true from dG h'] at h;cases h
 ·exact h'
theorem Bl {ι0:Inj} {ro b:Nat} {r:Option Rf} (h:ι0 b=some r) (hb:ro<=b):roI ι0 ro b=some r:=by
 have:Nat.blt b ro=false:=by
  cases hx:Nat.blt b ro with
  | false=>rfl
  | true=>have:b<ro:=aI hx;omega
 simp [roI,this,h]
def GL (R:Inj) (w:World):Prop:=∃L:List (Nat×Obj),TQ L/\(∀x∈L,w.heap[x.1]?=some x.2)/\∀x∈L,∀b q,R b=some (some q)->q.r≠x.1
theorem GL.mono {R R':Inj} {w:World} (h:GL R w) (hR:∀b q,R' b=some (some q)->(∃b' q',R b'=some (some q')/\q'.r=q.r)\/w.heap.size<=q.r):GL R' w:=by
 obtain ⟨L,h1,h2,h3⟩:=h
 refine ⟨L,h1,h2,λx hx b q hb=>?_⟩
 rcases hR b q hb with ⟨b',q',h4,h5⟩ | h4
 ·rw [<-h5];exact h3 x hx b' q' h4
 ·have hs:x.1<w.heap.size:=by
   rcases aG x.1 w.heap.size with h | h
   ·exact h
   ·have:=h2 x hx;rw [vU h] at this;cases this
  omega
structure Base where
 w:World
 D:List Deferred:=[]
structure Inv (n:Nat) (ι0:Inj) (w0:Base) (ι:Inj) (s:St) (a:Act) (w:World):Prop where
 size:a.tmps.size=n
 defers:a.defers=w0.D
 tmps:TR ι s.T a.tmps
 mem:WR ι s.H s.nb w
 ext:∀b q,ι0 b=some q->ι b=some q\/s.rb<=b
 new:∀b q,ι b=some (some q)->(∃q',ι0 b=some (some q')/\q'.r=q.r)\/w0.w.heap.size<=q.r
 fr:Fr (roI ι0 s.ro) w0.w w
 low:∀b r,ι0 b=some r->b<s.lo
 fz:∀b q,ι b=some (some q)->q.fz=true->b<s.ro
 gl:GL (roI ι0 s.ro) w0.w
theorem Inv.glHere {n:Nat} {ι0 ι:Inj} {w0:Base} {s:St} {a:Act} {w:World} (h:Inv n ι0 w0 ι s a w) {R:Inj} (hR:∀b q,R b=some (some q)->ι b=some (some q)/\s.ro<=b):GL R w:=by
 obtain ⟨L,h1,h2,h3⟩:=h.gl
 have hs:∀x∈L,x.1<w0.w.heap.size:=by
  intro x hx
  rcases aG x.1 w0.w.heap.size with h | h
  ·exact h
  ·have:=h2 x hx;rw [vU h] at this;cases this
 refine ⟨L,h1,λx hx=>?_,λx hx b q hb=>?_⟩
 ·rw [h.fr.blk x.1 (hs x hx) (h3 x hx)];exact h2 x hx
 ·obtain ⟨h4,h5⟩:=hR b q hb
  rcases h.new b q h4 with ⟨q',h6,h7⟩ | h6
  ·rw [<-h7];exact h3 x hx b q' (Bl h6 h5)
  ·have:=hs x hx;omega
def upd (ι:Inj) (b:Nat) (r:Option Rf):Inj:=λc=>if c=b then some r else ι c
theorem oN {ι:Inj} {b:Nat} {r:Option Rf} (h:ι b=none):∀c q,ι c=some q->upd ι b r c=some q:=by
 intro c q hc
 unfold upd
 split
 ·rename_i e;subst e;rw [h] at hc;cases hc
 ·exact hc
theorem TR.mono {ι ι':Inj} (h:∀b r,ι b=some r->ι' b=some r) {T:List (Nat×Option V)} {tm:Array Value} (ht:TR ι T tm):TR ι' T tm:=
 λt v hv=>let ⟨x,h1,h2⟩:=ht t v hv;⟨x,h1,VR.mono h _ _ h2⟩
theorem TR.put {ι:Inj} {T:List (Nat×Option V)} {a:Act} {d:Nat} {v:Option V} {x:Value} (ht:TR ι T a.tmps) (hd:d<a.tmps.size)
  (hv:∀u,v=some u->VR ι u x):TR ι ((d,v)::T) (a.put (some d) x).tmps:=by
 intro t u hu
 rw [aU] at hu
 simp only [Act.put]
 split at hu
 ·rename_i e;subst e
  simp only [aq] at hu
  exact ⟨x,by simp [hd],hv u hu⟩
 ·rename_i hne
  obtain ⟨y,h1,h2⟩:=ht t u hu
  exact ⟨y,by rw [QV hne];exact h1,h2⟩
def setObj (w:World) (r:Nat) (o:Obj):World:={ w with heap:=w.heap.setIfInBounds r o }
theorem jw (w:World) (o:Obj):(w.alloc o).heap[w.heap.size]?=some o:=by
 show (w.heap.push o)[w.heap.size]?=some o
 simp
theorem jD (w:World) (o:Obj) {k:Nat} (h:k≠w.heap.size):(w.alloc o).heap[k]?=w.heap[k]?:=by
 show (w.heap.push o)[k]?=_
 rw [Array.getElem?_push,ab h]
theorem ri {w:World} {r:Nat} {o:Obj} (h:w.heap[r]?=some o):r<w.heap.size:=by
 rcases aG r w.heap.size with h' | h'
 ·exact h'
 ·simp [vU h'] at h
theorem WR.draws {ι:Inj} {H:List (Nat×Blk)} {nb:Nat} {w:World} (h:WR ι H nb w) (n:Nat):WR ι H nb { w with drawn:=n }:=
 ⟨h.inj,h.low,h.dom,h.blk⟩
theorem rN {w:World} {r k:Nat} (o:Obj) (h:r≠k):(setObj w r o).heap[k]?=w.heap[k]?:=by
 simp [setObj,QV h]
theorem WR.write {ι:Inj} {H:List (Nat×Blk)} {nb b:Nat} {q:Rf} {w:World} {blk:Blk} {o:Obj} (h:WR ι H nb w) (hb:ι b=some (some q)) (hz:q.fz=false) (ho:BR ι q blk o):
  WR ι ((b,blk)::H) nb (setObj w q.r o):=by
 have hr:=h.dom b q hb
 refine ⟨h.inj,h.low,λc q hc=>by simpa [setObj] using h.dom c q hc,λc blk' hl hd=>?_⟩
 rw [aU] at hl
 split at hl
 ·rename_i e;subst e
  simp only [aq] at hl;subst hl
  exact .inl ⟨q,o,hb,by simp [setObj,hr],ho⟩
 ·rename_i hne
  exact (h.blk c blk' hl hd).map rfl (λp hp=>rN o λe=>(h.inj b c q p hb hp e).elim hne λhh=>by rw [hz] at hh;cases hh.1) (λ_ _ x=>x) (λ_ x=>x)
theorem WR.alloc {ι:Inj} {H:List (Nat×Blk)} {nb nb' f:Nat} {q:Rf} {w:World} {blk:Blk} {o:Obj} (h:WR ι H nb w) (hf:ι f=none) (hn:nb<=nb') (hfn:f<nb')
  (hq:q.r=w.heap.size) (ho:BR (upd ι f (some q)) q blk o):WR (upd ι f (some q)) ((f,blk)::H) nb' (w.alloc o):=by
 have hext:=oN (r:=some q) hf
 refine ⟨λb b' r r' h1 h2 hr=>?_,λc p hc=>?_,λc p hc=>?_,λc blk' hl hd=>?_⟩
 ·unfold upd at h1 h2
  split at h1<;>split at h2
  ·rename_i e1 e2;exact .inl (e1.trans e2.symm)
  ·simp only [aq] at h1;subst h1
   have:=h.dom _ _ h2
   omega
  ·simp only [aq] at h2;subst h2
   have:=h.dom _ _ h1
   omega
  ·exact h.inj _ _ _ _ h1 h2 hr
 ·unfold upd at hc
  split at hc
  ·rename_i e;subst e;exact hfn
  ·have:=h.low _ _ hc
   omega
 ·unfold upd at hc
  split at hc
  ·simp only [aq] at hc;subst hc;simp;omega
  ·have:=h.dom _ _ hc
   simp;omega
 ·rw [aU] at hl
  split at hl
  ·rename_i e;subst e
   simp only [aq] at hl;subst hl
   exact .inl ⟨q,o,by simp [upd],by rw [hq];exact jw w o,ho⟩
  ·rename_i hne
   refine (h.blk c blk' hl hd).map (by simp [upd,Ne.symm hne]) (λp hp=>?_) (λ_ _ x=>BR.mono hext x) (λ_ x=>x)
   have:=h.dom _ _ hp
   exact jD w o (by omega)
theorem Fr.draws {ι0:Inj} {w0 w:World} (h:Fr ι0 w0 w) (n:Nat):Fr ι0 w0 { w with drawn:=n }:=⟨h.os,h.tape,h.output,h.size,h.blk⟩
theorem Fr.alloc {ι0:Inj} {w0 w:World} (h:Fr ι0 w0 w) (o:Obj):Fr ι0 w0 (w.alloc o):=by
 refine ⟨h.os,h.tape,h.output,by have:=h.size;simp;omega,λk hk hb=>?_⟩
 have:=h.size
 rw [jD w o (by omega)];exact h.blk k hk hb
theorem Fr.write {ι0:Inj} {w0 w:World} (h:Fr ι0 w0 w) {r:Nat} (hr:(∃b q,ι0 b=some (some q)/\q.r=r)\/w0.heap.size<=r) (o:Obj):Fr ι0 w0 (setObj w r o):=by
 refine ⟨h.os,h.tape,h.output,by simpa [setObj] using h.size,λk hk hb=>?_⟩
 have hne:r≠k:=by
  rintro rfl
  rcases hr with ⟨b,q,hb',hq⟩ | hr
  ·exact hb b q hb' hq
  ·omega
 simp only [setObj,QV hne]
 exact h.blk k hk hb
theorem bH {w:World} {r o:Nat} {cs:Array Value} {e:TypeId} {fr:Nat×Nat} (h:w.heap[r]?=some (.cells cs e fr)):
  w.cell? ⟨r,o,none⟩=cs[o]?:=by
 simp [World.cell?,h]
theorem qm {w:World} {r o:Nat} {cs:Array Value} {e:TypeId} {fr:Nat×Nat} (h:w.heap[r]?=some (.cells cs e fr)) (hn:NF fr cs.size) (ho:o<cs.size):
  w.frozen? ⟨r,o,none⟩=false:=by
 have:=hn o ho
 simp only [World.frozen?,h]
 by_cases h1:fr.1<=o<;>by_cases h2:o<fr.2<;>simp_all
theorem Bi {w:World} {r o:Nat} {v:Value} {cs:Array Value} {e:TypeId} {fr:Nat×Nat} (h:w.heap[r]?=some (.cells cs e fr)):
  w.setCell ⟨r,o,none⟩ v=setObj w r (.cells (cs.setIfInBounds o v) e fr):=by
 unfold World.setCell setObj
 congr 1
 apply Qv
 intro k
 rw [Array.getElem?_modify,QJ]
 have hr:=ri h
 by_cases hk:r=k
 ·subst hk
  rw [ae rfl,ae rfl,ae hr,h]
  simp
 ·rw [ab hk,ab hk]
theorem zf (w:World) (r:Nat) (o o':Obj):setObj (setObj w r o) r o'=setObj w r o':=by
 simp [setObj]
theorem D3 {w:World} {r:Nat} {o:Obj} (h:w.heap[r]?=some o):setObj w r o=w:=by
 unfold setObj
 congr 1
 apply Qv
 intro k
 rw [QJ]
 by_cases hk:r=k
 ·subst hk
  rw [ae rfl,ae (ri h),h]
 ·rw [ab hk]
theorem xm {w:World} {r:Nat} {o o':Obj} (h:w.heap[r]?=some o):(setObj w r o').heap[r]?=some o':=by
 have hr:=ri h
 simp [setObj,hr]
end Go.Abs
