
/- The abstract values and the abstract memory of the interpreter, and how they relate to the model's own.
   Conditions: none; everything here is generic over the program. -/
import Derived.Tactics
import Derived.Below
import Derived.Test.YtfiponokimbeeaaGreatDoorGlob
set_option linter.unusedSimpArgs false
set_option linter.unusedVariables false
namespace Go
abbrev aa:=List UInt8
abbrev ll:=@Array.ext'
abbrev TP:=@Array.ext_getElem?
abbrev qU:=@Array.getD_eq_getD_getElem?
abbrev SR:=@Array.getElem?_append_left
abbrev V9:=@Array.getElem?_eq_getElem
abbrev wR:=@Array.getElem?_eq_none
abbrev Vn:=@Array.getElem?_replicate
abbrev Ry:=@Array.getElem?_setIfInBounds
abbrev Rq:=@Array.getElem?_setIfInBounds_ne
abbrev qk:=@Array.getElem?_toList
abbrev Ln:=@Array.length_toList
abbrev QJ:=@Array.mapM_eq_mapM_toList
abbrev Ha:=@Array.map_empty
abbrev wq:=@Array.toList_append
abbrev vb:=@BEq.rfl
abbrev CQ:=@Bool.and_eq_false_iff
abbrev az:=@Bool.and_eq_true
abbrev wg:=@Bool.and_false
abbrev D7:=@Bool.and_true
abbrev tN:=@Bool.eq_iff_iff
abbrev xF:=@Bool.false_and
abbrev br:=@Bool.false_eq_true
abbrev o8:=@Bool.false_or
abbrev Gz:=@Bool.not_eq_true
abbrev kW:=@Bool.not_eq_true'
abbrev ij:=@Bool.not_false
abbrev co:=@Bool.not_true
abbrev oV:=@Bool.or_eq_false_iff
abbrev iO:=@Bool.or_eq_true
abbrev wV:=@Bool.or_false
abbrev nI:=@Bool.true_and
abbrev HS:=@Bool.true_or
abbrev K8:=@ByteArray.ext
abbrev HK:=@Classical.em
abbrev tC:=@Go.Code.wp_mono
abbrev NW:=@Decidable.not_not
abbrev J4:=@Int.dvd_of_emod_eq_zero
abbrev K4:=@Int.emod_lt_of_pos
abbrev LL:=@Int.emod_nonneg
abbrev yZ:=@Int.le_refl
abbrev zf:=@Int.mul_comm
abbrev QC:=@Int.mul_le_mul_of_nonneg_right
abbrev Gm:=@Int.natCast_mul
abbrev F8:=@Int.natCast_nonneg
abbrev K3:=@Int.sub_add_cancel
abbrev QR:=@Int.tdiv_eq_ediv_of_nonneg
abbrev KL:=@Int.tmod_eq_emod
abbrev Nj:=@Int.tmod_eq_emod_of_nonneg
abbrev cf:=@Int.toNat_natCast
abbrev G2:=@Int.toNat_of_nonneg
abbrev yQ:=@Int.zero_sub
abbrev Gw:=@Go.IntKind.wrap_i64
abbrev CX:=@List.all_append
abbrev mK:=@List.all_cons
abbrev cL:=@List.all_eq_true
abbrev sy:=@List.any_append
abbrev qE:=@List.any_cons
abbrev sc:=@List.any_eq_false
abbrev ui:=@List.any_eq_true
abbrev iQ:=@List.append_assoc
abbrev nP:=@List.append_nil
abbrev eI:=@List.cons_append
abbrev Kr:=@List.countP_cons
abbrev G9:=@List.drop_append
abbrev iR:=@List.drop_drop
abbrev sj:=@List.drop_eq_getElem_cons
abbrev jm:=@List.drop_eq_nil_of_le
abbrev Da:=@List.drop_left'
abbrev vt:=@List.drop_length
abbrev oJ:=@List.drop_succ_cons
abbrev wu:=@List.drop_take
abbrev cM:=@List.drop_zero
abbrev wG:=@List.eq_nil_of_length_eq_zero
abbrev D2:=@List.ext_getElem?
abbrev JO:=@List.filter_append
abbrev Qv:=@List.filter_cons_of_neg
abbrev Qs:=@List.filter_cons_of_pos
abbrev GA:=@List.filter_filter
abbrev C7:=@List.findSome?_cons
abbrev QV:=@List.findSome?_eq_none_iff
abbrev Kq:=@List.flatMap_append
abbrev qi:=@List.flatMap_cons
abbrev GQ:=@List.foldl_append
abbrev vf:=@List.foldl_cons
abbrev Hj:=@List.foldl_nil
abbrev BS:=@List.getD_eq_getElem?_getD
abbrev nG:=@List.getElem?_append_left
abbrev qd:=@List.getElem?_append_right
abbrev HF:=@List.getElem?_cons_succ
abbrev mB:=@List.getElem?_cons_zero
abbrev mL:=@List.getElem?_drop
abbrev be:=@List.getElem?_eq_getElem
abbrev gW:=@List.getElem?_eq_none
abbrev qR:=@List.getElem?_eq_some_iff
abbrev mO:=@List.getElem?_map
abbrev KE:=@List.getElem?_take
abbrev qf:=@List.getElem?_take_of_lt
abbrev Hq:=@List.getElem_mem
abbrev qZ:=@List.head?_cons
abbrev Hf:=@List.isEmpty_eq_false_iff
abbrev aL:=@List.length_append
abbrev aC:=@List.length_cons
abbrev bR:=@List.length_drop
abbrev Ak:=@List.length_filter_le
abbrev AY:=@List.length_filter_lt_length_iff_exists
abbrev uV:=@List.length_map
abbrev ba:=@List.length_nil
abbrev FH:=@List.length_pos_of_mem
abbrev uu:=@List.length_reverse
abbrev da:=@List.length_take
abbrev E5:=@List.mapM_cons
abbrev E7:=@List.map_append
abbrev fX:=@List.map_cons
abbrev sJ:=@List.map_map
abbrev n7:=@List.mem_append
abbrev dr:=@List.mem_cons
abbrev gy:=@List.mem_cons_of_mem
abbrev pC:=@List.mem_cons_self
abbrev nH:=@List.mem_filter
abbrev eZ:=@List.mem_map
abbrev fZ:=@List.mem_of_getElem?
abbrev kR:=@List.mem_range
abbrev BB:=@List.mem_range'_1
abbrev Fh:=@List.mem_reverse
abbrev yC:=@List.mem_singleton
abbrev eK:=@List.nil_append
abbrev FY:=@List.nodup_append
abbrev yu:=@List.nodup_cons
abbrev sW:=@List.not_mem_nil
abbrev xg:=@List.range'_succ
abbrev sC:=@List.replicate_succ
abbrev wJ:=@List.reverse_reverse
abbrev JA:=@List.set_eq_take_append_cons_drop
abbrev ym:=@List.size_toArray
abbrev qc:=@List.take_add_one
abbrev FO:=@List.take_append
abbrev uo:=@List.take_append_drop
abbrev uJ:=@List.take_append_of_le_length
abbrev FZ:=@List.take_left
abbrev nQ:=@List.take_length
abbrev i7:=@List.take_of_length_le
abbrev nF:=@List.take_succ_cons
abbrev Lh:=@List.take_succ_eq_append_getElem
abbrev Ac:=@List.take_take
abbrev mH:=@List.take_zero
abbrev gY:=@Nat.add_assoc
abbrev pi:=@Nat.add_comm
abbrev gU:=@Nat.add_mul
abbrev xz:=@Nat.add_right_cancel_iff
abbrev Fz:=@Nat.add_sub_cancel
abbrev Ep:=@Nat.add_sub_cancel_left
abbrev cN:=@Nat.add_zero
abbrev jt:=@Nat.beq_eq
abbrev cZ:=@Nat.ble_eq_true_of_le
abbrev Bd:=@Nat.div_le_self
abbrev Ew:=@Nat.div_mul_le_self
abbrev sS:=@Nat.div_one
abbrev bK:=@Nat.eq_of_beq_eq_true
abbrev AK:=@Nat.eq_zero_or_pos
abbrev AD:=@Nat.le_add_right
abbrev EY:=@Nat.le_max_left
abbrev aI:=@Nat.le_of_ble_eq_true
abbrev wC:=@Nat.le_of_eq
abbrev aY:=@Nat.le_refl
abbrev ri:=@Nat.le_trans
abbrev BC:=@Nat.le_zero
abbrev FR:=@Nat.lt_irrefl
abbrev rh:=@Nat.lt_of_lt_of_le
abbrev aH:=@Nat.lt_or_ge
abbrev E3:=@Nat.lt_trichotomy
abbrev sO:=@Nat.min_eq_left
abbrev rj:=@Nat.mod_eq_of_lt
abbrev AI:=@Nat.mod_lt
abbrev Ft:=@Nat.mul_assoc
abbrev uw:=@Nat.mul_comm
abbrev Ei:=@Nat.mul_le_mul
abbrev ot:=@Nat.mul_le_mul_right
abbrev qD:=@Nat.mul_one
abbrev zV:=@Nat.ne_of_lt
abbrev BG:=@Nat.one_le_pow
abbrev yo:=@Nat.one_mul
abbrev AL:=@Nat.or_comm
abbrev oq:=@Nat.pow_le_pow_right
abbrev s9:=@Nat.pow_succ
abbrev AE:=@Nat.pow_zero
abbrev Bh:=@Nat.sub_self
abbrev sY:=@Nat.sub_zero
abbrev dq:=@Nat.zero_add
abbrev f7:=@Nat.zero_le
abbrev Aw:=@Nat.zero_mul
abbrev Fj:=@Go.Oper.apart_spec
abbrev yf:=@Option.getD_some
abbrev BN:=@Option.isSome_iff_exists
abbrev yp:=@Option.isSome_none
abbrev ja:=@Option.map_none
abbrev eX:=@Option.map_some
abbrev E9:=@Option.none_or
abbrev aZ:=@Option.some.inj
abbrev au:=@Option.some.injEq
abbrev bC:=@Prod.mk.injEq
abbrev ay:=@Go.Result.andThen_ok
abbrev wM:=@Go.Result.ok.injEq
abbrev aw:=@Go.Sem.run_bind
abbrev aD:=@Go.Sem.run_pure
abbrev uP:=@Sum.inr.inj
abbrev om:=@Sum.inr.injEq
abbrev gv:=@UInt8.toNat_inj
abbrev EX:=@UInt8.toNat_ofNat'
abbrev xi:=@Go.World.alloc_eq
abbrev uB:=@and_congr_right
abbrev xl:=@and_true
abbrev aM:=@beq_eq_false_iff_ne
abbrev bI:=@beq_iff_eq
abbrev sP:=@beq_self_eq_true
abbrev dJ:=@bne_self_eq_false
abbrev af:=@cond_false
abbrev ah:=@cond_true
abbrev ch:=@congrArg
abbrev nU:=@decide_eq_decide
abbrev aq:=@decide_eq_false
abbrev uK:=@decide_eq_false_iff_not
abbrev am:=@decide_eq_true
abbrev cj:=@decide_eq_true_eq
abbrev nD:=@decide_false
abbrev oh:=@decide_true
abbrev pM:=@exists_congr
abbrev wQ:=@false_and
abbrev EU:=@forall_eq_or_imp
abbrev aA:=@if_false
abbrev ab:=@if_neg
abbrev ae:=@if_pos
abbrev aJ:=@if_true
abbrev FC:=@not_false_eq_true
abbrev uX:=@not_true_eq_false
abbrev uz:=@or_false
abbrev xL:=@Go.run_loadCells_list
abbrev xU:=@Go.run_newObj
abbrev aV:=@Go.run_underlying
abbrev jI:=@true_and
end Go
namespace Go.Abs
inductive Lf where
 | i (k:IntKind)
 | bo
 | s
 deriving Inhabited,DecidableEq
@[reducible] def Lf.den:Lf->Type
 | .i _=>Int
 | .bo=>Bool
 | .s=>aa
@[reducible] def den:List Lf->Type
 | []=>Unit
 | [a]=>a.den
 | a::b::l=>a.den×den (b::l)
inductive V where
 | unk
 | pr (z b j o:Nat)
 | ws (b:Nat)
 | rs (z b j n:Nat) (cap:Option Nat)
 | b (x:Bool)
 | i (k:IntKind) (n:Int)
 | s (l:aa)
 | pn
 | p (b o:Nat)
 | sn
 | sl (b o len:Nat) (cap:Option Nat)
 | fn (f:Nat) (cap:List V)
 | nf
 | ni
 | it (t:Nat) (v:V)
 | ag (l:List V)
 | ai (k:IntKind) (n:Nat) (l:List Int)
 | tp (l:List V)
 | mp (b:Nat)
 deriving Inhabited
structure Rf where
 r:Nat
 n:Nat:=0
 k:Nat:=0
  /-- Of a block of rows: where the rows begin. -/
 o:Nat:=0
  /-- Is it only read? Then others may lie there, too. -/
 fz:Bool:=false
abbrev Rf.of (r n k:Nat):Rf:=⟨r,n,k,0,false⟩
abbrev Inj:=Nat->Option (Option Rf)
def fnW (K f:Nat) (a:Array Value):Value:=
 match Nat.blt f K with
 | true=>.func (.func f) #[] a
 | false=>.func (.func (f - K)) a #[]
def fnV (f:Nat) (a:Array Value):Value:=fnW 1000000 f a
theorem VE (K f:Nat) (a:Array Value):∃g b c,fnW K f a=.func (.func g) b c:=by
 unfold fnW;split
 ·exact ⟨_,_,_,rfl⟩
 ·exact ⟨_,_,_,rfl⟩
theorem y6 (f:Nat) (a:Array Value):∃g b c,fnV f a=.func (.func g) b c:=VE _ f a
theorem RZ {K f:Nat} (h:Nat.blt f K=true) (a:Array Value):fnW K f a=.func (.func f) #[] a:=by
 unfold fnW;rw [h]
theorem Fp {f:Nat} (h:Nat.blt f 1000000=true) (a:Array Value):fnV f a=.func (.func f) #[] a:=RZ h a
theorem OP (K f:Nat) (a:Array Value):fnW K (f+K) a=.func (.func f) a #[]:=by
 unfold fnW;cases h:Nat.blt (f+K) K with
 | true=>have:f+K<K:=aI h;omega
 | false=>simp
theorem Ot (f:Nat) (a:Array Value):fnV (f+1000000) a=.func (.func f) a #[]:=OP _ f a
def fnFW (K f:Nat):Nat:=match Nat.blt f K with | true=>f | false=>f - K
def fnAW {α:Type} (K f:Nat) (args cap:List α):List α:=match Nat.blt f K with | true=>args++cap | false=>cap++args
def fnF (f:Nat):Nat:=fnFW 1000000 f
def fnA {α:Type} (f:Nat) (args cap:List α):List α:=fnAW 1000000 f args cap
def Qo (c:Option Nat) (k:Nat):Prop:=∀m,c=some m->k=m
theorem kI {k:Nat}:Qo none k:=λ_ h=>by cases h
theorem rG {k:Nat}:Qo (some k) k:=λ_ h=>by cases h;rfl
mutual
def VR (ι:Inj):V->Value->Prop
 | .b x,v=>v=.bool x
 | .i k n,v=>v=.int k n
 | .s l,v=>v=.string ⟨l.toArray⟩
 | .pn,v=>v=.pointer none
 | .p b o,v=>∃q,ι b=some (some q)/\v=.pointer (some ⟨q.r,o,none⟩)
 | .sn,v=>v=.slice none 0 0
 | .sl b o len cap,v=>∃q c,ι b=some (some q)/\(∀n,cap=some n->c=n)/\len<=c/\v=.slice (some ⟨q.r,o,none⟩) len c
 | .unk,v=>v.cells=#[v]/\v.oneCell'=true
 | .pr z b j o,v=>∃q,ι b=some (some q)/\v=.pointer (some ⟨q.r,q.o+(j*z+o),none⟩)
 | .ws b,v=>(∃q,ι b=some (some q)/\v=.slice (some ⟨q.r,q.o,none⟩) q.n q.k)\/(ι b=some none/\∃a,v=.slice a 0 0)
 | .rs z b j n e,v=>(∃q c o,ι b=some (some q)/\(n<=c/\Qo e c)/\(0<n->o=q.o+j*z)/\v=.slice (some ⟨q.r,o,none⟩) n c)\/(ι b=some none/\(n=0/\Qo e 0)/\∃a,v=.slice a 0 0)
 | .fn f cap,v=>∃d,v=fnV f d/\VRs ι cap d.toList
 | .nf,v=>v=.nilFunc
 | .ni,v=>v=.nilIface
 | .it t x,v=>∃y,v=.iface t y/\VR ι x y
 | .ag l,v=>∃d:Array Value,v=.agg d/\VRs ι l d.toList
 | .ai k n l,v=>l.length=n/\v=.agg (l.map (Value.int k)).toArray
 | .tp l,v=>∃d:Array Value,v=.tuple d/\VRs ι l d.toList
 | .mp b,v=>∃q,ι b=some (some q)/\v=.map (some q.r)
def VRs (ι:Inj):List V->List Value->Prop
 | [],a=>a=[]
 | x::l,a=>∃y b,a=y::b/\VR ι x y/\VRs ι l b
end
mutual
theorem VR.mono {ι F:Inj} (h:∀b r,ι b=some r->F b=some r):∀(v:V) (x:Value),VR ι v x->VR F v x
 | .b _,_,hx | .i _ _,_,hx | .s _,_,hx | .pn,_,hx | .sn,_,hx | .nf,_,hx | .ni,_,hx | .ai _ _ _,_,hx | .unk,_,hx=>by simpa [VR] using hx
 | .p b o,x,hx | .pr z b j o,x,hx | .mp b,x,hx=>by
  simp only [VR] at hx ⊢;obtain ⟨r,C,E⟩:=hx;exact ⟨r,h _ _ C,E⟩
 | .ws b,x,hx=>by
  simp only [VR] at hx ⊢;rcases hx with ⟨q,C,E⟩ | ⟨C,E⟩
  ·exact .inl ⟨q,h _ _ C,E⟩
  ·exact .inr ⟨h _ _ C,E⟩
 | .rs z b j n _,x,hx=>by
  simp only [VR] at hx ⊢;rcases hx with ⟨q,c,o,C,E⟩ | ⟨C,E⟩
  ·exact .inl ⟨q,c,o,h _ _ C,E⟩
  ·exact .inr ⟨h _ _ C,E⟩
 | .sl b o len cap,x,hx=>by
  simp only [VR] at hx ⊢;obtain ⟨r,c,C,E⟩:=hx;exact ⟨r,c,h _ _ C,E⟩
 | .fn f cap,x,hx=>by
  simp only [VR] at hx ⊢;obtain ⟨G,C,E⟩:=hx;exact ⟨G,C,VRs.mono h _ _ E⟩
 | .it t v,x,hx=>by
  simp only [VR] at hx ⊢;obtain ⟨y,C,E⟩:=hx;exact ⟨y,C,VR.mono h _ _ E⟩
 | .ag l,x,hx=>by
  simp only [VR] at hx ⊢;obtain ⟨G,C,E⟩:=hx;exact ⟨G,C,VRs.mono h _ _ E⟩
 | .tp l,x,hx=>by
  simp only [VR] at hx ⊢;obtain ⟨G,C,E⟩:=hx;exact ⟨G,C,VRs.mono h _ _ E⟩
theorem VRs.mono {ι C:Inj} (h:∀b r,ι b=some r->C b=some r):∀(l:List V) (E:List Value),VRs ι l E->VRs C l E
 | [],_,hx=>by simpa [VRs] using hx
 | v::l,E,hx=>by
  simp only [VRs] at hx ⊢;obtain ⟨y,J,G,O,F⟩:=hx;exact ⟨y,J,G,VR.mono h _ _ O,VRs.mono h _ _ F⟩
end
theorem VRs.length {ι:Inj}:∀{l:List V} {xs:List Value},VRs ι l xs->xs.length=l.length
 | [],_,h=>by simp only [VRs] at h;simp [h]
 | _::_,_,h=>by
  simp only [VRs] at h;obtain ⟨y,E,rfl,_,C⟩:=h;simp [VRs.length C]
theorem VRs.get {ι:Inj}:∀{l:List V} {xs:List Value} {j:Nat} {v:V},VRs ι l xs->l[j]?=some v->∃x,xs[j]?=some x/\VR ι v x
 | [],_,_,_,_,C=>by simp at C
 | _::_,_,0,_,h,C=>by
  simp only [VRs] at h;obtain ⟨y,F,rfl,G,_⟩:=h;simp only [mB,au] at C;subst C;exact ⟨y,by simp,G⟩
 | _::_,_,j+1,_,h,C=>by
  simp only [VRs] at h;obtain ⟨y,F,rfl,_,E⟩:=h;simp only [HF] at C ⊢;exact VRs.get E C
theorem VRs.of_get {ι:Inj}:∀{l:List V} {C:List Value},C.length=l.length->(∀(j:Nat) (v:V) (x:Value),l[j]?=some v->C[j]?=some x->VR ι v x)->VRs ι l C
 | [],C,E,_=>by simp only [VRs];exact wG (by simpa using E)
 | v::l,[],E,_=>by simp at E
 | v::l,x::C,E,h=>by
  simp only [VRs];refine ⟨x,C,rfl,h 0 v x (by simp) (by simp),VRs.of_get (by simpa using E) λj F J G O=>h (j+1) F J (by simpa using G) (by simpa using O)⟩
theorem VRs.append {ι:Inj}:∀{l:List V} {xs:List Value} {m:List V} {C:List Value},VRs ι l xs->VRs ι m C->VRs ι (l++m) (xs++C)
 | [],_,_,_,h,E=>by simp only [VRs] at h;subst h;simpa using E
 | _::_,_,_,_,h,E=>by
  simp only [VRs] at h;obtain ⟨y,C,rfl,G,F⟩:=h;simp only [eI,VRs];exact ⟨y,_,rfl,G,VRs.append F E⟩
theorem VRs.drop {ι:Inj}:∀{l:List V} {xs:List Value} (n:Nat),VRs ι l xs->VRs ι (l.drop n) (xs.drop n)
 | _,_,0,h=>by simpa using h
 | [],_,_+1,h=>by simp only [VRs] at h;subst h;simp [VRs]
 | _::_,_,n+1,h=>by
  simp only [VRs] at h;obtain ⟨y,E,rfl,_,C⟩:=h;simpa using VRs.drop n C
theorem VRs.take {ι:Inj}:∀{l:List V} {xs:List Value} (n:Nat),VRs ι l xs->VRs ι (l.take n) (xs.take n)
 | _,_,0,_=>by simp [VRs]
 | [],_,_+1,h=>by simp only [VRs] at h;subst h;simp [VRs]
 | _::_,_,n+1,h=>by
  simp only [VRs] at h;obtain ⟨y,F,rfl,E,C⟩:=h;simp only [nF,VRs];exact ⟨y,_,rfl,E,VRs.take n C⟩
theorem VRs.set {ι:Inj}:∀{l:List V} {xs:List Value} (n:Nat) {v:V} {x:Value},VRs ι l xs->VR ι v x->VRs ι (l.set n v) (xs.set n x)
 | [],_,_,_,_,h,_=>by simp only [VRs] at h;subst h;simp [VRs]
 | _::_,_,0,_,_,h,E=>by
  simp only [VRs] at h;obtain ⟨y,F,rfl,_,C⟩:=h;simp only [List.set_cons_zero,VRs];exact ⟨_,_,rfl,E,C⟩
 | _::_,_,n+1,_,_,h,E=>by
  simp only [VRs] at h;obtain ⟨y,F,rfl,G,C⟩:=h;simp only [List.set_cons_succ,VRs];exact ⟨_,_,rfl,G,VRs.set n C E⟩
theorem VRs.ints {ι:Inj} (k:IntKind):∀(l:List Int),VRs ι (l.map (V.i k)) (l.map (Value.int k))
 | []=>by simp [VRs]
 | n::l=>by simp only [fX,VRs];exact ⟨_,_,rfl,by simp [VR],VRs.ints k l⟩
def Lf.toV:(a:Lf)->a.den->V
 | .i k,n=>.i k n
 | .bo,x=>.b x
 | .s,l=>.s l
def Lf.val:(a:Lf)->a.den->Value
 | .i k,n=>.int k n
 | .bo,x=>.bool x
 | .s,l=>.string ⟨l.toArray⟩
def cells:(t:List Lf)->den t->List V
 | [],_=>[]
 | [a],x=>[a.toV x]
 | a::b::l,x=>a.toV x.1::cells (b::l) x.2
def vals:(t:List Lf)->den t->List Value
 | [],_=>[]
 | [a],x=>[a.val x]
 | a::b::l,x=>a.val x.1::vals (b::l) x.2
theorem Lf.ok (ι:Inj):∀(a:Lf) (x:a.den),VR ι (a.toV x) (a.val x)
 | .i _,_=>by simp [Lf.toV,Lf.val,VR]
 | .bo,_=>by simp [Lf.toV,Lf.val,VR]
 | .s,_=>by simp [Lf.toV,Lf.val,VR]
theorem Lf.ok_iff (ι:Inj):∀(a:Lf) (x:a.den) (y:Value),VR ι (a.toV x) y↔y=a.val x
 | .i _,_,_=>by simp [Lf.toV,Lf.val,VR]
 | .bo,_,_=>by simp [Lf.toV,Lf.val,VR]
 | .s,_,_=>by simp [Lf.toV,Lf.val,VR]
theorem nZ (ι:Inj):∀(t:List Lf) (x:den t) (c:List Value),VRs ι (cells t x) c↔c=vals t x
 | [],_,c=>by simp [cells,vals,VRs]
 | [a],x,c=>by
  simp only [cells,vals,VRs];constructor
  ·rintro ⟨y,d,rfl,h,rfl⟩;rw [(a.ok_iff ι x y).1 h]
  ·rintro rfl;exact ⟨_,_,rfl,a.ok ι x,rfl⟩
 | a::b::l,x,c=>by
  simp only [cells,vals,VRs];constructor
  ·rintro ⟨y,d,rfl,h,e⟩;rw [(a.ok_iff ι _ y).1 h,(nZ ι (b::l) x.2 d).1 e]
  ·rintro rfl;exact ⟨_,_,rfl,a.ok ι _,(nZ ι (b::l) x.2 _).2 rfl⟩
theorem kO:∀(t:List Lf) (x:den t),(cells t x).length=t.length
 | [],_=>rfl
 | [_],_=>rfl
 | _::b::l,x=>by simp [cells,kO (b::l) x.2]
theorem ke:∀(t:List Lf) (x:den t),(vals t x).length=t.length
 | [],_=>rfl
 | [_],_=>rfl
 | _::b::l,x=>by simp [vals,ke (b::l) x.2]
inductive Blk where
 | dead
 | rows (t:List Lf) (l:List (den t))
 | cells (l:List V)
 | ints (k:IntKind) (n:Nat) (l:List Int)
 | iter (s:aa) (pos:Nat)
 | mp (k:IntKind) (l:List (Int×Nat))
 deriving Inhabited
def NF (fr:Nat×Nat) (n:Nat):Prop:=∀j,j<n->¬(fr.1<=j/\j<fr.2)
def BR (ι:Inj) (q:Rf):Blk->Obj->Prop
 | .dead,_=>True
 | .rows t l,o=>∃a e fr,o=.cells a e fr/\l.length=q.n/\q.n<=q.k/\q.o+q.k*t.length<=a.size/\(a.toList.drop q.o).take (l.length*t.length)=l.flatMap (vals t)/\(q.fz=true\/NF fr a.size)
 | .cells l,o=>∃a e fr,o=.cells a e fr/\VRs ι l a.toList/\NF fr a.size
 | .ints k n l,o=>∃e fr,o=.cells (l.map (Value.int k)).toArray e fr/\l.length=n/\NF fr n
 | .iter s pos,o=>o=.stringIter ⟨s.toArray⟩ pos
 | .mp k l,o=>∃c b,o=.map c b/\c.toList.map (λe=>(e.key,e.val))=l.map λp=>(Value.int k p.1,fnV p.2 #[])
theorem BR.mono {ι E:Inj} {q:Rf} (h:∀b r,ι b=some r->E b=some r):∀{blk:Blk} {o:Obj},BR ι q blk o->BR E q blk o
 | .dead,_,_=>trivial
 | .rows t l,o,C=>C
 | .cells l,o,C=>by
  obtain ⟨J,e,fr,G,O,F⟩:=C;exact ⟨J,e,fr,G,VRs.mono h _ _ O,F⟩
 | .ints k n l,o,C=>C
 | .iter s pos,o,C=>C
 | .mp k l,o,C=>C
def look {α:Type}:List (Nat×α)->Nat->Option α
 | [],_=>none
 | (k,v)::l,n=>cond (Nat.beq k n) (some v) (look l n)
theorem aU {α:Type} (k:Nat) (v:α) (l:List (Nat×α)) (n:Nat):look ((k,v)::l) n=if k=n then some v else look l n:=by
 simp only [look];by_cases h:k=n
 ·subst h;simp
 ·have:Nat.beq k n=false:=by
   cases a:Nat.beq k n
   ·rfl
   ·exact absurd (bK a) h
  simp [this,h]
structure St where
 T:List (Nat×Option V)
 H:List (Nat×Blk)
 nb:Nat
  /-- So many blocks came in. -/
 lo:Nat:=0
  /-- The first so many of them are only read. -/
 ro:Nat:=0
  /-- From this one on they may be moved (blocks of rows, by append). -/
 rb:Nat:=0
 deriving Inhabited
def TR (ι:Inj) (T:List (Nat×Option V)) (a:Array Value):Prop:=
 ∀t v,look T t=some (some v)->∃x,a[t]?=some x/\VR ι v x
def BW (ι:Inj) (w:World) (b:Nat) (blk:Blk):Prop:=
 (∃q o,ι b=some (some q)/\w.heap[q.r]?=some o/\BR ι q blk o)\/(ι b=some none/\∃t,blk=.rows t [])
structure WR (ι:Inj) (H:List (Nat×Blk)) (nb:Nat) (w:World):Prop where
 inj:∀b b' q q',ι b=some (some q)->ι b'=some (some q')->q.r=q'.r->b=b'\/(q.fz=true/\q'.fz=true)
 low:∀b q,ι b=some q->b<nb
 dom:∀b q,ι b=some (some q)->q.r<w.heap.size
 blk:∀b blk,look H b=some blk->blk≠.dead->BW ι w b blk
theorem BW.real {ι:Inj} {w:World} {b:Nat} {blk:Blk} (h:BW ι w b blk) (C:∀t,blk≠.rows t []):∃q o,ι b=some (some q)/\w.heap[q.r]?=some o/\BR ι q blk o:=by
 rcases h with h | ⟨_,t,h⟩
 ·exact h
 ·exact absurd h (C t)
theorem BW.map {ι E:Inj} {w w':World} {b O:Nat} {blk C:Blk} (h:BW ι w b blk) (J:E O=ι b) (X:∀q,ι b=some (some q)->w'.heap[q.r]?=w.heap[q.r]?)
  (U:∀q o,BR ι q blk o->BR E q C o) (W:∀t,blk=.rows t []->C=.rows t []):BW E w' O C:=by
 rcases h with ⟨q,o,F,G,Q⟩ | ⟨F,t,G⟩
 ·exact .inl ⟨q,o,by rw [J,F],by rw [X q F,G],U q o Q⟩
 ·exact .inr ⟨by rw [J,F],t,W t G⟩
structure Fr (ι0:Inj) (w0 w:World):Prop where
 os:w.os=w0.os
 tape:w.tape=w0.tape
 output:w.output=w0.output
 size:w0.heap.size<=w.heap.size
 blk:∀k,k<w0.heap.size->(∀b q,ι0 b=some (some q)->q.r≠k)->w.heap[k]?=w0.heap[k]?
theorem Fr.refl (ι0:Inj) (w:World):Fr ι0 w w:=⟨rfl,rfl,rfl,aY _,λ_ _ _=>rfl⟩
def roI (ι0:Inj) (ro:Nat):Inj:=λb=>cond (Nat.blt b ro) none (ι0 b)
theorem pK {ι0:Inj} {ro b:Nat} {r:Option Rf} (h:roI ι0 ro b=some r):ι0 b=some r:=by
 unfold roI at h;cases a:Nat.blt b ro with
 | true=>simp [a] at h
 | false=>simpa [a] using h
theorem Jm {ι0:Inj} {ro b:Nat} {r:Option Rf} (h:roI ι0 ro b=some r):ro<=b:=by
 unfold roI at h;rcases aH b ro with a | a
 ·rw [show Nat.blt b ro=true from cZ a] at h;cases h
 ·exact a
theorem DU {ι0:Inj} {ro b:Nat} {r:Option Rf} (h:ι0 b=some r) (a:ro<=b):roI ι0 ro b=some r:=by
 have:Nat.blt b ro=false:=by
  cases hx:Nat.blt b ro with
  | false=>rfl
  | true=>have:b<ro:=aI hx;omega
 simp [roI,this,h]
def GL (R:Inj) (w:World):Prop:=∃L:List (Nat×Obj),Ww L/\(∀x∈L,w.heap[x.1]?=some x.2)/\∀x∈L,∀b q,R b=some (some q)->q.r≠x.1
theorem GL.mono {R F:Inj} {w:World} (h:GL R w) (U:∀b q,F b=some (some q)->(∃E C,R E=some (some C)/\C.r=q.r)\/w.heap.size<=q.r):GL F w:=by
 obtain ⟨L,Q,G,O⟩:=h;refine ⟨L,Q,G,λx hx b q W=>?_⟩;rcases U b q W with ⟨E,C,J,X⟩ | J
 ·rw [<-X];exact O x hx E C J
 ·have hs:x.1<w.heap.size:=by
   rcases aH x.1 w.heap.size with h | h
   ·exact h
   ·have:=G x hx;rw [wR h] at this;cases this
  omega
structure Base where
 w:World
 D:List Deferred:=[]
structure Inv (n:Nat) (ι0:Inj) (w0:Base) (ι:Inj) (s:St) (a:Act) (w:World):Prop where
 size:a.tmps.size=n
 defers:a.defers=w0.D
 tmps:TR ι s.T a.tmps
 mem:WR ι s.H s.nb w
 ext:∀b q,ι0 b=some q->ι b=some q\/s.rb<=b
 new:∀b q,ι b=some (some q)->(∃q',ι0 b=some (some q')/\q'.r=q.r)\/w0.w.heap.size<=q.r
 fr:Fr (roI ι0 s.ro) w0.w w
 low:∀b r,ι0 b=some r->b<s.lo
 fz:∀b q,ι b=some (some q)->q.fz=true->b<s.ro
 gl:GL (roI ι0 s.ro) w0.w
theorem Inv.glHere {n:Nat} {ι0 ι:Inj} {w0:Base} {s:St} {a:Act} {w:World} (h:Inv n ι0 w0 ι s a w) {R:Inj} (J:∀b q,R b=some (some q)->ι b=some (some q)/\s.ro<=b):GL R w:=by
 obtain ⟨L,G,F,C⟩:=h.gl;have hs:∀x∈L,x.1<w0.w.heap.size:=by
  intro x hx;rcases aH x.1 w0.w.heap.size with h | h
  ·exact h
  ·have:=F x hx;rw [wR h] at this;cases this
 refine ⟨L,G,λx hx=>?_,λx hx b q O=>?_⟩
 ·rw [h.fr.blk x.1 (hs x hx) (C x hx)];exact F x hx
 ·obtain ⟨X,U⟩:=J b q O;rcases h.new b q X with ⟨W,E,Q⟩ | E
  ·rw [<-Q];exact C x hx b W (DU E U)
  ·have:=hs x hx;omega
def upd (ι:Inj) (b:Nat) (r:Option Rf):Inj:=λc=>if c=b then some r else ι c
theorem pj {ι:Inj} {b:Nat} {r:Option Rf} (h:ι b=none):∀c q,ι c=some q->upd ι b r c=some q:=by
 intro c q hc;unfold upd;split
 ·rename_i e;subst e;rw [h] at hc;cases hc
 ·exact hc
theorem TR.mono {ι C:Inj} (h:∀b r,ι b=some r->C b=some r) {T:List (Nat×Option V)} {E:Array Value} (F:TR ι T E):TR C T E:=
 λt v G=>let ⟨x,h1,h2⟩:=F t v G;⟨x,h1,VR.mono h _ _ h2⟩
theorem TR.put {ι:Inj} {T:List (Nat×Option V)} {a:Act} {d:Nat} {v:Option V} {x:Value} (F:TR ι T a.tmps) (J:d<a.tmps.size)
  (O:∀u,v=some u->VR ι u x):TR ι ((d,v)::T) (a.put (some d) x).tmps:=by
 intro t u C;rw [aU] at C;simp only [Act.put];split at C
 ·rename_i e;subst e;simp only [au] at C;exact ⟨x,by simp [J],O u C⟩
 ·rename_i E;obtain ⟨y,G,Q⟩:=F t u C;exact ⟨y,by rw [Rq E];exact G,Q⟩
def setObj (w:World) (r:Nat) (o:Obj):World:={ w with heap:=w.heap.setIfInBounds r o }
theorem jW (w:World) (o:Obj):(w.alloc o).heap[w.heap.size]?=some o:=by
 show (w.heap.push o)[w.heap.size]?=some o;simp
theorem jO (w:World) (o:Obj) {k:Nat} (h:k≠w.heap.size):(w.alloc o).heap[k]?=w.heap[k]?:=by
 show (w.heap.push o)[k]?=_;rw [Array.getElem?_push,ab h]
theorem rJ {w:World} {r:Nat} {o:Obj} (h:w.heap[r]?=some o):r<w.heap.size:=by
 rcases aH r w.heap.size with a | a
 ·exact a
 ·simp [wR a] at h
theorem WR.draws {ι:Inj} {H:List (Nat×Blk)} {nb:Nat} {w:World} (h:WR ι H nb w) (n:Nat):WR ι H nb { w with drawn:=n }:=
 ⟨h.inj,h.low,h.dom,h.blk⟩
theorem se {w:World} {r k:Nat} (o:Obj) (h:r≠k):(setObj w r o).heap[k]?=w.heap[k]?:=by
 simp [setObj,Rq h]
theorem WR.write {ι:Inj} {H:List (Nat×Blk)} {nb b:Nat} {q:Rf} {w:World} {blk:Blk} {o:Obj} (h:WR ι H nb w) (F:ι b=some (some q)) (W:q.fz=false) (O:BR ι q blk o):
  WR ι ((b,blk)::H) nb (setObj w q.r o):=by
 have Q:=h.dom b q F;refine ⟨h.inj,h.low,λc q hc=>by simpa [setObj] using h.dom c q hc,λc E C U=>?_⟩;rw [aU] at C;split at C
 ·rename_i e;subst e;simp only [au] at C;subst C;exact .inl ⟨q,o,F,by simp [setObj,Q],O⟩
 ·rename_i G;exact (h.blk c E C U).map rfl (λp hp=>se o λe=>(h.inj b c q p F hp e).elim G λJ=>by rw [W] at J;cases J.1) (λ_ _ x=>x) (λ_ x=>x)
theorem WR.alloc {ι:Inj} {H:List (Nat×Blk)} {nb C f:Nat} {q:Rf} {w:World} {blk:Blk} {o:Obj} (h:WR ι H nb w) (W:ι f=none) (hn:nb<=C) (Q:f<C)
  (Y:q.r=w.heap.size) (X:BR (upd ι f (some q)) q blk o):WR (upd ι f (some q)) ((f,blk)::H) C (w.alloc o):=by
 have G:=pj (r:=some q) W;refine ⟨λb b' r r' E F Z=>?_,λc p hc=>?_,λc p hc=>?_,λc O J hd=>?_⟩
 ·unfold upd at E F;split at E<;>split at F
  ·rename_i e1 e2;exact .inl (e1.trans e2.symm)
  ·simp only [au] at E;subst E;have:=h.dom _ _ F;omega
  ·simp only [au] at F;subst F;have:=h.dom _ _ E;omega
  ·exact h.inj _ _ _ _ E F Z
 ·unfold upd at hc;split at hc
  ·rename_i e;subst e;exact Q
  ·have:=h.low _ _ hc;omega
 ·unfold upd at hc;split at hc
  ·simp only [au] at hc;subst hc;simp;omega
  ·have:=h.dom _ _ hc;simp;omega
 ·rw [aU] at J;split at J
  ·rename_i e;subst e;simp only [au] at J;subst J;exact .inl ⟨q,o,by simp [upd],by rw [Y];exact jW w o,X⟩
  ·rename_i U;refine (h.blk c O J hd).map (by simp [upd,Ne.symm U]) (λp hp=>?_) (λ_ _ x=>BR.mono G x) (λ_ x=>x);have:=h.dom _ _ hp;exact jO w o (by omega)
theorem Fr.draws {ι0:Inj} {w0 w:World} (h:Fr ι0 w0 w) (n:Nat):Fr ι0 w0 { w with drawn:=n }:=⟨h.os,h.tape,h.output,h.size,h.blk⟩
theorem Fr.alloc {ι0:Inj} {w0 w:World} (h:Fr ι0 w0 w) (o:Obj):Fr ι0 w0 (w.alloc o):=by
 refine ⟨h.os,h.tape,h.output,by have:=h.size;simp;omega,λk E C=>?_⟩;have:=h.size;rw [jO w o (by omega)];exact h.blk k E C
theorem Fr.write {ι0:Inj} {w0 w:World} (h:Fr ι0 w0 w) {r:Nat} (G:(∃b q,ι0 b=some (some q)/\q.r=r)\/w0.heap.size<=r) (o:Obj):Fr ι0 w0 (setObj w r o):=by
 refine ⟨h.os,h.tape,h.output,by simpa [setObj] using h.size,λk O F=>?_⟩;have E:r≠k:=by
  rintro rfl;rcases G with ⟨b,q,C,J⟩ | G
  ·exact F b q C J
  ·omega
 simp only [setObj,Rq E];exact h.blk k O F
theorem bp {w:World} {r o:Nat} {a:Array Value} {e:TypeId} {fr:Nat×Nat} (h:w.heap[r]?=some (.cells a e fr)):
  w.cell? ⟨r,o,none⟩=a[o]?:=by
 simp [World.cell?,h]
theorem qP {w:World} {r o:Nat} {a:Array Value} {e:TypeId} {fr:Nat×Nat} (h:w.heap[r]?=some (.cells a e fr)) (c:NF fr a.size) (b:o<a.size):
  w.frozen? ⟨r,o,none⟩=false:=by
 have:=c o b;simp only [World.frozen?,h];by_cases d:fr.1<=o<;>by_cases f:o<fr.2<;>simp_all
theorem CH {w:World} {r o:Nat} {v:Value} {b:Array Value} {e:TypeId} {fr:Nat×Nat} (h:w.heap[r]?=some (.cells b e fr)):
  w.setCell ⟨r,o,none⟩ v=setObj w r (.cells (b.setIfInBounds o v) e fr):=by
 unfold World.setCell setObj;congr 1;apply TP;intro k;rw [Array.getElem?_modify,Ry];have c:=rJ h;by_cases a:r=k
 ·subst a;rw [ae rfl,ae rfl,ae c,h];simp
 ·rw [ab a,ab a]
theorem Ad (w:World) (r:Nat) (o a:Obj):setObj (setObj w r o) r a=setObj w r a:=by
 simp [setObj]
theorem Fv {w:World} {r:Nat} {o:Obj} (h:w.heap[r]?=some o):setObj w r o=w:=by
 unfold setObj;congr 1;apply TP;intro k;rw [Ry];by_cases a:r=k
 ·subst a;rw [ae rfl,ae (rJ h),h]
 ·rw [ab a]
theorem wI {w:World} {r:Nat} {o a:Obj} (h:w.heap[r]?=some o):(setObj w r a).heap[r]?=some a:=by
 have b:=rJ h;simp [setObj,b]
end Go.Abs
