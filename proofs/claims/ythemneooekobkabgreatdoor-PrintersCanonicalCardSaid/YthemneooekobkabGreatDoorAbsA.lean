
/- The abstract values and the abstract memory of the interpreter, and how they relate to the model's own.
   Conditions: none; everything here is generic over the program. -/
import Derived.Tactics
import Derived.Below
import Derived.Test.YthemneooekobkabGreatDoorGlob
set_option linter.unusedSimpArgs false
set_option linter.unusedVariables false
namespace Go
abbrev aa:=List UInt8
abbrev lG:=@Array.ext'
abbrev SU:=@Array.ext_getElem?
abbrev ri:=@Array.getD_eq_getD_getElem?
abbrev Sz:=@Array.getElem?_append_left
abbrev WA:=@Array.getElem?_eq_getElem
abbrev yj:=@Array.getElem?_eq_none
abbrev We:=@Array.getElem?_replicate
abbrev SA:=@Array.getElem?_setIfInBounds
abbrev Ud:=@Array.getElem?_setIfInBounds_ne
abbrev qG:=@Array.getElem?_toList
abbrev MS:=@Array.length_toList
abbrev QZ:=@Array.mapM_eq_mapM_toList
abbrev H5:=@Array.map_empty
abbrev yu:=@Array.toList_append
abbrev rF:=@BEq.rfl
abbrev EA:=@Bool.and_eq_false_iff
abbrev aA:=@Bool.and_eq_true
abbrev yH:=@Bool.and_false
abbrev D1:=@Bool.and_true
abbrev tN:=@Bool.eq_iff_iff
abbrev xT:=@Bool.false_and
abbrev br:=@Bool.false_eq_true
abbrev pG:=@Bool.false_or
abbrev GQ:=@Bool.not_eq_true
abbrev ly:=@Bool.not_eq_true'
abbrev ij:=@Bool.not_false
abbrev cv:=@Bool.not_true
abbrev pw:=@Bool.or_eq_false_iff
abbrev iY:=@Bool.or_eq_true
abbrev yd:=@Bool.or_false
abbrev nW:=@Bool.true_and
abbrev GP:=@Bool.true_or
abbrev Kt:=@ByteArray.ext
abbrev If:=@Classical.em
abbrev tO:=@Go.Code.wp_mono
abbrev Ns:=@Decidable.not_not
abbrev Lq:=@Int.dvd_of_emod_eq_zero
abbrev Ld:=@Int.emod_lt_of_pos
abbrev KG:=@Int.emod_nonneg
abbrev xf:=@Int.le_refl
abbrev zt:=@Int.mul_comm
abbrev QI:=@Int.mul_le_mul_of_nonneg_right
abbrev HF:=@Int.natCast_mul
abbrev NH:=@Int.sub_add_cancel
abbrev Q2:=@Int.tdiv_eq_ediv_of_nonneg
abbrev KU:=@Int.tmod_eq_emod
abbrev NY:=@Int.tmod_eq_emod_of_nonneg
abbrev cb:=@Int.toNat_natCast
abbrev Ip:=@Int.toNat_of_nonneg
abbrev zO:=@Int.zero_sub
abbrev GE:=@Go.IntKind.wrap_i64
abbrev CZ:=@List.all_append
abbrev m6:=@List.all_cons
abbrev cN:=@List.all_eq_true
abbrev sU:=@List.any_append
abbrev qZ:=@List.any_cons
abbrev sN:=@List.any_eq_false
abbrev tR:=@List.any_eq_true
abbrev fV:=@List.append_assoc
abbrev lw:=@List.append_nil
abbrev eU:=@List.cons_append
abbrev J7:=@List.countP_cons
abbrev Hy:=@List.drop_append
abbrev jp:=@List.drop_drop
abbrev sJ:=@List.drop_eq_getElem_cons
abbrev jr:=@List.drop_eq_nil_of_le
abbrev En:=@List.drop_left'
abbrev vB:=@List.drop_length
abbrev nO:=@List.drop_succ_cons
abbrev xw:=@List.drop_take
abbrev cf:=@List.drop_zero
abbrev tL:=@List.eq_nil_of_length_eq_zero
abbrev Ee:=@List.ext_getElem?
abbrev Mc:=@List.filter_append
abbrev Rh:=@List.filter_cons_of_neg
abbrev Rb:=@List.filter_cons_of_pos
abbrev HM:=@List.filter_filter
abbrev Dp:=@List.findSome?_cons
abbrev QX:=@List.findSome?_eq_none_iff
abbrev MH:=@List.flatMap_append
abbrev qx:=@List.flatMap_cons
abbrev GN:=@List.foldl_append
abbrev vG:=@List.foldl_cons
abbrev Ii:=@List.foldl_nil
abbrev D9:=@List.getD_eq_getElem?_getD
abbrev oc:=@List.getElem?_append_left
abbrev qA:=@List.getElem?_append_right
abbrev G1:=@List.getElem?_cons_succ
abbrev my:=@List.getElem?_cons_zero
abbrev mZ:=@List.getElem?_drop
abbrev be:=@List.getElem?_eq_getElem
abbrev ii:=@List.getElem?_eq_none
abbrev re:=@List.getElem?_eq_some_iff
abbrev m8:=@List.getElem?_map
abbrev NL:=@List.getElem?_take
abbrev qC:=@List.getElem?_take_of_lt
abbrev Ha:=@List.getElem_mem
abbrev pp:=@List.head?_cons
abbrev Is:=@List.isEmpty_eq_false_iff
abbrev aU:=@List.length_append
abbrev az:=@List.length_cons
abbrev bL:=@List.length_drop
abbrev AI:=@List.length_filter_le
abbrev An:=@List.length_filter_lt_length_iff_exists
abbrev u0:=@List.length_map
abbrev aX:=@List.length_nil
abbrev Ft:=@List.length_pos_of_mem
abbrev vo:=@List.length_reverse
abbrev Br:=@List.length_singleton
abbrev db:=@List.length_take
abbrev FC:=@List.mapM_cons
abbrev FN:=@List.map_append
abbrev ga:=@List.map_cons
abbrev tz:=@List.map_map
abbrev oq:=@List.mem_append
abbrev dr:=@List.mem_cons
abbrev fN:=@List.mem_cons_of_mem
abbrev mW:=@List.mem_cons_self
abbrev nQ:=@List.mem_filter
abbrev fe:=@List.mem_map
abbrev gB:=@List.mem_of_getElem?
abbrev lp:=@List.mem_range
abbrev Az:=@List.mem_range'_1
abbrev FZ:=@List.mem_reverse
abbrev wM:=@List.mem_singleton
abbrev dW:=@List.nil_append
abbrev F7:=@List.nodup_append
abbrev yh:=@List.nodup_cons
abbrev th:=@List.not_mem_nil
abbrev xq:=@List.range'_succ
abbrev sY:=@List.replicate_succ
abbrev xF:=@List.reverse_reverse
abbrev Oj:=@List.set_eq_take_append_cons_drop
abbrev FA:=@List.singleton_append
abbrev wU:=@List.size_toArray
abbrev pN:=@List.take_add_one
abbrev E3:=@List.take_append
abbrev uE:=@List.take_append_drop
abbrev vq:=@List.take_append_of_le_length
abbrev Bz:=@List.take_left
abbrev md:=@List.take_length
abbrev ji:=@List.take_of_length_le
abbrev n6:=@List.take_succ_cons
abbrev KN:=@List.take_succ_eq_append_getElem
abbrev AZ:=@List.take_take
abbrev lX:=@List.take_zero
abbrev iO:=@Nat.add_assoc
abbrev qL:=@Nat.add_comm
abbrev hO:=@Nat.add_mul
abbrev wY:=@Nat.add_right_cancel_iff
abbrev EH:=@Nat.add_sub_cancel
abbrev FD:=@Nat.add_sub_cancel_left
abbrev cS:=@Nat.add_zero
abbrev ju:=@Nat.beq_eq
abbrev di:=@Nat.ble_eq_true_of_le
abbrev ES:=@Nat.div_le_self
abbrev ER:=@Nat.div_mul_le_self
abbrev tc:=@Nat.div_one
abbrev bK:=@Nat.eq_of_beq_eq_true
abbrev BF:=@Nat.eq_zero_or_pos
abbrev BQ:=@Nat.le_add_right
abbrev EV:=@Nat.le_max_left
abbrev aI:=@Nat.le_of_ble_eq_true
abbrev xR:=@Nat.le_of_eq
abbrev aW:=@Nat.le_refl
abbrev rq:=@Nat.le_trans
abbrev BU:=@Nat.le_zero
abbrev F4:=@Nat.lt_irrefl
abbrev qO:=@Nat.lt_of_lt_of_le
abbrev aG:=@Nat.lt_or_ge
abbrev E8:=@Nat.lt_trichotomy
abbrev tg:=@Nat.min_eq_left
abbrev qR:=@Nat.mod_eq_of_lt
abbrev BN:=@Nat.mod_lt
abbrev FG:=@Nat.mul_assoc
abbrev vf:=@Nat.mul_comm
abbrev fS9:=@Nat.mul_le_mul
abbrev oz:=@Nat.mul_le_mul_right
abbrev rN:=@Nat.mul_one
abbrev Bg:=@Nat.ne_of_lt
abbrev B6:=@Nat.one_le_pow
abbrev yw:=@Nat.one_mul
abbrev Am:=@Nat.or_comm
abbrev oG:=@Nat.pow_le_pow_right
abbrev tG:=@Nat.pow_succ
abbrev Ar:=@Nat.pow_zero
abbrev BD:=@Nat.sub_self
abbrev qm:=@Nat.sub_zero
abbrev de:=@Nat.zero_add
abbrev fU:=@Nat.zero_le
abbrev Ag:=@Nat.zero_mul
abbrev Fg:=@Go.Oper.apart_spec
abbrev wN:=@Option.getD_some
abbrev Bf:=@Option.isSome_iff_exists
abbrev yq:=@Option.isSome_none
abbrev jh:=@Option.map_none
abbrev fc:=@Option.map_some
abbrev EN:=@Option.none_or
abbrev bm:=@Option.some.inj
abbrev au:=@Option.some.injEq
abbrev aY:=@Prod.mk.injEq
abbrev ay:=@Go.Result.andThen_ok
abbrev xK:=@Go.Result.ok.injEq
abbrev aw:=@Go.Sem.run_bind
abbrev aD:=@Go.Sem.run_pure
abbrev ll:=@Sum.inr.inj
abbrev oO:=@Sum.inr.injEq
abbrev gy:=@UInt8.toNat_inj
abbrev FY:=@UInt8.toNat_ofNat'
abbrev xz:=@Go.World.alloc_eq
abbrev uX:=@and_congr_right
abbrev wB:=@and_true
abbrev aL:=@beq_eq_false_iff_ne
abbrev bG:=@beq_iff_eq
abbrev yb:=@beq_self_eq_true
abbrev dA:=@bne_self_eq_false
abbrev af:=@cond_false
abbrev ah:=@cond_true
abbrev bY:=@congrArg
abbrev nY:=@decide_eq_decide
abbrev aq:=@decide_eq_false
abbrev uU:=@decide_eq_false_iff_not
abbrev am:=@decide_eq_true
abbrev ck:=@decide_eq_true_eq
abbrev n7:=@decide_false
abbrev oC:=@decide_true
abbrev pU:=@exists_congr
abbrev yg:=@false_and
abbrev EM:=@forall_eq_or_imp
abbrev aB:=@if_false
abbrev ab:=@if_neg
abbrev ae:=@if_pos
abbrev aJ:=@if_true
abbrev Fp:=@not_false_eq_true
abbrev vg:=@not_true_eq_false
abbrev uI:=@or_false
abbrev yv:=@Go.run_loadCells_list
abbrev xN:=@Go.run_newObj
abbrev aV:=@Go.run_underlying
abbrev jT:=@true_and
end Go
namespace Go.Abs
inductive Lf where
 | i (k:IntKind)
 | bo
 | s
 deriving Inhabited,DecidableEq
@[reducible] def Lf.den:Lf->Type
 | .i _=>Int
 | .bo=>Bool
 | .s=>aa
@[reducible] def den:List Lf->Type
 | []=>Unit
 | [a]=>a.den
 | a::b::l=>a.den×den (b::l)
inductive V where
 | unk
 | pr (z b j o:Nat)
 | ws (b:Nat)
 | rs (z b j n:Nat) (cap:Option Nat)
 | b (x:Bool)
 | i (k:IntKind) (n:Int)
 | s (l:aa)
 | pn
 | p (b o:Nat)
 | sn
 | sl (b o len:Nat) (cap:Option Nat)
 | fn (f:Nat) (cap:List V)
 | nf
 | ni
 | it (t:Nat) (v:V)
 | ag (l:List V)
 | ai (k:IntKind) (n:Nat) (l:List Int)
 | tp (l:List V)
 | mp (b:Nat)
 deriving Inhabited
structure Rf where
 r:Nat
 n:Nat:=0
 k:Nat:=0
  /-- Of a block of rows: where the rows begin. -/
 o:Nat:=0
  /-- Is it only read? Then others may lie there, too. -/
 fz:Bool:=false
abbrev Rf.of (r n k:Nat):Rf:=⟨r,n,k,0,false⟩
abbrev Inj:=Nat->Option (Option Rf)
def fnW (K f:Nat) (a:Array Value):Value:=
 match Nat.blt f K with
 | true=>.func (.func f) #[] a
 | false=>.func (.func (f - K)) a #[]
def fnV (f:Nat) (a:Array Value):Value:=fnW 1000000 f a
theorem Wn (K f:Nat) (a:Array Value):∃g b c,fnW K f a=.func (.func g) b c:=by
 unfold fnW;split
 ·exact ⟨_,_,_,rfl⟩
 ·exact ⟨_,_,_,rfl⟩
theorem zK (f:Nat) (a:Array Value):∃g b c,fnV f a=.func (.func g) b c:=Wn _ f a
theorem Ub {K f:Nat} (h:Nat.blt f K=true) (a:Array Value):fnW K f a=.func (.func f) #[] a:=by
 unfold fnW;rw [h]
theorem FI {f:Nat} (h:Nat.blt f 1000000=true) (a:Array Value):fnV f a=.func (.func f) #[] a:=Ub h a
theorem Ov (K f:Nat) (a:Array Value):fnW K (f+K) a=.func (.func f) a #[]:=by
 unfold fnW;cases h:Nat.blt (f+K) K with
 | true=>have:f+K<K:=aI h;omega
 | false=>simp
theorem QA (f:Nat) (a:Array Value):fnV (f+1000000) a=.func (.func f) a #[]:=Ov _ f a
def fnFW (K f:Nat):Nat:=match Nat.blt f K with | true=>f | false=>f - K
def fnAW {α:Type} (K f:Nat) (args cap:List α):List α:=match Nat.blt f K with | true=>args++cap | false=>cap++args
def fnF (f:Nat):Nat:=fnFW 1000000 f
def fnA {α:Type} (f:Nat) (args cap:List α):List α:=fnAW 1000000 f args cap
def Pz (c:Option Nat) (k:Nat):Prop:=∀m,c=some m->k=m
theorem kM {k:Nat}:Pz none k:=λ_ h=>by cases h
theorem rQ {k:Nat}:Pz (some k) k:=λ_ h=>by cases h;rfl
mutual
def VR (ι:Inj):V->Value->Prop
 | .b x,v=>v=.bool x
 | .i k n,v=>v=.int k n
 | .s l,v=>v=.string ⟨l.toArray⟩
 | .pn,v=>v=.pointer none
 | .p b o,v=>∃q,ι b=some (some q)/\v=.pointer (some ⟨q.r,o,none⟩)
 | .sn,v=>v=.slice none 0 0
 | .sl b o len cap,v=>∃q c,ι b=some (some q)/\(∀n,cap=some n->c=n)/\len<=c/\v=.slice (some ⟨q.r,o,none⟩) len c
 | .unk,v=>v.cells=#[v]/\v.oneCell'=true
 | .pr z b j o,v=>∃q,ι b=some (some q)/\v=.pointer (some ⟨q.r,q.o+(j*z+o),none⟩)
 | .ws b,v=>(∃q,ι b=some (some q)/\v=.slice (some ⟨q.r,q.o,none⟩) q.n q.k)\/(ι b=some none/\∃a,v=.slice a 0 0)
 | .rs z b j n e,v=>(∃q c o,ι b=some (some q)/\(n<=c/\Pz e c)/\(0<n->o=q.o+j*z)/\v=.slice (some ⟨q.r,o,none⟩) n c)\/(ι b=some none/\(n=0/\Pz e 0)/\∃a,v=.slice a 0 0)
 | .fn f cap,v=>∃d,v=fnV f d/\VRs ι cap d.toList
 | .nf,v=>v=.nilFunc
 | .ni,v=>v=.nilIface
 | .it t x,v=>∃y,v=.iface t y/\VR ι x y
 | .ag l,v=>∃d:Array Value,v=.agg d/\VRs ι l d.toList
 | .ai k n l,v=>l.length=n/\v=.agg (l.map (Value.int k)).toArray
 | .tp l,v=>∃d:Array Value,v=.tuple d/\VRs ι l d.toList
 | .mp b,v=>∃q,ι b=some (some q)/\v=.map (some q.r)
def VRs (ι:Inj):List V->List Value->Prop
 | [],a=>a=[]
 | x::l,a=>∃y b,a=y::b/\VR ι x y/\VRs ι l b
end
mutual
theorem VR.mono {ι F:Inj} (h:∀b r,ι b=some r->F b=some r):∀(v:V) (x:Value),VR ι v x->VR F v x
 | .b _,_,hx | .i _ _,_,hx | .s _,_,hx | .pn,_,hx | .sn,_,hx | .nf,_,hx | .ni,_,hx | .ai _ _ _,_,hx | .unk,_,hx=>by simpa [VR] using hx
 | .p b o,x,hx | .pr z b j o,x,hx | .mp b,x,hx=>by
  simp only [VR] at hx ⊢;obtain ⟨r,E,C⟩:=hx;exact ⟨r,h _ _ E,C⟩
 | .ws b,x,hx=>by
  simp only [VR] at hx ⊢;rcases hx with ⟨q,E,C⟩ | ⟨E,C⟩
  ·exact .inl ⟨q,h _ _ E,C⟩
  ·exact .inr ⟨h _ _ E,C⟩
 | .rs z b j n _,x,hx=>by
  simp only [VR] at hx ⊢;rcases hx with ⟨q,c,o,E,C⟩ | ⟨E,C⟩
  ·exact .inl ⟨q,c,o,h _ _ E,C⟩
  ·exact .inr ⟨h _ _ E,C⟩
 | .sl b o len cap,x,hx=>by
  simp only [VR] at hx ⊢;obtain ⟨r,c,E,C⟩:=hx;exact ⟨r,c,h _ _ E,C⟩
 | .fn f cap,x,hx=>by
  simp only [VR] at hx ⊢;obtain ⟨G,E,C⟩:=hx;exact ⟨G,E,VRs.mono h _ _ C⟩
 | .it t v,x,hx=>by
  simp only [VR] at hx ⊢;obtain ⟨y,E,C⟩:=hx;exact ⟨y,E,VR.mono h _ _ C⟩
 | .ag l,x,hx=>by
  simp only [VR] at hx ⊢;obtain ⟨G,E,C⟩:=hx;exact ⟨G,E,VRs.mono h _ _ C⟩
 | .tp l,x,hx=>by
  simp only [VR] at hx ⊢;obtain ⟨G,E,C⟩:=hx;exact ⟨G,E,VRs.mono h _ _ C⟩
theorem VRs.mono {ι C:Inj} (h:∀b r,ι b=some r->C b=some r):∀(l:List V) (E:List Value),VRs ι l E->VRs C l E
 | [],_,hx=>by simpa [VRs] using hx
 | v::l,E,hx=>by
  simp only [VRs] at hx ⊢;obtain ⟨y,F,O,G,J⟩:=hx;exact ⟨y,F,O,VR.mono h _ _ G,VRs.mono h _ _ J⟩
end
theorem VRs.length {ι:Inj}:∀{l:List V} {xs:List Value},VRs ι l xs->xs.length=l.length
 | [],_,h=>by simp only [VRs] at h;simp [h]
 | _::_,_,h=>by
  simp only [VRs] at h;obtain ⟨y,E,rfl,_,C⟩:=h;simp [VRs.length C]
theorem VRs.get {ι:Inj}:∀{l:List V} {xs:List Value} {j:Nat} {v:V},VRs ι l xs->l[j]?=some v->∃x,xs[j]?=some x/\VR ι v x
 | [],_,_,_,_,C=>by simp at C
 | _::_,_,0,_,h,C=>by
  simp only [VRs] at h;obtain ⟨y,E,rfl,F,_⟩:=h;simp only [my,au] at C;subst C;exact ⟨y,by simp,F⟩
 | _::_,_,j+1,_,h,C=>by
  simp only [VRs] at h;obtain ⟨y,E,rfl,_,G⟩:=h;simp only [G1] at C ⊢;exact VRs.get G C
theorem VRs.of_get {ι:Inj}:∀{l:List V} {C:List Value},C.length=l.length->(∀(j:Nat) (v:V) (x:Value),l[j]?=some v->C[j]?=some x->VR ι v x)->VRs ι l C
 | [],C,E,_=>by simp only [VRs];exact tL (by simpa using E)
 | v::l,[],E,_=>by simp at E
 | v::l,x::C,E,h=>by
  simp only [VRs];refine ⟨x,C,rfl,h 0 v x (by simp) (by simp),VRs.of_get (by simpa using E) λj F O J G=>h (j+1) F O (by simpa using J) (by simpa using G)⟩
theorem VRs.append {ι:Inj}:∀{l:List V} {xs:List Value} {m:List V} {C:List Value},VRs ι l xs->VRs ι m C->VRs ι (l++m) (xs++C)
 | [],_,_,_,h,E=>by simp only [VRs] at h;subst h;simpa using E
 | _::_,_,_,_,h,E=>by
  simp only [VRs] at h;obtain ⟨y,C,rfl,F,G⟩:=h;simp only [eU,VRs];exact ⟨y,_,rfl,F,VRs.append G E⟩
theorem VRs.drop {ι:Inj}:∀{l:List V} {xs:List Value} (n:Nat),VRs ι l xs->VRs ι (l.drop n) (xs.drop n)
 | _,_,0,h=>by simpa using h
 | [],_,_+1,h=>by simp only [VRs] at h;subst h;simp [VRs]
 | _::_,_,n+1,h=>by
  simp only [VRs] at h;obtain ⟨y,E,rfl,_,C⟩:=h;simpa using VRs.drop n C
theorem VRs.take {ι:Inj}:∀{l:List V} {xs:List Value} (n:Nat),VRs ι l xs->VRs ι (l.take n) (xs.take n)
 | _,_,0,_=>by simp [VRs]
 | [],_,_+1,h=>by simp only [VRs] at h;subst h;simp [VRs]
 | _::_,_,n+1,h=>by
  simp only [VRs] at h;obtain ⟨y,F,rfl,C,E⟩:=h;simp only [n6,VRs];exact ⟨y,_,rfl,C,VRs.take n E⟩
theorem VRs.set {ι:Inj}:∀{l:List V} {xs:List Value} (n:Nat) {v:V} {x:Value},VRs ι l xs->VR ι v x->VRs ι (l.set n v) (xs.set n x)
 | [],_,_,_,_,h,_=>by simp only [VRs] at h;subst h;simp [VRs]
 | _::_,_,0,_,_,h,C=>by
  simp only [VRs] at h;obtain ⟨y,F,rfl,_,E⟩:=h;simp only [List.set_cons_zero,VRs];exact ⟨_,_,rfl,C,E⟩
 | _::_,_,n+1,_,_,h,C=>by
  simp only [VRs] at h;obtain ⟨y,F,rfl,G,E⟩:=h;simp only [List.set_cons_succ,VRs];exact ⟨_,_,rfl,G,VRs.set n E C⟩
theorem VRs.ints {ι:Inj} (k:IntKind):∀(l:List Int),VRs ι (l.map (V.i k)) (l.map (Value.int k))
 | []=>by simp [VRs]
 | n::l=>by simp only [ga,VRs];exact ⟨_,_,rfl,by simp [VR],VRs.ints k l⟩
def Lf.toV:(a:Lf)->a.den->V
 | .i k,n=>.i k n
 | .bo,x=>.b x
 | .s,l=>.s l
def Lf.val:(a:Lf)->a.den->Value
 | .i k,n=>.int k n
 | .bo,x=>.bool x
 | .s,l=>.string ⟨l.toArray⟩
def cells:(t:List Lf)->den t->List V
 | [],_=>[]
 | [a],x=>[a.toV x]
 | a::b::l,x=>a.toV x.1::cells (b::l) x.2
def vals:(t:List Lf)->den t->List Value
 | [],_=>[]
 | [a],x=>[a.val x]
 | a::b::l,x=>a.val x.1::vals (b::l) x.2
theorem Lf.ok (ι:Inj):∀(a:Lf) (x:a.den),VR ι (a.toV x) (a.val x)
 | .i _,_=>by simp [Lf.toV,Lf.val,VR]
 | .bo,_=>by simp [Lf.toV,Lf.val,VR]
 | .s,_=>by simp [Lf.toV,Lf.val,VR]
theorem Lf.ok_iff (ι:Inj):∀(a:Lf) (x:a.den) (y:Value),VR ι (a.toV x) y↔y=a.val x
 | .i _,_,_=>by simp [Lf.toV,Lf.val,VR]
 | .bo,_,_=>by simp [Lf.toV,Lf.val,VR]
 | .s,_,_=>by simp [Lf.toV,Lf.val,VR]
theorem nV (ι:Inj):∀(t:List Lf) (x:den t) (c:List Value),VRs ι (cells t x) c↔c=vals t x
 | [],_,c=>by simp [cells,vals,VRs]
 | [a],x,c=>by
  simp only [cells,vals,VRs];constructor
  ·rintro ⟨y,d,rfl,h,rfl⟩;rw [(a.ok_iff ι x y).1 h]
  ·rintro rfl;exact ⟨_,_,rfl,a.ok ι x,rfl⟩
 | a::b::l,x,c=>by
  simp only [cells,vals,VRs];constructor
  ·rintro ⟨y,d,rfl,h,e⟩;rw [(a.ok_iff ι _ y).1 h,(nV ι (b::l) x.2 d).1 e]
  ·rintro rfl;exact ⟨_,_,rfl,a.ok ι _,(nV ι (b::l) x.2 _).2 rfl⟩
theorem k7:∀(t:List Lf) (x:den t),(cells t x).length=t.length
 | [],_=>rfl
 | [_],_=>rfl
 | _::b::l,x=>by simp [cells,k7 (b::l) x.2]
theorem kj:∀(t:List Lf) (x:den t),(vals t x).length=t.length
 | [],_=>rfl
 | [_],_=>rfl
 | _::b::l,x=>by simp [vals,kj (b::l) x.2]
inductive Blk where
 | dead
 | rows (t:List Lf) (l:List (den t))
 | cells (l:List V)
 | ints (k:IntKind) (n:Nat) (l:List Int)
 | iter (s:aa) (pos:Nat)
 | mp (k:IntKind) (l:List (Int×Nat))
 deriving Inhabited
def NF (fr:Nat×Nat) (n:Nat):Prop:=∀j,j<n->¬(fr.1<=j/\j<fr.2)
def BR (ι:Inj) (q:Rf):Blk->Obj->Prop
 | .dead,_=>True
 | .rows t l,o=>∃a e fr,o=.cells a e fr/\l.length=q.n/\q.n<=q.k/\q.o+q.k*t.length<=a.size/\(a.toList.drop q.o).take (l.length*t.length)=l.flatMap (vals t)/\(q.fz=true\/NF fr a.size)
 | .cells l,o=>∃a e fr,o=.cells a e fr/\VRs ι l a.toList/\NF fr a.size
 | .ints k n l,o=>∃e fr,o=.cells (l.map (Value.int k)).toArray e fr/\l.length=n/\NF fr n
 | .iter s pos,o=>o=.stringIter ⟨s.toArray⟩ pos
 | .mp k l,o=>∃c b,o=.map c b/\c.toList.map (λe=>(e.key,e.val))=l.map λp=>(Value.int k p.1,fnV p.2 #[])
theorem BR.mono {ι E:Inj} {q:Rf} (h:∀b r,ι b=some r->E b=some r):∀{blk:Blk} {o:Obj},BR ι q blk o->BR E q blk o
 | .dead,_,_=>trivial
 | .rows t l,o,C=>C
 | .cells l,o,C=>by
  obtain ⟨F,e,fr,O,G,J⟩:=C;exact ⟨F,e,fr,O,VRs.mono h _ _ G,J⟩
 | .ints k n l,o,C=>C
 | .iter s pos,o,C=>C
 | .mp k l,o,C=>C
def look {α:Type}:List (Nat×α)->Nat->Option α
 | [],_=>none
 | (k,v)::l,n=>cond (Nat.beq k n) (some v) (look l n)
theorem aS {α:Type} (k:Nat) (v:α) (l:List (Nat×α)) (n:Nat):look ((k,v)::l) n=if k=n then some v else look l n:=by
 simp only [look];by_cases h:k=n
 ·subst h;simp
 ·have:Nat.beq k n=false:=by
   cases a:Nat.beq k n
   ·rfl
   ·exact absurd (bK a) h
  simp [this,h]
structure St where
 T:List (Nat×Option V)
 H:List (Nat×Blk)
 nb:Nat
  /-- So many blocks came in. -/
 lo:Nat:=0
  /-- The first so many of them are only read. -/
 ro:Nat:=0
  /-- From this one on they may be moved (blocks of rows, by append). -/
 rb:Nat:=0
 deriving Inhabited
def TR (ι:Inj) (T:List (Nat×Option V)) (a:Array Value):Prop:=
 ∀t v,look T t=some (some v)->∃x,a[t]?=some x/\VR ι v x
def BW (ι:Inj) (w:World) (b:Nat) (blk:Blk):Prop:=
 (∃q o,ι b=some (some q)/\w.heap[q.r]?=some o/\BR ι q blk o)\/(ι b=some none/\∃t,blk=.rows t [])
structure WR (ι:Inj) (H:List (Nat×Blk)) (nb:Nat) (w:World):Prop where
 inj:∀b b' q q',ι b=some (some q)->ι b'=some (some q')->q.r=q'.r->b=b'\/(q.fz=true/\q'.fz=true)
 low:∀b q,ι b=some q->b<nb
 dom:∀b q,ι b=some (some q)->q.r<w.heap.size
 blk:∀b blk,look H b=some blk->blk≠.dead->BW ι w b blk
theorem BW.real {ι:Inj} {w:World} {b:Nat} {blk:Blk} (h:BW ι w b blk) (C:∀t,blk≠.rows t []):∃q o,ι b=some (some q)/\w.heap[q.r]?=some o/\BR ι q blk o:=by
 rcases h with h | ⟨_,t,h⟩
 ·exact h
 ·exact absurd h (C t)
theorem BW.map {ι E:Inj} {w w':World} {b O:Nat} {blk C:Blk} (h:BW ι w b blk) (J:E O=ι b) (Q:∀q,ι b=some (some q)->w'.heap[q.r]?=w.heap[q.r]?)
  (W:∀q o,BR ι q blk o->BR E q C o) (X:∀t,blk=.rows t []->C=.rows t []):BW E w' O C:=by
 rcases h with ⟨q,o,F,G,U⟩ | ⟨F,t,G⟩
 ·exact .inl ⟨q,o,by rw [J,F],by rw [Q q F,G],W q o U⟩
 ·exact .inr ⟨by rw [J,F],t,X t G⟩
structure Fr (ι0:Inj) (w0 w:World):Prop where
 os:w.os=w0.os
 tape:w.tape=w0.tape
 output:w.output=w0.output
 size:w0.heap.size<=w.heap.size
 blk:∀k,k<w0.heap.size->(∀b q,ι0 b=some (some q)->q.r≠k)->w.heap[k]?=w0.heap[k]?
theorem Fr.refl (ι0:Inj) (w:World):Fr ι0 w w:=⟨rfl,rfl,rfl,aW _,λ_ _ _=>rfl⟩
def roI (ι0:Inj) (ro:Nat):Inj:=λb=>cond (Nat.blt b ro) none (ι0 b)
theorem qd {ι0:Inj} {ro b:Nat} {r:Option Rf} (h:roI ι0 ro b=some r):ι0 b=some r:=by
 unfold roI at h;cases a:Nat.blt b ro with
 | true=>simp [a] at h
 | false=>simpa [a] using h
theorem Ln {ι0:Inj} {ro b:Nat} {r:Option Rf} (h:roI ι0 ro b=some r):ro<=b:=by
 unfold roI at h;rcases aG b ro with a | a
 ·rw [show Nat.blt b ro=true from di a] at h;cases h
 ·exact a
theorem CJ {ι0:Inj} {ro b:Nat} {r:Option Rf} (h:ι0 b=some r) (a:ro<=b):roI ι0 ro b=some r:=by
 have:Nat.blt b ro=false:=by
  cases hx:Nat.blt b ro with
  | false=>rfl
  | true=>have:b<ro:=aI hx;omega
 simp [roI,this,h]
def GL (R:Inj) (w:World):Prop:=∃L:List (Nat×Obj),Wm L/\(∀x∈L,w.heap[x.1]?=some x.2)/\∀x∈L,∀b q,R b=some (some q)->q.r≠x.1
theorem GL.mono {R F:Inj} {w:World} (h:GL R w) (X:∀b q,F b=some (some q)->(∃E C,R E=some (some C)/\C.r=q.r)\/w.heap.size<=q.r):GL F w:=by
 obtain ⟨L,W,G,U⟩:=h;refine ⟨L,W,G,λx hx b q O=>?_⟩;rcases X b q O with ⟨E,C,J,Q⟩ | J
 ·rw [<-Q];exact U x hx E C J
 ·have hs:x.1<w.heap.size:=by
   rcases aG x.1 w.heap.size with h | h
   ·exact h
   ·have:=G x hx;rw [yj h] at this;cases this
  omega
structure Base where
 w:World
 D:List Deferred:=[]
structure Inv (n:Nat) (ι0:Inj) (w0:Base) (ι:Inj) (s:St) (a:Act) (w:World):Prop where
 size:a.tmps.size=n
 defers:a.defers=w0.D
 tmps:TR ι s.T a.tmps
 mem:WR ι s.H s.nb w
 ext:∀b q,ι0 b=some q->ι b=some q\/s.rb<=b
 new:∀b q,ι b=some (some q)->(∃q',ι0 b=some (some q')/\q'.r=q.r)\/w0.w.heap.size<=q.r
 fr:Fr (roI ι0 s.ro) w0.w w
 low:∀b r,ι0 b=some r->b<s.lo
 fz:∀b q,ι b=some (some q)->q.fz=true->b<s.ro
 gl:GL (roI ι0 s.ro) w0.w
theorem Inv.glHere {n:Nat} {ι0 ι:Inj} {w0:Base} {s:St} {a:Act} {w:World} (h:Inv n ι0 w0 ι s a w) {R:Inj} (W:∀b q,R b=some (some q)->ι b=some (some q)/\s.ro<=b):GL R w:=by
 obtain ⟨L,U,C,F⟩:=h.gl;have hs:∀x∈L,x.1<w0.w.heap.size:=by
  intro x hx;rcases aG x.1 w0.w.heap.size with h | h
  ·exact h
  ·have:=C x hx;rw [yj h] at this;cases this
 refine ⟨L,U,λx hx=>?_,λx hx b q G=>?_⟩
 ·rw [h.fr.blk x.1 (hs x hx) (F x hx)];exact C x hx
 ·obtain ⟨X,J⟩:=W b q G;rcases h.new b q X with ⟨O,E,Q⟩ | E
  ·rw [<-Q];exact F x hx b O (CJ E J)
  ·have:=hs x hx;omega
def upd (ι:Inj) (b:Nat) (r:Option Rf):Inj:=λc=>if c=b then some r else ι c
theorem pS {ι:Inj} {b:Nat} {r:Option Rf} (h:ι b=none):∀c q,ι c=some q->upd ι b r c=some q:=by
 intro c q hc;unfold upd;split
 ·rename_i e;subst e;rw [h] at hc;cases hc
 ·exact hc
theorem TR.mono {ι C:Inj} (h:∀b r,ι b=some r->C b=some r) {T:List (Nat×Option V)} {E:Array Value} (G:TR ι T E):TR C T E:=
 λt v F=>let ⟨x,h1,h2⟩:=G t v F;⟨x,h1,VR.mono h _ _ h2⟩
theorem TR.put {ι:Inj} {T:List (Nat×Option V)} {a:Act} {d:Nat} {v:Option V} {x:Value} (F:TR ι T a.tmps) (Q:d<a.tmps.size)
  (G:∀u,v=some u->VR ι u x):TR ι ((d,v)::T) (a.put (some d) x).tmps:=by
 intro t u C;rw [aS] at C;simp only [Act.put];split at C
 ·rename_i e;subst e;simp only [au] at C;exact ⟨x,by simp [Q],G u C⟩
 ·rename_i E;obtain ⟨y,O,J⟩:=F t u C;exact ⟨y,by rw [Ud E];exact O,J⟩
def setObj (w:World) (r:Nat) (o:Obj):World:={ w with heap:=w.heap.setIfInBounds r o }
theorem ki (w:World) (o:Obj):(w.alloc o).heap[w.heap.size]?=some o:=by
 show (w.heap.push o)[w.heap.size]?=some o;simp
theorem ke (w:World) (o:Obj) {k:Nat} (h:k≠w.heap.size):(w.alloc o).heap[k]?=w.heap[k]?:=by
 show (w.heap.push o)[k]?=_;rw [Array.getElem?_push,ab h]
theorem sd {w:World} {r:Nat} {o:Obj} (h:w.heap[r]?=some o):r<w.heap.size:=by
 rcases aG r w.heap.size with a | a
 ·exact a
 ·simp [yj a] at h
theorem WR.draws {ι:Inj} {H:List (Nat×Blk)} {nb:Nat} {w:World} (h:WR ι H nb w) (n:Nat):WR ι H nb { w with drawn:=n }:=
 ⟨h.inj,h.low,h.dom,h.blk⟩
theorem sH {w:World} {r k:Nat} (o:Obj) (h:r≠k):(setObj w r o).heap[k]?=w.heap[k]?:=by
 simp [setObj,Ud h]
theorem WR.write {ι:Inj} {H:List (Nat×Blk)} {nb b:Nat} {q:Rf} {w:World} {blk:Blk} {o:Obj} (h:WR ι H nb w) (F:ι b=some (some q)) (O:q.fz=false) (W:BR ι q blk o):
  WR ι ((b,blk)::H) nb (setObj w q.r o):=by
 have Q:=h.dom b q F;refine ⟨h.inj,h.low,λc q hc=>by simpa [setObj] using h.dom c q hc,λc E C U=>?_⟩;rw [aS] at C;split at C
 ·rename_i e;subst e;simp only [au] at C;subst C;exact .inl ⟨q,o,F,by simp [setObj,Q],W⟩
 ·rename_i G;exact (h.blk c E C U).map rfl (λp hp=>sH o λe=>(h.inj b c q p F hp e).elim G λJ=>by rw [O] at J;cases J.1) (λ_ _ x=>x) (λ_ x=>x)
theorem WR.alloc {ι:Inj} {H:List (Nat×Blk)} {nb C f:Nat} {q:Rf} {w:World} {blk:Blk} {o:Obj} (h:WR ι H nb w) (Y:ι f=none) (hn:nb<=C) (Q:f<C)
  (Z:q.r=w.heap.size) (ho:BR (upd ι f (some q)) q blk o):WR (upd ι f (some q)) ((f,blk)::H) C (w.alloc o):=by
 have G:=pS (r:=some q) Y;refine ⟨λb b' r r' F E hr=>?_,λc p hc=>?_,λc p hc=>?_,λc O J hd=>?_⟩
 ·unfold upd at F E;split at F<;>split at E
  ·rename_i X W;exact .inl (X.trans W.symm)
  ·simp only [au] at F;subst F;have:=h.dom _ _ E;omega
  ·simp only [au] at E;subst E;have:=h.dom _ _ F;omega
  ·exact h.inj _ _ _ _ F E hr
 ·unfold upd at hc;split at hc
  ·rename_i e;subst e;exact Q
  ·have:=h.low _ _ hc;omega
 ·unfold upd at hc;split at hc
  ·simp only [au] at hc;subst hc;simp;omega
  ·have:=h.dom _ _ hc;simp;omega
 ·rw [aS] at J;split at J
  ·rename_i e;subst e;simp only [au] at J;subst J;exact .inl ⟨q,o,by simp [upd],by rw [Z];exact ki w o,ho⟩
  ·rename_i U;refine (h.blk c O J hd).map (by simp [upd,Ne.symm U]) (λp hp=>?_) (λ_ _ x=>BR.mono G x) (λ_ x=>x);have:=h.dom _ _ hp;exact ke w o (by omega)
theorem Fr.draws {ι0:Inj} {w0 w:World} (h:Fr ι0 w0 w) (n:Nat):Fr ι0 w0 { w with drawn:=n }:=⟨h.os,h.tape,h.output,h.size,h.blk⟩
theorem Fr.alloc {ι0:Inj} {w0 w:World} (h:Fr ι0 w0 w) (o:Obj):Fr ι0 w0 (w.alloc o):=by
 refine ⟨h.os,h.tape,h.output,by have:=h.size;simp;omega,λk C E=>?_⟩;have:=h.size;rw [ke w o (by omega)];exact h.blk k C E
theorem Fr.write {ι0:Inj} {w0 w:World} (h:Fr ι0 w0 w) {r:Nat} (G:(∃b q,ι0 b=some (some q)/\q.r=r)\/w0.heap.size<=r) (o:Obj):Fr ι0 w0 (setObj w r o):=by
 refine ⟨h.os,h.tape,h.output,by simpa [setObj] using h.size,λk J F=>?_⟩;have E:r≠k:=by
  rintro rfl;rcases G with ⟨b,q,C,O⟩ | G
  ·exact F b q C O
  ·omega
 simp only [setObj,Ud E];exact h.blk k J F
theorem bu {w:World} {r o:Nat} {a:Array Value} {e:TypeId} {fr:Nat×Nat} (h:w.heap[r]?=some (.cells a e fr)):
  w.cell? ⟨r,o,none⟩=a[o]?:=by
 simp [World.cell?,h]
theorem qJ {w:World} {r o:Nat} {a:Array Value} {e:TypeId} {fr:Nat×Nat} (h:w.heap[r]?=some (.cells a e fr)) (b:NF fr a.size) (c:o<a.size):
  w.frozen? ⟨r,o,none⟩=false:=by
 have:=b o c;simp only [World.frozen?,h];by_cases f:fr.1<=o<;>by_cases d:o<fr.2<;>simp_all
theorem Dy {w:World} {r o:Nat} {v:Value} {b:Array Value} {e:TypeId} {fr:Nat×Nat} (h:w.heap[r]?=some (.cells b e fr)):
  w.setCell ⟨r,o,none⟩ v=setObj w r (.cells (b.setIfInBounds o v) e fr):=by
 unfold World.setCell setObj;congr 1;apply SU;intro k;rw [Array.getElem?_modify,SA];have c:=sd h;by_cases a:r=k
 ·subst a;rw [ae rfl,ae rfl,ae c,h];simp
 ·rw [ab a,ab a]
theorem Ae (w:World) (r:Nat) (o a:Obj):setObj (setObj w r o) r a=setObj w r a:=by
 simp [setObj]
theorem Fv {w:World} {r:Nat} {o:Obj} (h:w.heap[r]?=some o):setObj w r o=w:=by
 unfold setObj;congr 1;apply SU;intro k;rw [SA];by_cases a:r=k
 ·subst a;rw [ae rfl,ae (sd h),h]
 ·rw [ab a]
theorem yx {w:World} {r:Nat} {o a:Obj} (h:w.heap[r]?=some o):(setObj w r a).heap[r]?=some a:=by
 have b:=sd h;simp [setObj,b]
end Go.Abs
