
/- The abstract values and the abstract memory of the interpreter, and how they relate to the model's own.
   Conditions: none; everything here is generic over the program. -/
import Derived.Tactics
import Derived.Below
import Derived.Test.YtfiponokimbeeaaGreatDoorGlob
set_option linter.unusedSimpArgs false
set_option linter.unusedVariables false
namespace Go
abbrev aa:=List UInt8
abbrev jK:=@Array.ext'
abbrev Ql:=@Array.ext_getElem?
abbrev oP:=@Array.getD_eq_getD_getElem?
abbrev P5:=@Array.getElem?_append_left
abbrev Q0:=@Array.getElem?_eq_getElem
abbrev vZ:=@Array.getElem?_eq_none
abbrev R2:=@Array.getElem?_replicate
abbrev P9:=@Array.getElem?_setIfInBounds
abbrev QC:=@Array.getElem?_setIfInBounds_ne
abbrev oH:=@Array.getElem?_toList
abbrev JS:=@Array.length_toList
abbrev NZ:=@Array.mapM_eq_mapM_toList
abbrev Ed:=@Array.map_empty
abbrev uV:=@Array.toList_append
abbrev xj:=@BEq.rfl
abbrev BJ:=@Bool.and_eq_false_iff
abbrev aB:=@Bool.and_eq_true
abbrev xJ:=@Bool.and_false
abbrev D6:=@Bool.and_true
abbrev ux:=@Bool.eq_iff_iff
abbrev xz:=@Bool.false_and
abbrev bj:=@Bool.false_eq_true
abbrev mY:=@Bool.false_or
abbrev Ft:=@Bool.not_eq_true
abbrev kU:=@Bool.not_eq_true'
abbrev g9:=@Bool.not_false
abbrev cN:=@Bool.not_true
abbrev mW:=@Bool.or_eq_false_iff
abbrev f8:=@Bool.or_eq_true
abbrev uu:=@Bool.or_false
abbrev qm:=@Bool.true_and
abbrev Kw:=@ByteArray.ext
abbrev EM:=@Classical.em
abbrev rr:=@Go.Code.wp_mono
abbrev JO:=@Decidable.not_not
abbrev N7:=@Int.dvd_of_emod_eq_zero
abbrev s9:=@Int.le_refl
abbrev N6:=@Int.mul_le_mul_of_nonneg_right
abbrev K9:=@Int.natCast_mul
abbrev Hm:=@Int.sub_add_cancel
abbrev Ox:=@Int.tdiv_eq_ediv_of_nonneg
abbrev bR:=@Int.toNat_natCast
abbrev E4:=@Int.toNat_of_nonneg
abbrev FL:=@Go.IntKind.wrap_i64
abbrev A9:=@List.all_append
abbrev lg:=@List.all_cons
abbrev bG:=@List.all_eq_true
abbrev qx:=@List.any_append
abbrev pG:=@List.any_cons
abbrev qk:=@List.any_eq_false
abbrev qw:=@List.any_eq_true
abbrev fN:=@List.append_assoc
abbrev jP:=@List.append_nil
abbrev dQ:=@List.cons_append
abbrev Jx:=@List.countP_cons
abbrev E0:=@List.drop_append
abbrev gV:=@List.drop_drop
abbrev rz:=@List.drop_eq_getElem_cons
abbrev iD:=@List.drop_eq_nil_of_le
abbrev Br:=@List.drop_left'
abbrev wI:=@List.drop_length
abbrev mq:=@List.drop_succ_cons
abbrev wu:=@List.drop_take
abbrev cg:=@List.drop_zero
abbrev pq:=@List.eq_nil_of_length_eq_zero
abbrev Bg:=@List.ext_getElem?
abbrev Ez:=@List.filter_filter
abbrev By:=@List.findSome?_cons
abbrev HK:=@List.flatMap_append
abbrev pB:=@List.flatMap_cons
abbrev E8:=@List.foldl_append
abbrev tz:=@List.foldl_cons
abbrev Fp:=@List.foldl_nil
abbrev B6:=@List.getD_eq_getElem?_getD
abbrev mg:=@List.getElem?_append_left
abbrev ox:=@List.getElem?_append_right
abbrev EO:=@List.getElem?_cons_succ
abbrev kV:=@List.getElem?_cons_zero
abbrev ll:=@List.getElem?_drop
abbrev bn:=@List.getElem?_eq_getElem
abbrev fX:=@List.getElem?_eq_none
abbrev tu:=@List.getElem?_eq_some_iff
abbrev lX:=@List.getElem?_map
abbrev Hv:=@List.getElem?_take
abbrev ov:=@List.getElem?_take_of_lt
abbrev oK:=@List.head?_cons
abbrev EP:=@List.isEmpty_eq_false_iff
abbrev bE:=@List.length_append
abbrev aJ:=@List.length_cons
abbrev cu:=@List.length_drop
abbrev HV:=@List.length_filter_le
abbrev D7:=@List.length_filter_lt_length_iff_exists
abbrev FH:=@List.length_map
abbrev dm:=@List.length_nil
abbrev H4:=@List.length_pos_of_mem
abbrev xI:=@List.length_reverse
abbrev e7:=@List.length_take
abbrev ER:=@List.mapM_cons
abbrev iC:=@List.map_cons
abbrev xQ:=@List.map_map
abbrev kX:=@List.mem_append
abbrev cf:=@List.mem_cons
abbrev eS:=@List.mem_cons_of_mem
abbrev ks:=@List.mem_cons_self
abbrev lT:=@List.mem_filter
abbrev ek:=@List.mem_map
abbrev fH:=@List.mem_of_getElem?
abbrev iH:=@List.mem_range
abbrev uO:=@List.mem_range'_1
abbrev CH:=@List.mem_reverse
abbrev vQ:=@List.mem_singleton
abbrev dn:=@List.nil_append
abbrev Dw:=@List.nodup_append
abbrev uE:=@List.nodup_cons
abbrev n7:=@List.not_mem_nil
abbrev CO:=@List.range'_succ
abbrev qN:=@List.replicate_succ
abbrev uz:=@List.reverse_reverse
abbrev IH:=@List.set_eq_take_append_cons_drop
abbrev Db:=@List.singleton_append
abbrev wx:=@List.size_toArray
abbrev oL:=@List.take_add_one
abbrev Dq:=@List.take_append
abbrev rc:=@List.take_append_drop
abbrev sV:=@List.take_append_of_le_length
abbrev yj:=@List.take_left
abbrev mf:=@List.take_length
abbrev jc:=@List.take_of_length_le
abbrev kn:=@List.take_succ_cons
abbrev HC:=@List.take_succ_eq_append_getElem
abbrev yW:=@List.take_take
abbrev jU:=@List.take_zero
abbrev gj:=@Nat.add_assoc
abbrev nL:=@Nat.add_comm
abbrev fY:=@Nat.add_mul
abbrev vi:=@Nat.add_right_cancel_iff
abbrev DC:=@Nat.add_sub_cancel
abbrev CJ:=@Nat.add_sub_cancel_left
abbrev bZ:=@Nat.add_zero
abbrev ig:=@Nat.beq_eq
abbrev cG:=@Nat.ble_eq_true_of_le
abbrev yF:=@Nat.div_one
abbrev bq:=@Nat.eq_of_beq_eq_true
abbrev yB:=@Nat.eq_zero_or_pos
abbrev yV:=@Nat.le_add_right
abbrev Dk:=@Nat.le_max_left
abbrev aG:=@Nat.le_of_ble_eq_true
abbrev vV:=@Nat.le_of_eq
abbrev aQ:=@Nat.le_refl
abbrev qO:=@Nat.le_trans
abbrev zL:=@Nat.le_zero
abbrev CL:=@Nat.lt_irrefl
abbrev mI:=@Nat.lt_of_lt_of_le
abbrev aF:=@Nat.lt_or_ge
abbrev C9:=@Nat.lt_trichotomy
abbrev qJ:=@Nat.min_eq_left
abbrev re:=@Nat.mod_eq_of_lt
abbrev qS:=@Nat.mod_lt
abbrev B7:=@Nat.mul_assoc
abbrev wE:=@Nat.mul_comm
abbrev uK:=@Nat.mul_le_mul
abbrev mH:=@Nat.mul_le_mul_right
abbrev sT:=@Nat.mul_one
abbrev zJ:=@Nat.ne_of_lt
abbrev yC:=@Nat.or_comm
abbrev k9:=@Nat.pow_le_pow_right
abbrev sC:=@Nat.pow_succ
abbrev yK:=@Nat.sub_self
abbrev qF:=@Nat.sub_zero
abbrev cj:=@Nat.zero_add
abbrev je:=@Nat.zero_le
abbrev yk:=@Nat.zero_mul
abbrev Cb:=@Go.Oper.apart_spec
abbrev K5:=@Option.bind_eq_some_iff
abbrev wg:=@Option.getD_some
abbrev yE:=@Option.isSome_iff_exists
abbrev uL:=@Option.isSome_none
abbrev gR:=@Option.map_none
abbrev dU:=@Option.map_some
abbrev Ci:=@Option.none_or
abbrev ba:=@Option.some.inj
abbrev ak:=@Option.some.injEq
abbrev bz:=@Prod.mk.injEq
abbrev az:=@Go.Result.andThen_ok
abbrev wJ:=@Go.Result.ok.injEq
abbrev aw:=@Go.Sem.run_bind
abbrev aD:=@Go.Sem.run_pure
abbrev mK:=@Sum.inr.injEq
abbrev fZ:=@UInt8.toNat_inj
abbrev CU:=@UInt8.toNat_ofNat'
abbrev uW:=@Go.World.alloc_eq
abbrev sM:=@and_congr_right
abbrev vf:=@and_true
abbrev aL:=@beq_eq_false_iff_ne
abbrev bp:=@beq_iff_eq
abbrev om:=@beq_self_eq_true
abbrev fD:=@bne_self_eq_false
abbrev af:=@cond_false
abbrev aj:=@cond_true
abbrev bO:=@congrArg
abbrev nY:=@decide_eq_decide
abbrev aq:=@decide_eq_false
abbrev so:=@decide_eq_false_iff_not
abbrev am:=@decide_eq_true
abbrev bV:=@decide_eq_true_eq
abbrev mb:=@decide_false
abbrev mN:=@decide_true
abbrev oe:=@exists_congr
abbrev zU:=@forall_eq_or_imp
abbrev aE:=@if_false
abbrev ab:=@if_neg
abbrev ae:=@if_pos
abbrev aI:=@if_true
abbrev Ce:=@not_false_eq_true
abbrev sQ:=@not_true_eq_false
abbrev Cm:=@of_decide_eq_true
abbrev o7:=@or_false
abbrev vT:=@Go.run_loadCells_list
abbrev wn:=@Go.run_newObj
abbrev aR:=@Go.run_underlying
abbrev ku:=@true_and
end Go
namespace Go.Abs
inductive Lf where
 | i (k:IntKind)
 | bo
 | s
 deriving Inhabited,DecidableEq
@[reducible] def Lf.den:Lf->Type
 | .i _=>Int
 | .bo=>Bool
 | .s=>aa
@[reducible] def den:List Lf->Type
 | []=>Unit
 | [a]=>a.den
 | a::b::l=>a.den×den (b::l)
inductive V where
 | unk
 | pr (z b j o:Nat)
 | ws (b:Nat)
 | rs (z b j n:Nat) (cap:Option Nat)
 | b (x:Bool)
 | i (k:IntKind) (n:Int)
 | s (l:aa)
 | pn
 | p (b o:Nat)
 | sn
 | sl (b o len:Nat) (cap:Option Nat)
 | fn (f:Nat) (cap:List V)
 | nf
 | ni
 | it (t:Nat) (v:V)
 | ag (l:List V)
 | ai (k:IntKind) (n:Nat) (l:List Int)
 | tp (l:List V)
 | mp (b:Nat)
 deriving Inhabited
structure Rf where
 r:Nat
 n:Nat:=0
 k:Nat:=0
  /-- Of a block of rows: where the rows begin. -/
 o:Nat:=0
  /-- Is it only read? Then others may lie there, too. -/
 fz:Bool:=false
abbrev Rf.of (r n k:Nat):Rf:=⟨r,n,k,0,false⟩
abbrev Inj:=Nat->Option (Option Rf)
def fnW (K f:Nat) (a:Array Value):Value:=
 match Nat.blt f K with
 | true=>.func (.func f) #[] a
 | false=>.func (.func (f - K)) a #[]
def fnV (f:Nat) (a:Array Value):Value:=fnW 1000000 f a
theorem Tc (K f:Nat) (a:Array Value):∃g b c,fnW K f a=.func (.func g) b c:=by
 unfold fnW;split
 ·exact ⟨_,_,_,rfl⟩
 ·exact ⟨_,_,_,rfl⟩
theorem xx (f:Nat) (a:Array Value):∃g b c,fnV f a=.func (.func g) b c:=Tc _ f a
theorem OO {K f:Nat} (h:Nat.blt f K=true) (a:Array Value):fnW K f a=.func (.func f) #[] a:=by
 unfold fnW;rw [h]
theorem CQ {f:Nat} (h:Nat.blt f 1000000=true) (a:Array Value):fnV f a=.func (.func f) #[] a:=OO h a
theorem LY (K f:Nat) (a:Array Value):fnW K (f+K) a=.func (.func f) a #[]:=by
 unfold fnW;cases h:Nat.blt (f+K) K with
 | true=>have:f+K<K:=aG h;omega
 | false=>simp
theorem NS (f:Nat) (a:Array Value):fnV (f+1000000) a=.func (.func f) a #[]:=LY _ f a
def fnFW (K f:Nat):Nat:=match Nat.blt f K with | true=>f | false=>f - K
def fnAW {α:Type} (K f:Nat) (args cap:List α):List α:=match Nat.blt f K with | true=>args++cap | false=>cap++args
def fnF (f:Nat):Nat:=fnFW 1000000 f
def fnA {α:Type} (f:Nat) (args cap:List α):List α:=fnAW 1000000 f args cap
def NC (c:Option Nat) (k:Nat):Prop:=∀m,c=some m->k=m
theorem jg {k:Nat}:NC none k:=λ_ h=>by cases h
theorem pS {k:Nat}:NC (some k) k:=λ_ h=>by cases h;rfl
mutual
def VR (ι:Inj):V->Value->Prop
 | .b x,v=>v=.bool x
 | .i k n,v=>v=.int k n
 | .s l,v=>v=.string ⟨l.toArray⟩
 | .pn,v=>v=.pointer none
 | .p b o,v=>∃q,ι b=some (some q)/\v=.pointer (some ⟨q.r,o,none⟩)
 | .sn,v=>v=.slice none 0 0
 | .sl b o len cap,v=>∃q c,ι b=some (some q)/\(∀n,cap=some n->c=n)/\len<=c/\v=.slice (some ⟨q.r,o,none⟩) len c
 | .unk,v=>v.cells=#[v]/\v.oneCell'=true
 | .pr z b j o,v=>∃q,ι b=some (some q)/\v=.pointer (some ⟨q.r,q.o+(j*z+o),none⟩)
 | .ws b,v=>(∃q,ι b=some (some q)/\v=.slice (some ⟨q.r,q.o,none⟩) q.n q.k)\/(ι b=some none/\∃a,v=.slice a 0 0)
 | .rs z b j n e,v=>(∃q c o,ι b=some (some q)/\(n<=c/\NC e c)/\(0<n->o=q.o+j*z)/\v=.slice (some ⟨q.r,o,none⟩) n c)\/(ι b=some none/\(n=0/\NC e 0)/\∃a,v=.slice a 0 0)
 | .fn f cap,v=>∃d,v=fnV f d/\VRs ι cap d.toList
 | .nf,v=>v=.nilFunc
 | .ni,v=>v=.nilIface
 | .it t x,v=>∃y,v=.iface t y/\VR ι x y
 | .ag l,v=>∃d:Array Value,v=.agg d/\VRs ι l d.toList
 | .ai k n l,v=>l.length=n/\v=.agg (l.map (Value.int k)).toArray
 | .tp l,v=>∃d:Array Value,v=.tuple d/\VRs ι l d.toList
 | .mp b,v=>∃q,ι b=some (some q)/\v=.map (some q.r)
def VRs (ι:Inj):List V->List Value->Prop
 | [],a=>a=[]
 | x::l,a=>∃y b,a=y::b/\VR ι x y/\VRs ι l b
end
mutual
theorem VR.mono {ι F:Inj} (h:∀b r,ι b=some r->F b=some r):∀(v:V) (x:Value),VR ι v x->VR F v x
 | .b _,_,hx | .i _ _,_,hx | .s _,_,hx | .pn,_,hx | .sn,_,hx | .nf,_,hx | .ni,_,hx | .ai _ _ _,_,hx | .unk,_,hx=>by simpa [VR] using hx
 | .p b o,x,hx | .pr z b j o,x,hx | .mp b,x,hx=>by
  simp only [VR] at hx ⊢;obtain ⟨r,E,C⟩:=hx;exact ⟨r,h _ _ E,C⟩
 | .ws b,x,hx=>by
  simp only [VR] at hx ⊢;rcases hx with ⟨q,E,C⟩ | ⟨E,C⟩
  ·exact .inl ⟨q,h _ _ E,C⟩
  ·exact .inr ⟨h _ _ E,C⟩
 | .rs z b j n _,x,hx=>by
  simp only [VR] at hx ⊢;rcases hx with ⟨q,c,o,E,C⟩ | ⟨E,C⟩
  ·exact .inl ⟨q,c,o,h _ _ E,C⟩
  ·exact .inr ⟨h _ _ E,C⟩
 | .sl b o len cap,x,hx=>by
  simp only [VR] at hx ⊢;obtain ⟨r,c,E,C⟩:=hx;exact ⟨r,c,h _ _ E,C⟩
 | .fn f cap,x,hx=>by
  simp only [VR] at hx ⊢;obtain ⟨G,E,C⟩:=hx;exact ⟨G,E,VRs.mono h _ _ C⟩
 | .it t v,x,hx=>by
  simp only [VR] at hx ⊢;obtain ⟨y,E,C⟩:=hx;exact ⟨y,E,VR.mono h _ _ C⟩
 | .ag l,x,hx=>by
  simp only [VR] at hx ⊢;obtain ⟨G,E,C⟩:=hx;exact ⟨G,E,VRs.mono h _ _ C⟩
 | .tp l,x,hx=>by
  simp only [VR] at hx ⊢;obtain ⟨G,E,C⟩:=hx;exact ⟨G,E,VRs.mono h _ _ C⟩
theorem VRs.mono {ι C:Inj} (h:∀b r,ι b=some r->C b=some r):∀(l:List V) (E:List Value),VRs ι l E->VRs C l E
 | [],_,hx=>by simpa [VRs] using hx
 | v::l,E,hx=>by
  simp only [VRs] at hx ⊢;obtain ⟨y,G,F,J,O⟩:=hx;exact ⟨y,G,F,VR.mono h _ _ J,VRs.mono h _ _ O⟩
end
theorem VRs.length {ι:Inj}:∀{l:List V} {xs:List Value},VRs ι l xs->xs.length=l.length
 | [],_,h=>by simp only [VRs] at h;simp [h]
 | _::_,_,h=>by
  simp only [VRs] at h;obtain ⟨y,E,rfl,_,C⟩:=h;simp [VRs.length C]
theorem VRs.get {ι:Inj}:∀{l:List V} {xs:List Value} {j:Nat} {v:V},VRs ι l xs->l[j]?=some v->∃x,xs[j]?=some x/\VR ι v x
 | [],_,_,_,_,C=>by simp at C
 | _::_,_,0,_,h,C=>by
  simp only [VRs] at h;obtain ⟨y,E,rfl,F,_⟩:=h;simp only [kV,ak] at C;subst C;exact ⟨y,by simp,F⟩
 | _::_,_,j+1,_,h,C=>by
  simp only [VRs] at h;obtain ⟨y,E,rfl,_,G⟩:=h;simp only [EO] at C ⊢;exact VRs.get G C
theorem VRs.of_get {ι:Inj}:∀{l:List V} {C:List Value},C.length=l.length->(∀(j:Nat) (v:V) (x:Value),l[j]?=some v->C[j]?=some x->VR ι v x)->VRs ι l C
 | [],C,E,_=>by simp only [VRs];exact pq (by simpa using E)
 | v::l,[],E,_=>by simp at E
 | v::l,x::C,E,h=>by
  simp only [VRs];refine ⟨x,C,rfl,h 0 v x (by simp) (by simp),VRs.of_get (by simpa using E) λj O G F J=>h (j+1) O G (by simpa using F) (by simpa using J)⟩
theorem VRs.append {ι:Inj}:∀{l:List V} {xs:List Value} {m:List V} {C:List Value},VRs ι l xs->VRs ι m C->VRs ι (l++m) (xs++C)
 | [],_,_,_,h,E=>by simp only [VRs] at h;subst h;simpa using E
 | _::_,_,_,_,h,E=>by
  simp only [VRs] at h;obtain ⟨y,C,rfl,G,F⟩:=h;simp only [dQ,VRs];exact ⟨y,_,rfl,G,VRs.append F E⟩
theorem VRs.drop {ι:Inj}:∀{l:List V} {xs:List Value} (n:Nat),VRs ι l xs->VRs ι (l.drop n) (xs.drop n)
 | _,_,0,h=>by simpa using h
 | [],_,_+1,h=>by simp only [VRs] at h;subst h;simp [VRs]
 | _::_,_,n+1,h=>by
  simp only [VRs] at h;obtain ⟨y,E,rfl,_,C⟩:=h;simpa using VRs.drop n C
theorem VRs.take {ι:Inj}:∀{l:List V} {xs:List Value} (n:Nat),VRs ι l xs->VRs ι (l.take n) (xs.take n)
 | _,_,0,_=>by simp [VRs]
 | [],_,_+1,h=>by simp only [VRs] at h;subst h;simp [VRs]
 | _::_,_,n+1,h=>by
  simp only [VRs] at h;obtain ⟨y,F,rfl,C,E⟩:=h;simp only [kn,VRs];exact ⟨y,_,rfl,C,VRs.take n E⟩
theorem VRs.set {ι:Inj}:∀{l:List V} {xs:List Value} (n:Nat) {v:V} {x:Value},VRs ι l xs->VR ι v x->VRs ι (l.set n v) (xs.set n x)
 | [],_,_,_,_,h,_=>by simp only [VRs] at h;subst h;simp [VRs]
 | _::_,_,0,_,_,h,E=>by
  simp only [VRs] at h;obtain ⟨y,F,rfl,_,C⟩:=h;simp only [List.set_cons_zero,VRs];exact ⟨_,_,rfl,E,C⟩
 | _::_,_,n+1,_,_,h,E=>by
  simp only [VRs] at h;obtain ⟨y,F,rfl,G,C⟩:=h;simp only [List.set_cons_succ,VRs];exact ⟨_,_,rfl,G,VRs.set n C E⟩
theorem VRs.ints {ι:Inj} (k:IntKind):∀(l:List Int),VRs ι (l.map (V.i k)) (l.map (Value.int k))
 | []=>by simp [VRs]
 | n::l=>by simp only [iC,VRs];exact ⟨_,_,rfl,by simp [VR],VRs.ints k l⟩
def Lf.toV:(a:Lf)->a.den->V
 | .i k,n=>.i k n
 | .bo,x=>.b x
 | .s,l=>.s l
def Lf.val:(a:Lf)->a.den->Value
 | .i k,n=>.int k n
 | .bo,x=>.bool x
 | .s,l=>.string ⟨l.toArray⟩
def cells:(t:List Lf)->den t->List V
 | [],_=>[]
 | [a],x=>[a.toV x]
 | a::b::l,x=>a.toV x.1::cells (b::l) x.2
def vals:(t:List Lf)->den t->List Value
 | [],_=>[]
 | [a],x=>[a.val x]
 | a::b::l,x=>a.val x.1::vals (b::l) x.2
theorem Lf.ok (ι:Inj):∀(a:Lf) (x:a.den),VR ι (a.toV x) (a.val x)
 | .i _,_=>by simp [Lf.toV,Lf.val,VR]
 | .bo,_=>by simp [Lf.toV,Lf.val,VR]
 | .s,_=>by simp [Lf.toV,Lf.val,VR]
theorem Lf.ok_iff (ι:Inj):∀(a:Lf) (x:a.den) (y:Value),VR ι (a.toV x) y↔y=a.val x
 | .i _,_,_=>by simp [Lf.toV,Lf.val,VR]
 | .bo,_,_=>by simp [Lf.toV,Lf.val,VR]
 | .s,_,_=>by simp [Lf.toV,Lf.val,VR]
theorem jr (ι:Inj):∀(t:List Lf) (x:den t) (c:List Value),VRs ι (cells t x) c↔c=vals t x
 | [],_,c=>by simp [cells,vals,VRs]
 | [a],x,c=>by
  simp only [cells,vals,VRs];constructor
  ·rintro ⟨y,d,rfl,h,rfl⟩;rw [(a.ok_iff ι x y).1 h]
  ·rintro rfl;exact ⟨_,_,rfl,a.ok ι x,rfl⟩
 | a::b::l,x,c=>by
  simp only [cells,vals,VRs];constructor
  ·rintro ⟨y,d,rfl,h,e⟩;rw [(a.ok_iff ι _ y).1 h,(jr ι (b::l) x.2 d).1 e]
  ·rintro rfl;exact ⟨_,_,rfl,a.ok ι _,(jr ι (b::l) x.2 _).2 rfl⟩
theorem jq:∀(t:List Lf) (x:den t),(cells t x).length=t.length
 | [],_=>rfl
 | [_],_=>rfl
 | _::b::l,x=>by simp [cells,jq (b::l) x.2]
theorem iW:∀(t:List Lf) (x:den t),(vals t x).length=t.length
 | [],_=>rfl
 | [_],_=>rfl
 | _::b::l,x=>by simp [vals,iW (b::l) x.2]
inductive Blk where
 | dead
 | rows (t:List Lf) (l:List (den t))
 | cells (l:List V)
 | ints (k:IntKind) (n:Nat) (l:List Int)
 | iter (s:aa) (pos:Nat)
 | mp (k:IntKind) (l:List (Int×Nat))
 deriving Inhabited
def NF (fr:Nat×Nat) (n:Nat):Prop:=∀j,j<n->¬(fr.1<=j/\j<fr.2)
def BR (ι:Inj) (q:Rf):Blk->Obj->Prop
 | .dead,_=>True
 | .rows t l,o=>∃a e fr,o=.cells a e fr/\l.length=q.n/\q.n<=q.k/\q.o+q.k*t.length<=a.size/\(a.toList.drop q.o).take (l.length*t.length)=l.flatMap (vals t)/\(q.fz=true\/NF fr a.size)
 | .cells l,o=>∃a e fr,o=.cells a e fr/\VRs ι l a.toList/\NF fr a.size
 | .ints k n l,o=>∃e fr,o=.cells (l.map (Value.int k)).toArray e fr/\l.length=n/\NF fr n
 | .iter s pos,o=>o=.stringIter ⟨s.toArray⟩ pos
 | .mp k l,o=>∃c b,o=.map c b/\c.toList.map (λe=>(e.key,e.val))=l.map λp=>(Value.int k p.1,fnV p.2 #[])
theorem BR.mono {ι E:Inj} {q:Rf} (h:∀b r,ι b=some r->E b=some r):∀{blk:Blk} {o:Obj},BR ι q blk o->BR E q blk o
 | .dead,_,_=>trivial
 | .rows t l,o,C=>C
 | .cells l,o,C=>by
  obtain ⟨O,e,fr,F,G,J⟩:=C;exact ⟨O,e,fr,F,VRs.mono h _ _ G,J⟩
 | .ints k n l,o,C=>C
 | .iter s pos,o,C=>C
 | .mp k l,o,C=>C
def look {α:Type}:List (Nat×α)->Nat->Option α
 | [],_=>none
 | (k,v)::l,n=>cond (Nat.beq k n) (some v) (look l n)
theorem aN {α:Type} (k:Nat) (v:α) (l:List (Nat×α)) (n:Nat):look ((k,v)::l) n=if k=n then some v else look l n:=by
 simp only [look];by_cases h:k=n
 ·subst h;simp
 ·have:Nat.beq k n=false:=by
   cases a:Nat.beq k n
   ·rfl
   ·exact absurd (bq a) h
  simp [this,h]
structure St where
 T:List (Nat×Option V)
 H:List (Nat×Blk)
 nb:Nat
  /-- So many blocks came in. -/
 lo:Nat:=0
  /-- The first so many of them are only read. -/
 ro:Nat:=0
  /-- From this one on they may be moved (blocks of rows, by append). -/
 rb:Nat:=0
 deriving Inhabited
def TR (ι:Inj) (T:List (Nat×Option V)) (a:Array Value):Prop:=
 ∀t v,look T t=some (some v)->∃x,a[t]?=some x/\VR ι v x
def BW (ι:Inj) (w:World) (b:Nat) (blk:Blk):Prop:=
 (∃q o,ι b=some (some q)/\w.heap[q.r]?=some o/\BR ι q blk o)\/(ι b=some none/\∃t,blk=.rows t [])
structure WR (ι:Inj) (H:List (Nat×Blk)) (nb:Nat) (w:World):Prop where
 inj:∀b b' q q',ι b=some (some q)->ι b'=some (some q')->q.r=q'.r->b=b'\/(q.fz=true/\q'.fz=true)
 low:∀b q,ι b=some q->b<nb
 dom:∀b q,ι b=some (some q)->q.r<w.heap.size
 blk:∀b blk,look H b=some blk->blk≠.dead->BW ι w b blk
theorem BW.real {ι:Inj} {w:World} {b:Nat} {blk:Blk} (h:BW ι w b blk) (C:∀t,blk≠.rows t []):∃q o,ι b=some (some q)/\w.heap[q.r]?=some o/\BR ι q blk o:=by
 rcases h with h | ⟨_,t,h⟩
 ·exact h
 ·exact absurd h (C t)
theorem BW.map {ι E:Inj} {w w':World} {b J:Nat} {blk C:Blk} (h:BW ι w b blk) (O:E J=ι b) (W:∀q,ι b=some (some q)->w'.heap[q.r]?=w.heap[q.r]?)
  (U:∀q o,BR ι q blk o->BR E q C o) (Q:∀t,blk=.rows t []->C=.rows t []):BW E w' J C:=by
 rcases h with ⟨q,o,F,G,X⟩ | ⟨F,t,G⟩
 ·exact .inl ⟨q,o,by rw [O,F],by rw [W q F,G],U q o X⟩
 ·exact .inr ⟨by rw [O,F],t,Q t G⟩
structure Fr (ι0:Inj) (w0 w:World):Prop where
 os:w.os=w0.os
 tape:w.tape=w0.tape
 output:w.output=w0.output
 size:w0.heap.size<=w.heap.size
 blk:∀k,k<w0.heap.size->(∀b q,ι0 b=some (some q)->q.r≠k)->w.heap[k]?=w0.heap[k]?
theorem Fr.refl (ι0:Inj) (w:World):Fr ι0 w w:=⟨rfl,rfl,rfl,aQ _,λ_ _ _=>rfl⟩
def roI (ι0:Inj) (ro:Nat):Inj:=λb=>cond (Nat.blt b ro) none (ι0 b)
theorem nI {ι0:Inj} {ro b:Nat} {r:Option Rf} (h:roI ι0 ro b=some r):ι0 b=some r:=by
 unfold roI at h;cases a:Nat.blt b ro with
 | true=>simp [a] at h
 | false=>simpa [a] using h
theorem KZ {ι0:Inj} {ro b:Nat} {r:Option Rf} (h:roI ι0 ro b=some r):ro<=b:=by
 unfold roI at h;rcases aF b ro with a | a
 ·rw [show Nat.blt b ro=true from cG a] at h;cases h
 ·exact a
theorem AK {ι0:Inj} {ro b:Nat} {r:Option Rf} (h:ι0 b=some r) (a:ro<=b):roI ι0 ro b=some r:=by
 have:Nat.blt b ro=false:=by
  cases hx:Nat.blt b ro with
  | false=>rfl
  | true=>have:b<ro:=aG hx;omega
 simp [roI,this,h]
def GL (R:Inj) (w:World):Prop:=∃L:List (Nat×Obj),Q9 L/\(∀x∈L,w.heap[x.1]?=some x.2)/\∀x∈L,∀b q,R b=some (some q)->q.r≠x.1
theorem GL.mono {R J:Inj} {w:World} (h:GL R w) (O:∀b q,J b=some (some q)->(∃E C,R E=some (some C)/\C.r=q.r)\/w.heap.size<=q.r):GL J w:=by
 obtain ⟨L,W,F,X⟩:=h;refine ⟨L,W,F,λx hx b q U=>?_⟩;rcases O b q U with ⟨E,C,G,Q⟩ | G
 ·rw [<-Q];exact X x hx E C G
 ·have hs:x.1<w.heap.size:=by
   rcases aF x.1 w.heap.size with h | h
   ·exact h
   ·have:=F x hx;rw [vZ h] at this;cases this
  omega
structure Base where
 w:World
 D:List Deferred:=[]
structure Inv (n:Nat) (ι0:Inj) (w0:Base) (ι:Inj) (s:St) (a:Act) (w:World):Prop where
 size:a.tmps.size=n
 defers:a.defers=w0.D
 tmps:TR ι s.T a.tmps
 mem:WR ι s.H s.nb w
 ext:∀b q,ι0 b=some q->ι b=some q\/s.rb<=b
 new:∀b q,ι b=some (some q)->(∃q',ι0 b=some (some q')/\q'.r=q.r)\/w0.w.heap.size<=q.r
 fr:Fr (roI ι0 s.ro) w0.w w
 low:∀b r,ι0 b=some r->b<s.lo
 fz:∀b q,ι b=some (some q)->q.fz=true->b<s.ro
 gl:GL (roI ι0 s.ro) w0.w
theorem Inv.glHere {n:Nat} {ι0 ι:Inj} {w0:Base} {s:St} {a:Act} {w:World} (h:Inv n ι0 w0 ι s a w) {R:Inj} (G:∀b q,R b=some (some q)->ι b=some (some q)/\s.ro<=b):GL R w:=by
 obtain ⟨L,W,C,F⟩:=h.gl;have hs:∀x∈L,x.1<w0.w.heap.size:=by
  intro x hx;rcases aF x.1 w0.w.heap.size with h | h
  ·exact h
  ·have:=C x hx;rw [vZ h] at this;cases this
 refine ⟨L,W,λx hx=>?_,λx hx b q U=>?_⟩
 ·rw [h.fr.blk x.1 (hs x hx) (F x hx)];exact C x hx
 ·obtain ⟨O,Q⟩:=G b q U;rcases h.new b q O with ⟨X,E,J⟩ | E
  ·rw [<-J];exact F x hx b X (AK E Q)
  ·have:=hs x hx;omega
def upd (ι:Inj) (b:Nat) (r:Option Rf):Inj:=λc=>if c=b then some r else ι c
theorem nG {ι:Inj} {b:Nat} {r:Option Rf} (h:ι b=none):∀c q,ι c=some q->upd ι b r c=some q:=by
 intro c q hc;unfold upd;split
 ·rename_i e;subst e;rw [h] at hc;cases hc
 ·exact hc
theorem TR.mono {ι C:Inj} (h:∀b r,ι b=some r->C b=some r) {T:List (Nat×Option V)} {E:Array Value} (G:TR ι T E):TR C T E:=
 λt v F=>let ⟨x,h1,h2⟩:=G t v F;⟨x,h1,VR.mono h _ _ h2⟩
theorem TR.put {ι:Inj} {T:List (Nat×Option V)} {a:Act} {d:Nat} {v:Option V} {x:Value} (F:TR ι T a.tmps) (Q:d<a.tmps.size)
  (J:∀u,v=some u->VR ι u x):TR ι ((d,v)::T) (a.put (some d) x).tmps:=by
 intro t u C;rw [aN] at C;simp only [Act.put];split at C
 ·rename_i e;subst e;simp only [ak] at C;exact ⟨x,by simp [Q],J u C⟩
 ·rename_i E;obtain ⟨y,G,O⟩:=F t u C;exact ⟨y,by rw [QC E];exact G,O⟩
def setObj (w:World) (r:Nat) (o:Obj):World:={ w with heap:=w.heap.setIfInBounds r o }
theorem iQ (w:World) (o:Obj):(w.alloc o).heap[w.heap.size]?=some o:=by
 show (w.heap.push o)[w.heap.size]?=some o;simp
theorem iU (w:World) (o:Obj) {k:Nat} (h:k≠w.heap.size):(w.alloc o).heap[k]?=w.heap[k]?:=by
 show (w.heap.push o)[k]?=_;rw [Array.getElem?_push,ab h]
theorem qd {w:World} {r:Nat} {o:Obj} (h:w.heap[r]?=some o):r<w.heap.size:=by
 rcases aF r w.heap.size with a | a
 ·exact a
 ·simp [vZ a] at h
theorem WR.draws {ι:Inj} {H:List (Nat×Blk)} {nb:Nat} {w:World} (h:WR ι H nb w) (n:Nat):WR ι H nb { w with drawn:=n }:=
 ⟨h.inj,h.low,h.dom,h.blk⟩
theorem qs {w:World} {r k:Nat} (o:Obj) (h:r≠k):(setObj w r o).heap[k]?=w.heap[k]?:=by
 simp [setObj,QC h]
theorem WR.write {ι:Inj} {H:List (Nat×Blk)} {nb b:Nat} {q:Rf} {w:World} {blk:Blk} {o:Obj} (h:WR ι H nb w) (G:ι b=some (some q)) (O:q.fz=false) (U:BR ι q blk o):
  WR ι ((b,blk)::H) nb (setObj w q.r o):=by
 have Q:=h.dom b q G;refine ⟨h.inj,h.low,λc q hc=>by simpa [setObj] using h.dom c q hc,λc E C W=>?_⟩;rw [aN] at C;split at C
 ·rename_i e;subst e;simp only [ak] at C;subst C;exact .inl ⟨q,o,G,by simp [setObj,Q],U⟩
 ·rename_i F;exact (h.blk c E C W).map rfl (λp hp=>qs o λe=>(h.inj b c q p G hp e).elim F λJ=>by rw [O] at J;cases J.1) (λ_ _ x=>x) (λ_ x=>x)
theorem WR.alloc {ι:Inj} {H:List (Nat×Blk)} {nb C f:Nat} {q:Rf} {w:World} {blk:Blk} {o:Obj} (h:WR ι H nb w) (X:ι f=none) (hn:nb<=C) (U:f<C)
  (Z:q.r=w.heap.size) (ho:BR (upd ι f (some q)) q blk o):WR (upd ι f (some q)) ((f,blk)::H) C (w.alloc o):=by
 have J:=nG (r:=some q) X;refine ⟨λb b' r r' F E Y=>?_,λc p hc=>?_,λc p hc=>?_,λc O G hd=>?_⟩
 ·unfold upd at F E;split at F<;>split at E
  ·rename_i e1 W;exact .inl (e1.trans W.symm)
  ·simp only [ak] at F;subst F;have:=h.dom _ _ E;omega
  ·simp only [ak] at E;subst E;have:=h.dom _ _ F;omega
  ·exact h.inj _ _ _ _ F E Y
 ·unfold upd at hc;split at hc
  ·rename_i e;subst e;exact U
  ·have:=h.low _ _ hc;omega
 ·unfold upd at hc;split at hc
  ·simp only [ak] at hc;subst hc;simp;omega
  ·have:=h.dom _ _ hc;simp;omega
 ·rw [aN] at G;split at G
  ·rename_i e;subst e;simp only [ak] at G;subst G;exact .inl ⟨q,o,by simp [upd],by rw [Z];exact iQ w o,ho⟩
  ·rename_i Q;refine (h.blk c O G hd).map (by simp [upd,Ne.symm Q]) (λp hp=>?_) (λ_ _ x=>BR.mono J x) (λ_ x=>x);have:=h.dom _ _ hp;exact iU w o (by omega)
theorem Fr.draws {ι0:Inj} {w0 w:World} (h:Fr ι0 w0 w) (n:Nat):Fr ι0 w0 { w with drawn:=n }:=⟨h.os,h.tape,h.output,h.size,h.blk⟩
theorem Fr.alloc {ι0:Inj} {w0 w:World} (h:Fr ι0 w0 w) (o:Obj):Fr ι0 w0 (w.alloc o):=by
 refine ⟨h.os,h.tape,h.output,by have:=h.size;simp;omega,λk C E=>?_⟩;have:=h.size;rw [iU w o (by omega)];exact h.blk k C E
theorem Fr.write {ι0:Inj} {w0 w:World} (h:Fr ι0 w0 w) {r:Nat} (F:(∃b q,ι0 b=some (some q)/\q.r=r)\/w0.heap.size<=r) (o:Obj):Fr ι0 w0 (setObj w r o):=by
 refine ⟨h.os,h.tape,h.output,by simpa [setObj] using h.size,λk J G=>?_⟩;have C:r≠k:=by
  rintro rfl;rcases F with ⟨b,q,E,O⟩ | F
  ·exact G b q E O
  ·omega
 simp only [setObj,QC C];exact h.blk k J G
theorem be {w:World} {r o:Nat} {a:Array Value} {e:TypeId} {fr:Nat×Nat} (h:w.heap[r]?=some (.cells a e fr)):
  w.cell? ⟨r,o,none⟩=a[o]?:=by
 simp [World.cell?,h]
theorem oS {w:World} {r o:Nat} {a:Array Value} {e:TypeId} {fr:Nat×Nat} (h:w.heap[r]?=some (.cells a e fr)) (b:NF fr a.size) (c:o<a.size):
  w.frozen? ⟨r,o,none⟩=false:=by
 have:=b o c;simp only [World.frozen?,h];by_cases d:fr.1<=o<;>by_cases f:o<fr.2<;>simp_all
theorem Bi {w:World} {r o:Nat} {v:Value} {b:Array Value} {e:TypeId} {fr:Nat×Nat} (h:w.heap[r]?=some (.cells b e fr)):
  w.setCell ⟨r,o,none⟩ v=setObj w r (.cells (b.setIfInBounds o v) e fr):=by
 unfold World.setCell setObj;congr 1;apply Ql;intro k;rw [Array.getElem?_modify,P9];have c:=qd h;by_cases a:r=k
 ·subst a;rw [ae rfl,ae rfl,ae c,h];simp
 ·rw [ab a,ab a]
theorem zQ (w:World) (r:Nat) (o a:Obj):setObj (setObj w r o) r a=setObj w r a:=by
 simp [setObj]
theorem Dm {w:World} {r:Nat} {o:Obj} (h:w.heap[r]?=some o):setObj w r o=w:=by
 unfold setObj;congr 1;apply Ql;intro k;rw [P9];by_cases a:r=k
 ·subst a;rw [ae rfl,ae (qd h),h]
 ·rw [ab a]
theorem vH {w:World} {r:Nat} {o a:Obj} (h:w.heap[r]?=some o):(setObj w r a).heap[r]?=some a:=by
 have b:=qd h;simp [setObj,b]
end Go.Abs
