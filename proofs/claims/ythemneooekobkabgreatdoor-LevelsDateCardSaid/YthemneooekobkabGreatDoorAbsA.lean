
/- The abstract values and the abstract memory of the interpreter, and how they relate to the model's own.
   Conditions: none; everything here is generic over the program. -/
import Derived.Tactics
import Derived.Below
import Derived.Test.YthemneooekobkabGreatDoorGlob
set_option linter.unusedSimpArgs false
set_option linter.unusedVariables false
namespace Go
abbrev aa:=List UInt8
abbrev lh:=@Array.ext'
abbrev TX:=@Array.ext_getElem?
abbrev rK:=@Array.getD_eq_getD_getElem?
abbrev Uu:=@Array.getElem?_append_left
abbrev Vu:=@Array.getElem?_eq_getElem
abbrev yd:=@Array.getElem?_eq_none
abbrev WJ:=@Array.getElem?_replicate
abbrev S7:=@Array.getElem?_setIfInBounds
abbrev SL:=@Array.getElem?_setIfInBounds_ne
abbrev qM:=@Array.getElem?_toList
abbrev NR:=@Array.length_toList
abbrev Q8:=@Array.mapM_eq_mapM_toList
abbrev IH:=@Array.map_empty
abbrev wF:=@Array.toList_append
abbrev uG:=@BEq.rfl
abbrev G0:=@BitVec.toNat_ofNat
abbrev ES:=@Bool.and_eq_false_iff
abbrev aA:=@Bool.and_eq_true
abbrev xq:=@Bool.and_false
abbrev EF:=@Bool.and_true
abbrev uy:=@Bool.eq_iff_iff
abbrev vJ:=@Bool.false_and
abbrev bw:=@Bool.false_eq_true
abbrev oP:=@Bool.false_or
abbrev GV:=@Bool.not_eq_true
abbrev kQ:=@Bool.not_eq_true'
abbrev i7:=@Bool.not_false
abbrev cZ:=@Bool.not_true
abbrev pi:=@Bool.or_eq_false_iff
abbrev g9:=@Bool.or_eq_true
abbrev vI:=@Bool.or_false
abbrev mN:=@Bool.true_and
abbrev EI:=@Bool.true_or
abbrev Ks:=@ByteArray.ext
abbrev HY:=@Classical.em
abbrev uJ:=@Go.Code.wp_mono
abbrev M8:=@Decidable.not_not
abbrev KG:=@Int.dvd_of_emod_eq_zero
abbrev LY:=@Int.emod_lt_of_pos
abbrev Lu:=@Int.emod_nonneg
abbrev zT:=@Int.le_refl
abbrev Am:=@Int.mul_comm
abbrev Rr:=@Int.mul_le_mul_of_nonneg_right
abbrev Ic:=@Int.natCast_mul
abbrev J3:=@Int.sub_add_cancel
abbrev Q2:=@Int.tdiv_eq_ediv_of_nonneg
abbrev JW:=@Int.tmod_eq_emod
abbrev Kw:=@Int.tmod_eq_emod_of_nonneg
abbrev bR:=@Int.toNat_natCast
abbrev II:=@Int.toNat_of_nonneg
abbrev zW:=@Int.zero_sub
abbrev Ii:=@Go.IntKind.wrap_i64
abbrev D1:=@List.all_append
abbrev mO:=@List.all_cons
abbrev cv:=@List.all_eq_true
abbrev sX:=@List.any_append
abbrev qY:=@List.any_cons
abbrev sP:=@List.any_eq_false
abbrev sN:=@List.any_eq_true
abbrev fK:=@List.append_assoc
abbrev ln:=@List.append_nil
abbrev eW:=@List.cons_append
abbrev LA:=@List.countP_cons
abbrev IL:=@List.drop_append
abbrev jg:=@List.drop_drop
abbrev pG:=@List.drop_eq_getElem_cons
abbrev jE:=@List.drop_eq_nil_of_le
abbrev Dl:=@List.drop_left'
abbrev sV:=@List.drop_length
abbrev nJ:=@List.drop_succ_cons
abbrev xx:=@List.drop_take
abbrev cw:=@List.drop_zero
abbrev ur:=@List.eq_nil_of_length_eq_zero
abbrev CS:=@List.ext_getElem?
abbrev M6:=@List.filter_append
abbrev Ri:=@List.filter_cons_of_neg
abbrev Rt:=@List.filter_cons_of_pos
abbrev Ha:=@List.filter_filter
abbrev DO:=@List.findSome?_cons
abbrev RI:=@List.findSome?_eq_none_iff
abbrev Nw:=@List.flatMap_append
abbrev ou:=@List.flatMap_cons
abbrev Ir:=@List.foldl_append
abbrev vw:=@List.foldl_cons
abbrev H3:=@List.foldl_nil
abbrev EK:=@List.getD_eq_getElem?_getD
abbrev nN:=@List.getElem?_append_left
abbrev qF:=@List.getElem?_append_right
abbrev G3:=@List.getElem?_cons_succ
abbrev mz:=@List.getElem?_cons_zero
abbrev mY:=@List.getElem?_drop
abbrev bh:=@List.getElem?_eq_getElem
abbrev gU:=@List.getElem?_eq_none
abbrev oV:=@List.getElem?_eq_some_iff
abbrev mj:=@List.getElem?_map
abbrev LX:=@List.getElem?_take
abbrev qE:=@List.getElem?_take_of_lt
abbrev Em:=@List.getElem_mem
abbrev sT:=@List.head?_cons
abbrev HV:=@List.isEmpty_eq_false_iff
abbrev aR:=@List.length_append
abbrev aE:=@List.length_cons
abbrev bP:=@List.length_drop
abbrev A3:=@List.length_filter_le
abbrev BY:=@List.length_filter_lt_length_iff_exists
abbrev tM:=@List.length_map
abbrev bH:=@List.length_nil
abbrev Fa:=@List.length_pos_of_mem
abbrev vr:=@List.length_reverse
abbrev dq:=@List.length_take
abbrev BJ:=@List.mapM_cons
abbrev FG:=@List.map_append
abbrev fV:=@List.map_cons
abbrev tO:=@List.map_map
abbrev mJ:=@List.mem_append
abbrev cf:=@List.mem_cons
abbrev fi:=@List.mem_cons_of_mem
abbrev lL:=@List.mem_cons_self
abbrev lz:=@List.mem_filter
abbrev FB:=@List.mem_flatMap
abbrev ej:=@List.mem_map
abbrev fS:=@List.mem_of_getElem?
abbrev la:=@List.mem_range
abbrev tP:=@List.mem_range'_1
abbrev FN:=@List.mem_reverse
abbrev nX:=@List.mem_singleton
abbrev dJ:=@List.nil_append
abbrev FA:=@List.nodup_append
abbrev xG:=@List.nodup_cons
abbrev mG:=@List.not_mem_nil
abbrev xJ:=@List.range'_succ
abbrev tC:=@List.replicate_succ
abbrev yO:=@List.reverse_reverse
abbrev MD:=@List.set_eq_take_append_cons_drop
abbrev EX:=@List.singleton_append
abbrev yn:=@List.size_toArray
abbrev rt:=@List.take_add_one
abbrev FO:=@List.take_append
abbrev tD:=@List.take_append_drop
abbrev vq:=@List.take_append_of_le_length
abbrev BC:=@List.take_left
abbrev mE:=@List.take_length
abbrev jf:=@List.take_of_length_le
abbrev mK:=@List.take_succ_cons
abbrev Ky:=@List.take_succ_eq_append_getElem
abbrev BS:=@List.take_take
abbrev mM:=@List.take_zero
abbrev ib:=@Nat.add_assoc
abbrev qb:=@Nat.add_comm
abbrev gW:=@Nat.add_mul
abbrev xz:=@Nat.add_right_cancel_iff
abbrev E0:=@Nat.add_sub_cancel
abbrev GA:=@Nat.add_sub_cancel_left
abbrev cP:=@Nat.add_zero
abbrev jk:=@Nat.beq_eq
abbrev cT:=@Nat.ble_eq_true_of_le
abbrev FI:=@Nat.div_le_self
abbrev Gu:=@Nat.div_mul_le_self
abbrev tz:=@Nat.div_one
abbrev bC:=@Nat.eq_of_beq_eq_true
abbrev AE:=@Nat.eq_zero_or_pos
abbrev AD:=@Nat.le_add_right
abbrev F3:=@Nat.le_max_left
abbrev aL:=@Nat.le_of_ble_eq_true
abbrev xI:=@Nat.le_of_eq
abbrev aV:=@Nat.le_refl
abbrev qR:=@Nat.le_trans
abbrev Bg:=@Nat.le_zero
abbrev GF:=@Nat.lt_irrefl
abbrev oL:=@Nat.lt_of_lt_of_le
abbrev aH:=@Nat.lt_or_ge
abbrev FU:=@Nat.lt_trichotomy
abbrev th:=@Nat.min_eq_left
abbrev oO:=@Nat.mod_eq_of_lt
abbrev tJ:=@Nat.mod_lt
abbrev Gq:=@Nat.mul_assoc
abbrev vn:=@Nat.mul_comm
abbrev wN:=@Nat.mul_le_mul
abbrev oC:=@Nat.mul_le_mul_right
abbrev qQ:=@Nat.mul_one
abbrev BG:=@Nat.ne_of_lt
abbrev Bh:=@Nat.one_le_pow
abbrev yf:=@Nat.one_mul
abbrev BD:=@Nat.or_assoc
abbrev Ci:=@Nat.or_comm
abbrev Ar:=@Nat.or_lt_two_pow
abbrev kI:=@Nat.pow_le_pow_right
abbrev tA:=@Nat.pow_succ
abbrev BX:=@Nat.pow_zero
abbrev B9:=@Nat.sub_self
abbrev qT:=@Nat.sub_zero
abbrev dk:=@Nat.zero_add
abbrev jI:=@Nat.zero_le
abbrev CB:=@Nat.zero_mul
abbrev Gn:=@Go.Oper.apart_spec
abbrev Ly:=@Option.bind_eq_some_iff
abbrev ya:=@Option.getD_some
abbrev Av:=@Option.isSome_iff_exists
abbrev yk:=@Option.isSome_none
abbrev iU:=@Option.map_none
abbrev fa:=@Option.map_some
abbrev Gw:=@Option.none_or
abbrev bj:=@Option.some.inj
abbrev av:=@Option.some.injEq
abbrev bV:=@Prod.mk.injEq
abbrev az:=@Go.Result.andThen_ok
abbrev xj:=@Go.Result.ok.injEq
abbrev ax:=@Go.Sem.run_bind
abbrev aD:=@Go.Sem.run_pure
abbrev oz:=@Sum.inr.injEq
abbrev gG:=@UInt8.toNat_inj
abbrev E5:=@UInt8.toNat_ofNat'
abbrev xM:=@Go.World.alloc_eq
abbrev ve:=@and_congr_right
abbrev xd:=@and_true
abbrev aK:=@beq_eq_false_iff_ne
abbrev bu:=@beq_iff_eq
abbrev xP:=@beq_self_eq_true
abbrev Ap:=@bne_iff_ne
abbrev eC:=@bne_self_eq_false
abbrev af:=@cond_false
abbrev ah:=@cond_true
abbrev cK:=@congrArg
abbrev mI:=@decide_eq_decide
abbrev ar:=@decide_eq_false
abbrev vo:=@decide_eq_false_iff_not
abbrev am:=@decide_eq_true
abbrev cn:=@decide_eq_true_eq
abbrev nH:=@decide_false
abbrev oy:=@decide_true
abbrev qy:=@exists_congr
abbrev xw:=@false_and
abbrev Br:=@forall_eq_or_imp
abbrev aC:=@if_false
abbrev ab:=@if_neg
abbrev ae:=@if_pos
abbrev aO:=@if_true
abbrev GB:=@not_false_eq_true
abbrev u0:=@not_true_eq_false
abbrev By:=@of_decide_eq_true
abbrev nG:=@or_false
abbrev yp:=@Go.run_loadCells_list
abbrev yE:=@Go.run_newObj
abbrev aZ:=@Go.run_underlying
abbrev jG:=@true_and
end Go
namespace Go.Abs
inductive Lf where
 | i (k:IntKind)
 | bo
 | s
 deriving Inhabited,DecidableEq
@[reducible] def Lf.den:Lf->Type
 | .i _=>Int
 | .bo=>Bool
 | .s=>aa
@[reducible] def den:List Lf->Type
 | []=>Unit
 | [a]=>a.den
 | a::b::l=>a.den×den (b::l)
inductive V where
 | unk
 | pr (z b j o:Nat)
 | ws (b:Nat)
 | rs (z b j n:Nat) (cap:Option Nat)
 | b (x:Bool)
 | i (k:IntKind) (n:Int)
 | s (l:aa)
 | pn
 | p (b o:Nat)
 | sn
 | sl (b o len:Nat) (cap:Option Nat)
 | fn (f:Nat) (cap:List V)
 | nf
 | ni
 | it (t:Nat) (v:V)
 | ag (l:List V)
 | ai (k:IntKind) (n:Nat) (l:List Int)
 | tp (l:List V)
 | mp (b:Nat)
 deriving Inhabited
structure Rf where
 r:Nat
 n:Nat:=0
 k:Nat:=0
  /-- Of a block of rows: where the rows begin. -/
 o:Nat:=0
  /-- Is it only read? Then others may lie there, too. -/
 fz:Bool:=false
abbrev Rf.of (r n k:Nat):Rf:=⟨r,n,k,0,false⟩
abbrev Inj:=Nat->Option (Option Rf)
def fnW (K f:Nat) (a:Array Value):Value:=
 match Nat.blt f K with
 | true=>.func (.func f) #[] a
 | false=>.func (.func (f - K)) a #[]
def fnV (f:Nat) (a:Array Value):Value:=fnW 1000000 f a
theorem Vd (K f:Nat) (a:Array Value):∃g b c,fnW K f a=.func (.func g) b c:=by
 unfold fnW;split
 ·exact ⟨_,_,_,rfl⟩
 ·exact ⟨_,_,_,rfl⟩
theorem zA (f:Nat) (a:Array Value):∃g b c,fnV f a=.func (.func g) b c:=Vd _ f a
theorem SS {K f:Nat} (h:Nat.blt f K=true) (a:Array Value):fnW K f a=.func (.func f) #[] a:=by
 unfold fnW;rw [h]
theorem Gl {f:Nat} (h:Nat.blt f 1000000=true) (a:Array Value):fnV f a=.func (.func f) #[] a:=SS h a
theorem OH (K f:Nat) (a:Array Value):fnW K (f+K) a=.func (.func f) a #[]:=by
 unfold fnW;cases h:Nat.blt (f+K) K with
 | true=>have:f+K<K:=aL h;omega
 | false=>simp
theorem O1 (f:Nat) (a:Array Value):fnV (f+1000000) a=.func (.func f) a #[]:=OH _ f a
def fnFW (K f:Nat):Nat:=match Nat.blt f K with | true=>f | false=>f - K
def fnAW {α:Type} (K f:Nat) (args cap:List α):List α:=match Nat.blt f K with | true=>args++cap | false=>cap++args
def fnF (f:Nat):Nat:=fnFW 1000000 f
def fnA {α:Type} (f:Nat) (args cap:List α):List α:=fnAW 1000000 f args cap
def ON (c:Option Nat) (k:Nat):Prop:=∀m,c=some m->k=m
theorem ky {k:Nat}:ON none k:=λ_ h=>by cases h
theorem rV {k:Nat}:ON (some k) k:=λ_ h=>by cases h;rfl
mutual
def VR (ι:Inj):V->Value->Prop
 | .b x,v=>v=.bool x
 | .i k n,v=>v=.int k n
 | .s l,v=>v=.string ⟨l.toArray⟩
 | .pn,v=>v=.pointer none
 | .p b o,v=>∃q,ι b=some (some q)/\v=.pointer (some ⟨q.r,o,none⟩)
 | .sn,v=>v=.slice none 0 0
 | .sl b o len cap,v=>∃q c,ι b=some (some q)/\(∀n,cap=some n->c=n)/\len<=c/\v=.slice (some ⟨q.r,o,none⟩) len c
 | .unk,v=>v.cells=#[v]/\v.oneCell'=true
 | .pr z b j o,v=>∃q,ι b=some (some q)/\v=.pointer (some ⟨q.r,q.o+(j*z+o),none⟩)
 | .ws b,v=>(∃q,ι b=some (some q)/\v=.slice (some ⟨q.r,q.o,none⟩) q.n q.k)\/(ι b=some none/\∃a,v=.slice a 0 0)
 | .rs z b j n e,v=>(∃q c o,ι b=some (some q)/\(n<=c/\ON e c)/\(0<n->o=q.o+j*z)/\v=.slice (some ⟨q.r,o,none⟩) n c)\/(ι b=some none/\(n=0/\ON e 0)/\∃a,v=.slice a 0 0)
 | .fn f cap,v=>∃d,v=fnV f d/\VRs ι cap d.toList
 | .nf,v=>v=.nilFunc
 | .ni,v=>v=.nilIface
 | .it t x,v=>∃y,v=.iface t y/\VR ι x y
 | .ag l,v=>∃d:Array Value,v=.agg d/\VRs ι l d.toList
 | .ai k n l,v=>l.length=n/\v=.agg (l.map (Value.int k)).toArray
 | .tp l,v=>∃d:Array Value,v=.tuple d/\VRs ι l d.toList
 | .mp b,v=>∃q,ι b=some (some q)/\v=.map (some q.r)
def VRs (ι:Inj):List V->List Value->Prop
 | [],a=>a=[]
 | x::l,a=>∃y b,a=y::b/\VR ι x y/\VRs ι l b
end
mutual
theorem VR.mono {ι F:Inj} (h:∀b r,ι b=some r->F b=some r):∀(v:V) (x:Value),VR ι v x->VR F v x
 | .b _,_,hx | .i _ _,_,hx | .s _,_,hx | .pn,_,hx | .sn,_,hx | .nf,_,hx | .ni,_,hx | .ai _ _ _,_,hx | .unk,_,hx=>by simpa [VR] using hx
 | .p b o,x,hx | .pr z b j o,x,hx | .mp b,x,hx=>by
  simp only [VR] at hx ⊢;obtain ⟨r,E,C⟩:=hx;exact ⟨r,h _ _ E,C⟩
 | .ws b,x,hx=>by
  simp only [VR] at hx ⊢;rcases hx with ⟨q,E,C⟩ | ⟨E,C⟩
  ·exact .inl ⟨q,h _ _ E,C⟩
  ·exact .inr ⟨h _ _ E,C⟩
 | .rs z b j n _,x,hx=>by
  simp only [VR] at hx ⊢;rcases hx with ⟨q,c,o,E,C⟩ | ⟨E,C⟩
  ·exact .inl ⟨q,c,o,h _ _ E,C⟩
  ·exact .inr ⟨h _ _ E,C⟩
 | .sl b o len cap,x,hx=>by
  simp only [VR] at hx ⊢;obtain ⟨r,c,E,C⟩:=hx;exact ⟨r,c,h _ _ E,C⟩
 | .fn f cap,x,hx=>by
  simp only [VR] at hx ⊢;obtain ⟨G,E,C⟩:=hx;exact ⟨G,E,VRs.mono h _ _ C⟩
 | .it t v,x,hx=>by
  simp only [VR] at hx ⊢;obtain ⟨y,E,C⟩:=hx;exact ⟨y,E,VR.mono h _ _ C⟩
 | .ag l,x,hx=>by
  simp only [VR] at hx ⊢;obtain ⟨G,E,C⟩:=hx;exact ⟨G,E,VRs.mono h _ _ C⟩
 | .tp l,x,hx=>by
  simp only [VR] at hx ⊢;obtain ⟨G,E,C⟩:=hx;exact ⟨G,E,VRs.mono h _ _ C⟩
theorem VRs.mono {ι C:Inj} (h:∀b r,ι b=some r->C b=some r):∀(l:List V) (E:List Value),VRs ι l E->VRs C l E
 | [],_,hx=>by simpa [VRs] using hx
 | v::l,E,hx=>by
  simp only [VRs] at hx ⊢;obtain ⟨y,G,O,J,F⟩:=hx;exact ⟨y,G,O,VR.mono h _ _ J,VRs.mono h _ _ F⟩
end
theorem VRs.length {ι:Inj}:∀{l:List V} {xs:List Value},VRs ι l xs->xs.length=l.length
 | [],_,h=>by simp only [VRs] at h;simp [h]
 | _::_,_,h=>by
  simp only [VRs] at h;obtain ⟨y,E,rfl,_,C⟩:=h;simp [VRs.length C]
theorem VRs.get {ι:Inj}:∀{l:List V} {xs:List Value} {j:Nat} {v:V},VRs ι l xs->l[j]?=some v->∃x,xs[j]?=some x/\VR ι v x
 | [],_,_,_,_,C=>by simp at C
 | _::_,_,0,_,h,C=>by
  simp only [VRs] at h;obtain ⟨y,G,rfl,E,_⟩:=h;simp only [mz,av] at C;subst C;exact ⟨y,by simp,E⟩
 | _::_,_,j+1,_,h,C=>by
  simp only [VRs] at h;obtain ⟨y,G,rfl,_,F⟩:=h;simp only [G3] at C ⊢;exact VRs.get F C
theorem VRs.of_get {ι:Inj}:∀{l:List V} {C:List Value},C.length=l.length->(∀(j:Nat) (v:V) (x:Value),l[j]?=some v->C[j]?=some x->VR ι v x)->VRs ι l C
 | [],C,E,_=>by simp only [VRs];exact ur (by simpa using E)
 | v::l,[],E,_=>by simp at E
 | v::l,x::C,E,h=>by
  simp only [VRs];refine ⟨x,C,rfl,h 0 v x (by simp) (by simp),VRs.of_get (by simpa using E) λj F G O J=>h (j+1) F G (by simpa using O) (by simpa using J)⟩
theorem VRs.append {ι:Inj}:∀{l:List V} {xs:List Value} {m:List V} {E:List Value},VRs ι l xs->VRs ι m E->VRs ι (l++m) (xs++E)
 | [],_,_,_,h,C=>by simp only [VRs] at h;subst h;simpa using C
 | _::_,_,_,_,h,C=>by
  simp only [VRs] at h;obtain ⟨y,E,rfl,F,G⟩:=h;simp only [eW,VRs];exact ⟨y,_,rfl,F,VRs.append G C⟩
theorem VRs.drop {ι:Inj}:∀{l:List V} {xs:List Value} (n:Nat),VRs ι l xs->VRs ι (l.drop n) (xs.drop n)
 | _,_,0,h=>by simpa using h
 | [],_,_+1,h=>by simp only [VRs] at h;subst h;simp [VRs]
 | _::_,_,n+1,h=>by
  simp only [VRs] at h;obtain ⟨y,E,rfl,_,C⟩:=h;simpa using VRs.drop n C
theorem VRs.take {ι:Inj}:∀{l:List V} {xs:List Value} (n:Nat),VRs ι l xs->VRs ι (l.take n) (xs.take n)
 | _,_,0,_=>by simp [VRs]
 | [],_,_+1,h=>by simp only [VRs] at h;subst h;simp [VRs]
 | _::_,_,n+1,h=>by
  simp only [VRs] at h;obtain ⟨y,F,rfl,C,E⟩:=h;simp only [mK,VRs];exact ⟨y,_,rfl,C,VRs.take n E⟩
theorem VRs.set {ι:Inj}:∀{l:List V} {xs:List Value} (n:Nat) {v:V} {x:Value},VRs ι l xs->VR ι v x->VRs ι (l.set n v) (xs.set n x)
 | [],_,_,_,_,h,_=>by simp only [VRs] at h;subst h;simp [VRs]
 | _::_,_,0,_,_,h,C=>by
  simp only [VRs] at h;obtain ⟨y,G,rfl,_,E⟩:=h;simp only [List.set_cons_zero,VRs];exact ⟨_,_,rfl,C,E⟩
 | _::_,_,n+1,_,_,h,C=>by
  simp only [VRs] at h;obtain ⟨y,G,rfl,F,E⟩:=h;simp only [List.set_cons_succ,VRs];exact ⟨_,_,rfl,F,VRs.set n E C⟩
theorem VRs.ints {ι:Inj} (k:IntKind):∀(l:List Int),VRs ι (l.map (V.i k)) (l.map (Value.int k))
 | []=>by simp [VRs]
 | n::l=>by simp only [fV,VRs];exact ⟨_,_,rfl,by simp [VR],VRs.ints k l⟩
def Lf.toV:(a:Lf)->a.den->V
 | .i k,n=>.i k n
 | .bo,x=>.b x
 | .s,l=>.s l
def Lf.val:(a:Lf)->a.den->Value
 | .i k,n=>.int k n
 | .bo,x=>.bool x
 | .s,l=>.string ⟨l.toArray⟩
def cells:(t:List Lf)->den t->List V
 | [],_=>[]
 | [a],x=>[a.toV x]
 | a::b::l,x=>a.toV x.1::cells (b::l) x.2
def vals:(t:List Lf)->den t->List Value
 | [],_=>[]
 | [a],x=>[a.val x]
 | a::b::l,x=>a.val x.1::vals (b::l) x.2
theorem Lf.ok (ι:Inj):∀(a:Lf) (x:a.den),VR ι (a.toV x) (a.val x)
 | .i _,_=>by simp [Lf.toV,Lf.val,VR]
 | .bo,_=>by simp [Lf.toV,Lf.val,VR]
 | .s,_=>by simp [Lf.toV,Lf.val,VR]
theorem Lf.ok_iff (ι:Inj):∀(a:Lf) (x:a.den) (y:Value),VR ι (a.toV x) y↔y=a.val x
 | .i _,_,_=>by simp [Lf.toV,Lf.val,VR]
 | .bo,_,_=>by simp [Lf.toV,Lf.val,VR]
 | .s,_,_=>by simp [Lf.toV,Lf.val,VR]
theorem kO (ι:Inj):∀(t:List Lf) (x:den t) (c:List Value),VRs ι (cells t x) c↔c=vals t x
 | [],_,c=>by simp [cells,vals,VRs]
 | [a],x,c=>by
  simp only [cells,vals,VRs];constructor
  ·rintro ⟨y,d,rfl,h,rfl⟩;rw [(a.ok_iff ι x y).1 h]
  ·rintro rfl;exact ⟨_,_,rfl,a.ok ι x,rfl⟩
 | a::b::l,x,c=>by
  simp only [cells,vals,VRs];constructor
  ·rintro ⟨y,d,rfl,h,e⟩;rw [(a.ok_iff ι _ y).1 h,(kO ι (b::l) x.2 d).1 e]
  ·rintro rfl;exact ⟨_,_,rfl,a.ok ι _,(kO ι (b::l) x.2 _).2 rfl⟩
theorem kR:∀(t:List Lf) (x:den t),(cells t x).length=t.length
 | [],_=>rfl
 | [_],_=>rfl
 | _::b::l,x=>by simp [cells,kR (b::l) x.2]
theorem jZ:∀(t:List Lf) (x:den t),(vals t x).length=t.length
 | [],_=>rfl
 | [_],_=>rfl
 | _::b::l,x=>by simp [vals,jZ (b::l) x.2]
inductive Blk where
 | dead
 | rows (t:List Lf) (l:List (den t))
 | cells (l:List V)
 | ints (k:IntKind) (n:Nat) (l:List Int)
 | iter (s:aa) (pos:Nat)
 | mp (k:IntKind) (l:List (Int×Nat))
 deriving Inhabited
def NF (fr:Nat×Nat) (n:Nat):Prop:=∀j,j<n->¬(fr.1<=j/\j<fr.2)
def BR (ι:Inj) (q:Rf):Blk->Obj->Prop
 | .dead,_=>True
 | .rows t l,o=>∃a e fr,o=.cells a e fr/\l.length=q.n/\q.n<=q.k/\q.o+q.k*t.length<=a.size/\(a.toList.drop q.o).take (l.length*t.length)=l.flatMap (vals t)/\(q.fz=true\/NF fr a.size)
 | .cells l,o=>∃a e fr,o=.cells a e fr/\VRs ι l a.toList/\NF fr a.size
 | .ints k n l,o=>∃e fr,o=.cells (l.map (Value.int k)).toArray e fr/\l.length=n/\NF fr n
 | .iter s pos,o=>o=.stringIter ⟨s.toArray⟩ pos
 | .mp k l,o=>∃c b,o=.map c b/\c.toList.map (λe=>(e.key,e.val))=l.map λp=>(Value.int k p.1,fnV p.2 #[])
theorem BR.mono {ι E:Inj} {q:Rf} (h:∀b r,ι b=some r->E b=some r):∀{blk:Blk} {o:Obj},BR ι q blk o->BR E q blk o
 | .dead,_,_=>trivial
 | .rows t l,o,C=>C
 | .cells l,o,C=>by
  obtain ⟨O,e,fr,F,G,J⟩:=C;exact ⟨O,e,fr,F,VRs.mono h _ _ G,J⟩
 | .ints k n l,o,C=>C
 | .iter s pos,o,C=>C
 | .mp k l,o,C=>C
def look {α:Type}:List (Nat×α)->Nat->Option α
 | [],_=>none
 | (k,v)::l,n=>cond (Nat.beq k n) (some v) (look l n)
theorem aY {α:Type} (k:Nat) (v:α) (l:List (Nat×α)) (n:Nat):look ((k,v)::l) n=if k=n then some v else look l n:=by
 simp only [look];by_cases h:k=n
 ·subst h;simp
 ·have:Nat.beq k n=false:=by
   cases a:Nat.beq k n
   ·rfl
   ·exact absurd (bC a) h
  simp [this,h]
structure St where
 T:List (Nat×Option V)
 H:List (Nat×Blk)
 nb:Nat
  /-- So many blocks came in. -/
 lo:Nat:=0
  /-- The first so many of them are only read. -/
 ro:Nat:=0
  /-- From this one on they may be moved (blocks of rows, by append). -/
 rb:Nat:=0
 deriving Inhabited
def TR (ι:Inj) (T:List (Nat×Option V)) (a:Array Value):Prop:=
 ∀t v,look T t=some (some v)->∃x,a[t]?=some x/\VR ι v x
def BW (ι:Inj) (w:World) (b:Nat) (blk:Blk):Prop:=
 (∃q o,ι b=some (some q)/\w.heap[q.r]?=some o/\BR ι q blk o)\/(ι b=some none/\∃t,blk=.rows t [])
structure WR (ι:Inj) (H:List (Nat×Blk)) (nb:Nat) (w:World):Prop where
 inj:∀b b' q q',ι b=some (some q)->ι b'=some (some q')->q.r=q'.r->b=b'\/(q.fz=true/\q'.fz=true)
 low:∀b q,ι b=some q->b<nb
 dom:∀b q,ι b=some (some q)->q.r<w.heap.size
 blk:∀b blk,look H b=some blk->blk≠.dead->BW ι w b blk
theorem BW.real {ι:Inj} {w:World} {b:Nat} {blk:Blk} (h:BW ι w b blk) (C:∀t,blk≠.rows t []):∃q o,ι b=some (some q)/\w.heap[q.r]?=some o/\BR ι q blk o:=by
 rcases h with h | ⟨_,t,h⟩
 ·exact h
 ·exact absurd h (C t)
theorem BW.map {ι E:Inj} {w w':World} {b J:Nat} {blk C:Blk} (h:BW ι w b blk) (O:E J=ι b) (Q:∀q,ι b=some (some q)->w'.heap[q.r]?=w.heap[q.r]?)
  (U:∀q o,BR ι q blk o->BR E q C o) (W:∀t,blk=.rows t []->C=.rows t []):BW E w' J C:=by
 rcases h with ⟨q,o,F,G,X⟩ | ⟨F,t,G⟩
 ·exact .inl ⟨q,o,by rw [O,F],by rw [Q q F,G],U q o X⟩
 ·exact .inr ⟨by rw [O,F],t,W t G⟩
structure Fr (ι0:Inj) (w0 w:World):Prop where
 os:w.os=w0.os
 tape:w.tape=w0.tape
 output:w.output=w0.output
 size:w0.heap.size<=w.heap.size
 blk:∀k,k<w0.heap.size->(∀b q,ι0 b=some (some q)->q.r≠k)->w.heap[k]?=w0.heap[k]?
theorem Fr.refl (ι0:Inj) (w:World):Fr ι0 w w:=⟨rfl,rfl,rfl,aV _,λ_ _ _=>rfl⟩
def roI (ι0:Inj) (ro:Nat):Inj:=λb=>cond (Nat.blt b ro) none (ι0 b)
theorem qo {ι0:Inj} {ro b:Nat} {r:Option Rf} (h:roI ι0 ro b=some r):ι0 b=some r:=by
 unfold roI at h;cases a:Nat.blt b ro with
 | true=>simp [a] at h
 | false=>simpa [a] using h
theorem Ls {ι0:Inj} {ro b:Nat} {r:Option Rf} (h:roI ι0 ro b=some r):ro<=b:=by
 unfold roI at h;rcases aH b ro with a | a
 ·rw [show Nat.blt b ro=true from cT a] at h;cases h
 ·exact a
theorem Dw {ι0:Inj} {ro b:Nat} {r:Option Rf} (h:ι0 b=some r) (a:ro<=b):roI ι0 ro b=some r:=by
 have:Nat.blt b ro=false:=by
  cases hx:Nat.blt b ro with
  | false=>rfl
  | true=>have:b<ro:=aL hx;omega
 simp [roI,this,h]
def GL (R:Inj) (w:World):Prop:=∃L:List (Nat×Obj),Xj L/\(∀x∈L,w.heap[x.1]?=some x.2)/\∀x∈L,∀b q,R b=some (some q)->q.r≠x.1
theorem GL.mono {R F:Inj} {w:World} (h:GL R w) (W:∀b q,F b=some (some q)->(∃E C,R E=some (some C)/\C.r=q.r)\/w.heap.size<=q.r):GL F w:=by
 obtain ⟨L,O,J,X⟩:=h;refine ⟨L,O,J,λx hx b q U=>?_⟩;rcases W b q U with ⟨E,C,G,Q⟩ | G
 ·rw [<-Q];exact X x hx E C G
 ·have hs:x.1<w.heap.size:=by
   rcases aH x.1 w.heap.size with h | h
   ·exact h
   ·have:=J x hx;rw [yd h] at this;cases this
  omega
structure Base where
 w:World
 D:List Deferred:=[]
structure Inv (n:Nat) (ι0:Inj) (w0:Base) (ι:Inj) (s:St) (a:Act) (w:World):Prop where
 size:a.tmps.size=n
 defers:a.defers=w0.D
 tmps:TR ι s.T a.tmps
 mem:WR ι s.H s.nb w
 ext:∀b q,ι0 b=some q->ι b=some q\/s.rb<=b
 new:∀b q,ι b=some (some q)->(∃q',ι0 b=some (some q')/\q'.r=q.r)\/w0.w.heap.size<=q.r
 fr:Fr (roI ι0 s.ro) w0.w w
 low:∀b r,ι0 b=some r->b<s.lo
 fz:∀b q,ι b=some (some q)->q.fz=true->b<s.ro
 gl:GL (roI ι0 s.ro) w0.w
theorem Inv.glHere {n:Nat} {ι0 ι:Inj} {w0:Base} {s:St} {a:Act} {w:World} (h:Inv n ι0 w0 ι s a w) {R:Inj} (Q:∀b q,R b=some (some q)->ι b=some (some q)/\s.ro<=b):GL R w:=by
 obtain ⟨L,G,C,F⟩:=h.gl;have hs:∀x∈L,x.1<w0.w.heap.size:=by
  intro x hx;rcases aH x.1 w0.w.heap.size with h | h
  ·exact h
  ·have:=C x hx;rw [yd h] at this;cases this
 refine ⟨L,G,λx hx=>?_,λx hx b q O=>?_⟩
 ·rw [h.fr.blk x.1 (hs x hx) (F x hx)];exact C x hx
 ·obtain ⟨U,J⟩:=Q b q O;rcases h.new b q U with ⟨W,E,X⟩ | E
  ·rw [<-X];exact F x hx b W (Dw E J)
  ·have:=hs x hx;omega
def upd (ι:Inj) (b:Nat) (r:Option Rf):Inj:=λc=>if c=b then some r else ι c
theorem pT {ι:Inj} {b:Nat} {r:Option Rf} (h:ι b=none):∀c q,ι c=some q->upd ι b r c=some q:=by
 intro c q hc;unfold upd;split
 ·rename_i e;subst e;rw [h] at hc;cases hc
 ·exact hc
theorem TR.mono {ι C:Inj} (h:∀b r,ι b=some r->C b=some r) {T:List (Nat×Option V)} {E:Array Value} (F:TR ι T E):TR C T E:=
 λt v G=>let ⟨x,h1,h2⟩:=F t v G;⟨x,h1,VR.mono h _ _ h2⟩
theorem TR.put {ι:Inj} {T:List (Nat×Option V)} {a:Act} {d:Nat} {v:Option V} {x:Value} (F:TR ι T a.tmps) (J:d<a.tmps.size)
  (G:∀u,v=some u->VR ι u x):TR ι ((d,v)::T) (a.put (some d) x).tmps:=by
 intro t u C;rw [aY] at C;simp only [Act.put];split at C
 ·rename_i e;subst e;simp only [av] at C;exact ⟨x,by simp [J],G u C⟩
 ·rename_i E;obtain ⟨y,Q,O⟩:=F t u C;exact ⟨y,by rw [SL E];exact Q,O⟩
def setObj (w:World) (r:Nat) (o:Obj):World:={ w with heap:=w.heap.setIfInBounds r o }
theorem jK (w:World) (o:Obj):(w.alloc o).heap[w.heap.size]?=some o:=by
 show (w.heap.push o)[w.heap.size]?=some o;simp
theorem jS (w:World) (o:Obj) {k:Nat} (h:k≠w.heap.size):(w.alloc o).heap[k]?=w.heap[k]?:=by
 show (w.heap.push o)[k]?=_;rw [Array.getElem?_push,ab h]
theorem rU {w:World} {r:Nat} {o:Obj} (h:w.heap[r]?=some o):r<w.heap.size:=by
 rcases aH r w.heap.size with a | a
 ·exact a
 ·simp [yd a] at h
theorem WR.draws {ι:Inj} {H:List (Nat×Blk)} {nb:Nat} {w:World} (h:WR ι H nb w) (n:Nat):WR ι H nb { w with drawn:=n }:=
 ⟨h.inj,h.low,h.dom,h.blk⟩
theorem sL {w:World} {r k:Nat} (o:Obj) (h:r≠k):(setObj w r o).heap[k]?=w.heap[k]?:=by
 simp [setObj,SL h]
theorem WR.write {ι:Inj} {H:List (Nat×Blk)} {nb b:Nat} {q:Rf} {w:World} {blk:Blk} {o:Obj} (h:WR ι H nb w) (F:ι b=some (some q)) (W:q.fz=false) (U:BR ι q blk o):
  WR ι ((b,blk)::H) nb (setObj w q.r o):=by
 have O:=h.dom b q F;refine ⟨h.inj,h.low,λc q hc=>by simpa [setObj] using h.dom c q hc,λc E C Q=>?_⟩;rw [aY] at C;split at C
 ·rename_i e;subst e;simp only [av] at C;subst C;exact .inl ⟨q,o,F,by simp [setObj,O],U⟩
 ·rename_i G;exact (h.blk c E C Q).map rfl (λp hp=>sL o λe=>(h.inj b c q p F hp e).elim G λJ=>by rw [W] at J;cases J.1) (λ_ _ x=>x) (λ_ x=>x)
theorem WR.alloc {ι:Inj} {H:List (Nat×Blk)} {nb C f:Nat} {q:Rf} {w:World} {blk:Blk} {o:Obj} (h:WR ι H nb w) (Z:ι f=none) (hn:nb<=C) (U:f<C)
  (Y:q.r=w.heap.size) (ho:BR (upd ι f (some q)) q blk o):WR (upd ι f (some q)) ((f,blk)::H) C (w.alloc o):=by
 have G:=pT (r:=some q) Z;refine ⟨λb b' r r' F E W=>?_,λc p hc=>?_,λc p hc=>?_,λc O J X=>?_⟩
 ·unfold upd at F E;split at F<;>split at E
  ·rename_i e1 e2;exact .inl (e1.trans e2.symm)
  ·simp only [av] at F;subst F;have:=h.dom _ _ E;omega
  ·simp only [av] at E;subst E;have:=h.dom _ _ F;omega
  ·exact h.inj _ _ _ _ F E W
 ·unfold upd at hc;split at hc
  ·rename_i e;subst e;exact U
  ·have:=h.low _ _ hc;omega
 ·unfold upd at hc;split at hc
  ·simp only [av] at hc;subst hc;simp;omega
  ·have:=h.dom _ _ hc;simp;omega
 ·rw [aY] at J;split at J
  ·rename_i e;subst e;simp only [av] at J;subst J;exact .inl ⟨q,o,by simp [upd],by rw [Y];exact jK w o,ho⟩
  ·rename_i Q;refine (h.blk c O J X).map (by simp [upd,Ne.symm Q]) (λp hp=>?_) (λ_ _ x=>BR.mono G x) (λ_ x=>x);have:=h.dom _ _ hp;exact jS w o (by omega)
theorem Fr.draws {ι0:Inj} {w0 w:World} (h:Fr ι0 w0 w) (n:Nat):Fr ι0 w0 { w with drawn:=n }:=⟨h.os,h.tape,h.output,h.size,h.blk⟩
theorem Fr.alloc {ι0:Inj} {w0 w:World} (h:Fr ι0 w0 w) (o:Obj):Fr ι0 w0 (w.alloc o):=by
 refine ⟨h.os,h.tape,h.output,by have:=h.size;simp;omega,λk E C=>?_⟩;have:=h.size;rw [jS w o (by omega)];exact h.blk k E C
theorem Fr.write {ι0:Inj} {w0 w:World} (h:Fr ι0 w0 w) {r:Nat} (F:(∃b q,ι0 b=some (some q)/\q.r=r)\/w0.heap.size<=r) (o:Obj):Fr ι0 w0 (setObj w r o):=by
 refine ⟨h.os,h.tape,h.output,by simpa [setObj] using h.size,λk O G=>?_⟩;have E:r≠k:=by
  rintro rfl;rcases F with ⟨b,q,C,J⟩ | F
  ·exact G b q C J
  ·omega
 simp only [setObj,SL E];exact h.blk k O G
theorem bv {w:World} {r o:Nat} {a:Array Value} {e:TypeId} {fr:Nat×Nat} (h:w.heap[r]?=some (.cells a e fr)):
  w.cell? ⟨r,o,none⟩=a[o]?:=by
 simp [World.cell?,h]
theorem qZ {w:World} {r o:Nat} {a:Array Value} {e:TypeId} {fr:Nat×Nat} (h:w.heap[r]?=some (.cells a e fr)) (b:NF fr a.size) (c:o<a.size):
  w.frozen? ⟨r,o,none⟩=false:=by
 have:=b o c;simp only [World.frozen?,h];by_cases f:fr.1<=o<;>by_cases d:o<fr.2<;>simp_all
theorem Dx {w:World} {r o:Nat} {v:Value} {b:Array Value} {e:TypeId} {fr:Nat×Nat} (h:w.heap[r]?=some (.cells b e fr)):
  w.setCell ⟨r,o,none⟩ v=setObj w r (.cells (b.setIfInBounds o v) e fr):=by
 unfold World.setCell setObj;congr 1;apply TX;intro k;rw [Array.getElem?_modify,S7];have c:=rU h;by_cases a:r=k
 ·subst a;rw [ae rfl,ae rfl,ae c,h];simp
 ·rw [ab a,ab a]
theorem Aw (w:World) (r:Nat) (o a:Obj):setObj (setObj w r o) r a=setObj w r a:=by
 simp [setObj]
theorem F7 {w:World} {r:Nat} {o:Obj} (h:w.heap[r]?=some o):setObj w r o=w:=by
 unfold setObj;congr 1;apply TX;intro k;rw [S7];by_cases a:r=k
 ·subst a;rw [ae rfl,ae (rU h),h]
 ·rw [ab a]
theorem yv {w:World} {r:Nat} {o a:Obj} (h:w.heap[r]?=some o):(setObj w r a).heap[r]?=some a:=by
 have b:=rU h;simp [setObj,b]
end Go.Abs
