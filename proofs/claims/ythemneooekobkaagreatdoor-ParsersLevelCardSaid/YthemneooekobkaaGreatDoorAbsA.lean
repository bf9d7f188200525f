
/- The abstract values and the abstract memory of the interpreter, and how they relate to the model's own.
   Conditions: none; everything here is generic over the program. -/
import Derived.Tactics
import Derived.Below
import Derived.Test.YthemneooekobkaaGreatDoorGlob
set_option linter.unusedSimpArgs false
set_option linter.unusedVariables false
namespace Go
abbrev aa:=List UInt8
abbrev kY:=@Array.ext'
abbrev O3:=@Array.ext_getElem?
abbrev oy:=@Array.getD_eq_getD_getElem?
abbrev Pg:=@Array.getElem?_append_left
abbrev Qz:=@Array.getElem?_eq_getElem
abbrev tQ:=@Array.getElem?_eq_none
abbrev Q0:=@Array.getElem?_replicate
abbrev P6:=@Array.getElem?_setIfInBounds
abbrev OY:=@Array.getElem?_setIfInBounds_ne
abbrev ow:=@Array.getElem?_toList
abbrev GB:=@Array.length_toList
abbrev NH:=@Array.mapM_eq_mapM_toList
abbrev EZ:=@Array.map_empty
abbrev ut:=@Array.toList_append
abbrev uw:=@BEq.rfl
abbrev zq:=@Bool.and_eq_false_iff
abbrev aA:=@Bool.and_eq_true
abbrev xg:=@Bool.and_false
abbrev Gw:=@Bool.and_true
abbrev qI:=@Bool.eq_iff_iff
abbrev vR:=@Bool.false_and
abbrev bq:=@Bool.false_eq_true
abbrev nP:=@Bool.false_or
abbrev C6:=@Bool.not_eq_true
abbrev jL:=@Bool.not_eq_true'
abbrev ie:=@Bool.not_false
abbrev cV:=@Bool.not_true
abbrev mB:=@Bool.or_eq_false_iff
abbrev gv:=@Bool.or_eq_true
abbrev wh:=@Bool.or_false
abbrev nS:=@Bool.true_and
abbrev ED:=@Bool.true_or
abbrev G2:=@ByteArray.ext
abbrev DL:=@Classical.em
abbrev rC:=@Go.Code.wp_mono
abbrev IJ:=@Int.dvd_of_emod_eq_zero
abbrev HW:=@Int.emod_lt_of_pos
abbrev IX:=@Int.emod_nonneg
abbrev ui:=@Int.le_refl
abbrev Nv:=@Int.mul_le_mul_of_nonneg_right
abbrev DD:=@Int.natCast_mul
abbrev J0:=@Int.sub_add_cancel
abbrev M7:=@Int.tdiv_eq_ediv_of_nonneg
abbrev GV:=@Int.tmod_eq_emod
abbrev bI:=@Int.toNat_natCast
abbrev Dx:=@Int.toNat_of_nonneg
abbrev wK:=@Int.zero_sub
abbrev Di:=@Go.IntKind.wrap_i64
abbrev AE:=@List.all_append
abbrev kR:=@List.all_cons
abbrev bS:=@List.all_eq_true
abbrev pP:=@List.any_append
abbrev oh:=@List.any_cons
abbrev pZ:=@List.any_eq_false
abbrev pT:=@List.any_eq_true
abbrev iN:=@List.append_assoc
abbrev mj:=@List.append_nil
abbrev dY:=@List.cons_append
abbrev Iq:=@List.countP_cons
abbrev Ej:=@List.drop_append
abbrev iL:=@List.drop_drop
abbrev qb:=@List.drop_eq_getElem_cons
abbrev iD:=@List.drop_eq_nil_of_le
abbrev AW:=@List.drop_left'
abbrev uC:=@List.drop_length
abbrev oH:=@List.drop_succ_cons
abbrev uB:=@List.drop_take
abbrev cP:=@List.drop_zero
abbrev uI:=@List.eq_nil_of_length_eq_zero
abbrev AZ:=@List.ext_getElem?
abbrev Hf:=@List.filter_append
abbrev NE:=@List.filter_cons_of_neg
abbrev M6:=@List.filter_cons_of_pos
abbrev Dh:=@List.filter_filter
abbrev AI:=@List.findSome?_cons
abbrev Nj:=@List.findSome?_eq_none_iff
abbrev JU:=@List.flatMap_append
abbrev oc:=@List.flatMap_cons
abbrev E4:=@List.foldl_append
abbrev sG:=@List.foldl_cons
abbrev E3:=@List.foldl_nil
abbrev A7:=@List.getD_eq_getElem?_getD
abbrev lJ:=@List.getElem?_append_left
abbrev nT:=@List.getElem?_append_right
abbrev Dy:=@List.getElem?_cons_succ
abbrev kD:=@List.getElem?_cons_zero
abbrev lw:=@List.getElem?_drop
abbrev bj:=@List.getElem?_eq_getElem
abbrev fU:=@List.getElem?_eq_none
abbrev qf:=@List.getElem?_eq_some_iff
abbrev nV:=@List.getElem?_map
abbrev Je:=@List.getElem?_take
abbrev oV:=@List.getElem?_take_of_lt
abbrev zY:=@List.head?_cons
abbrev Eg:=@List.isEmpty_eq_false_iff
abbrev bV:=@List.length_append
abbrev bf:=@List.length_cons
abbrev cZ:=@List.length_drop
abbrev Dz:=@List.length_filter_le
abbrev EM:=@List.length_filter_lt_length_iff_exists
abbrev Bh:=@List.length_map
abbrev dR:=@List.length_nil
abbrev Bn:=@List.length_pos_of_mem
abbrev rX:=@List.length_reverse
abbrev cN:=@List.length_take
abbrev xO:=@List.mapM_cons
abbrev Cc:=@List.map_append
abbrev fC:=@List.map_cons
abbrev ur:=@List.map_map
abbrev kL:=@List.mem_append
abbrev cq:=@List.mem_cons
abbrev gk:=@List.mem_cons_of_mem
abbrev qD:=@List.mem_cons_self
abbrev jX:=@List.mem_filter
abbrev du:=@List.mem_map
abbrev fD:=@List.mem_of_getElem?
abbrev jy:=@List.mem_range
abbrev qu:=@List.mem_range'_1
abbrev BU:=@List.mem_reverse
abbrev uZ:=@List.mem_singleton
abbrev ek:=@List.nil_append
abbrev CN:=@List.nodup_append
abbrev uP:=@List.nodup_cons
abbrev nL:=@List.not_mem_nil
abbrev vb:=@List.range'_succ
abbrev rL:=@List.replicate_succ
abbrev uL:=@List.reverse_reverse
abbrev Hh:=@List.set_eq_take_append_cons_drop
abbrev xF:=@List.size_toArray
abbrev qi:=@List.take_add_one
abbrev BG:=@List.take_append
abbrev oi:=@List.take_append_drop
abbrev rZ:=@List.take_append_of_le_length
abbrev BX:=@List.take_left
abbrev kN:=@List.take_length
abbrev hZ:=@List.take_of_length_le
abbrev mg:=@List.take_succ_cons
abbrev IF:=@List.take_succ_eq_append_getElem
abbrev yX:=@List.take_take
abbrev l8:=@List.take_zero
abbrev gh:=@Nat.add_assoc
abbrev nB:=@Nat.add_comm
abbrev fV:=@Nat.add_mul
abbrev uE:=@Nat.add_right_cancel_iff
abbrev Bm:=@Nat.add_sub_cancel
abbrev BM:=@Nat.add_sub_cancel_left
abbrev cf:=@Nat.add_zero
abbrev ia:=@Nat.beq_eq
abbrev dn:=@Nat.ble_eq_true_of_le
abbrev By:=@Nat.div_le_self
abbrev Cj:=@Nat.div_mul_le_self
abbrev qm:=@Nat.div_one
abbrev bm:=@Nat.eq_of_beq_eq_true
abbrev ym:=@Nat.eq_zero_or_pos
abbrev yY:=@Nat.le_add_right
abbrev CM:=@Nat.le_max_left
abbrev aH:=@Nat.le_of_ble_eq_true
abbrev tW:=@Nat.le_of_eq
abbrev aU:=@Nat.le_refl
abbrev oQ:=@Nat.le_trans
abbrev xx:=@Nat.le_zero
abbrev CX:=@Nat.lt_irrefl
abbrev l9:=@Nat.lt_of_lt_of_le
abbrev aF:=@Nat.lt_or_ge
abbrev CJ:=@Nat.lt_trichotomy
abbrev qo:=@Nat.min_eq_left
abbrev od:=@Nat.mod_eq_of_lt
abbrev qz:=@Nat.mod_lt
abbrev Br:=@Nat.mul_assoc
abbrev sa:=@Nat.mul_comm
abbrev ue:=@Nat.mul_le_mul
abbrev mc:=@Nat.mul_le_mul_right
abbrev oU:=@Nat.mul_one
abbrev y6:=@Nat.ne_of_lt
abbrev zb:=@Nat.one_le_pow
abbrev uT:=@Nat.one_mul
abbrev xu:=@Nat.or_comm
abbrev jG:=@Nat.pow_le_pow_right
abbrev qs:=@Nat.pow_succ
abbrev yO:=@Nat.pow_zero
abbrev nA:=@Nat.sub_zero
abbrev cL:=@Nat.zero_add
abbrev fB:=@Nat.zero_le
abbrev xz:=@Nat.zero_mul
abbrev BY:=@Go.Oper.apart_spec
abbrev IK:=@Option.bind_eq_some_iff
abbrev vv:=@Option.getD_some
abbrev yN:=@Option.isSome_iff_exists
abbrev uz:=@Option.isSome_none
abbrev gM:=@Option.map_none
abbrev ew:=@Option.map_some
abbrev CG:=@Option.none_or
abbrev aY:=@Option.some.inj
abbrev aq:=@Option.some.injEq
abbrev bw:=@Prod.mk.injEq
abbrev az:=@Go.Result.andThen_ok
abbrev uU:=@Go.Result.ok.injEq
abbrev ax:=@Go.Sem.run_bind
abbrev aC:=@Go.Sem.run_pure
abbrev md:=@Sum.inr.injEq
abbrev fF:=@UInt8.toNat_inj
abbrev BL:=@UInt8.toNat_ofNat'
abbrev uG:=@Go.World.alloc_eq
abbrev sw:=@and_congr_right
abbrev vt:=@and_true
abbrev aM:=@beq_eq_false_iff_ne
abbrev bg:=@beq_iff_eq
abbrev si:=@beq_self_eq_true
abbrev gO:=@bne_self_eq_false
abbrev af:=@cond_false
abbrev aj:=@cond_true
abbrev cK:=@congrArg
abbrev lR:=@decide_eq_decide
abbrev ar:=@decide_eq_false
abbrev rH:=@decide_eq_false_iff_not
abbrev am:=@decide_eq_true
abbrev bZ:=@decide_eq_true_eq
abbrev ly:=@decide_false
abbrev me:=@decide_true
abbrev ng:=@exists_congr
abbrev vw:=@false_and
abbrev yF:=@forall_eq_or_imp
abbrev aE:=@if_false
abbrev ab:=@if_neg
abbrev ae:=@if_pos
abbrev aJ:=@if_true
abbrev Bz:=@not_false_eq_true
abbrev rI:=@not_true_eq_false
abbrev n8:=@or_false
abbrev uD:=@Go.run_loadCells_list
abbrev vC:=@Go.run_newObj
abbrev aS:=@Go.run_underlying
abbrev ke:=@true_and
end Go
namespace Go.Abs
inductive Lf where
 | i (k:IntKind)
 | bo
 | s
 deriving Inhabited,DecidableEq
@[reducible] def Lf.den:Lf->Type
 | .i _=>Int
 | .bo=>Bool
 | .s=>aa
@[reducible] def den:List Lf->Type
 | []=>Unit
 | [a]=>a.den
 | a::b::l=>a.den×den (b::l)
inductive V where
 | unk
 | pr (z b j o:Nat)
 | ws (b:Nat)
 | rs (z b j n:Nat) (cap:Option Nat)
 | b (x:Bool)
 | i (k:IntKind) (n:Int)
 | s (l:aa)
 | pn
 | p (b o:Nat)
 | sn
 | sl (b o len:Nat) (cap:Option Nat)
 | fn (f:Nat) (cap:List V)
 | nf
 | ni
 | it (t:Nat) (v:V)
 | ag (l:List V)
 | ai (k:IntKind) (n:Nat) (l:List Int)
 | tp (l:List V)
 | mp (b:Nat)
 deriving Inhabited
structure Rf where
 r:Nat
 n:Nat:=0
 k:Nat:=0
  /-- Of a block of rows: where the rows begin. -/
 o:Nat:=0
  /-- Is it only read? Then others may lie there, too. -/
 fz:Bool:=false
abbrev Rf.of (r n k:Nat):Rf:=⟨r,n,k,0,false⟩
abbrev Inj:=Nat->Option (Option Rf)
def fnW (K f:Nat) (a:Array Value):Value:=
 match Nat.blt f K with
 | true=>.func (.func f) #[] a
 | false=>.func (.func (f - K)) a #[]
def fnV (f:Nat) (a:Array Value):Value:=fnW 1000000 f a
theorem Rz (K f:Nat) (a:Array Value):∃g b c,fnW K f a=.func (.func g) b c:=by
 unfold fnW;split
 ·exact ⟨_,_,_,rfl⟩
 ·exact ⟨_,_,_,rfl⟩
theorem wI (f:Nat) (a:Array Value):∃g b c,fnV f a=.func (.func g) b c:=Rz _ f a
theorem PM {K f:Nat} (h:Nat.blt f K=true) (a:Array Value):fnW K f a=.func (.func f) #[] a:=by
 unfold fnW;rw [h]
theorem CY {f:Nat} (h:Nat.blt f 1000000=true) (a:Array Value):fnV f a=.func (.func f) #[] a:=PM h a
theorem KN (K f:Nat) (a:Array Value):fnW K (f+K) a=.func (.func f) a #[]:=by
 unfold fnW;cases h:Nat.blt (f+K) K with
 | true=>have:f+K<K:=aH h;omega
 | false=>simp
theorem ME (f:Nat) (a:Array Value):fnV (f+1000000) a=.func (.func f) a #[]:=KN _ f a
def fnFW (K f:Nat):Nat:=match Nat.blt f K with | true=>f | false=>f - K
def fnAW {α:Type} (K f:Nat) (args cap:List α):List α:=match Nat.blt f K with | true=>args++cap | false=>cap++args
def fnF (f:Nat):Nat:=fnFW 1000000 f
def fnA {α:Type} (f:Nat) (args cap:List α):List α:=fnAW 1000000 f args cap
def MX (c:Option Nat) (k:Nat):Prop:=∀m,c=some m->k=m
theorem jl {k:Nat}:MX none k:=λ_ h=>by cases h
theorem pa {k:Nat}:MX (some k) k:=λ_ h=>by cases h;rfl
mutual
def VR (ι:Inj):V->Value->Prop
 | .b x,v=>v=.bool x
 | .i k n,v=>v=.int k n
 | .s l,v=>v=.string ⟨l.toArray⟩
 | .pn,v=>v=.pointer none
 | .p b o,v=>∃q,ι b=some (some q)/\v=.pointer (some ⟨q.r,o,none⟩)
 | .sn,v=>v=.slice none 0 0
 | .sl b o len cap,v=>∃q c,ι b=some (some q)/\(∀n,cap=some n->c=n)/\len<=c/\v=.slice (some ⟨q.r,o,none⟩) len c
 | .unk,v=>v.cells=#[v]/\v.oneCell'=true
 | .pr z b j o,v=>∃q,ι b=some (some q)/\v=.pointer (some ⟨q.r,q.o+(j*z+o),none⟩)
 | .ws b,v=>(∃q,ι b=some (some q)/\v=.slice (some ⟨q.r,q.o,none⟩) q.n q.k)\/(ι b=some none/\∃a,v=.slice a 0 0)
 | .rs z b j n e,v=>(∃q c o,ι b=some (some q)/\(n<=c/\MX e c)/\(0<n->o=q.o+j*z)/\v=.slice (some ⟨q.r,o,none⟩) n c)\/(ι b=some none/\(n=0/\MX e 0)/\∃a,v=.slice a 0 0)
 | .fn f cap,v=>∃d,v=fnV f d/\VRs ι cap d.toList
 | .nf,v=>v=.nilFunc
 | .ni,v=>v=.nilIface
 | .it t x,v=>∃y,v=.iface t y/\VR ι x y
 | .ag l,v=>∃d:Array Value,v=.agg d/\VRs ι l d.toList
 | .ai k n l,v=>l.length=n/\v=.agg (l.map (Value.int k)).toArray
 | .tp l,v=>∃d:Array Value,v=.tuple d/\VRs ι l d.toList
 | .mp b,v=>∃q,ι b=some (some q)/\v=.map (some q.r)
def VRs (ι:Inj):List V->List Value->Prop
 | [],a=>a=[]
 | x::l,a=>∃y b,a=y::b/\VR ι x y/\VRs ι l b
end
mutual
theorem VR.mono {ι J:Inj} (h:∀b r,ι b=some r->J b=some r):∀(v:V) (x:Value),VR ι v x->VR J v x
 | .b _,_,C | .i _ _,_,C | .s _,_,C | .pn,_,C | .sn,_,C | .nf,_,C | .ni,_,C | .ai _ _ _,_,C | .unk,_,C=>by simpa [VR] using C
 | .p b o,x,C | .pr z b j o,x,C | .mp b,x,C=>by
  simp only [VR] at C ⊢;obtain ⟨r,F,E⟩:=C;exact ⟨r,h _ _ F,E⟩
 | .ws b,x,C=>by
  simp only [VR] at C ⊢;rcases C with ⟨q,F,E⟩ | ⟨F,E⟩
  ·exact .inl ⟨q,h _ _ F,E⟩
  ·exact .inr ⟨h _ _ F,E⟩
 | .rs z b j n _,x,C=>by
  simp only [VR] at C ⊢;rcases C with ⟨q,c,o,F,E⟩ | ⟨F,E⟩
  ·exact .inl ⟨q,c,o,h _ _ F,E⟩
  ·exact .inr ⟨h _ _ F,E⟩
 | .sl b o len cap,x,C=>by
  simp only [VR] at C ⊢;obtain ⟨r,c,F,E⟩:=C;exact ⟨r,c,h _ _ F,E⟩
 | .fn f cap,x,C=>by
  simp only [VR] at C ⊢;obtain ⟨G,F,E⟩:=C;exact ⟨G,F,VRs.mono h _ _ E⟩
 | .it t v,x,C=>by
  simp only [VR] at C ⊢;obtain ⟨y,F,E⟩:=C;exact ⟨y,F,VR.mono h _ _ E⟩
 | .ag l,x,C=>by
  simp only [VR] at C ⊢;obtain ⟨G,F,E⟩:=C;exact ⟨G,F,VRs.mono h _ _ E⟩
 | .tp l,x,C=>by
  simp only [VR] at C ⊢;obtain ⟨G,F,E⟩:=C;exact ⟨G,F,VRs.mono h _ _ E⟩
theorem VRs.mono {ι C:Inj} (h:∀b r,ι b=some r->C b=some r):∀(l:List V) (F:List Value),VRs ι l F->VRs C l F
 | [],_,E=>by simpa [VRs] using E
 | v::l,F,E=>by
  simp only [VRs] at E ⊢;obtain ⟨y,K,O,G,J⟩:=E;exact ⟨y,K,O,VR.mono h _ _ G,VRs.mono h _ _ J⟩
end
theorem VRs.length {ι:Inj}:∀{l:List V} {xs:List Value},VRs ι l xs->xs.length=l.length
 | [],_,h=>by simp only [VRs] at h;simp [h]
 | _::_,_,h=>by
  simp only [VRs] at h;obtain ⟨y,E,rfl,_,C⟩:=h;simp [VRs.length C]
theorem VRs.get {ι:Inj}:∀{l:List V} {xs:List Value} {j:Nat} {v:V},VRs ι l xs->l[j]?=some v->∃x,xs[j]?=some x/\VR ι v x
 | [],_,_,_,_,C=>by simp at C
 | _::_,_,0,_,h,C=>by
  simp only [VRs] at h;obtain ⟨y,G,rfl,F,_⟩:=h;simp only [kD,aq] at C;subst C;exact ⟨y,by simp,F⟩
 | _::_,_,j+1,_,h,C=>by
  simp only [VRs] at h;obtain ⟨y,G,rfl,_,E⟩:=h;simp only [Dy] at C ⊢;exact VRs.get E C
theorem VRs.of_get {ι:Inj}:∀{l:List V} {C:List Value},C.length=l.length->(∀(j:Nat) (v:V) (x:Value),l[j]?=some v->C[j]?=some x->VR ι v x)->VRs ι l C
 | [],C,E,_=>by simp only [VRs];exact uI (by simpa using E)
 | v::l,[],E,_=>by simp at E
 | v::l,x::C,E,h=>by
  simp only [VRs];refine ⟨x,C,rfl,h 0 v x (by simp) (by simp),VRs.of_get (by simpa using E) λj F G K J=>h (j+1) F G (by simpa using K) (by simpa using J)⟩
theorem VRs.append {ι:Inj}:∀{l:List V} {xs:List Value} {m:List V} {E:List Value},VRs ι l xs->VRs ι m E->VRs ι (l++m) (xs++E)
 | [],_,_,_,h,C=>by simp only [VRs] at h;subst h;simpa using C
 | _::_,_,_,_,h,C=>by
  simp only [VRs] at h;obtain ⟨y,E,rfl,G,F⟩:=h;simp only [dY,VRs];exact ⟨y,_,rfl,G,VRs.append F C⟩
theorem VRs.drop {ι:Inj}:∀{l:List V} {xs:List Value} (n:Nat),VRs ι l xs->VRs ι (l.drop n) (xs.drop n)
 | _,_,0,h=>by simpa using h
 | [],_,_+1,h=>by simp only [VRs] at h;subst h;simp [VRs]
 | _::_,_,n+1,h=>by
  simp only [VRs] at h;obtain ⟨y,E,rfl,_,C⟩:=h;simpa using VRs.drop n C
theorem VRs.take {ι:Inj}:∀{l:List V} {xs:List Value} (n:Nat),VRs ι l xs->VRs ι (l.take n) (xs.take n)
 | _,_,0,_=>by simp [VRs]
 | [],_,_+1,h=>by simp only [VRs] at h;subst h;simp [VRs]
 | _::_,_,n+1,h=>by
  simp only [VRs] at h;obtain ⟨y,F,rfl,E,C⟩:=h;simp only [mg,VRs];exact ⟨y,_,rfl,E,VRs.take n C⟩
theorem VRs.set {ι:Inj}:∀{l:List V} {xs:List Value} (n:Nat) {v:V} {x:Value},VRs ι l xs->VR ι v x->VRs ι (l.set n v) (xs.set n x)
 | [],_,_,_,_,h,_=>by simp only [VRs] at h;subst h;simp [VRs]
 | _::_,_,0,_,_,h,E=>by
  simp only [VRs] at h;obtain ⟨y,G,rfl,_,C⟩:=h;simp only [List.set_cons_zero,VRs];exact ⟨_,_,rfl,E,C⟩
 | _::_,_,n+1,_,_,h,E=>by
  simp only [VRs] at h;obtain ⟨y,G,rfl,F,C⟩:=h;simp only [List.set_cons_succ,VRs];exact ⟨_,_,rfl,F,VRs.set n C E⟩
theorem VRs.ints {ι:Inj} (k:IntKind):∀(l:List Int),VRs ι (l.map (V.i k)) (l.map (Value.int k))
 | []=>by simp [VRs]
 | n::l=>by simp only [fC,VRs];exact ⟨_,_,rfl,by simp [VR],VRs.ints k l⟩
def Lf.toV:(a:Lf)->a.den->V
 | .i k,n=>.i k n
 | .bo,x=>.b x
 | .s,l=>.s l
def Lf.val:(a:Lf)->a.den->Value
 | .i k,n=>.int k n
 | .bo,x=>.bool x
 | .s,l=>.string ⟨l.toArray⟩
def cells:(t:List Lf)->den t->List V
 | [],_=>[]
 | [a],x=>[a.toV x]
 | a::b::l,x=>a.toV x.1::cells (b::l) x.2
def vals:(t:List Lf)->den t->List Value
 | [],_=>[]
 | [a],x=>[a.val x]
 | a::b::l,x=>a.val x.1::vals (b::l) x.2
theorem Lf.ok (ι:Inj):∀(a:Lf) (x:a.den),VR ι (a.toV x) (a.val x)
 | .i _,_=>by simp [Lf.toV,Lf.val,VR]
 | .bo,_=>by simp [Lf.toV,Lf.val,VR]
 | .s,_=>by simp [Lf.toV,Lf.val,VR]
theorem Lf.ok_iff (ι:Inj):∀(a:Lf) (x:a.den) (y:Value),VR ι (a.toV x) y↔y=a.val x
 | .i _,_,_=>by simp [Lf.toV,Lf.val,VR]
 | .bo,_,_=>by simp [Lf.toV,Lf.val,VR]
 | .s,_,_=>by simp [Lf.toV,Lf.val,VR]
theorem kA (ι:Inj):∀(t:List Lf) (x:den t) (c:List Value),VRs ι (cells t x) c↔c=vals t x
 | [],_,c=>by simp [cells,vals,VRs]
 | [a],x,c=>by
  simp only [cells,vals,VRs];constructor
  ·rintro ⟨y,d,rfl,h,rfl⟩;rw [(a.ok_iff ι x y).1 h]
  ·rintro rfl;exact ⟨_,_,rfl,a.ok ι x,rfl⟩
 | a::b::l,x,c=>by
  simp only [cells,vals,VRs];constructor
  ·rintro ⟨y,d,rfl,h,e⟩;rw [(a.ok_iff ι _ y).1 h,(kA ι (b::l) x.2 d).1 e]
  ·rintro rfl;exact ⟨_,_,rfl,a.ok ι _,(kA ι (b::l) x.2 _).2 rfl⟩
theorem jx:∀(t:List Lf) (x:den t),(cells t x).length=t.length
 | [],_=>rfl
 | [_],_=>rfl
 | _::b::l,x=>by simp [cells,jx (b::l) x.2]
theorem i6:∀(t:List Lf) (x:den t),(vals t x).length=t.length
 | [],_=>rfl
 | [_],_=>rfl
 | _::b::l,x=>by simp [vals,i6 (b::l) x.2]
inductive Blk where
 | dead
 | rows (t:List Lf) (l:List (den t))
 | cells (l:List V)
 | ints (k:IntKind) (n:Nat) (l:List Int)
 | iter (s:aa) (pos:Nat)
 | mp (k:IntKind) (l:List (Int×Nat))
 deriving Inhabited
def NF (fr:Nat×Nat) (n:Nat):Prop:=∀j,j<n->¬(fr.1<=j/\j<fr.2)
def BR (ι:Inj) (q:Rf):Blk->Obj->Prop
 | .dead,_=>True
 | .rows t l,o=>∃a e fr,o=.cells a e fr/\l.length=q.n/\q.n<=q.k/\q.o+q.k*t.length<=a.size/\(a.toList.drop q.o).take (l.length*t.length)=l.flatMap (vals t)/\(q.fz=true\/NF fr a.size)
 | .cells l,o=>∃a e fr,o=.cells a e fr/\VRs ι l a.toList/\NF fr a.size
 | .ints k n l,o=>∃e fr,o=.cells (l.map (Value.int k)).toArray e fr/\l.length=n/\NF fr n
 | .iter s pos,o=>o=.stringIter ⟨s.toArray⟩ pos
 | .mp k l,o=>∃c b,o=.map c b/\c.toList.map (λe=>(e.key,e.val))=l.map λp=>(Value.int k p.1,fnV p.2 #[])
theorem BR.mono {ι E:Inj} {q:Rf} (h:∀b r,ι b=some r->E b=some r):∀{blk:Blk} {o:Obj},BR ι q blk o->BR E q blk o
 | .dead,_,_=>trivial
 | .rows t l,o,C=>C
 | .cells l,o,C=>by
  obtain ⟨F,e,fr,K,G,J⟩:=C;exact ⟨F,e,fr,K,VRs.mono h _ _ G,J⟩
 | .ints k n l,o,C=>C
 | .iter s pos,o,C=>C
 | .mp k l,o,C=>C
def look {α:Type}:List (Nat×α)->Nat->Option α
 | [],_=>none
 | (k,v)::l,n=>cond (Nat.beq k n) (some v) (look l n)
theorem aP {α:Type} (k:Nat) (v:α) (l:List (Nat×α)) (n:Nat):look ((k,v)::l) n=if k=n then some v else look l n:=by
 simp only [look];by_cases h:k=n
 ·subst h;simp
 ·have:Nat.beq k n=false:=by
   cases a:Nat.beq k n
   ·rfl
   ·exact absurd (bm a) h
  simp [this,h]
structure St where
 T:List (Nat×Option V)
 H:List (Nat×Blk)
 nb:Nat
  /-- So many blocks came in. -/
 lo:Nat:=0
  /-- The first so many of them are only read. -/
 ro:Nat:=0
  /-- From this one on they may be moved (blocks of rows, by append). -/
 rb:Nat:=0
 deriving Inhabited
def TR (ι:Inj) (T:List (Nat×Option V)) (a:Array Value):Prop:=
 ∀t v,look T t=some (some v)->∃x,a[t]?=some x/\VR ι v x
def BW (ι:Inj) (w:World) (b:Nat) (blk:Blk):Prop:=
 (∃q o,ι b=some (some q)/\w.heap[q.r]?=some o/\BR ι q blk o)\/(ι b=some none/\∃t,blk=.rows t [])
structure WR (ι:Inj) (H:List (Nat×Blk)) (nb:Nat) (w:World):Prop where
 inj:∀b b' q q',ι b=some (some q)->ι b'=some (some q')->q.r=q'.r->b=b'\/(q.fz=true/\q'.fz=true)
 low:∀b q,ι b=some q->b<nb
 dom:∀b q,ι b=some (some q)->q.r<w.heap.size
 blk:∀b blk,look H b=some blk->blk≠.dead->BW ι w b blk
theorem BW.real {ι:Inj} {w:World} {b:Nat} {blk:Blk} (h:BW ι w b blk) (C:∀t,blk≠.rows t []):∃q o,ι b=some (some q)/\w.heap[q.r]?=some o/\BR ι q blk o:=by
 rcases h with h | ⟨_,t,h⟩
 ·exact h
 ·exact absurd h (C t)
theorem BW.map {ι E:Inj} {w w':World} {b J:Nat} {blk C:Blk} (h:BW ι w b blk) (K:E J=ι b) (W:∀q,ι b=some (some q)->w'.heap[q.r]?=w.heap[q.r]?)
  (O:∀q o,BR ι q blk o->BR E q C o) (Q:∀t,blk=.rows t []->C=.rows t []):BW E w' J C:=by
 rcases h with ⟨q,o,F,G,U⟩ | ⟨F,t,G⟩
 ·exact .inl ⟨q,o,by rw [K,F],by rw [W q F,G],O q o U⟩
 ·exact .inr ⟨by rw [K,F],t,Q t G⟩
structure Fr (ι0:Inj) (w0 w:World):Prop where
 os:w.os=w0.os
 tape:w.tape=w0.tape
 output:w.output=w0.output
 size:w0.heap.size<=w.heap.size
 blk:∀k,k<w0.heap.size->(∀b q,ι0 b=some (some q)->q.r≠k)->w.heap[k]?=w0.heap[k]?
theorem Fr.refl (ι0:Inj) (w:World):Fr ι0 w w:=⟨rfl,rfl,rfl,aU _,λ_ _ _=>rfl⟩
def roI (ι0:Inj) (ro:Nat):Inj:=λb=>cond (Nat.blt b ro) none (ι0 b)
theorem nv {ι0:Inj} {ro b:Nat} {r:Option Rf} (h:roI ι0 ro b=some r):ι0 b=some r:=by
 unfold roI at h;cases a:Nat.blt b ro with
 | true=>simp [a] at h
 | false=>simpa [a] using h
theorem GQ {ι0:Inj} {ro b:Nat} {r:Option Rf} (h:roI ι0 ro b=some r):ro<=b:=by
 unfold roI at h;rcases aF b ro with a | a
 ·rw [show Nat.blt b ro=true from dn a] at h;cases h
 ·exact a
theorem zZ {ι0:Inj} {ro b:Nat} {r:Option Rf} (h:ι0 b=some r) (c:ro<=b):roI ι0 ro b=some r:=by
 have:Nat.blt b ro=false:=by
  cases a:Nat.blt b ro with
  | false=>rfl
  | true=>have:b<ro:=aH a;omega
 simp [roI,this,h]
def GL (R:Inj) (w:World):Prop:=∃L:List (Nat×Obj),RV L/\(∀x∈L,w.heap[x.1]?=some x.2)/\∀x∈L,∀b q,R b=some (some q)->q.r≠x.1
theorem GL.mono {R K:Inj} {w:World} (h:GL R w) (W:∀b q,K b=some (some q)->(∃E C,R E=some (some C)/\C.r=q.r)\/w.heap.size<=q.r):GL K w:=by
 obtain ⟨L,X,G,U⟩:=h;refine ⟨L,X,G,λx J b q Q=>?_⟩;rcases W b q Q with ⟨E,C,F,O⟩ | F
 ·rw [<-O];exact U x J E C F
 ·have Y:x.1<w.heap.size:=by
   rcases aF x.1 w.heap.size with h | h
   ·exact h
   ·have:=G x J;rw [tQ h] at this;cases this
  omega
structure Base where
 w:World
 D:List Deferred:=[]
structure Inv (n:Nat) (ι0:Inj) (w0:Base) (ι:Inj) (s:St) (a:Act) (w:World):Prop where
 size:a.tmps.size=n
 defers:a.defers=w0.D
 tmps:TR ι s.T a.tmps
 mem:WR ι s.H s.nb w
 ext:∀b q,ι0 b=some q->ι b=some q\/s.rb<=b
 new:∀b q,ι b=some (some q)->(∃q',ι0 b=some (some q')/\q'.r=q.r)\/w0.w.heap.size<=q.r
 fr:Fr (roI ι0 s.ro) w0.w w
 low:∀b r,ι0 b=some r->b<s.lo
 fz:∀b q,ι b=some (some q)->q.fz=true->b<s.ro
 gl:GL (roI ι0 s.ro) w0.w
theorem Inv.glHere {n:Nat} {ι0 ι:Inj} {w0:Base} {s:St} {a:Act} {w:World} (h:Inv n ι0 w0 ι s a w) {R:Inj} (W:∀b q,R b=some (some q)->ι b=some (some q)/\s.ro<=b):GL R w:=by
 obtain ⟨L,Y,F,G⟩:=h.gl;have J:∀x∈L,x.1<w0.w.heap.size:=by
  intro x C;rcases aF x.1 w0.w.heap.size with h | h
  ·exact h
  ·have:=F x C;rw [tQ h] at this;cases this
 refine ⟨L,Y,λx C=>?_,λx C b q X=>?_⟩
 ·rw [h.fr.blk x.1 (J x C) (G x C)];exact F x C
 ·obtain ⟨O,K⟩:=W b q X;rcases h.new b q O with ⟨U,E,Q⟩ | E
  ·rw [<-Q];exact G x C b U (zZ E K)
  ·have:=J x C;omega
def upd (ι:Inj) (b:Nat) (r:Option Rf):Inj:=λc=>if c=b then some r else ι c
theorem m8 {ι:Inj} {b:Nat} {r:Option Rf} (h:ι b=none):∀c q,ι c=some q->upd ι b r c=some q:=by
 intro c q hc;unfold upd;split
 ·rename_i e;subst e;rw [h] at hc;cases hc
 ·exact hc
theorem TR.mono {ι C:Inj} (h:∀b r,ι b=some r->C b=some r) {T:List (Nat×Option V)} {E:Array Value} (G:TR ι T E):TR C T E:=
 λt v F=>let ⟨x,h1,h2⟩:=G t v F;⟨x,h1,VR.mono h _ _ h2⟩
theorem TR.put {ι:Inj} {T:List (Nat×Option V)} {a:Act} {d:Nat} {v:Option V} {x:Value} (J:TR ι T a.tmps) (F:d<a.tmps.size)
  (O:∀u,v=some u->VR ι u x):TR ι ((d,v)::T) (a.put (some d) x).tmps:=by
 intro t u C;rw [aP] at C;simp only [Act.put];split at C
 ·rename_i e;subst e;simp only [aq] at C;exact ⟨x,by simp [F],O u C⟩
 ·rename_i E;obtain ⟨y,K,G⟩:=J t u C;exact ⟨y,by rw [OY E];exact K,G⟩
def setObj (w:World) (r:Nat) (o:Obj):World:={ w with heap:=w.heap.setIfInBounds r o }
theorem ku (w:World) (o:Obj):(w.alloc o).heap[w.heap.size]?=some o:=by
 show (w.heap.push o)[w.heap.size]?=some o;simp
theorem iP (w:World) (o:Obj) {k:Nat} (h:k≠w.heap.size):(w.alloc o).heap[k]?=w.heap[k]?:=by
 show (w.heap.push o)[k]?=_;rw [Array.getElem?_push,ab h]
theorem rN {w:World} {r:Nat} {o:Obj} (h:w.heap[r]?=some o):r<w.heap.size:=by
 rcases aF r w.heap.size with a | a
 ·exact a
 ·simp [tQ a] at h
theorem WR.draws {ι:Inj} {H:List (Nat×Blk)} {nb:Nat} {w:World} (h:WR ι H nb w) (n:Nat):WR ι H nb { w with drawn:=n }:=
 ⟨h.inj,h.low,h.dom,h.blk⟩
theorem pU {w:World} {r k:Nat} (o:Obj) (h:r≠k):(setObj w r o).heap[k]?=w.heap[k]?:=by
 simp [setObj,OY h]
theorem WR.write {ι:Inj} {H:List (Nat×Blk)} {nb b:Nat} {q:Rf} {w:World} {blk:Blk} {o:Obj} (h:WR ι H nb w) (F:ι b=some (some q)) (Q:q.fz=false) (W:BR ι q blk o):
  WR ι ((b,blk)::H) nb (setObj w q.r o):=by
 have O:=h.dom b q F;refine ⟨h.inj,h.low,λc q hc=>by simpa [setObj] using h.dom c q hc,λc C E K=>?_⟩;rw [aP] at E;split at E
 ·rename_i e;subst e;simp only [aq] at E;subst E;exact .inl ⟨q,o,F,by simp [setObj,O],W⟩
 ·rename_i G;exact (h.blk c C E K).map rfl (λp U=>pU o λe=>(h.inj b c q p F U e).elim G λJ=>by rw [Q] at J;cases J.1) (λ_ _ x=>x) (λ_ x=>x)
theorem WR.alloc {ι:Inj} {H:List (Nat×Blk)} {nb C f:Nat} {q:Rf} {w:World} {blk:Blk} {o:Obj} (h:WR ι H nb w) (W:ι f=none) (hn:nb<=C) (Q:f<C)
  (Z:q.r=w.heap.size) (U:BR (upd ι f (some q)) q blk o):WR (upd ι f (some q)) ((f,blk)::H) C (w.alloc o):=by
 have J:=m8 (r:=some q) W;refine ⟨λb b' r r' E F Y=>?_,λc p hc=>?_,λc p hc=>?_,λc K G hd=>?_⟩
 ·unfold upd at E F;split at E<;>split at F
  ·rename_i e1 X;exact .inl (e1.trans X.symm)
  ·simp only [aq] at E;subst E;have:=h.dom _ _ F;omega
  ·simp only [aq] at F;subst F;have:=h.dom _ _ E;omega
  ·exact h.inj _ _ _ _ E F Y
 ·unfold upd at hc;split at hc
  ·rename_i e;subst e;exact Q
  ·have:=h.low _ _ hc;omega
 ·unfold upd at hc;split at hc
  ·simp only [aq] at hc;subst hc;simp;omega
  ·have:=h.dom _ _ hc;simp;omega
 ·rw [aP] at G;split at G
  ·rename_i e;subst e;simp only [aq] at G;subst G;exact .inl ⟨q,o,by simp [upd],by rw [Z];exact ku w o,U⟩
  ·rename_i O;refine (h.blk c K G hd).map (by simp [upd,Ne.symm O]) (λp hp=>?_) (λ_ _ x=>BR.mono J x) (λ_ x=>x);have:=h.dom _ _ hp;exact iP w o (by omega)
theorem Fr.draws {ι0:Inj} {w0 w:World} (h:Fr ι0 w0 w) (n:Nat):Fr ι0 w0 { w with drawn:=n }:=⟨h.os,h.tape,h.output,h.size,h.blk⟩
theorem Fr.alloc {ι0:Inj} {w0 w:World} (h:Fr ι0 w0 w) (o:Obj):Fr ι0 w0 (w.alloc o):=by
 refine ⟨h.os,h.tape,h.output,by have:=h.size;simp;omega,λk E C=>?_⟩;have:=h.size;rw [iP w o (by omega)];exact h.blk k E C
theorem Fr.write {ι0:Inj} {w0 w:World} (h:Fr ι0 w0 w) {r:Nat} (F:(∃b q,ι0 b=some (some q)/\q.r=r)\/w0.heap.size<=r) (o:Obj):Fr ι0 w0 (setObj w r o):=by
 refine ⟨h.os,h.tape,h.output,by simpa [setObj] using h.size,λk K G=>?_⟩;have E:r≠k:=by
  rintro rfl;rcases F with ⟨b,q,C,J⟩ | F
  ·exact G b q C J
  ·omega
 simp only [setObj,OY E];exact h.blk k K G
theorem bz {w:World} {r o:Nat} {a:Array Value} {e:TypeId} {fr:Nat×Nat} (h:w.heap[r]?=some (.cells a e fr)):
  w.cell? ⟨r,o,none⟩=a[o]?:=by
 simp [World.cell?,h]
theorem oO {w:World} {r o:Nat} {a:Array Value} {e:TypeId} {fr:Nat×Nat} (h:w.heap[r]?=some (.cells a e fr)) (b:NF fr a.size) (c:o<a.size):
  w.frozen? ⟨r,o,none⟩=false:=by
 have:=b o c;simp only [World.frozen?,h];by_cases f:fr.1<=o<;>by_cases d:o<fr.2<;>simp_all
theorem zn {w:World} {r o:Nat} {v:Value} {b:Array Value} {e:TypeId} {fr:Nat×Nat} (h:w.heap[r]?=some (.cells b e fr)):
  w.setCell ⟨r,o,none⟩ v=setObj w r (.cells (b.setIfInBounds o v) e fr):=by
 unfold World.setCell setObj;congr 1;apply O3;intro k;rw [Array.getElem?_modify,P6];have c:=rN h;by_cases a:r=k
 ·subst a;rw [ae rfl,ae rfl,ae c,h];simp
 ·rw [ab a,ab a]
theorem yC (w:World) (r:Nat) (o a:Obj):setObj (setObj w r o) r a=setObj w r a:=by
 simp [setObj]
theorem B8 {w:World} {r:Nat} {o:Obj} (h:w.heap[r]?=some o):setObj w r o=w:=by
 unfold setObj;congr 1;apply O3;intro k;rw [P6];by_cases a:r=k
 ·subst a;rw [ae rfl,ae (rN h),h]
 ·rw [ab a]
theorem vp {w:World} {r:Nat} {o a:Obj} (h:w.heap[r]?=some o):(setObj w r a).heap[r]?=some a:=by
 have b:=rN h;simp [setObj,b]
end Go.Abs
