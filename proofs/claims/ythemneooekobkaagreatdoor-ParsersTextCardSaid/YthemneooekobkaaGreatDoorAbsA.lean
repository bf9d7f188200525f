
/- The abstract values and the abstract memory of the interpreter, and how they relate to the model's own.
   Conditions: none; everything here is generic over the program. -/
import Derived.Tactics
import Derived.Below
import Derived.Test.YthemneooekobkaaGreatDoorGlob
set_option linter.unusedSimpArgs false
set_option linter.unusedVariables false
namespace Go
abbrev aa:=List UInt8
abbrev m6:=@Array.ext'
abbrev U6:=@Array.ext_getElem?
abbrev rt:=@Array.getD_eq_getD_getElem?
abbrev Ut:=@Array.getElem?_append_left
abbrev WM:=@Array.getElem?_eq_getElem
abbrev vU:=@Array.getElem?_eq_none
abbrev Xr:=@Array.getElem?_replicate
abbrev U3:=@Array.getElem?_setIfInBounds
abbrev Td:=@Array.getElem?_setIfInBounds_ne
abbrev qM:=@Array.getElem?_toList
abbrev L2:=@Array.length_toList
abbrev RV:=@Array.mapM_eq_mapM_toList
abbrev IM:=@Array.map_empty
abbrev xo:=@Array.toList_append
abbrev vK:=@BEq.rfl
abbrev Da:=@Bool.and_eq_false_iff
abbrev aD:=@Bool.and_eq_true
abbrev zN:=@Bool.and_false
abbrev DU:=@Bool.and_true
abbrev sI:=@Bool.eq_iff_iff
abbrev yW:=@Bool.false_and
abbrev bs:=@Bool.false_eq_true
abbrev oh:=@Bool.false_or
abbrev HC:=@Bool.not_eq_true
abbrev jP:=@Bool.not_eq_true'
abbrev jA:=@Bool.not_false
abbrev dn:=@Bool.not_true
abbrev ox:=@Bool.or_eq_false_iff
abbrev gX:=@Bool.or_eq_true
abbrev qB:=@Bool.true_and
abbrev Ix:=@Bool.true_or
abbrev LI:=@ByteArray.ext
abbrev Ib:=@Classical.em
abbrev uu:=@Go.Code.wp_mono
abbrev Hi:=@Go.DataW.trod_int
abbrev Ld:=@Decidable.not_not
abbrev OQ:=@Int.dvd_of_emod_eq_zero
abbrev ME:=@Int.emod_lt_of_pos
abbrev LD:=@Int.emod_nonneg
abbrev sL:=@Int.le_refl
abbrev zL:=@Int.mul_comm
abbrev Rl:=@Int.mul_le_mul_of_nonneg_right
abbrev G2:=@Int.natCast_mul
abbrev J6:=@Int.sub_add_cancel
abbrev Sv:=@Int.tdiv_eq_ediv_of_nonneg
abbrev Ns:=@Int.tmod_eq_emod
abbrev Oy:=@Int.tmod_eq_emod_of_nonneg
abbrev bY:=@Int.toNat_natCast
abbrev Ha:=@Int.toNat_of_nonneg
abbrev zQ:=@Int.zero_sub
abbrev Is:=@Go.IntKind.wrap_i64
abbrev Ep:=@List.all_append
abbrev mU:=@List.all_cons
abbrev bW:=@List.all_eq_true
abbrev sM:=@List.any_append
abbrev qX:=@List.any_cons
abbrev sP:=@List.any_eq_false
abbrev sK:=@List.any_eq_true
abbrev fE:=@List.append_assoc
abbrev kC:=@List.append_nil
abbrev D1:=@List.cons.injEq
abbrev eK:=@List.cons_append
abbrev Oa:=@List.countP_cons
abbrev Ig:=@List.drop_append
abbrev jm:=@List.drop_drop
abbrev pE:=@List.drop_eq_getElem_cons
abbrev jk:=@List.drop_eq_nil_of_le
abbrev Dv:=@List.drop_left'
abbrev ue:=@List.drop_length
abbrev pj:=@List.drop_succ_cons
abbrev xB:=@List.drop_take
abbrev cO:=@List.drop_zero
abbrev s8:=@List.eq_nil_of_length_eq_zero
abbrev zZ:=@List.ext_getElem?
abbrev K6:=@List.filter_append
abbrev Rx:=@List.filter_cons_of_neg
abbrev Ri:=@List.filter_cons_of_pos
abbrev HK:=@List.filter_filter
abbrev DG:=@List.findSome?_cons
abbrev Sr:=@List.findSome?_eq_none_iff
abbrev Hf:=@List.flatMap_append
abbrev om:=@List.flatMap_cons
abbrev I6:=@List.foldl_append
abbrev vP:=@List.foldl_cons
abbrev IS:=@List.foldl_nil
abbrev Ei:=@List.getD_eq_getElem?_getD
abbrev nT:=@List.getElem?_append_left
abbrev qA:=@List.getElem?_append_right
abbrev HI:=@List.getElem?_cons_succ
abbrev lC:=@List.getElem?_cons_zero
abbrev mw:=@List.getElem?_drop
abbrev aW:=@List.getElem?_eq_getElem
abbrev fV:=@List.getElem?_eq_none
abbrev rf:=@List.getElem?_eq_some_iff
abbrev qG:=@List.getElem?_map
abbrev Oo:=@List.getElem?_take
abbrev qF:=@List.getElem?_take_of_lt
abbrev HG:=@List.isEmpty_eq_false_iff
abbrev bv:=@List.length_append
abbrev aV:=@List.length_cons
abbrev bN:=@List.length_drop
abbrev CM:=@List.length_filter_le
abbrev AU:=@List.length_filter_lt_length_iff_exists
abbrev Bi:=@List.length_map
abbrev cG:=@List.length_nil
abbrev F6:=@List.length_pos_of_mem
abbrev vf:=@List.length_reverse
abbrev FV:=@List.length_set
abbrev cP:=@List.length_take
abbrev yx:=@List.mapM_cons
abbrev GQ:=@List.map_append
abbrev fW:=@List.map_cons
abbrev uW:=@List.map_map
abbrev lk:=@List.mem_append
abbrev cq:=@List.mem_cons
abbrev fN:=@List.mem_cons_of_mem
abbrev mO:=@List.mem_cons_self
abbrev lQ:=@List.mem_filter
abbrev Gz:=@List.mem_flatMap
abbrev ek:=@List.mem_map
abbrev eW:=@List.mem_of_getElem?
abbrev jp:=@List.mem_range
abbrev tP:=@List.mem_range'_1
abbrev GB:=@List.mem_reverse
abbrev lG:=@List.mem_singleton
abbrev dW:=@List.nil_append
abbrev Gk:=@List.nodup_append
abbrev yD:=@List.nodup_cons
abbrev oL:=@List.not_mem_nil
abbrev wO:=@List.range'_succ
abbrev vc:=@List.replicate_succ
abbrev yP:=@List.reverse_reverse
abbrev Ob:=@List.set_eq_take_append_cons_drop
abbrev AL:=@List.size_toArray
abbrev qU:=@List.take_add_one
abbrev Gm:=@List.take_append
abbrev tA:=@List.take_append_drop
abbrev vk:=@List.take_append_of_le_length
abbrev AB:=@List.take_left
abbrev mP:=@List.take_length
abbrev jB:=@List.take_of_length_le
abbrev oI:=@List.take_succ_cons
abbrev Lx:=@List.take_succ_eq_append_getElem
abbrev A9:=@List.take_take
abbrev oC:=@List.take_zero
abbrev gq:=@Nat.add_assoc
abbrev oG:=@Nat.add_comm
abbrev ic:=@Nat.add_mul
abbrev yg:=@Nat.add_right_cancel_iff
abbrev GO:=@Nat.add_sub_cancel
abbrev Fv:=@Nat.add_sub_cancel_left
abbrev cH:=@Nat.add_zero
abbrev jq:=@Nat.beq_eq
abbrev dm:=@Nat.ble_eq_true_of_le
abbrev Gv:=@Nat.div_mul_le_self
abbrev tU:=@Nat.div_one
abbrev bB:=@Nat.eq_of_beq_eq_true
abbrev AD:=@Nat.eq_zero_or_pos
abbrev B7:=@Nat.le_add_right
abbrev FG:=@Nat.le_max_left
abbrev aN:=@Nat.le_of_ble_eq_true
abbrev yE:=@Nat.le_of_eq
abbrev bi:=@Nat.le_refl
abbrev rF:=@Nat.le_trans
abbrev AX:=@Nat.le_zero
abbrev F9:=@Nat.lt_irrefl
abbrev oU:=@Nat.lt_of_lt_of_le
abbrev aI:=@Nat.lt_or_ge
abbrev Fp:=@Nat.lt_trichotomy
abbrev tj:=@Nat.min_eq_left
abbrev Fo:=@Nat.min_le_right
abbrev ra:=@Nat.mod_eq_of_lt
abbrev rB:=@Nat.mod_lt
abbrev FY:=@Nat.mul_assoc
abbrev va:=@Nat.mul_comm
abbrev yc:=@Nat.mul_le_mul
abbrev oH:=@Nat.mul_le_mul_right
abbrev rl:=@Nat.mul_one
abbrev BQ:=@Nat.ne_of_lt
abbrev Bz:=@Nat.one_le_pow
abbrev yk:=@Nat.one_mul
abbrev ll:=@Nat.pow_le_pow_right
abbrev tK:=@Nat.pow_succ
abbrev AA:=@Nat.pow_zero
abbrev rN:=@Nat.sub_zero
abbrev AH:=@Nat.succ_mul
abbrev cX:=@Nat.zero_add
abbrev ie:=@Nat.zero_le
abbrev BH:=@Nat.zero_mul
abbrev Fj:=@Go.Oper.apart_spec
abbrev AQ:=@Option.bind_eq_some_iff
abbrev xk:=@Option.getD_some
abbrev Ce:=@Option.isSome_iff_exists
abbrev xm:=@Option.isSome_none
abbrev FW:=@Option.map_eq_some_iff
abbrev i7:=@Option.map_none
abbrev fi:=@Option.map_some
abbrev FO:=@Option.none_or
abbrev bn:=@Option.some.inj
abbrev aw:=@Option.some.injEq
abbrev bG:=@Prod.mk.injEq
abbrev aB:=@Go.Result.andThen_ok
abbrev yo:=@Go.Result.ok.injEq
abbrev az:=@Go.Sem.run_bind
abbrev aF:=@Go.Sem.run_pure
abbrev gD:=@UInt8.toNat_inj
abbrev FB:=@UInt8.toNat_ofNat'
abbrev yF:=@Go.World.alloc_eq
abbrev Gj:=@Go.World.cells?_some
abbrev vh:=@and_congr_right
abbrev tH:=@and_true
abbrev aJ:=@beq_eq_false_iff_ne
abbrev bp:=@beq_iff_eq
abbrev uY:=@beq_self_eq_true
abbrev hJ:=@bne_self_eq_false
abbrev af:=@cond_false
abbrev ah:=@cond_true
abbrev cD:=@congrArg
abbrev nV:=@decide_eq_decide
abbrev ar:=@decide_eq_false
abbrev ta:=@decide_eq_false_iff_not
abbrev aq:=@decide_eq_true
abbrev cr:=@decide_eq_true_eq
abbrev nN:=@decide_false
abbrev oy:=@decide_true
abbrev qs:=@exists_congr
abbrev yA:=@false_and
abbrev CN:=@forall_eq_or_imp
abbrev aG:=@if_false
abbrev ab:=@if_neg
abbrev ae:=@if_pos
abbrev aM:=@if_true
abbrev Gt:=@not_false_eq_true
abbrev vw:=@not_true_eq_false
abbrev qe:=@or_false
abbrev yy:=@Go.run_loadCells_list
abbrev yf:=@Go.run_newObj
abbrev be:=@Go.run_underlying
abbrev ku:=@true_and
end Go
namespace Go.Abs
inductive Lf where
 | i (k:IntKind)
 | bo
 | s
 deriving Inhabited,DecidableEq
@[reducible] def Lf.den:Lf->Type
 | .i _=>Int
 | .bo=>Bool
 | .s=>aa
@[reducible] def den:List Lf->Type
 | []=>Unit
 | [a]=>a.den
 | a::b::l=>a.den×den (b::l)
inductive V where
 | unk
 | pr (z b j o:Nat)
 | ws (b:Nat)
 | rs (z b j n:Nat) (cap:Option Nat)
 | b (x:Bool)
 | i (k:IntKind) (n:Int)
 | s (l:aa)
 | pn
 | p (b o:Nat)
 | sn
 | sl (b o len:Nat) (cap:Option Nat)
 | fn (f:Nat) (cap:List V)
 | nf
 | ni
 | it (t:Nat) (v:V)
 | ag (l:List V)
 | ai (k:IntKind) (n:Nat) (l:List Int)
 | tp (l:List V)
 | mp (b:Nat)
 deriving Inhabited
structure Rf where
 r:Nat
 n:Nat:=0
 k:Nat:=0
  /-- Of a block of rows: where the rows begin. -/
 o:Nat:=0
  /-- Is it only read? Then others may lie there, too. -/
 fz:Bool:=false
abbrev Rf.of (r n k:Nat):Rf:=⟨r,n,k,0,false⟩
abbrev Inj:=Nat->Option (Option Rf)
def fnW (K f:Nat) (a:Array Value):Value:=
 match Nat.blt f K with
 | true=>.func (.func f) #[] a
 | false=>.func (.func (f - K)) a #[]
def fnV (f:Nat) (a:Array Value):Value:=fnW 1000000 f a
theorem VH (K f:Nat) (a:Array Value):∃g b c,fnW K f a=.func (.func g) b c:=by
 unfold fnW;split
 ·exact ⟨_,_,_,rfl⟩
 ·exact ⟨_,_,_,rfl⟩
theorem Ac (f:Nat) (a:Array Value):∃g b c,fnV f a=.func (.func g) b c:=VH _ f a
theorem SS {K f:Nat} (h:Nat.blt f K=true) (a:Array Value):fnW K f a=.func (.func f) #[] a:=by
 unfold fnW;rw [h]
theorem Gg {f:Nat} (h:Nat.blt f 1000000=true) (a:Array Value):fnV f a=.func (.func f) #[] a:=SS h a
theorem Qg (K f:Nat) (a:Array Value):fnW K (f+K) a=.func (.func f) a #[]:=by
 unfold fnW;cases h:Nat.blt (f+K) K with
 | true=>have:f+K<K:=aN h;omega
 | false=>simp
theorem Qc (f:Nat) (a:Array Value):fnV (f+1000000) a=.func (.func f) a #[]:=Qg _ f a
def fnFW (K f:Nat):Nat:=match Nat.blt f K with | true=>f | false=>f - K
def fnAW {α:Type} (K f:Nat) (args cap:List α):List α:=match Nat.blt f K with | true=>args++cap | false=>cap++args
def fnF (f:Nat):Nat:=fnFW 1000000 f
def fnA {α:Type} (f:Nat) (args cap:List α):List α:=fnAW 1000000 f args cap
def OZ (c:Option Nat) (k:Nat):Prop:=∀m,c=some m->k=m
theorem kB {k:Nat}:OZ none k:=λ_ h=>by cases h
theorem si {k:Nat}:OZ (some k) k:=λ_ h=>by cases h;rfl
mutual
def VR (ι:Inj):V->Value->Prop
 | .b x,v=>v=.bool x
 | .i k n,v=>v=.int k n
 | .s l,v=>v=.string ⟨l.toArray⟩
 | .pn,v=>v=.pointer none
 | .p b o,v=>∃q,ι b=some (some q)/\v=.pointer (some ⟨q.r,o,none⟩)
 | .sn,v=>v=.slice none 0 0
 | .sl b o len cap,v=>∃q c,ι b=some (some q)/\(∀n,cap=some n->c=n)/\len<=c/\v=.slice (some ⟨q.r,o,none⟩) len c
 | .unk,v=>v.cells=#[v]/\v.oneCell'=true
 | .pr z b j o,v=>∃q,ι b=some (some q)/\v=.pointer (some ⟨q.r,q.o+(j*z+o),none⟩)
 | .ws b,v=>(∃q,ι b=some (some q)/\v=.slice (some ⟨q.r,q.o,none⟩) q.n q.k)\/(ι b=some none/\∃a,v=.slice a 0 0)
 | .rs z b j n e,v=>(∃q c o,ι b=some (some q)/\(n<=c/\OZ e c)/\(0<n->o=q.o+j*z)/\v=.slice (some ⟨q.r,o,none⟩) n c)\/(ι b=some none/\(n=0/\OZ e 0)/\∃a,v=.slice a 0 0)
 | .fn f cap,v=>∃d,v=fnV f d/\VRs ι cap d.toList
 | .nf,v=>v=.nilFunc
 | .ni,v=>v=.nilIface
 | .it t x,v=>∃y,v=.iface t y/\VR ι x y
 | .ag l,v=>∃d:Array Value,v=.agg d/\VRs ι l d.toList
 | .ai k n l,v=>l.length=n/\v=.agg (l.map (Value.int k)).toArray
 | .tp l,v=>∃d:Array Value,v=.tuple d/\VRs ι l d.toList
 | .mp b,v=>∃q,ι b=some (some q)/\v=.map (some q.r)
def VRs (ι:Inj):List V->List Value->Prop
 | [],a=>a=[]
 | x::l,a=>∃y b,a=y::b/\VR ι x y/\VRs ι l b
end
mutual
theorem VR.mono {ι F:Inj} (h:∀b r,ι b=some r->F b=some r):∀(v:V) (x:Value),VR ι v x->VR F v x
 | .b _,_,hx | .i _ _,_,hx | .s _,_,hx | .pn,_,hx | .sn,_,hx | .nf,_,hx | .ni,_,hx | .ai _ _ _,_,hx | .unk,_,hx=>by simpa [VR] using hx
 | .p b o,x,hx | .pr z b j o,x,hx | .mp b,x,hx=>by
  simp only [VR] at hx ⊢;obtain ⟨r,E,C⟩:=hx;exact ⟨r,h _ _ E,C⟩
 | .ws b,x,hx=>by
  simp only [VR] at hx ⊢;rcases hx with ⟨q,E,C⟩ | ⟨E,C⟩
  ·exact .inl ⟨q,h _ _ E,C⟩
  ·exact .inr ⟨h _ _ E,C⟩
 | .rs z b j n _,x,hx=>by
  simp only [VR] at hx ⊢;rcases hx with ⟨q,c,o,E,C⟩ | ⟨E,C⟩
  ·exact .inl ⟨q,c,o,h _ _ E,C⟩
  ·exact .inr ⟨h _ _ E,C⟩
 | .sl b o len cap,x,hx=>by
  simp only [VR] at hx ⊢;obtain ⟨r,c,E,C⟩:=hx;exact ⟨r,c,h _ _ E,C⟩
 | .fn f cap,x,hx=>by
  simp only [VR] at hx ⊢;obtain ⟨G,E,C⟩:=hx;exact ⟨G,E,VRs.mono h _ _ C⟩
 | .it t v,x,hx=>by
  simp only [VR] at hx ⊢;obtain ⟨y,E,C⟩:=hx;exact ⟨y,E,VR.mono h _ _ C⟩
 | .ag l,x,hx=>by
  simp only [VR] at hx ⊢;obtain ⟨G,E,C⟩:=hx;exact ⟨G,E,VRs.mono h _ _ C⟩
 | .tp l,x,hx=>by
  simp only [VR] at hx ⊢;obtain ⟨G,E,C⟩:=hx;exact ⟨G,E,VRs.mono h _ _ C⟩
theorem VRs.mono {ι C:Inj} (h:∀b r,ι b=some r->C b=some r):∀(l:List V) (E:List Value),VRs ι l E->VRs C l E
 | [],_,hx=>by simpa [VRs] using hx
 | v::l,E,hx=>by
  simp only [VRs] at hx ⊢;obtain ⟨y,O,G,F,J⟩:=hx;exact ⟨y,O,G,VR.mono h _ _ F,VRs.mono h _ _ J⟩
end
theorem VRs.length {ι:Inj}:∀{l:List V} {xs:List Value},VRs ι l xs->xs.length=l.length
 | [],_,h=>by simp only [VRs] at h;simp [h]
 | _::_,_,h=>by
  simp only [VRs] at h;obtain ⟨y,E,rfl,_,C⟩:=h;simp [VRs.length C]
theorem VRs.get {ι:Inj}:∀{l:List V} {xs:List Value} {j:Nat} {v:V},VRs ι l xs->l[j]?=some v->∃x,xs[j]?=some x/\VR ι v x
 | [],_,_,_,_,C=>by simp at C
 | _::_,_,0,_,h,C=>by
  simp only [VRs] at h;obtain ⟨y,G,rfl,F,_⟩:=h;simp only [lC,aw] at C;subst C;exact ⟨y,by simp,F⟩
 | _::_,_,j+1,_,h,C=>by
  simp only [VRs] at h;obtain ⟨y,G,rfl,_,E⟩:=h;simp only [HI] at C ⊢;exact VRs.get E C
theorem VRs.of_get {ι:Inj}:∀{l:List V} {C:List Value},C.length=l.length->(∀(j:Nat) (v:V) (x:Value),l[j]?=some v->C[j]?=some x->VR ι v x)->VRs ι l C
 | [],C,E,_=>by simp only [VRs];exact s8 (by simpa using E)
 | v::l,[],E,_=>by simp at E
 | v::l,x::C,E,h=>by
  simp only [VRs];refine ⟨x,C,rfl,h 0 v x (by simp) (by simp),VRs.of_get (by simpa using E) λj O J G F=>h (j+1) O J (by simpa using G) (by simpa using F)⟩
theorem VRs.append {ι:Inj}:∀{l:List V} {xs:List Value} {m:List V} {E:List Value},VRs ι l xs->VRs ι m E->VRs ι (l++m) (xs++E)
 | [],_,_,_,h,C=>by simp only [VRs] at h;subst h;simpa using C
 | _::_,_,_,_,h,C=>by
  simp only [VRs] at h;obtain ⟨y,E,rfl,G,F⟩:=h;simp only [eK,VRs];exact ⟨y,_,rfl,G,VRs.append F C⟩
theorem VRs.drop {ι:Inj}:∀{l:List V} {xs:List Value} (n:Nat),VRs ι l xs->VRs ι (l.drop n) (xs.drop n)
 | _,_,0,h=>by simpa using h
 | [],_,_+1,h=>by simp only [VRs] at h;subst h;simp [VRs]
 | _::_,_,n+1,h=>by
  simp only [VRs] at h;obtain ⟨y,E,rfl,_,C⟩:=h;simpa using VRs.drop n C
theorem VRs.take {ι:Inj}:∀{l:List V} {xs:List Value} (n:Nat),VRs ι l xs->VRs ι (l.take n) (xs.take n)
 | _,_,0,_=>by simp [VRs]
 | [],_,_+1,h=>by simp only [VRs] at h;subst h;simp [VRs]
 | _::_,_,n+1,h=>by
  simp only [VRs] at h;obtain ⟨y,F,rfl,E,C⟩:=h;simp only [oI,VRs];exact ⟨y,_,rfl,E,VRs.take n C⟩
theorem VRs.set {ι:Inj}:∀{l:List V} {xs:List Value} (n:Nat) {v:V} {x:Value},VRs ι l xs->VR ι v x->VRs ι (l.set n v) (xs.set n x)
 | [],_,_,_,_,h,_=>by simp only [VRs] at h;subst h;simp [VRs]
 | _::_,_,0,_,_,h,C=>by
  simp only [VRs] at h;obtain ⟨y,G,rfl,_,E⟩:=h;simp only [List.set_cons_zero,VRs];exact ⟨_,_,rfl,C,E⟩
 | _::_,_,n+1,_,_,h,C=>by
  simp only [VRs] at h;obtain ⟨y,G,rfl,F,E⟩:=h;simp only [List.set_cons_succ,VRs];exact ⟨_,_,rfl,F,VRs.set n E C⟩
theorem VRs.ints {ι:Inj} (k:IntKind):∀(l:List Int),VRs ι (l.map (V.i k)) (l.map (Value.int k))
 | []=>by simp [VRs]
 | n::l=>by simp only [fW,VRs];exact ⟨_,_,rfl,by simp [VR],VRs.ints k l⟩
def Lf.toV:(a:Lf)->a.den->V
 | .i k,n=>.i k n
 | .bo,x=>.b x
 | .s,l=>.s l
def Lf.val:(a:Lf)->a.den->Value
 | .i k,n=>.int k n
 | .bo,x=>.bool x
 | .s,l=>.string ⟨l.toArray⟩
def cells:(t:List Lf)->den t->List V
 | [],_=>[]
 | [a],x=>[a.toV x]
 | a::b::l,x=>a.toV x.1::cells (b::l) x.2
def vals:(t:List Lf)->den t->List Value
 | [],_=>[]
 | [a],x=>[a.val x]
 | a::b::l,x=>a.val x.1::vals (b::l) x.2
theorem Lf.ok (ι:Inj):∀(a:Lf) (x:a.den),VR ι (a.toV x) (a.val x)
 | .i _,_=>by simp [Lf.toV,Lf.val,VR]
 | .bo,_=>by simp [Lf.toV,Lf.val,VR]
 | .s,_=>by simp [Lf.toV,Lf.val,VR]
theorem Lf.ok_iff (ι:Inj):∀(a:Lf) (x:a.den) (y:Value),VR ι (a.toV x) y↔y=a.val x
 | .i _,_,_=>by simp [Lf.toV,Lf.val,VR]
 | .bo,_,_=>by simp [Lf.toV,Lf.val,VR]
 | .s,_,_=>by simp [Lf.toV,Lf.val,VR]
theorem od (ι:Inj):∀(t:List Lf) (x:den t) (c:List Value),VRs ι (cells t x) c↔c=vals t x
 | [],_,c=>by simp [cells,vals,VRs]
 | [a],x,c=>by
  simp only [cells,vals,VRs];constructor
  ·rintro ⟨y,d,rfl,h,rfl⟩;rw [(a.ok_iff ι x y).1 h]
  ·rintro rfl;exact ⟨_,_,rfl,a.ok ι x,rfl⟩
 | a::b::l,x,c=>by
  simp only [cells,vals,VRs];constructor
  ·rintro ⟨y,d,rfl,h,e⟩;rw [(a.ok_iff ι _ y).1 h,(od ι (b::l) x.2 d).1 e]
  ·rintro rfl;exact ⟨_,_,rfl,a.ok ι _,(od ι (b::l) x.2 _).2 rfl⟩
theorem kX:∀(t:List Lf) (x:den t),(cells t x).length=t.length
 | [],_=>rfl
 | [_],_=>rfl
 | _::b::l,x=>by simp [cells,kX (b::l) x.2]
theorem gO:∀(t:List Lf) (x:den t),(vals t x).length=t.length
 | [],_=>rfl
 | [_],_=>rfl
 | _::b::l,x=>by simp [vals,gO (b::l) x.2]
inductive Blk where
 | dead
 | rows (t:List Lf) (l:List (den t))
 | cells (l:List V)
 | ints (k:IntKind) (n:Nat) (l:List Int)
 | iter (s:aa) (pos:Nat)
 | mp (k:IntKind) (l:List (Int×Nat))
 deriving Inhabited
def NF (fr:Nat×Nat) (n:Nat):Prop:=∀j,j<n->¬(fr.1<=j/\j<fr.2)
def BR (ι:Inj) (q:Rf):Blk->Obj->Prop
 | .dead,_=>True
 | .rows t l,o=>∃a e fr,o=.cells a e fr/\l.length=q.n/\q.n<=q.k/\q.o+q.k*t.length<=a.size/\(a.toList.drop q.o).take (l.length*t.length)=l.flatMap (vals t)/\(q.fz=true\/NF fr a.size)
 | .cells l,o=>∃a e fr,o=.cells a e fr/\VRs ι l a.toList/\NF fr a.size
 | .ints k n l,o=>∃e fr,o=.cells (l.map (Value.int k)).toArray e fr/\l.length=n/\NF fr n
 | .iter s pos,o=>o=.stringIter ⟨s.toArray⟩ pos
 | .mp k l,o=>∃c b,o=.map c b/\c.toList.map (λe=>(e.key,e.val))=l.map λp=>(Value.int k p.1,fnV p.2 #[])
theorem BR.mono {ι E:Inj} {q:Rf} (h:∀b r,ι b=some r->E b=some r):∀{blk:Blk} {o:Obj},BR ι q blk o->BR E q blk o
 | .dead,_,_=>trivial
 | .rows t l,o,C=>C
 | .cells l,o,C=>by
  obtain ⟨F,e,fr,J,G,O⟩:=C;exact ⟨F,e,fr,J,VRs.mono h _ _ G,O⟩
 | .ints k n l,o,C=>C
 | .iter s pos,o,C=>C
 | .mp k l,o,C=>C
def look {α:Type}:List (Nat×α)->Nat->Option α
 | [],_=>none
 | (k,v)::l,n=>cond (Nat.beq k n) (some v) (look l n)
theorem aX {α:Type} (k:Nat) (v:α) (l:List (Nat×α)) (n:Nat):look ((k,v)::l) n=if k=n then some v else look l n:=by
 simp only [look];by_cases h:k=n
 ·subst h;simp
 ·have:Nat.beq k n=false:=by
   cases a:Nat.beq k n
   ·rfl
   ·exact absurd (bB a) h
  simp [this,h]
structure St where
 T:List (Nat×Option V)
 H:List (Nat×Blk)
 nb:Nat
  /-- So many blocks came in. -/
 lo:Nat:=0
  /-- The first so many of them are only read. -/
 ro:Nat:=0
  /-- From this one on they may be moved (blocks of rows, by append). -/
 rb:Nat:=0
 deriving Inhabited
def TR (ι:Inj) (T:List (Nat×Option V)) (a:Array Value):Prop:=
 ∀t v,look T t=some (some v)->∃x,a[t]?=some x/\VR ι v x
def BW (ι:Inj) (w:World) (b:Nat) (blk:Blk):Prop:=
 (∃q o,ι b=some (some q)/\w.heap[q.r]?=some o/\BR ι q blk o)\/(ι b=some none/\∃t,blk=.rows t [])
structure WR (ι:Inj) (H:List (Nat×Blk)) (nb:Nat) (w:World):Prop where
 inj:∀b b' q q',ι b=some (some q)->ι b'=some (some q')->q.r=q'.r->b=b'\/(q.fz=true/\q'.fz=true)
 low:∀b q,ι b=some q->b<nb
 dom:∀b q,ι b=some (some q)->q.r<w.heap.size
 blk:∀b blk,look H b=some blk->blk≠.dead->BW ι w b blk
theorem BW.real {ι:Inj} {w:World} {b:Nat} {blk:Blk} (h:BW ι w b blk) (C:∀t,blk≠.rows t []):∃q o,ι b=some (some q)/\w.heap[q.r]?=some o/\BR ι q blk o:=by
 rcases h with h | ⟨_,t,h⟩
 ·exact h
 ·exact absurd h (C t)
theorem BW.map {ι E:Inj} {w w':World} {b J:Nat} {blk C:Blk} (h:BW ι w b blk) (O:E J=ι b) (U:∀q,ι b=some (some q)->w'.heap[q.r]?=w.heap[q.r]?)
  (W:∀q o,BR ι q blk o->BR E q C o) (Q:∀t,blk=.rows t []->C=.rows t []):BW E w' J C:=by
 rcases h with ⟨q,o,F,G,X⟩ | ⟨F,t,G⟩
 ·exact .inl ⟨q,o,by rw [O,F],by rw [U q F,G],W q o X⟩
 ·exact .inr ⟨by rw [O,F],t,Q t G⟩
structure Fr (ι0:Inj) (w0 w:World):Prop where
 os:w.os=w0.os
 tape:w.tape=w0.tape
 output:w.output=w0.output
 size:w0.heap.size<=w.heap.size
 blk:∀k,k<w0.heap.size->(∀b q,ι0 b=some (some q)->q.r≠k)->w.heap[k]?=w0.heap[k]?
theorem Fr.refl (ι0:Inj) (w:World):Fr ι0 w w:=⟨rfl,rfl,rfl,bi _,λ_ _ _=>rfl⟩
def roI (ι0:Inj) (ro:Nat):Inj:=λb=>cond (Nat.blt b ro) none (ι0 b)
theorem ql {ι0:Inj} {ro b:Nat} {r:Option Rf} (h:roI ι0 ro b=some r):ι0 b=some r:=by
 unfold roI at h;cases a:Nat.blt b ro with
 | true=>simp [a] at h
 | false=>simpa [a] using h
theorem On {ι0:Inj} {ro b:Nat} {r:Option Rf} (h:roI ι0 ro b=some r):ro<=b:=by
 unfold roI at h;rcases aI b ro with a | a
 ·rw [show Nat.blt b ro=true from dm a] at h;cases h
 ·exact a
theorem Eh {ι0:Inj} {ro b:Nat} {r:Option Rf} (h:ι0 b=some r) (a:ro<=b):roI ι0 ro b=some r:=by
 have:Nat.blt b ro=false:=by
  cases hx:Nat.blt b ro with
  | false=>rfl
  | true=>have:b<ro:=aN hx;omega
 simp [roI,this,h]
def GL (R:Inj) (w:World):Prop:=∃L:List (Nat×Obj),WE L/\(∀x∈L,w.heap[x.1]?=some x.2)/\∀x∈L,∀b q,R b=some (some q)->q.r≠x.1
theorem GL.mono {R F:Inj} {w:World} (h:GL R w) (U:∀b q,F b=some (some q)->(∃E C,R E=some (some C)/\C.r=q.r)\/w.heap.size<=q.r):GL F w:=by
 obtain ⟨L,O,G,X⟩:=h;refine ⟨L,O,G,λx hx b q W=>?_⟩;rcases U b q W with ⟨E,C,J,Q⟩ | J
 ·rw [<-Q];exact X x hx E C J
 ·have hs:x.1<w.heap.size:=by
   rcases aI x.1 w.heap.size with h | h
   ·exact h
   ·have:=G x hx;rw [vU h] at this;cases this
  omega
structure Base where
 w:World
 D:List Deferred:=[]
structure Inv (n:Nat) (ι0:Inj) (w0:Base) (ι:Inj) (s:St) (a:Act) (w:World):Prop where
 size:a.tmps.size=n
 defers:a.defers=w0.D
 tmps:TR ι s.T a.tmps
 mem:WR ι s.H s.nb w
 ext:∀b q,ι0 b=some q->ι b=some q\/s.rb<=b
 new:∀b q,ι b=some (some q)->(∃q',ι0 b=some (some q')/\q'.r=q.r)\/w0.w.heap.size<=q.r
 fr:Fr (roI ι0 s.ro) w0.w w
 low:∀b r,ι0 b=some r->b<s.lo
 fz:∀b q,ι b=some (some q)->q.fz=true->b<s.ro
 gl:GL (roI ι0 s.ro) w0.w
theorem Inv.glHere {n:Nat} {ι0 ι:Inj} {w0:Base} {s:St} {a:Act} {w:World} (h:Inv n ι0 w0 ι s a w) {R:Inj} (U:∀b q,R b=some (some q)->ι b=some (some q)/\s.ro<=b):GL R w:=by
 obtain ⟨L,O,C,E⟩:=h.gl;have hs:∀x∈L,x.1<w0.w.heap.size:=by
  intro x hx;rcases aI x.1 w0.w.heap.size with h | h
  ·exact h
  ·have:=C x hx;rw [vU h] at this;cases this
 refine ⟨L,O,λx hx=>?_,λx hx b q W=>?_⟩
 ·rw [h.fr.blk x.1 (hs x hx) (E x hx)];exact C x hx
 ·obtain ⟨X,Q⟩:=U b q W;rcases h.new b q X with ⟨J,F,G⟩ | F
  ·rw [<-G];exact E x hx b J (Eh F Q)
  ·have:=hs x hx;omega
def upd (ι:Inj) (b:Nat) (r:Option Rf):Inj:=λc=>if c=b then some r else ι c
theorem qj {ι:Inj} {b:Nat} {r:Option Rf} (h:ι b=none):∀c q,ι c=some q->upd ι b r c=some q:=by
 intro c q hc;unfold upd;split
 ·rename_i e;subst e;rw [h] at hc;cases hc
 ·exact hc
theorem TR.mono {ι C:Inj} (h:∀b r,ι b=some r->C b=some r) {T:List (Nat×Option V)} {E:Array Value} (F:TR ι T E):TR C T E:=
 λt v G=>let ⟨x,h1,h2⟩:=F t v G;⟨x,h1,VR.mono h _ _ h2⟩
theorem TR.put {ι:Inj} {T:List (Nat×Option V)} {a:Act} {d:Nat} {v:Option V} {x:Value} (F:TR ι T a.tmps) (Q:d<a.tmps.size)
  (G:∀u,v=some u->VR ι u x):TR ι ((d,v)::T) (a.put (some d) x).tmps:=by
 intro t u C;rw [aX] at C;simp only [Act.put];split at C
 ·rename_i e;subst e;simp only [aw] at C;exact ⟨x,by simp [Q],G u C⟩
 ·rename_i E;obtain ⟨y,O,J⟩:=F t u C;exact ⟨y,by rw [Td E];exact O,J⟩
def setObj (w:World) (r:Nat) (o:Obj):World:={ w with heap:=w.heap.setIfInBounds r o }
theorem mc (w:World) (o:Obj):(w.alloc o).heap[w.heap.size]?=some o:=by
 show (w.heap.push o)[w.heap.size]?=some o;simp
theorem jU (w:World) (o:Obj) {k:Nat} (h:k≠w.heap.size):(w.alloc o).heap[k]?=w.heap[k]?:=by
 show (w.heap.push o)[k]?=_;rw [Array.getElem?_push,ab h]
theorem rV {w:World} {r:Nat} {o:Obj} (h:w.heap[r]?=some o):r<w.heap.size:=by
 rcases aI r w.heap.size with a | a
 ·exact a
 ·simp [vU a] at h
theorem WR.draws {ι:Inj} {H:List (Nat×Blk)} {nb:Nat} {w:World} (h:WR ι H nb w) (n:Nat):WR ι H nb { w with drawn:=n }:=
 ⟨h.inj,h.low,h.dom,h.blk⟩
theorem sX {w:World} {r k:Nat} (o:Obj) (h:r≠k):(setObj w r o).heap[k]?=w.heap[k]?:=by
 simp [setObj,Td h]
theorem WR.write {ι:Inj} {H:List (Nat×Blk)} {nb b:Nat} {q:Rf} {w:World} {blk:Blk} {o:Obj} (h:WR ι H nb w) (G:ι b=some (some q)) (W:q.fz=false) (Q:BR ι q blk o):
  WR ι ((b,blk)::H) nb (setObj w q.r o):=by
 have O:=h.dom b q G;refine ⟨h.inj,h.low,λc q hc=>by simpa [setObj] using h.dom c q hc,λc C E U=>?_⟩;rw [aX] at E;split at E
 ·rename_i e;subst e;simp only [aw] at E;subst E;exact .inl ⟨q,o,G,by simp [setObj,O],Q⟩
 ·rename_i F;exact (h.blk c C E U).map rfl (λp hp=>sX o λe=>(h.inj b c q p G hp e).elim F λJ=>by rw [W] at J;cases J.1) (λ_ _ x=>x) (λ_ x=>x)
theorem WR.alloc {ι:Inj} {H:List (Nat×Blk)} {nb C f:Nat} {q:Rf} {w:World} {blk:Blk} {o:Obj} (h:WR ι H nb w) (W:ι f=none) (hn:nb<=C) (U:f<C)
  (hq:q.r=w.heap.size) (Z:BR (upd ι f (some q)) q blk o):WR (upd ι f (some q)) ((f,blk)::H) C (w.alloc o):=by
 have J:=qj (r:=some q) W;refine ⟨λb b' r r' F E X=>?_,λc p hc=>?_,λc p hc=>?_,λc G O hd=>?_⟩
 ·unfold upd at F E;split at F<;>split at E
  ·rename_i e1 Y;exact .inl (e1.trans Y.symm)
  ·simp only [aw] at F;subst F;have:=h.dom _ _ E;omega
  ·simp only [aw] at E;subst E;have:=h.dom _ _ F;omega
  ·exact h.inj _ _ _ _ F E X
 ·unfold upd at hc;split at hc
  ·rename_i e;subst e;exact U
  ·have:=h.low _ _ hc;omega
 ·unfold upd at hc;split at hc
  ·simp only [aw] at hc;subst hc;simp;omega
  ·have:=h.dom _ _ hc;simp;omega
 ·rw [aX] at O;split at O
  ·rename_i e;subst e;simp only [aw] at O;subst O;exact .inl ⟨q,o,by simp [upd],by rw [hq];exact mc w o,Z⟩
  ·rename_i Q;refine (h.blk c G O hd).map (by simp [upd,Ne.symm Q]) (λp hp=>?_) (λ_ _ x=>BR.mono J x) (λ_ x=>x);have:=h.dom _ _ hp;exact jU w o (by omega)
theorem Fr.draws {ι0:Inj} {w0 w:World} (h:Fr ι0 w0 w) (n:Nat):Fr ι0 w0 { w with drawn:=n }:=⟨h.os,h.tape,h.output,h.size,h.blk⟩
theorem Fr.alloc {ι0:Inj} {w0 w:World} (h:Fr ι0 w0 w) (o:Obj):Fr ι0 w0 (w.alloc o):=by
 refine ⟨h.os,h.tape,h.output,by have:=h.size;simp;omega,λk C E=>?_⟩;have:=h.size;rw [jU w o (by omega)];exact h.blk k C E
theorem Fr.write {ι0:Inj} {w0 w:World} (h:Fr ι0 w0 w) {r:Nat} (F:(∃b q,ι0 b=some (some q)/\q.r=r)\/w0.heap.size<=r) (o:Obj):Fr ι0 w0 (setObj w r o):=by
 refine ⟨h.os,h.tape,h.output,by simpa [setObj] using h.size,λk O G=>?_⟩;have E:r≠k:=by
  rintro rfl;rcases F with ⟨b,q,C,J⟩ | F
  ·exact G b q C J
  ·omega
 simp only [setObj,Td E];exact h.blk k O G
theorem bA {w:World} {r o:Nat} {a:Array Value} {e:TypeId} {fr:Nat×Nat} (h:w.heap[r]?=some (.cells a e fr)):
  w.cell? ⟨r,o,none⟩=a[o]?:=by
 simp [World.cell?,h]
theorem rG {w:World} {r o:Nat} {a:Array Value} {e:TypeId} {fr:Nat×Nat} (h:w.heap[r]?=some (.cells a e fr)) (b:NF fr a.size) (c:o<a.size):
  w.frozen? ⟨r,o,none⟩=false:=by
 have:=b o c;simp only [World.frozen?,h];by_cases f:fr.1<=o<;>by_cases d:o<fr.2<;>simp_all
theorem Dm {w:World} {r o:Nat} {v:Value} {b:Array Value} {e:TypeId} {fr:Nat×Nat} (h:w.heap[r]?=some (.cells b e fr)):
  w.setCell ⟨r,o,none⟩ v=setObj w r (.cells (b.setIfInBounds o v) e fr):=by
 unfold World.setCell setObj;congr 1;apply U6;intro k;rw [Array.getElem?_modify,U3];have c:=rV h;by_cases a:r=k
 ·subst a;rw [ae rfl,ae rfl,ae c,h];simp
 ·rw [ab a,ab a]
theorem Cf (w:World) (r:Nat) (o a:Obj):setObj (setObj w r o) r a=setObj w r a:=by
 simp [setObj]
theorem Ge {w:World} {r:Nat} {o:Obj} (h:w.heap[r]?=some o):setObj w r o=w:=by
 unfold setObj;congr 1;apply U6;intro k;rw [U3];by_cases a:r=k
 ·subst a;rw [ae rfl,ae (rV h),h]
 ·rw [ab a]
theorem xy {w:World} {r:Nat} {o a:Obj} (h:w.heap[r]?=some o):(setObj w r a).heap[r]?=some a:=by
 have b:=rV h;simp [setObj,b]
end Go.Abs
