
/- The abstract values and the abstract memory of the interpreter, and how they relate to the model's own.
   Conditions: none; everything here is generic over the program. -/
import Derived.Tactics
import Derived.Below
import Derived.Test.YtaogbalpingjhaaGreatDoorGlob
set_option linter.unusedSimpArgs false
set_option linter.unusedVariables false
namespace Go
abbrev aa:=List UInt8
abbrev jv:=@Array.ext'
abbrev OK:=@Array.ext_getElem?
abbrev oL:=@Array.getD_eq_getD_getElem?
abbrev Oc:=@Array.getElem?_append_left
abbrev RO:=@Array.getElem?_eq_getElem
abbrev tZ:=@Array.getElem?_eq_none
abbrev Rr:=@Array.getElem?_replicate
abbrev Px:=@Array.getElem?_setIfInBounds
abbrev Om:=@Array.getElem?_setIfInBounds_ne
abbrev nT:=@Array.getElem?_toList
abbrev Du:=@Array.length_toList
abbrev NE:=@Array.mapM_eq_mapM_toList
abbrev D1:=@Array.map_empty
abbrev uB:=@Array.toList_append
abbrev Ez:=@Bool.and_eq_false_iff
abbrev az:=@Bool.and_eq_true
abbrev D5:=@Bool.and_false
abbrev ET:=@Bool.and_true
abbrev AS:=@Bool.eq_iff_iff
abbrev EW:=@Bool.false_and
abbrev bE:=@Bool.false_eq_true
abbrev vB:=@Bool.false_or
abbrev Eg:=@Bool.not_eq_true
abbrev kN:=@Bool.not_eq_true'
abbrev jb:=@Bool.not_false
abbrev dc:=@Bool.not_true
abbrev ov:=@Bool.or_eq_false_iff
abbrev gu:=@Bool.or_eq_true
abbrev Io:=@Bool.or_false
abbrev rn:=@Bool.true_and
abbrev JO:=@ByteArray.ext
abbrev Nl:=@Classical.byContradiction
abbrev E4:=@Classical.em
abbrev qL:=@Go.Code.wp_mono
abbrev JE:=@Decidable.not_not
abbrev NA:=@Int.dvd_of_emod_eq_zero
abbrev wq:=@Int.eq_ofNat_of_zero_le
abbrev wB:=@Int.le_refl
abbrev NI:=@Int.mul_le_mul_of_nonneg_right
abbrev G4:=@Int.natCast_mul
abbrev D2:=@Int.natCast_nonneg
abbrev IH:=@Int.sub_add_cancel
abbrev Ni:=@Int.tdiv_eq_ediv_of_nonneg
abbrev bW:=@Int.toNat_natCast
abbrev EH:=@Int.toNat_of_nonneg
abbrev DG:=@Go.IntKind.wrap_i64
abbrev zy:=@List.all_append
abbrev kM:=@List.all_cons
abbrev bL:=@List.all_eq_true
abbrev si:=@List.any_append
abbrev um:=@List.any_cons
abbrev pM:=@List.any_eq_false
abbrev pD:=@List.any_eq_true
abbrev eJ:=@List.append_assoc
abbrev kx:=@List.append_nil
abbrev dL:=@List.cons_append
abbrev If:=@List.countP_cons
abbrev C2:=@List.drop_append
abbrev iV:=@List.drop_drop
abbrev wZ:=@List.drop_eq_getElem_cons
abbrev kP:=@List.drop_eq_nil_of_le
abbrev Ad:=@List.drop_left'
abbrev zM:=@List.drop_length
abbrev lE:=@List.drop_succ_cons
abbrev wt:=@List.drop_take
abbrev cH:=@List.drop_zero
abbrev rl:=@List.eq_nil_of_length_eq_zero
abbrev xf:=@List.ext_getElem?
abbrev Dp:=@List.filter_filter
abbrev EG:=@List.findSome?_cons
abbrev HQ:=@List.flatMap_append
abbrev oa:=@List.flatMap_cons
abbrev NN:=@List.flatMap_eq_nil_iff
abbrev Dt:=@List.foldl_append
abbrev sq:=@List.foldl_cons
abbrev Ea:=@List.foldl_nil
abbrev Dv:=@List.getD_eq_getElem?_getD
abbrev lK:=@List.getElem?_append_left
abbrev nN:=@List.getElem?_append_right
abbrev DI:=@List.getElem?_cons_succ
abbrev kn:=@List.getElem?_cons_zero
abbrev kO:=@List.getElem?_drop
abbrev bG:=@List.getElem?_eq_getElem
abbrev eX:=@List.getElem?_eq_none
abbrev vI:=@List.getElem?_eq_some_iff
abbrev l6:=@List.getElem?_map
abbrev JU:=@List.getElem?_take
abbrev ow:=@List.getElem?_take_of_lt
abbrev pH:=@List.head?_cons
abbrev EM:=@List.isEmpty_eq_false_iff
abbrev bv:=@List.length_append
abbrev aG:=@List.length_cons
abbrev cZ:=@List.length_drop
abbrev IB:=@List.length_filter_le
abbrev CY:=@List.length_filter_lt_length_iff_exists
abbrev DU:=@List.length_map
abbrev cA:=@List.length_nil
abbrev Jl:=@List.length_pos_of_mem
abbrev wV:=@List.length_reverse
abbrev eT:=@List.length_take
abbrev yf:=@List.mapM_cons
abbrev fg:=@List.map_cons
abbrev sc:=@List.map_map
abbrev kF:=@List.mem_append
abbrev cq:=@List.mem_cons
abbrev eC:=@List.mem_cons_of_mem
abbrev kK:=@List.mem_cons_self
abbrev lz:=@List.mem_filter
abbrev dH:=@List.mem_map
abbrev fY:=@List.mem_of_getElem?
abbrev jP:=@List.mem_range
abbrev vt:=@List.mem_range'_1
abbrev By:=@List.mem_reverse
abbrev tJ:=@List.mem_singleton
abbrev da:=@List.nil_append
abbrev B9:=@List.nodup_append
abbrev uY:=@List.nodup_cons
abbrev qs:=@List.not_mem_nil
abbrev BS:=@List.range'_succ
abbrev qc:=@List.replicate_succ
abbrev uo:=@List.reverse_reverse
abbrev Ir:=@List.set_eq_take_append_cons_drop
abbrev vE:=@List.size_toArray
abbrev ox:=@List.take_add_one
abbrev Bj:=@List.take_append
abbrev qj:=@List.take_append_drop
abbrev rz:=@List.take_append_of_le_length
abbrev Bh:=@List.take_left
abbrev me:=@List.take_length
abbrev iP:=@List.take_of_length_le
abbrev kE:=@List.take_succ_cons
abbrev IJ:=@List.take_succ_eq_append_getElem
abbrev yd:=@List.take_take
abbrev kG:=@List.take_zero
abbrev gG:=@Nat.add_assoc
abbrev nz:=@Nat.add_comm
abbrev fM:=@Nat.add_mul
abbrev tY:=@Nat.add_right_cancel_iff
abbrev Cj:=@Nat.add_sub_cancel
abbrev Cd:=@Nat.add_sub_cancel_left
abbrev cP:=@Nat.add_zero
abbrev gP:=@Nat.beq_eq
abbrev co:=@Nat.ble_eq_true_of_le
abbrev y6:=@Nat.div_one
abbrev be:=@Nat.eq_of_beq_eq_true
abbrev xA:=@Nat.eq_zero_or_pos
abbrev yK:=@Nat.le_add_right
abbrev Be:=@Nat.le_max_left
abbrev aD:=@Nat.le_of_ble_eq_true
abbrev tQ:=@Nat.le_of_eq
abbrev aM:=@Nat.le_refl
abbrev pX:=@Nat.le_trans
abbrev yA:=@Nat.le_zero
abbrev yZ:=@Nat.lt_irrefl
abbrev mi:=@Nat.lt_of_lt_of_le
abbrev aE:=@Nat.lt_or_ge
abbrev Ba:=@Nat.lt_trichotomy
abbrev qm:=@Nat.min_eq_left
abbrev pV:=@Nat.mod_eq_of_lt
abbrev pU:=@Nat.mod_lt
abbrev Bf:=@Nat.mul_assoc
abbrev uA:=@Nat.mul_comm
abbrev vj:=@Nat.mul_le_mul
abbrev l7:=@Nat.mul_le_mul_right
abbrev qo:=@Nat.mul_one
abbrev yR:=@Nat.ne_of_lt
abbrev yx:=@Nat.or_comm
abbrev kI:=@Nat.pow_le_pow_right
abbrev rZ:=@Nat.pow_succ
abbrev yI:=@Nat.sub_self
abbrev pP:=@Nat.sub_zero
abbrev cb:=@Nat.zero_add
abbrev gf:=@Nat.zero_le
abbrev yw:=@Nat.zero_mul
abbrev Bo:=@Go.Oper.apart_spec
abbrev JW:=@Option.bind_eq_some_iff
abbrev yM:=@Option.getD_some
abbrev xX:=@Option.isSome_iff_exists
abbrev tU:=@Option.isSome_none
abbrev gH:=@Option.map_none
abbrev dC:=@Option.map_some
abbrev Cb:=@Option.none_or
abbrev aU:=@Option.some.inj
abbrev ah:=@Option.some.injEq
abbrev bf:=@Prod.mk.injEq
abbrev ax:=@Go.Result.andThen_ok
abbrev vv:=@Go.Result.ok.injEq
abbrev aq:=@Go.Sem.run_bind
abbrev aB:=@Go.Sem.run_pure
abbrev rF:=@Sum.inr.inj
abbrev mf:=@Sum.inr.injEq
abbrev gM:=@UInt8.toNat_inj
abbrev CH:=@UInt8.toNat_ofNat'
abbrev vF:=@Go.World.alloc_eq
abbrev rN:=@and_congr_right
abbrev uv:=@and_true
abbrev br:=@beq_eq_false_iff_ne
abbrev bA:=@beq_iff_eq
abbrev pR:=@beq_self_eq_true
abbrev eF:=@bne_self_eq_false
abbrev af:=@cond_false
abbrev aj:=@cond_true
abbrev ck:=@congrArg
abbrev uc:=@decide_eq_decide
abbrev ay:=@decide_eq_false
abbrev rr:=@decide_eq_false_iff_not
abbrev aw:=@decide_eq_true
abbrev bX:=@decide_eq_true_eq
abbrev lO:=@decide_false
abbrev mj:=@decide_true
abbrev mY:=@exists_congr
abbrev xm:=@forall_eq_or_imp
abbrev aC:=@if_false
abbrev ab:=@if_neg
abbrev ae:=@if_pos
abbrev aI:=@if_true
abbrev BY:=@not_false_eq_true
abbrev rA:=@not_true_eq_false
abbrev xL:=@of_decide_eq_true
abbrev rX:=@or_false
abbrev uR:=@Go.run_loadCells_list
abbrev uz:=@Go.run_newObj
abbrev aN:=@Go.run_underlying
abbrev jD:=@true_and
end Go
namespace Go.Abs
inductive Lf where
 | i (k:IntKind)
 | bo
 | s
 deriving Inhabited,DecidableEq
@[reducible] def Lf.den:Lf->Type
 | .i _=>Int
 | .bo=>Bool
 | .s=>aa
@[reducible] def den:List Lf->Type
 | []=>Unit
 | [a]=>a.den
 | a::b::l=>a.den×den (b::l)
inductive V where
 | unk
 | pr (z b j o:Nat)
 | ws (b:Nat)
 | rs (z b j n:Nat) (cap:Option Nat)
 | b (x:Bool)
 | i (k:IntKind) (n:Int)
 | s (l:aa)
 | pn
 | p (b o:Nat)
 | sn
 | sl (b o len:Nat) (cap:Option Nat)
 | fn (f:Nat) (cap:List V)
 | nf
 | ni
 | it (t:Nat) (v:V)
 | ag (l:List V)
 | ai (k:IntKind) (n:Nat) (l:List Int)
 | tp (l:List V)
 | mp (b:Nat)
 deriving Inhabited
structure Rf where
 r:Nat
 n:Nat:=0
 k:Nat:=0
  /-- Of a block of rows: where the rows begin. -/
 o:Nat:=0
  /-- Is it only read? Then others may lie there, too. -/
 fz:Bool:=false
abbrev Rf.of (r n k:Nat):Rf:=⟨r,n,k,0,false⟩
abbrev Inj:=Nat->Option (Option Rf)
def fnW (K f:Nat) (a:Array Value):Value:=
 match Nat.blt f K with
 | true=>.func (.func f) #[] a
 | false=>.func (.func (f - K)) a #[]
def fnV (f:Nat) (a:Array Value):Value:=fnW 1000000 f a
theorem QL (K f:Nat) (a:Array Value):∃g b c,fnW K f a=.func (.func g) b c:=by
 unfold fnW;split
 ·exact ⟨_,_,_,rfl⟩
 ·exact ⟨_,_,_,rfl⟩
theorem wL (f:Nat) (a:Array Value):∃g b c,fnV f a=.func (.func g) b c:=QL _ f a
theorem NY {K f:Nat} (h:Nat.blt f K=true) (a:Array Value):fnW K f a=.func (.func f) #[] a:=by
 unfold fnW;rw [h]
theorem CM {f:Nat} (h:Nat.blt f 1000000=true) (a:Array Value):fnV f a=.func (.func f) #[] a:=NY h a
theorem Lj (K f:Nat) (a:Array Value):fnW K (f+K) a=.func (.func f) a #[]:=by
 unfold fnW;cases h:Nat.blt (f+K) K with
 | true=>have:f+K<K:=aD h;omega
 | false=>simp
theorem KP (f:Nat) (a:Array Value):fnV (f+1000000) a=.func (.func f) a #[]:=Lj _ f a
def fnFW (K f:Nat):Nat:=match Nat.blt f K with | true=>f | false=>f - K
def fnAW {α:Type} (K f:Nat) (args cap:List α):List α:=match Nat.blt f K with | true=>args++cap | false=>cap++args
def fnF (f:Nat):Nat:=fnFW 1000000 f
def fnA {α:Type} (f:Nat) (args cap:List α):List α:=fnAW 1000000 f args cap
def MB (c:Option Nat) (k:Nat):Prop:=∀m,c=some m->k=m
theorem iU {k:Nat}:MB none k:=λ_ h=>by cases h
theorem o8 {k:Nat}:MB (some k) k:=λ_ h=>by cases h;rfl
mutual
def VR (ι:Inj):V->Value->Prop
 | .b x,v=>v=.bool x
 | .i k n,v=>v=.int k n
 | .s l,v=>v=.string ⟨l.toArray⟩
 | .pn,v=>v=.pointer none
 | .p b o,v=>∃q,ι b=some (some q)/\v=.pointer (some ⟨q.r,o,none⟩)
 | .sn,v=>v=.slice none 0 0
 | .sl b o len cap,v=>∃q c,ι b=some (some q)/\(∀n,cap=some n->c=n)/\len<=c/\v=.slice (some ⟨q.r,o,none⟩) len c
 | .unk,v=>v.cells=#[v]/\v.oneCell'=true
 | .pr z b j o,v=>∃q,ι b=some (some q)/\v=.pointer (some ⟨q.r,q.o+(j*z+o),none⟩)
 | .ws b,v=>(∃q,ι b=some (some q)/\v=.slice (some ⟨q.r,q.o,none⟩) q.n q.k)\/(ι b=some none/\∃a,v=.slice a 0 0)
 | .rs z b j n e,v=>(∃q c o,ι b=some (some q)/\(n<=c/\MB e c)/\(0<n->o=q.o+j*z)/\v=.slice (some ⟨q.r,o,none⟩) n c)\/(ι b=some none/\(n=0/\MB e 0)/\∃a,v=.slice a 0 0)
 | .fn f cap,v=>∃d,v=fnV f d/\VRs ι cap d.toList
 | .nf,v=>v=.nilFunc
 | .ni,v=>v=.nilIface
 | .it t x,v=>∃y,v=.iface t y/\VR ι x y
 | .ag l,v=>∃d:Array Value,v=.agg d/\VRs ι l d.toList
 | .ai k n l,v=>l.length=n/\v=.agg (l.map (Value.int k)).toArray
 | .tp l,v=>∃d:Array Value,v=.tuple d/\VRs ι l d.toList
 | .mp b,v=>∃q,ι b=some (some q)/\v=.map (some q.r)
def VRs (ι:Inj):List V->List Value->Prop
 | [],a=>a=[]
 | x::l,a=>∃y b,a=y::b/\VR ι x y/\VRs ι l b
end
mutual
theorem VR.mono {ι G:Inj} (h:∀b r,ι b=some r->G b=some r):∀(v:V) (x:Value),VR ι v x->VR G v x
 | .b _,_,hx | .i _ _,_,hx | .s _,_,hx | .pn,_,hx | .sn,_,hx | .nf,_,hx | .ni,_,hx | .ai _ _ _,_,hx | .unk,_,hx=>by simpa [VR] using hx
 | .p b o,x,hx | .pr z b j o,x,hx | .mp b,x,hx=>by
  simp only [VR] at hx ⊢;obtain ⟨r,C,E⟩:=hx;exact ⟨r,h _ _ C,E⟩
 | .ws b,x,hx=>by
  simp only [VR] at hx ⊢;rcases hx with ⟨q,C,E⟩ | ⟨C,E⟩
  ·exact .inl ⟨q,h _ _ C,E⟩
  ·exact .inr ⟨h _ _ C,E⟩
 | .rs z b j n _,x,hx=>by
  simp only [VR] at hx ⊢;rcases hx with ⟨q,c,o,C,E⟩ | ⟨C,E⟩
  ·exact .inl ⟨q,c,o,h _ _ C,E⟩
  ·exact .inr ⟨h _ _ C,E⟩
 | .sl b o len cap,x,hx=>by
  simp only [VR] at hx ⊢;obtain ⟨r,c,C,E⟩:=hx;exact ⟨r,c,h _ _ C,E⟩
 | .fn f cap,x,hx=>by
  simp only [VR] at hx ⊢;obtain ⟨F,C,E⟩:=hx;exact ⟨F,C,VRs.mono h _ _ E⟩
 | .it t v,x,hx=>by
  simp only [VR] at hx ⊢;obtain ⟨y,C,E⟩:=hx;exact ⟨y,C,VR.mono h _ _ E⟩
 | .ag l,x,hx=>by
  simp only [VR] at hx ⊢;obtain ⟨F,C,E⟩:=hx;exact ⟨F,C,VRs.mono h _ _ E⟩
 | .tp l,x,hx=>by
  simp only [VR] at hx ⊢;obtain ⟨F,C,E⟩:=hx;exact ⟨F,C,VRs.mono h _ _ E⟩
theorem VRs.mono {ι C:Inj} (h:∀b r,ι b=some r->C b=some r):∀(l:List V) (E:List Value),VRs ι l E->VRs C l E
 | [],_,hx=>by simpa [VRs] using hx
 | v::l,E,hx=>by
  simp only [VRs] at hx ⊢;obtain ⟨y,F,J,O,G⟩:=hx;exact ⟨y,F,J,VR.mono h _ _ O,VRs.mono h _ _ G⟩
end
theorem VRs.length {ι:Inj}:∀{l:List V} {xs:List Value},VRs ι l xs->xs.length=l.length
 | [],_,h=>by simp only [VRs] at h;simp [h]
 | _::_,_,h=>by
  simp only [VRs] at h;obtain ⟨y,E,rfl,_,C⟩:=h;simp [VRs.length C]
theorem VRs.get {ι:Inj}:∀{l:List V} {xs:List Value} {j:Nat} {v:V},VRs ι l xs->l[j]?=some v->∃x,xs[j]?=some x/\VR ι v x
 | [],_,_,_,_,C=>by simp at C
 | _::_,_,0,_,h,C=>by
  simp only [VRs] at h;obtain ⟨y,G,rfl,E,_⟩:=h;simp only [kn,ah] at C;subst C;exact ⟨y,by simp,E⟩
 | _::_,_,j+1,_,h,C=>by
  simp only [VRs] at h;obtain ⟨y,G,rfl,_,F⟩:=h;simp only [DI] at C ⊢;exact VRs.get F C
theorem VRs.of_get {ι:Inj}:∀{l:List V} {C:List Value},C.length=l.length->(∀(j:Nat) (v:V) (x:Value),l[j]?=some v->C[j]?=some x->VR ι v x)->VRs ι l C
 | [],C,E,_=>by simp only [VRs];exact rl (by simpa using E)
 | v::l,[],E,_=>by simp at E
 | v::l,x::C,E,h=>by
  simp only [VRs];refine ⟨x,C,rfl,h 0 v x (by simp) (by simp),VRs.of_get (by simpa using E) λj F O G J=>h (j+1) F O (by simpa using G) (by simpa using J)⟩
theorem VRs.append {ι:Inj}:∀{l:List V} {xs:List Value} {m:List V} {E:List Value},VRs ι l xs->VRs ι m E->VRs ι (l++m) (xs++E)
 | [],_,_,_,h,C=>by simp only [VRs] at h;subst h;simpa using C
 | _::_,_,_,_,h,C=>by
  simp only [VRs] at h;obtain ⟨y,E,rfl,G,F⟩:=h;simp only [dL,VRs];exact ⟨y,_,rfl,G,VRs.append F C⟩
theorem VRs.drop {ι:Inj}:∀{l:List V} {xs:List Value} (n:Nat),VRs ι l xs->VRs ι (l.drop n) (xs.drop n)
 | _,_,0,h=>by simpa using h
 | [],_,_+1,h=>by simp only [VRs] at h;subst h;simp [VRs]
 | _::_,_,n+1,h=>by
  simp only [VRs] at h;obtain ⟨y,E,rfl,_,C⟩:=h;simpa using VRs.drop n C
theorem VRs.take {ι:Inj}:∀{l:List V} {xs:List Value} (n:Nat),VRs ι l xs->VRs ι (l.take n) (xs.take n)
 | _,_,0,_=>by simp [VRs]
 | [],_,_+1,h=>by simp only [VRs] at h;subst h;simp [VRs]
 | _::_,_,n+1,h=>by
  simp only [VRs] at h;obtain ⟨y,F,rfl,E,C⟩:=h;simp only [kE,VRs];exact ⟨y,_,rfl,E,VRs.take n C⟩
theorem VRs.set {ι:Inj}:∀{l:List V} {xs:List Value} (n:Nat) {v:V} {x:Value},VRs ι l xs->VR ι v x->VRs ι (l.set n v) (xs.set n x)
 | [],_,_,_,_,h,_=>by simp only [VRs] at h;subst h;simp [VRs]
 | _::_,_,0,_,_,h,E=>by
  simp only [VRs] at h;obtain ⟨y,G,rfl,_,C⟩:=h;simp only [List.set_cons_zero,VRs];exact ⟨_,_,rfl,E,C⟩
 | _::_,_,n+1,_,_,h,E=>by
  simp only [VRs] at h;obtain ⟨y,G,rfl,F,C⟩:=h;simp only [List.set_cons_succ,VRs];exact ⟨_,_,rfl,F,VRs.set n C E⟩
theorem VRs.ints {ι:Inj} (k:IntKind):∀(l:List Int),VRs ι (l.map (V.i k)) (l.map (Value.int k))
 | []=>by simp [VRs]
 | n::l=>by simp only [fg,VRs];exact ⟨_,_,rfl,by simp [VR],VRs.ints k l⟩
def Lf.toV:(a:Lf)->a.den->V
 | .i k,n=>.i k n
 | .bo,x=>.b x
 | .s,l=>.s l
def Lf.val:(a:Lf)->a.den->Value
 | .i k,n=>.int k n
 | .bo,x=>.bool x
 | .s,l=>.string ⟨l.toArray⟩
def cells:(t:List Lf)->den t->List V
 | [],_=>[]
 | [a],x=>[a.toV x]
 | a::b::l,x=>a.toV x.1::cells (b::l) x.2
def vals:(t:List Lf)->den t->List Value
 | [],_=>[]
 | [a],x=>[a.val x]
 | a::b::l,x=>a.val x.1::vals (b::l) x.2
theorem Lf.ok (ι:Inj):∀(a:Lf) (x:a.den),VR ι (a.toV x) (a.val x)
 | .i _,_=>by simp [Lf.toV,Lf.val,VR]
 | .bo,_=>by simp [Lf.toV,Lf.val,VR]
 | .s,_=>by simp [Lf.toV,Lf.val,VR]
theorem Lf.ok_iff (ι:Inj):∀(a:Lf) (x:a.den) (y:Value),VR ι (a.toV x) y↔y=a.val x
 | .i _,_,_=>by simp [Lf.toV,Lf.val,VR]
 | .bo,_,_=>by simp [Lf.toV,Lf.val,VR]
 | .s,_,_=>by simp [Lf.toV,Lf.val,VR]
theorem kr (ι:Inj):∀(t:List Lf) (x:den t) (c:List Value),VRs ι (cells t x) c↔c=vals t x
 | [],_,c=>by simp [cells,vals,VRs]
 | [a],x,c=>by
  simp only [cells,vals,VRs];constructor
  ·rintro ⟨y,d,rfl,h,rfl⟩;rw [(a.ok_iff ι x y).1 h]
  ·rintro rfl;exact ⟨_,_,rfl,a.ok ι x,rfl⟩
 | a::b::l,x,c=>by
  simp only [cells,vals,VRs];constructor
  ·rintro ⟨y,d,rfl,h,e⟩;rw [(a.ok_iff ι _ y).1 h,(kr ι (b::l) x.2 d).1 e]
  ·rintro rfl;exact ⟨_,_,rfl,a.ok ι _,(kr ι (b::l) x.2 _).2 rfl⟩
theorem jp:∀(t:List Lf) (x:den t),(cells t x).length=t.length
 | [],_=>rfl
 | [_],_=>rfl
 | _::b::l,x=>by simp [cells,jp (b::l) x.2]
theorem iK:∀(t:List Lf) (x:den t),(vals t x).length=t.length
 | [],_=>rfl
 | [_],_=>rfl
 | _::b::l,x=>by simp [vals,iK (b::l) x.2]
inductive Blk where
 | dead
 | rows (t:List Lf) (l:List (den t))
 | cells (l:List V)
 | ints (k:IntKind) (n:Nat) (l:List Int)
 | iter (s:aa) (pos:Nat)
 | mp (k:IntKind) (l:List (Int×Nat))
 deriving Inhabited
def NF (fr:Nat×Nat) (n:Nat):Prop:=∀j,j<n->¬(fr.1<=j/\j<fr.2)
def BR (ι:Inj) (q:Rf):Blk->Obj->Prop
 | .dead,_=>True
 | .rows t l,o=>∃a e fr,o=.cells a e fr/\l.length=q.n/\q.n<=q.k/\q.o+q.k*t.length<=a.size/\(a.toList.drop q.o).take (l.length*t.length)=l.flatMap (vals t)/\(q.fz=true\/NF fr a.size)
 | .cells l,o=>∃a e fr,o=.cells a e fr/\VRs ι l a.toList/\NF fr a.size
 | .ints k n l,o=>∃e fr,o=.cells (l.map (Value.int k)).toArray e fr/\l.length=n/\NF fr n
 | .iter s pos,o=>o=.stringIter ⟨s.toArray⟩ pos
 | .mp k l,o=>∃c b,o=.map c b/\c.toList.map (λe=>(e.key,e.val))=l.map λp=>(Value.int k p.1,fnV p.2 #[])
theorem BR.mono {ι E:Inj} {q:Rf} (h:∀b r,ι b=some r->E b=some r):∀{blk:Blk} {o:Obj},BR ι q blk o->BR E q blk o
 | .dead,_,_=>trivial
 | .rows t l,o,C=>C
 | .cells l,o,C=>by
  obtain ⟨F,e,fr,J,O,G⟩:=C;exact ⟨F,e,fr,J,VRs.mono h _ _ O,G⟩
 | .ints k n l,o,C=>C
 | .iter s pos,o,C=>C
 | .mp k l,o,C=>C
def look {α:Type}:List (Nat×α)->Nat->Option α
 | [],_=>none
 | (k,v)::l,n=>cond (Nat.beq k n) (some v) (look l n)
theorem aL {α:Type} (k:Nat) (v:α) (l:List (Nat×α)) (n:Nat):look ((k,v)::l) n=if k=n then some v else look l n:=by
 simp only [look];by_cases h:k=n
 ·subst h;simp
 ·have:Nat.beq k n=false:=by
   cases a:Nat.beq k n
   ·rfl
   ·exact absurd (be a) h
  simp [this,h]
structure St where
 T:List (Nat×Option V)
 H:List (Nat×Blk)
 nb:Nat
  /-- So many blocks came in. -/
 lo:Nat:=0
  /-- The first so many of them are only read. -/
 ro:Nat:=0
  /-- From this one on they may be moved (blocks of rows, by append). -/
 rb:Nat:=0
 deriving Inhabited
def TR (ι:Inj) (T:List (Nat×Option V)) (a:Array Value):Prop:=
 ∀t v,look T t=some (some v)->∃x,a[t]?=some x/\VR ι v x
def BW (ι:Inj) (w:World) (b:Nat) (blk:Blk):Prop:=
 (∃q o,ι b=some (some q)/\w.heap[q.r]?=some o/\BR ι q blk o)\/(ι b=some none/\∃t,blk=.rows t [])
structure WR (ι:Inj) (H:List (Nat×Blk)) (nb:Nat) (w:World):Prop where
 inj:∀b b' q q',ι b=some (some q)->ι b'=some (some q')->q.r=q'.r->b=b'\/(q.fz=true/\q'.fz=true)
 low:∀b q,ι b=some q->b<nb
 dom:∀b q,ι b=some (some q)->q.r<w.heap.size
 blk:∀b blk,look H b=some blk->blk≠.dead->BW ι w b blk
theorem BW.real {ι:Inj} {w:World} {b:Nat} {blk:Blk} (h:BW ι w b blk) (C:∀t,blk≠.rows t []):∃q o,ι b=some (some q)/\w.heap[q.r]?=some o/\BR ι q blk o:=by
 rcases h with h | ⟨_,t,h⟩
 ·exact h
 ·exact absurd h (C t)
theorem BW.map {ι E:Inj} {w w':World} {b O:Nat} {blk C:Blk} (h:BW ι w b blk) (J:E O=ι b) (Q:∀q,ι b=some (some q)->w'.heap[q.r]?=w.heap[q.r]?)
  (W:∀q o,BR ι q blk o->BR E q C o) (X:∀t,blk=.rows t []->C=.rows t []):BW E w' O C:=by
 rcases h with ⟨q,o,F,G,U⟩ | ⟨F,t,G⟩
 ·exact .inl ⟨q,o,by rw [J,F],by rw [Q q F,G],W q o U⟩
 ·exact .inr ⟨by rw [J,F],t,X t G⟩
structure Fr (ι0:Inj) (w0 w:World):Prop where
 os:w.os=w0.os
 tape:w.tape=w0.tape
 output:w.output=w0.output
 size:w0.heap.size<=w.heap.size
 blk:∀k,k<w0.heap.size->(∀b q,ι0 b=some (some q)->q.r≠k)->w.heap[k]?=w0.heap[k]?
theorem Fr.refl (ι0:Inj) (w:World):Fr ι0 w w:=⟨rfl,rfl,rfl,aM _,λ_ _ _=>rfl⟩
def roI (ι0:Inj) (ro:Nat):Inj:=λb=>cond (Nat.blt b ro) none (ι0 b)
theorem nE {ι0:Inj} {ro b:Nat} {r:Option Rf} (h:roI ι0 ro b=some r):ι0 b=some r:=by
 unfold roI at h;cases a:Nat.blt b ro with
 | true=>simp [a] at h
 | false=>simpa [a] using h
theorem JB {ι0:Inj} {ro b:Nat} {r:Option Rf} (h:roI ι0 ro b=some r):ro<=b:=by
 unfold roI at h;rcases aE b ro with a | a
 ·rw [show Nat.blt b ro=true from co a] at h;cases h
 ·exact a
theorem zE {ι0:Inj} {ro b:Nat} {r:Option Rf} (h:ι0 b=some r) (a:ro<=b):roI ι0 ro b=some r:=by
 have:Nat.blt b ro=false:=by
  cases hx:Nat.blt b ro with
  | false=>rfl
  | true=>have:b<ro:=aD hx;omega
 simp [roI,this,h]
def GL (R:Inj) (w:World):Prop:=∃L:List (Nat×Obj),QR L/\(∀x∈L,w.heap[x.1]?=some x.2)/\∀x∈L,∀b q,R b=some (some q)->q.r≠x.1
theorem GL.mono {R G:Inj} {w:World} (h:GL R w) (U:∀b q,G b=some (some q)->(∃E C,R E=some (some C)/\C.r=q.r)\/w.heap.size<=q.r):GL G w:=by
 obtain ⟨L,X,J,W⟩:=h;refine ⟨L,X,J,λx hx b q Q=>?_⟩;rcases U b q Q with ⟨E,C,F,O⟩ | F
 ·rw [<-O];exact W x hx E C F
 ·have hs:x.1<w.heap.size:=by
   rcases aE x.1 w.heap.size with h | h
   ·exact h
   ·have:=J x hx;rw [tZ h] at this;cases this
  omega
structure Base where
 w:World
 D:List Deferred:=[]
structure Inv (n:Nat) (ι0:Inj) (w0:Base) (ι:Inj) (s:St) (a:Act) (w:World):Prop where
 size:a.tmps.size=n
 defers:a.defers=w0.D
 tmps:TR ι s.T a.tmps
 mem:WR ι s.H s.nb w
 ext:∀b q,ι0 b=some q->ι b=some q\/s.rb<=b
 new:∀b q,ι b=some (some q)->(∃q',ι0 b=some (some q')/\q'.r=q.r)\/w0.w.heap.size<=q.r
 fr:Fr (roI ι0 s.ro) w0.w w
 low:∀b r,ι0 b=some r->b<s.lo
 fz:∀b q,ι b=some (some q)->q.fz=true->b<s.ro
 gl:GL (roI ι0 s.ro) w0.w
theorem Inv.glHere {n:Nat} {ι0 ι:Inj} {w0:Base} {s:St} {a:Act} {w:World} (h:Inv n ι0 w0 ι s a w) {R:Inj} (W:∀b q,R b=some (some q)->ι b=some (some q)/\s.ro<=b):GL R w:=by
 obtain ⟨L,X,E,C⟩:=h.gl;have hs:∀x∈L,x.1<w0.w.heap.size:=by
  intro x hx;rcases aE x.1 w0.w.heap.size with h | h
  ·exact h
  ·have:=E x hx;rw [tZ h] at this;cases this
 refine ⟨L,X,λx hx=>?_,λx hx b q J=>?_⟩
 ·rw [h.fr.blk x.1 (hs x hx) (C x hx)];exact E x hx
 ·obtain ⟨O,G⟩:=W b q J;rcases h.new b q O with ⟨Q,F,U⟩ | F
  ·rw [<-U];exact C x hx b Q (zE F G)
  ·have:=hs x hx;omega
def upd (ι:Inj) (b:Nat) (r:Option Rf):Inj:=λc=>if c=b then some r else ι c
theorem nq {ι:Inj} {b:Nat} {r:Option Rf} (h:ι b=none):∀c q,ι c=some q->upd ι b r c=some q:=by
 intro c q hc;unfold upd;split
 ·rename_i e;subst e;rw [h] at hc;cases hc
 ·exact hc
theorem TR.mono {ι C:Inj} (h:∀b r,ι b=some r->C b=some r) {T:List (Nat×Option V)} {E:Array Value} (G:TR ι T E):TR C T E:=
 λt v F=>let ⟨x,h1,h2⟩:=G t v F;⟨x,h1,VR.mono h _ _ h2⟩
theorem TR.put {ι:Inj} {T:List (Nat×Option V)} {a:Act} {d:Nat} {v:Option V} {x:Value} (F:TR ι T a.tmps) (Q:d<a.tmps.size)
  (G:∀u,v=some u->VR ι u x):TR ι ((d,v)::T) (a.put (some d) x).tmps:=by
 intro t u C;rw [aL] at C;simp only [Act.put];split at C
 ·rename_i e;subst e;simp only [ah] at C;exact ⟨x,by simp [Q],G u C⟩
 ·rename_i E;obtain ⟨y,J,O⟩:=F t u C;exact ⟨y,by rw [Om E];exact J,O⟩
def setObj (w:World) (r:Nat) (o:Obj):World:={ w with heap:=w.heap.setIfInBounds r o }
theorem iq (w:World) (o:Obj):(w.alloc o).heap[w.heap.size]?=some o:=by
 show (w.heap.push o)[w.heap.size]?=some o;simp
theorem iz (w:World) (o:Obj) {k:Nat} (h:k≠w.heap.size):(w.alloc o).heap[k]?=w.heap[k]?:=by
 show (w.heap.push o)[k]?=_;rw [Array.getElem?_push,ab h]
theorem pi {w:World} {r:Nat} {o:Obj} (h:w.heap[r]?=some o):r<w.heap.size:=by
 rcases aE r w.heap.size with a | a
 ·exact a
 ·simp [tZ a] at h
theorem WR.draws {ι:Inj} {H:List (Nat×Blk)} {nb:Nat} {w:World} (h:WR ι H nb w) (n:Nat):WR ι H nb { w with drawn:=n }:=
 ⟨h.inj,h.low,h.dom,h.blk⟩
theorem pN {w:World} {r k:Nat} (o:Obj) (h:r≠k):(setObj w r o).heap[k]?=w.heap[k]?:=by
 simp [setObj,Om h]
theorem WR.write {ι:Inj} {H:List (Nat×Blk)} {nb b:Nat} {q:Rf} {w:World} {blk:Blk} {o:Obj} (h:WR ι H nb w) (F:ι b=some (some q)) (U:q.fz=false) (W:BR ι q blk o):
  WR ι ((b,blk)::H) nb (setObj w q.r o):=by
 have Q:=h.dom b q F;refine ⟨h.inj,h.low,λc q hc=>by simpa [setObj] using h.dom c q hc,λc C E O=>?_⟩;rw [aL] at E;split at E
 ·rename_i e;subst e;simp only [ah] at E;subst E;exact .inl ⟨q,o,F,by simp [setObj,Q],W⟩
 ·rename_i G;exact (h.blk c C E O).map rfl (λp hp=>pN o λe=>(h.inj b c q p F hp e).elim G λJ=>by rw [U] at J;cases J.1) (λ_ _ x=>x) (λ_ x=>x)
theorem WR.alloc {ι:Inj} {H:List (Nat×Blk)} {nb C f:Nat} {q:Rf} {w:World} {blk:Blk} {o:Obj} (h:WR ι H nb w) (Y:ι f=none) (hn:nb<=C) (Q:f<C)
  (Z:q.r=w.heap.size) (ho:BR (upd ι f (some q)) q blk o):WR (upd ι f (some q)) ((f,blk)::H) C (w.alloc o):=by
 have J:=nq (r:=some q) Y;refine ⟨λb b' r r' E F W=>?_,λc p hc=>?_,λc p hc=>?_,λc G O X=>?_⟩
 ·unfold upd at E F;split at E<;>split at F
  ·rename_i e1 e2;exact .inl (e1.trans e2.symm)
  ·simp only [ah] at E;subst E;have:=h.dom _ _ F;omega
  ·simp only [ah] at F;subst F;have:=h.dom _ _ E;omega
  ·exact h.inj _ _ _ _ E F W
 ·unfold upd at hc;split at hc
  ·rename_i e;subst e;exact Q
  ·have:=h.low _ _ hc;omega
 ·unfold upd at hc;split at hc
  ·simp only [ah] at hc;subst hc;simp;omega
  ·have:=h.dom _ _ hc;simp;omega
 ·rw [aL] at O;split at O
  ·rename_i e;subst e;simp only [ah] at O;subst O;exact .inl ⟨q,o,by simp [upd],by rw [Z];exact iq w o,ho⟩
  ·rename_i U;refine (h.blk c G O X).map (by simp [upd,Ne.symm U]) (λp hp=>?_) (λ_ _ x=>BR.mono J x) (λ_ x=>x);have:=h.dom _ _ hp;exact iz w o (by omega)
theorem Fr.draws {ι0:Inj} {w0 w:World} (h:Fr ι0 w0 w) (n:Nat):Fr ι0 w0 { w with drawn:=n }:=⟨h.os,h.tape,h.output,h.size,h.blk⟩
theorem Fr.alloc {ι0:Inj} {w0 w:World} (h:Fr ι0 w0 w) (o:Obj):Fr ι0 w0 (w.alloc o):=by
 refine ⟨h.os,h.tape,h.output,by have:=h.size;simp;omega,λk C E=>?_⟩;have:=h.size;rw [iz w o (by omega)];exact h.blk k C E
theorem Fr.write {ι0:Inj} {w0 w:World} (h:Fr ι0 w0 w) {r:Nat} (G:(∃b q,ι0 b=some (some q)/\q.r=r)\/w0.heap.size<=r) (o:Obj):Fr ι0 w0 (setObj w r o):=by
 refine ⟨h.os,h.tape,h.output,by simpa [setObj] using h.size,λk O F=>?_⟩;have E:r≠k:=by
  rintro rfl;rcases G with ⟨b,q,C,J⟩ | G
  ·exact F b q C J
  ·omega
 simp only [setObj,Om E];exact h.blk k O F
theorem aV {w:World} {r o:Nat} {a:Array Value} {e:TypeId} {fr:Nat×Nat} (h:w.heap[r]?=some (.cells a e fr)):
  w.cell? ⟨r,o,none⟩=a[o]?:=by
 simp [World.cell?,h]
theorem oM {w:World} {r o:Nat} {a:Array Value} {e:TypeId} {fr:Nat×Nat} (h:w.heap[r]?=some (.cells a e fr)) (b:NF fr a.size) (c:o<a.size):
  w.frozen? ⟨r,o,none⟩=false:=by
 have:=b o c;simp only [World.frozen?,h];by_cases d:fr.1<=o<;>by_cases f:o<fr.2<;>simp_all
theorem y8 {w:World} {r o:Nat} {v:Value} {b:Array Value} {e:TypeId} {fr:Nat×Nat} (h:w.heap[r]?=some (.cells b e fr)):
  w.setCell ⟨r,o,none⟩ v=setObj w r (.cells (b.setIfInBounds o v) e fr):=by
 unfold World.setCell setObj;congr 1;apply OK;intro k;rw [Array.getElem?_modify,Px];have c:=pi h;by_cases a:r=k
 ·subst a;rw [ae rfl,ae rfl,ae c,h];simp
 ·rw [ab a,ab a]
theorem yO (w:World) (r:Nat) (o a:Obj):setObj (setObj w r o) r a=setObj w r a:=by
 simp [setObj]
theorem Ce {w:World} {r:Nat} {o:Obj} (h:w.heap[r]?=some o):setObj w r o=w:=by
 unfold setObj;congr 1;apply OK;intro k;rw [Px];by_cases a:r=k
 ·subst a;rw [ae rfl,ae (pi h),h]
 ·rw [ab a]
theorem ud {w:World} {r:Nat} {o a:Obj} (h:w.heap[r]?=some o):(setObj w r a).heap[r]?=some a:=by
 have b:=pi h;simp [setObj,b]
end Go.Abs
