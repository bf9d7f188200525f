
/- The abstract values and the abstract memory of the interpreter, and how they relate to the model's own.
   Conditions: none; everything here is generic over the program. -/
import Derived.Tactics
import Derived.Below
import Derived.Test.YthemneooekobkaaGreatDoorGlob
set_option linter.unusedSimpArgs false
set_option linter.unusedVariables false
namespace Go
abbrev aa:=List UInt8
abbrev jZ:=@Array.ext'
abbrev NX:=@Array.ext_getElem?
abbrev oS:=@Array.getD_eq_getD_getElem?
abbrev OJ:=@Array.getElem?_append_left
abbrev RF:=@Array.getElem?_eq_getElem
abbrev tz:=@Array.getElem?_eq_none
abbrev QO:=@Array.getElem?_replicate
abbrev Oe:=@Array.getElem?_setIfInBounds
abbrev N1:=@Array.getElem?_setIfInBounds_ne
abbrev nW:=@Array.getElem?_toList
abbrev I6:=@Array.length_toList
abbrev Nh:=@Array.mapM_eq_mapM_toList
abbrev Fo:=@Array.map_empty
abbrev vK:=@Array.toList_append
abbrev Dk:=@Bool.and_eq_false_iff
abbrev ay:=@Bool.and_eq_true
abbrev EM:=@Bool.and_false
abbrev xc:=@Bool.and_true
abbrev Eg:=@Bool.eq_iff_iff
abbrev Dv:=@Bool.false_and
abbrev cE:=@Bool.false_eq_true
abbrev vC:=@Bool.false_or
abbrev EI:=@Bool.not_eq_true
abbrev kn:=@Bool.not_eq_true'
abbrev ko:=@Bool.not_false
abbrev eG:=@Bool.not_true
abbrev Dq:=@Bool.or_eq_false_iff
abbrev gC:=@Bool.or_eq_true
abbrev lZ:=@Bool.true_and
abbrev ER:=@Bool.true_or
abbrev IP:=@ByteArray.ext
abbrev Fb:=@Classical.em
abbrev rA:=@Go.Code.wp_mono
abbrev Ee:=@Go.DataW.trod_int
abbrev GA:=@Decidable.not_not
abbrev H3:=@Int.dvd_of_emod_eq_zero
abbrev GO:=@Int.emod_lt_of_pos
abbrev GK:=@Int.emod_nonneg
abbrev rZ:=@Int.le_refl
abbrev wO:=@Int.mul_comm
abbrev M9:=@Int.mul_le_mul_of_nonneg_right
abbrev D5:=@Int.natCast_mul
abbrev JK:=@Int.sub_add_cancel
abbrev Np:=@Int.tdiv_eq_ediv_of_nonneg
abbrev JD:=@Int.tmod_eq_emod
abbrev G0:=@Int.tmod_eq_emod_of_nonneg
abbrev bY:=@Int.toNat_natCast
abbrev Ec:=@Int.toNat_of_nonneg
abbrev wV:=@Int.zero_sub
abbrev ES:=@Go.IntKind.wrap_i64
abbrev mV:=@List.all_cons
abbrev cr:=@List.all_eq_true
abbrev qY:=@List.any_eq_false
abbrev qe:=@List.any_eq_true
abbrev uj:=@List.append_assoc
abbrev tn:=@List.append_nil
abbrev EV:=@List.cons.injEq
abbrev ki:=@List.cons_append
abbrev H9:=@List.countP_cons
abbrev Dt:=@List.drop_append
abbrev wN:=@List.drop_drop
abbrev wK:=@List.drop_eq_getElem_cons
abbrev rl:=@List.drop_eq_nil_of_le
abbrev II:=@List.drop_length
abbrev xG:=@List.drop_succ_cons
abbrev zS:=@List.drop_take
abbrev jO:=@List.drop_zero
abbrev uu:=@List.eq_nil_of_length_eq_zero
abbrev xj:=@List.ext_getElem?
abbrev HT:=@List.filter_append
abbrev NB:=@List.filter_cons_of_neg
abbrev Nv:=@List.filter_cons_of_pos
abbrev ED:=@List.filter_filter
abbrev zR:=@List.findSome?_cons
abbrev MF:=@List.findSome?_eq_none_iff
abbrev Eo:=@List.flatMap_append
abbrev m8:=@List.flatMap_cons
abbrev Dz:=@List.foldl_append
abbrev tc:=@List.foldl_cons
abbrev Dp:=@List.foldl_nil
abbrev E3:=@List.getD_eq_getElem?_getD
abbrev mi:=@List.getElem?_append_left
abbrev oe:=@List.getElem?_append_right
abbrev Ed:=@List.getElem?_cons_succ
abbrev kb:=@List.getElem?_cons_zero
abbrev ke:=@List.getElem?_drop
abbrev bH:=@List.getElem?_eq_getElem
abbrev eF:=@List.getElem?_eq_none
abbrev om:=@List.getElem?_eq_some_iff
abbrev mz:=@List.getElem?_map
abbrev IW:=@List.getElem?_set_self
abbrev IU:=@List.getElem?_take
abbrev oc:=@List.getElem?_take_of_lt
abbrev Ht:=@List.getElem_mem
abbrev Fh:=@List.isEmpty_eq_false_iff
abbrev bB:=@List.length_append
abbrev aS:=@List.length_cons
abbrev nh:=@List.length_drop
abbrev D7:=@List.length_filter_le
abbrev Dw:=@List.length_filter_lt_length_iff_exists
abbrev sF:=@List.length_map
abbrev bg:=@List.length_nil
abbrev BY:=@List.length_pos_of_mem
abbrev sO:=@List.length_reverse
abbrev BC:=@List.length_set
abbrev dx:=@List.length_take
abbrev uC:=@List.mapM_cons
abbrev BZ:=@List.map_append
abbrev fa:=@List.map_cons
abbrev qu:=@List.map_map
abbrev kA:=@List.mem_append
abbrev cA:=@List.mem_cons
abbrev gP:=@List.mem_cons_of_mem
abbrev vL:=@List.mem_cons_self
abbrev kw:=@List.mem_filter
abbrev dr:=@List.mem_map
abbrev dT:=@List.mem_of_getElem?
abbrev H6:=@List.mem_or_eq_of_mem_set
abbrev jk:=@List.mem_range
abbrev qM:=@List.mem_range'_1
abbrev uB:=@List.mem_singleton
abbrev ij:=@List.nil_append
abbrev Bv:=@List.nodup_append
abbrev vj:=@List.nodup_cons
abbrev pi:=@List.not_mem_nil
abbrev vI:=@List.range'_succ
abbrev qo:=@List.replicate_succ
abbrev vH:=@List.reverse_reverse
abbrev JF:=@List.set_eq_take_append_cons_drop
abbrev vU:=@List.size_toArray
abbrev nT:=@List.take_add_one
abbrev B5:=@List.take_append
abbrev uG:=@List.take_append_drop
abbrev sj:=@List.take_append_of_le_length
abbrev nU:=@List.take_length
abbrev gX:=@List.take_of_length_le
abbrev oP:=@List.take_succ_cons
abbrev Ix:=@List.take_succ_eq_append_getElem
abbrev yK:=@List.take_take
abbrev mI:=@List.take_zero
abbrev il:=@Nat.add_assoc
abbrev qI:=@Nat.add_comm
abbrev fL:=@Nat.add_mul
abbrev vY:=@Nat.add_right_cancel_iff
abbrev BP:=@Nat.add_sub_cancel
abbrev BQ:=@Nat.add_sub_cancel_left
abbrev fg:=@Nat.add_zero
abbrev io:=@Nat.beq_eq
abbrev cU:=@Nat.ble_eq_true_of_le
abbrev B8:=@Nat.div_le_self
abbrev Ba:=@Nat.div_mul_le_self
abbrev qP:=@Nat.div_one
abbrev bm:=@Nat.eq_of_beq_eq_true
abbrev yV:=@Nat.eq_zero_or_pos
abbrev Bd:=@Nat.le_max_left
abbrev aD:=@Nat.le_of_ble_eq_true
abbrev vf:=@Nat.le_of_eq
abbrev aW:=@Nat.le_refl
abbrev o6:=@Nat.le_trans
abbrev y4:=@Nat.le_zero
abbrev BN:=@Nat.lt_irrefl
abbrev mH:=@Nat.lt_of_lt_of_le
abbrev aH:=@Nat.lt_or_ge
abbrev C2:=@Nat.lt_trichotomy
abbrev qL:=@Nat.min_eq_left
abbrev CZ:=@Nat.min_le_right
abbrev ov:=@Nat.mod_eq_of_lt
abbrev oI:=@Nat.mod_lt
abbrev Bj:=@Nat.mul_assoc
abbrev sQ:=@Nat.mul_comm
abbrev ui:=@Nat.mul_le_mul
abbrev mK:=@Nat.mul_le_mul_right
abbrev ow:=@Nat.mul_one
abbrev yi:=@Nat.ne_of_lt
abbrev xW:=@Nat.one_le_pow
abbrev vG:=@Nat.one_mul
abbrev jI:=@Nat.pow_le_pow_right
abbrev qt:=@Nat.pow_succ
abbrev yl:=@Nat.pow_zero
abbrev yc:=@Nat.sub_self
abbrev vQ:=@Nat.sub_zero
abbrev xN:=@Nat.succ_mul
abbrev cV:=@Nat.zero_add
abbrev qT:=@Nat.zero_le
abbrev CP:=@Go.Oper.apart_spec
abbrev yO:=@Option.bind_eq_some_iff
abbrev yv:=@Option.getD_some
abbrev ze:=@Option.isSome_iff_exists
abbrev uZ:=@Option.isSome_none
abbrev BM:=@Option.map_eq_some_iff
abbrev gN:=@Option.map_none
abbrev ee:=@Option.map_some
abbrev Bt:=@Option.none_or
abbrev bc:=@Option.some.inj
abbrev am:=@Option.some.injEq
abbrev cZ:=@Prod.mk.injEq
abbrev ax:=@Go.Result.andThen_ok
abbrev vz:=@Go.Result.ok.injEq
abbrev av:=@Go.Sem.run_bind
abbrev az:=@Go.Sem.run_pure
abbrev jf:=@UInt8.toNat_inj
abbrev BD:=@UInt8.toNat_ofNat'
abbrev vw:=@Go.World.alloc_eq
abbrev CM:=@Go.World.cells?_some
abbrev sw:=@and_congr_right
abbrev sN:=@and_true
abbrev aL:=@beq_eq_false_iff_ne
abbrev bU:=@beq_iff_eq
abbrev vu:=@beq_self_eq_true
abbrev eH:=@bne_self_eq_false
abbrev ae:=@cond_false
abbrev aj:=@cond_true
abbrev gf:=@congrArg
abbrev qA:=@decide_eq_decide
abbrev aq:=@decide_eq_false
abbrev vT:=@decide_eq_false_iff_not
abbrev ar:=@decide_eq_true
abbrev cj:=@decide_eq_true_eq
abbrev ny:=@decide_false
abbrev np:=@decide_true
abbrev nX:=@exists_congr
abbrev uh:=@false_and
abbrev yA:=@forall_eq_or_imp
abbrev aG:=@if_false
abbrev ab:=@if_neg
abbrev ad:=@if_pos
abbrev aY:=@if_true
abbrev CH:=@not_false_eq_true
abbrev sG:=@not_true_eq_false
abbrev BX:=@of_decide_eq_true
abbrev qm:=@or_false
abbrev u0:=@Go.run_loadCells_list
abbrev ur:=@Go.run_newObj
abbrev aV:=@Go.run_underlying
abbrev jm:=@true_and
end Go
namespace Go.Abs
inductive Lf where
 | i (k:IntKind)
 | bo
 | s
 deriving Inhabited,DecidableEq
@[reducible] def Lf.den:Lf->Type
 | .i _=>Int
 | .bo=>Bool
 | .s=>aa
@[reducible] def den:List Lf->Type
 | []=>Unit
 | [a]=>a.den
 | a::b::l=>a.den×den (b::l)
inductive V where
 | unk
 | pr (z b j o:Nat)
 | ws (b:Nat)
 | rs (z b j n:Nat) (cap:Option Nat)
 | b (x:Bool)
 | i (k:IntKind) (n:Int)
 | s (l:aa)
 | pn
 | p (b o:Nat)
 | sn
 | sl (b o len:Nat) (cap:Option Nat)
 | fn (f:Nat) (cap:List V)
 | nf
 | ni
 | it (t:Nat) (v:V)
 | ag (l:List V)
 | ai (k:IntKind) (n:Nat) (l:List Int)
 | tp (l:List V)
 | mp (b:Nat)
 deriving Inhabited
structure Rf where
 r:Nat
 n:Nat:=0
 k:Nat:=0
  /-- Of a block of rows: where the rows begin. -/
 o:Nat:=0
  /-- Is it only read? Then others may lie there, too. -/
 fz:Bool:=false
abbrev Rf.of (r n k:Nat):Rf:=⟨r,n,k,0,false⟩
abbrev Inj:=Nat->Option (Option Rf)
def fnW (K f:Nat) (a:Array Value):Value:=
 match Nat.blt f K with
 | true=>.func (.func f) #[] a
 | false=>.func (.func (f - K)) a #[]
def fnV (f:Nat) (a:Array Value):Value:=fnW 1000000 f a
theorem QJ (K f:Nat) (a:Array Value):∃g b c,fnW K f a=.func (.func g) b c:=by
 unfold fnW;split
 ·exact ⟨_,_,_,rfl⟩
 ·exact ⟨_,_,_,rfl⟩
theorem wI (f:Nat) (a:Array Value):∃g b c,fnV f a=.func (.func g) b c:=QJ _ f a
theorem NP {K f:Nat} (h:Nat.blt f K=true) (a:Array Value):fnW K f a=.func (.func f) #[] a:=by
 unfold fnW;rw [h]
theorem BS {f:Nat} (h:Nat.blt f 1000000=true) (a:Array Value):fnV f a=.func (.func f) #[] a:=NP h a
theorem J9 (K f:Nat) (a:Array Value):fnW K (f+K) a=.func (.func f) a #[]:=by
 unfold fnW;cases h:Nat.blt (f+K) K with
 | true=>have:f+K<K:=aD h;omega
 | false=>simp
theorem KN (f:Nat) (a:Array Value):fnV (f+1000000) a=.func (.func f) a #[]:=J9 _ f a
def fnFW (K f:Nat):Nat:=match Nat.blt f K with | true=>f | false=>f - K
def fnAW {α:Type} (K f:Nat) (args cap:List α):List α:=match Nat.blt f K with | true=>args++cap | false=>cap++args
def fnF (f:Nat):Nat:=fnFW 1000000 f
def fnA {α:Type} (f:Nat) (args cap:List α):List α:=fnAW 1000000 f args cap
def KU (c:Option Nat) (k:Nat):Prop:=∀m,c=some m->k=m
theorem jo {k:Nat}:KU none k:=λ_ h=>by cases h
theorem pm {k:Nat}:KU (some k) k:=λ_ h=>by cases h;rfl
mutual
def VR (ι:Inj):V->Value->Prop
 | .b x,v=>v=.bool x
 | .i k n,v=>v=.int k n
 | .s l,v=>v=.string ⟨l.toArray⟩
 | .pn,v=>v=.pointer none
 | .p b o,v=>∃q,ι b=some (some q)/\v=.pointer (some ⟨q.r,o,none⟩)
 | .sn,v=>v=.slice none 0 0
 | .sl b o len cap,v=>∃q c,ι b=some (some q)/\(∀n,cap=some n->c=n)/\len<=c/\v=.slice (some ⟨q.r,o,none⟩) len c
 | .unk,v=>v.cells=#[v]/\v.oneCell'=true
 | .pr z b j o,v=>∃q,ι b=some (some q)/\v=.pointer (some ⟨q.r,q.o+(j*z+o),none⟩)
 | .ws b,v=>(∃q,ι b=some (some q)/\v=.slice (some ⟨q.r,q.o,none⟩) q.n q.k)\/(ι b=some none/\∃a,v=.slice a 0 0)
 | .rs z b j n e,v=>(∃q c o,ι b=some (some q)/\(n<=c/\KU e c)/\(0<n->o=q.o+j*z)/\v=.slice (some ⟨q.r,o,none⟩) n c)\/(ι b=some none/\(n=0/\KU e 0)/\∃a,v=.slice a 0 0)
 | .fn f cap,v=>∃d,v=fnV f d/\VRs ι cap d.toList
 | .nf,v=>v=.nilFunc
 | .ni,v=>v=.nilIface
 | .it t x,v=>∃y,v=.iface t y/\VR ι x y
 | .ag l,v=>∃d:Array Value,v=.agg d/\VRs ι l d.toList
 | .ai k n l,v=>l.length=n/\v=.agg (l.map (Value.int k)).toArray
 | .tp l,v=>∃d:Array Value,v=.tuple d/\VRs ι l d.toList
 | .mp b,v=>∃q,ι b=some (some q)/\v=.map (some q.r)
def VRs (ι:Inj):List V->List Value->Prop
 | [],a=>a=[]
 | x::l,a=>∃y b,a=y::b/\VR ι x y/\VRs ι l b
end
mutual
theorem VR.mono {ι E:Inj} (h:∀b r,ι b=some r->E b=some r):∀(v:V) (x:Value),VR ι v x->VR E v x
 | .b _,_,hx | .i _ _,_,hx | .s _,_,hx | .pn,_,hx | .sn,_,hx | .nf,_,hx | .ni,_,hx | .ai _ _ _,_,hx | .unk,_,hx=>by simpa [VR] using hx
 | .p b o,x,hx | .pr z b j o,x,hx | .mp b,x,hx=>by
  simp only [VR] at hx ⊢;obtain ⟨r,C,A⟩:=hx;exact ⟨r,h _ _ C,A⟩
 | .ws b,x,hx=>by
  simp only [VR] at hx ⊢;rcases hx with ⟨q,C,A⟩ | ⟨C,A⟩
  ·exact .inl ⟨q,h _ _ C,A⟩
  ·exact .inr ⟨h _ _ C,A⟩
 | .rs z b j n _,x,hx=>by
  simp only [VR] at hx ⊢;rcases hx with ⟨q,c,o,C,A⟩ | ⟨C,A⟩
  ·exact .inl ⟨q,c,o,h _ _ C,A⟩
  ·exact .inr ⟨h _ _ C,A⟩
 | .sl b o len cap,x,hx=>by
  simp only [VR] at hx ⊢;obtain ⟨r,c,C,A⟩:=hx;exact ⟨r,c,h _ _ C,A⟩
 | .fn f cap,x,hx=>by
  simp only [VR] at hx ⊢;obtain ⟨F,C,A⟩:=hx;exact ⟨F,C,VRs.mono h _ _ A⟩
 | .it t v,x,hx=>by
  simp only [VR] at hx ⊢;obtain ⟨y,C,A⟩:=hx;exact ⟨y,C,VR.mono h _ _ A⟩
 | .ag l,x,hx=>by
  simp only [VR] at hx ⊢;obtain ⟨F,C,A⟩:=hx;exact ⟨F,C,VRs.mono h _ _ A⟩
 | .tp l,x,hx=>by
  simp only [VR] at hx ⊢;obtain ⟨F,C,A⟩:=hx;exact ⟨F,C,VRs.mono h _ _ A⟩
theorem VRs.mono {ι A:Inj} (h:∀b r,ι b=some r->A b=some r):∀(l:List V) (C:List Value),VRs ι l C->VRs A l C
 | [],_,hx=>by simpa [VRs] using hx
 | v::l,C,hx=>by
  simp only [VRs] at hx ⊢;obtain ⟨y,G,J,E,F⟩:=hx;exact ⟨y,G,J,VR.mono h _ _ E,VRs.mono h _ _ F⟩
end
theorem VRs.length {ι:Inj}:∀{l:List V} {xs:List Value},VRs ι l xs->xs.length=l.length
 | [],_,h=>by simp only [VRs] at h;simp [h]
 | _::_,_,h=>by
  simp only [VRs] at h;obtain ⟨y,C,rfl,_,A⟩:=h;simp [VRs.length A]
theorem VRs.get {ι:Inj}:∀{l:List V} {xs:List Value} {j:Nat} {v:V},VRs ι l xs->l[j]?=some v->∃x,xs[j]?=some x/\VR ι v x
 | [],_,_,_,_,A=>by simp at A
 | _::_,_,0,_,h,A=>by
  simp only [VRs] at h;obtain ⟨y,F,rfl,C,_⟩:=h;simp only [kb,am] at A;subst A;exact ⟨y,by simp,C⟩
 | _::_,_,j+1,_,h,A=>by
  simp only [VRs] at h;obtain ⟨y,F,rfl,_,E⟩:=h;simp only [Ed] at A ⊢;exact VRs.get E A
theorem VRs.of_get {ι:Inj}:∀{l:List V} {A:List Value},A.length=l.length->(∀(j:Nat) (v:V) (x:Value),l[j]?=some v->A[j]?=some x->VR ι v x)->VRs ι l A
 | [],A,C,_=>by simp only [VRs];exact uu (by simpa using C)
 | v::l,[],C,_=>by simp at C
 | v::l,x::A,C,h=>by
  simp only [VRs];refine ⟨x,A,rfl,h 0 v x (by simp) (by simp),VRs.of_get (by simpa using C) λj F G J E=>h (j+1) F G (by simpa using J) (by simpa using E)⟩
theorem VRs.append {ι:Inj}:∀{l:List V} {xs:List Value} {m:List V} {C:List Value},VRs ι l xs->VRs ι m C->VRs ι (l++m) (xs++C)
 | [],_,_,_,h,A=>by simp only [VRs] at h;subst h;simpa using A
 | _::_,_,_,_,h,A=>by
  simp only [VRs] at h;obtain ⟨y,C,rfl,E,F⟩:=h;simp only [ki,VRs];exact ⟨y,_,rfl,E,VRs.append F A⟩
theorem VRs.drop {ι:Inj}:∀{l:List V} {xs:List Value} (n:Nat),VRs ι l xs->VRs ι (l.drop n) (xs.drop n)
 | _,_,0,h=>by simpa using h
 | [],_,_+1,h=>by simp only [VRs] at h;subst h;simp [VRs]
 | _::_,_,n+1,h=>by
  simp only [VRs] at h;obtain ⟨y,C,rfl,_,A⟩:=h;simpa using VRs.drop n A
theorem VRs.take {ι:Inj}:∀{l:List V} {xs:List Value} (n:Nat),VRs ι l xs->VRs ι (l.take n) (xs.take n)
 | _,_,0,_=>by simp [VRs]
 | [],_,_+1,h=>by simp only [VRs] at h;subst h;simp [VRs]
 | _::_,_,n+1,h=>by
  simp only [VRs] at h;obtain ⟨y,E,rfl,A,C⟩:=h;simp only [oP,VRs];exact ⟨y,_,rfl,A,VRs.take n C⟩
theorem VRs.set {ι:Inj}:∀{l:List V} {xs:List Value} (n:Nat) {v:V} {x:Value},VRs ι l xs->VR ι v x->VRs ι (l.set n v) (xs.set n x)
 | [],_,_,_,_,h,_=>by simp only [VRs] at h;subst h;simp [VRs]
 | _::_,_,0,_,_,h,A=>by
  simp only [VRs] at h;obtain ⟨y,F,rfl,_,C⟩:=h;simp only [List.set_cons_zero,VRs];exact ⟨_,_,rfl,A,C⟩
 | _::_,_,n+1,_,_,h,A=>by
  simp only [VRs] at h;obtain ⟨y,F,rfl,E,C⟩:=h;simp only [List.set_cons_succ,VRs];exact ⟨_,_,rfl,E,VRs.set n C A⟩
theorem VRs.ints {ι:Inj} (k:IntKind):∀(l:List Int),VRs ι (l.map (V.i k)) (l.map (Value.int k))
 | []=>by simp [VRs]
 | n::l=>by simp only [fa,VRs];exact ⟨_,_,rfl,by simp [VR],VRs.ints k l⟩
def Lf.toV:(a:Lf)->a.den->V
 | .i k,n=>.i k n
 | .bo,x=>.b x
 | .s,l=>.s l
def Lf.val:(a:Lf)->a.den->Value
 | .i k,n=>.int k n
 | .bo,x=>.bool x
 | .s,l=>.string ⟨l.toArray⟩
def cells:(t:List Lf)->den t->List V
 | [],_=>[]
 | [a],x=>[a.toV x]
 | a::b::l,x=>a.toV x.1::cells (b::l) x.2
def vals:(t:List Lf)->den t->List Value
 | [],_=>[]
 | [a],x=>[a.val x]
 | a::b::l,x=>a.val x.1::vals (b::l) x.2
theorem Lf.ok (ι:Inj):∀(a:Lf) (x:a.den),VR ι (a.toV x) (a.val x)
 | .i _,_=>by simp [Lf.toV,Lf.val,VR]
 | .bo,_=>by simp [Lf.toV,Lf.val,VR]
 | .s,_=>by simp [Lf.toV,Lf.val,VR]
theorem Lf.ok_iff (ι:Inj):∀(a:Lf) (x:a.den) (y:Value),VR ι (a.toV x) y↔y=a.val x
 | .i _,_,_=>by simp [Lf.toV,Lf.val,VR]
 | .bo,_,_=>by simp [Lf.toV,Lf.val,VR]
 | .s,_,_=>by simp [Lf.toV,Lf.val,VR]
theorem mn (ι:Inj):∀(t:List Lf) (x:den t) (c:List Value),VRs ι (cells t x) c↔c=vals t x
 | [],_,c=>by simp [cells,vals,VRs]
 | [a],x,c=>by
  simp only [cells,vals,VRs];constructor
  ·rintro ⟨y,d,rfl,h,rfl⟩;rw [(a.ok_iff ι x y).1 h]
  ·rintro rfl;exact ⟨_,_,rfl,a.ok ι x,rfl⟩
 | a::b::l,x,c=>by
  simp only [cells,vals,VRs];constructor
  ·rintro ⟨y,d,rfl,h,e⟩;rw [(a.ok_iff ι _ y).1 h,(mn ι (b::l) x.2 d).1 e]
  ·rintro rfl;exact ⟨_,_,rfl,a.ok ι _,(mn ι (b::l) x.2 _).2 rfl⟩
theorem jH:∀(t:List Lf) (x:den t),(cells t x).length=t.length
 | [],_=>rfl
 | [_],_=>rfl
 | _::b::l,x=>by simp [cells,jH (b::l) x.2]
theorem fA:∀(t:List Lf) (x:den t),(vals t x).length=t.length
 | [],_=>rfl
 | [_],_=>rfl
 | _::b::l,x=>by simp [vals,fA (b::l) x.2]
inductive Blk where
 | dead
 | rows (t:List Lf) (l:List (den t))
 | cells (l:List V)
 | ints (k:IntKind) (n:Nat) (l:List Int)
 | iter (s:aa) (pos:Nat)
 | mp (k:IntKind) (l:List (Int×Nat))
 deriving Inhabited
def NF (fr:Nat×Nat) (n:Nat):Prop:=∀j,j<n->¬(fr.1<=j/\j<fr.2)
def BR (ι:Inj) (q:Rf):Blk->Obj->Prop
 | .dead,_=>True
 | .rows t l,o=>∃a e fr,o=.cells a e fr/\l.length=q.n/\q.n<=q.k/\q.o+q.k*t.length<=a.size/\(a.toList.drop q.o).take (l.length*t.length)=l.flatMap (vals t)/\(q.fz=true\/NF fr a.size)
 | .cells l,o=>∃a e fr,o=.cells a e fr/\VRs ι l a.toList/\NF fr a.size
 | .ints k n l,o=>∃e fr,o=.cells (l.map (Value.int k)).toArray e fr/\l.length=n/\NF fr n
 | .iter s pos,o=>o=.stringIter ⟨s.toArray⟩ pos
 | .mp k l,o=>∃c b,o=.map c b/\c.toList.map (λe=>(e.key,e.val))=l.map λp=>(Value.int k p.1,fnV p.2 #[])
theorem BR.mono {ι C:Inj} {q:Rf} (h:∀b r,ι b=some r->C b=some r):∀{blk:Blk} {o:Obj},BR ι q blk o->BR C q blk o
 | .dead,_,_=>trivial
 | .rows t l,o,A=>A
 | .cells l,o,A=>by
  obtain ⟨E,e,fr,J,F,G⟩:=A;exact ⟨E,e,fr,J,VRs.mono h _ _ F,G⟩
 | .ints k n l,o,A=>A
 | .iter s pos,o,A=>A
 | .mp k l,o,A=>A
def look {α:Type}:List (Nat×α)->Nat->Option α
 | [],_=>none
 | (k,v)::l,n=>cond (Nat.beq k n) (some v) (look l n)
theorem aP {α:Type} (k:Nat) (v:α) (l:List (Nat×α)) (n:Nat):look ((k,v)::l) n=if k=n then some v else look l n:=by
 simp only [look];by_cases h:k=n
 ·subst h;simp
 ·have:Nat.beq k n=false:=by
   cases a:Nat.beq k n
   ·rfl
   ·exact absurd (bm a) h
  simp [this,h]
structure St where
 T:List (Nat×Option V)
 H:List (Nat×Blk)
 nb:Nat
  /-- So many blocks came in. -/
 lo:Nat:=0
  /-- The first so many of them are only read. -/
 ro:Nat:=0
  /-- From this one on they may be moved (blocks of rows, by append). -/
 rb:Nat:=0
 deriving Inhabited
def TR (ι:Inj) (T:List (Nat×Option V)) (a:Array Value):Prop:=
 ∀t v,look T t=some (some v)->∃x,a[t]?=some x/\VR ι v x
def BW (ι:Inj) (w:World) (b:Nat) (blk:Blk):Prop:=
 (∃q o,ι b=some (some q)/\w.heap[q.r]?=some o/\BR ι q blk o)\/(ι b=some none/\∃t,blk=.rows t [])
structure WR (ι:Inj) (H:List (Nat×Blk)) (nb:Nat) (w:World):Prop where
 inj:∀b b' q q',ι b=some (some q)->ι b'=some (some q')->q.r=q'.r->b=b'\/(q.fz=true/\q'.fz=true)
 low:∀b q,ι b=some q->b<nb
 dom:∀b q,ι b=some (some q)->q.r<w.heap.size
 blk:∀b blk,look H b=some blk->blk≠.dead->BW ι w b blk
theorem BW.real {ι:Inj} {w:World} {b:Nat} {blk:Blk} (h:BW ι w b blk) (A:∀t,blk≠.rows t []):∃q o,ι b=some (some q)/\w.heap[q.r]?=some o/\BR ι q blk o:=by
 rcases h with h | ⟨_,t,h⟩
 ·exact h
 ·exact absurd h (A t)
theorem BW.map {ι C:Inj} {w w':World} {b G:Nat} {blk A:Blk} (h:BW ι w b blk) (J:C G=ι b) (M:∀q,ι b=some (some q)->w'.heap[q.r]?=w.heap[q.r]?)
  (U:∀q o,BR ι q blk o->BR C q A o) (Q:∀t,blk=.rows t []->A=.rows t []):BW C w' G A:=by
 rcases h with ⟨q,o,E,F,O⟩ | ⟨E,t,F⟩
 ·exact .inl ⟨q,o,by rw [J,E],by rw [M q E,F],U q o O⟩
 ·exact .inr ⟨by rw [J,E],t,Q t F⟩
structure Fr (ι0:Inj) (w0 w:World):Prop where
 os:w.os=w0.os
 tape:w.tape=w0.tape
 output:w.output=w0.output
 size:w0.heap.size<=w.heap.size
 blk:∀k,k<w0.heap.size->(∀b q,ι0 b=some (some q)->q.r≠k)->w.heap[k]?=w0.heap[k]?
theorem Fr.refl (ι0:Inj) (w:World):Fr ι0 w w:=⟨rfl,rfl,rfl,aW _,λ_ _ _=>rfl⟩
def roI (ι0:Inj) (ro:Nat):Inj:=λb=>cond (Nat.blt b ro) none (ι0 b)
theorem nr {ι0:Inj} {ro b:Nat} {r:Option Rf} (h:roI ι0 ro b=some r):ι0 b=some r:=by
 unfold roI at h;cases a:Nat.blt b ro with
 | true=>simp [a] at h
 | false=>simpa [a] using h
theorem JQ {ι0:Inj} {ro b:Nat} {r:Option Rf} (h:roI ι0 ro b=some r):ro<=b:=by
 unfold roI at h;rcases aH b ro with a | a
 ·rw [show Nat.blt b ro=true from cU a] at h;cases h
 ·exact a
theorem Ac {ι0:Inj} {ro b:Nat} {r:Option Rf} (h:ι0 b=some r) (a:ro<=b):roI ι0 ro b=some r:=by
 have:Nat.blt b ro=false:=by
  cases hx:Nat.blt b ro with
  | false=>rfl
  | true=>have:b<ro:=aD hx;omega
 simp [roI,this,h]
def GL (R:Inj) (w:World):Prop:=∃L:List (Nat×Obj),R7 L/\(∀x∈L,w.heap[x.1]?=some x.2)/\∀x∈L,∀b q,R b=some (some q)->q.r≠x.1
theorem GL.mono {R F:Inj} {w:World} (h:GL R w) (M:∀b q,F b=some (some q)->(∃C A,R C=some (some A)/\A.r=q.r)\/w.heap.size<=q.r):GL F w:=by
 obtain ⟨L,U,E,J⟩:=h;refine ⟨L,U,E,λx hx b q Q=>?_⟩;rcases M b q Q with ⟨C,A,G,O⟩ | G
 ·rw [<-O];exact J x hx C A G
 ·have hs:x.1<w.heap.size:=by
   rcases aH x.1 w.heap.size with h | h
   ·exact h
   ·have:=E x hx;rw [tz h] at this;cases this
  omega
structure Base where
 w:World
 D:List Deferred:=[]
structure Inv (n:Nat) (ι0:Inj) (w0:Base) (ι:Inj) (s:St) (a:Act) (w:World):Prop where
 size:a.tmps.size=n
 defers:a.defers=w0.D
 tmps:TR ι s.T a.tmps
 mem:WR ι s.H s.nb w
 ext:∀b q,ι0 b=some q->ι b=some q\/s.rb<=b
 new:∀b q,ι b=some (some q)->(∃q',ι0 b=some (some q')/\q'.r=q.r)\/w0.w.heap.size<=q.r
 fr:Fr (roI ι0 s.ro) w0.w w
 low:∀b r,ι0 b=some r->b<s.lo
 fz:∀b q,ι b=some (some q)->q.fz=true->b<s.ro
 gl:GL (roI ι0 s.ro) w0.w
theorem Inv.glHere {n:Nat} {ι0 ι:Inj} {w0:Base} {s:St} {a:Act} {w:World} (h:Inv n ι0 w0 ι s a w) {R:Inj} (F:∀b q,R b=some (some q)->ι b=some (some q)/\s.ro<=b):GL R w:=by
 obtain ⟨L,U,A,C⟩:=h.gl;have hs:∀x∈L,x.1<w0.w.heap.size:=by
  intro x hx;rcases aH x.1 w0.w.heap.size with h | h
  ·exact h
  ·have:=A x hx;rw [tz h] at this;cases this
 refine ⟨L,U,λx hx=>?_,λx hx b q Q=>?_⟩
 ·rw [h.fr.blk x.1 (hs x hx) (C x hx)];exact A x hx
 ·obtain ⟨O,J⟩:=F b q Q;rcases h.new b q O with ⟨G,E,M⟩ | E
  ·rw [<-M];exact C x hx b G (Ac E J)
  ·have:=hs x hx;omega
def upd (ι:Inj) (b:Nat) (r:Option Rf):Inj:=λc=>if c=b then some r else ι c
theorem n7 {ι:Inj} {b:Nat} {r:Option Rf} (h:ι b=none):∀c q,ι c=some q->upd ι b r c=some q:=by
 intro c q hc;unfold upd;split
 ·rename_i e;subst e;rw [h] at hc;cases hc
 ·exact hc
theorem TR.mono {ι A:Inj} (h:∀b r,ι b=some r->A b=some r) {T:List (Nat×Option V)} {C:Array Value} (F:TR ι T C):TR A T C:=
 λt v E=>let ⟨x,h1,h2⟩:=F t v E;⟨x,h1,VR.mono h _ _ h2⟩
theorem TR.put {ι:Inj} {T:List (Nat×Option V)} {a:Act} {d:Nat} {v:Option V} {x:Value} (G:TR ι T a.tmps) (F:d<a.tmps.size)
  (J:∀u,v=some u->VR ι u x):TR ι ((d,v)::T) (a.put (some d) x).tmps:=by
 intro t u A;rw [aP] at A;simp only [Act.put];split at A
 ·rename_i e;subst e;simp only [am] at A;exact ⟨x,by simp [F],J u A⟩
 ·rename_i C;obtain ⟨y,M,E⟩:=G t u A;exact ⟨y,by rw [N1 C];exact M,E⟩
def setObj (w:World) (r:Nat) (o:Obj):World:={ w with heap:=w.heap.setIfInBounds r o }
theorem iY (w:World) (o:Obj):(w.alloc o).heap[w.heap.size]?=some o:=by
 show (w.heap.push o)[w.heap.size]?=some o;simp
theorem iS (w:World) (o:Obj) {k:Nat} (h:k≠w.heap.size):(w.alloc o).heap[k]?=w.heap[k]?:=by
 show (w.heap.push o)[k]?=_;rw [Array.getElem?_push,ab h]
theorem mS {w:World} {r:Nat} {o:Obj} (h:w.heap[r]?=some o):r<w.heap.size:=by
 rcases aH r w.heap.size with a | a
 ·exact a
 ·simp [tz a] at h
theorem WR.draws {ι:Inj} {H:List (Nat×Blk)} {nb:Nat} {w:World} (h:WR ι H nb w) (n:Nat):WR ι H nb { w with drawn:=n }:=
 ⟨h.inj,h.low,h.dom,h.blk⟩
theorem pY {w:World} {r k:Nat} (o:Obj) (h:r≠k):(setObj w r o).heap[k]?=w.heap[k]?:=by
 simp [setObj,N1 h]
theorem WR.write {ι:Inj} {H:List (Nat×Blk)} {nb b:Nat} {q:Rf} {w:World} {blk:Blk} {o:Obj} (h:WR ι H nb w) (F:ι b=some (some q)) (O:q.fz=false) (M:BR ι q blk o):
  WR ι ((b,blk)::H) nb (setObj w q.r o):=by
 have Q:=h.dom b q F;refine ⟨h.inj,h.low,λc q hc=>by simpa [setObj] using h.dom c q hc,λc C A J=>?_⟩;rw [aP] at A;split at A
 ·rename_i e;subst e;simp only [am] at A;subst A;exact .inl ⟨q,o,F,by simp [setObj,Q],M⟩
 ·rename_i E;exact (h.blk c C A J).map rfl (λp hp=>pY o λe=>(h.inj b c q p F hp e).elim E λG=>by rw [O] at G;cases G.1) (λ_ _ x=>x) (λ_ x=>x)
theorem WR.alloc {ι:Inj} {H:List (Nat×Blk)} {nb A f:Nat} {q:Rf} {w:World} {blk:Blk} {o:Obj} (h:WR ι H nb w) (hf:ι f=none) (hn:nb<=A) (M:f<A)
  (X:q.r=w.heap.size) (W:BR (upd ι f (some q)) q blk o):WR (upd ι f (some q)) ((f,blk)::H) A (w.alloc o):=by
 have F:=n7 (r:=some q) hf;refine ⟨λb b' r r' E C Y=>?_,λc p hc=>?_,λc p hc=>?_,λc J G U=>?_⟩
 ·unfold upd at E C;split at E<;>split at C
  ·rename_i Z Q;exact .inl (Z.trans Q.symm)
  ·simp only [am] at E;subst E;have:=h.dom _ _ C;omega
  ·simp only [am] at C;subst C;have:=h.dom _ _ E;omega
  ·exact h.inj _ _ _ _ E C Y
 ·unfold upd at hc;split at hc
  ·rename_i e;subst e;exact M
  ·have:=h.low _ _ hc;omega
 ·unfold upd at hc;split at hc
  ·simp only [am] at hc;subst hc;simp;omega
  ·have:=h.dom _ _ hc;simp;omega
 ·rw [aP] at G;split at G
  ·rename_i e;subst e;simp only [am] at G;subst G;exact .inl ⟨q,o,by simp [upd],by rw [X];exact iY w o,W⟩
  ·rename_i O;refine (h.blk c J G U).map (by simp [upd,Ne.symm O]) (λp hp=>?_) (λ_ _ x=>BR.mono F x) (λ_ x=>x);have:=h.dom _ _ hp;exact iS w o (by omega)
theorem Fr.draws {ι0:Inj} {w0 w:World} (h:Fr ι0 w0 w) (n:Nat):Fr ι0 w0 { w with drawn:=n }:=⟨h.os,h.tape,h.output,h.size,h.blk⟩
theorem Fr.alloc {ι0:Inj} {w0 w:World} (h:Fr ι0 w0 w) (o:Obj):Fr ι0 w0 (w.alloc o):=by
 refine ⟨h.os,h.tape,h.output,by have:=h.size;simp;omega,λk C A=>?_⟩;have:=h.size;rw [iS w o (by omega)];exact h.blk k C A
theorem Fr.write {ι0:Inj} {w0 w:World} (h:Fr ι0 w0 w) {r:Nat} (E:(∃b q,ι0 b=some (some q)/\q.r=r)\/w0.heap.size<=r) (o:Obj):Fr ι0 w0 (setObj w r o):=by
 refine ⟨h.os,h.tape,h.output,by simpa [setObj] using h.size,λk G F=>?_⟩;have A:r≠k:=by
  rintro rfl;rcases E with ⟨b,q,C,J⟩ | E
  ·exact F b q C J
  ·omega
 simp only [setObj,N1 A];exact h.blk k G F
theorem aX {w:World} {r o:Nat} {a:Array Value} {e:TypeId} {fr:Nat×Nat} (h:w.heap[r]?=some (.cells a e fr)):
  w.cell? ⟨r,o,none⟩=a[o]?:=by
 simp [World.cell?,h]
theorem oJ {w:World} {r o:Nat} {a:Array Value} {e:TypeId} {fr:Nat×Nat} (h:w.heap[r]?=some (.cells a e fr)) (c:NF fr a.size) (b:o<a.size):
  w.frozen? ⟨r,o,none⟩=false:=by
 have:=c o b;simp only [World.frozen?,h];by_cases f:fr.1<=o<;>by_cases d:o<fr.2<;>simp_all
theorem AZ {w:World} {r o:Nat} {v:Value} {b:Array Value} {e:TypeId} {fr:Nat×Nat} (h:w.heap[r]?=some (.cells b e fr)):
  w.setCell ⟨r,o,none⟩ v=setObj w r (.cells (b.setIfInBounds o v) e fr):=by
 unfold World.setCell setObj;congr 1;apply NX;intro k;rw [Array.getElem?_modify,Oe];have c:=mS h;by_cases a:r=k
 ·subst a;rw [ad rfl,ad rfl,ad c,h];simp
 ·rw [ab a,ab a]
theorem yP (w:World) (r:Nat) (o a:Obj):setObj (setObj w r o) r a=setObj w r a:=by
 simp [setObj]
theorem Bh {w:World} {r:Nat} {o:Obj} (h:w.heap[r]?=some o):setObj w r o=w:=by
 unfold setObj;congr 1;apply NX;intro k;rw [Oe];by_cases a:r=k
 ·subst a;rw [ad rfl,ad (mS h),h]
 ·rw [ab a]
theorem wa {w:World} {r:Nat} {o a:Obj} (h:w.heap[r]?=some o):(setObj w r a).heap[r]?=some a:=by
 have b:=mS h;simp [setObj,b]
end Go.Abs
