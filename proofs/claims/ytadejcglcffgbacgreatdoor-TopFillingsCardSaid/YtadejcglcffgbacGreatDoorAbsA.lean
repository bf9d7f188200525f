
import Derived.Tactics
import Derived.Below
import Derived.Test.YtadejcglcffgbacGreatDoorGlob
set_option linter.unusedSimpArgs false
set_option linter.unusedVariables false
set_option linter.defProp false
namespace Go
abbrev aa:=List UInt8
abbrev gQ:=@Array.ext'
abbrev KG:=@Array.ext_getElem?
abbrev mV:=@Array.getD_eq_getD_getElem?
abbrev KP:=@Array.getElem?_append_left
abbrev Nq:=@Array.getElem?_eq_getElem
abbrev tj:=@Array.getElem?_eq_none
abbrev MH:=@Array.getElem?_replicate
abbrev JC:=@Array.getElem?_setIfInBounds
abbrev KA:=@Array.getElem?_setIfInBounds_ne
abbrev mh:=@Array.getElem?_toList
abbrev Fg:=@Array.length_toList
abbrev I4:=@Array.mapM_eq_mapM_toList
abbrev AP:=@Array.map_empty
abbrev tY:=@Array.toList_append
abbrev us:=@BEq.rfl
abbrev nX:=@Bool.and_eq_false_iff
abbrev aw:=@Bool.and_eq_true
abbrev qH:=@Bool.and_false
abbrev Eg:=@Bool.and_true
abbrev Bq:=@Bool.eq_iff_iff
abbrev qR:=@Bool.false_and
abbrev cb:=@Bool.false_eq_true
abbrev vk:=@Bool.false_or
abbrev Ao:=@Bool.not_eq_true
abbrev ld:=@Bool.not_eq_true'
abbrev dU:=@Bool.not_false
abbrev da:=@Bool.not_true
abbrev fH:=@Bool.or_eq_true
abbrev kB:=@Bool.true_and
abbrev F5:=@ByteArray.ext
abbrev AY:=@Classical.em
abbrev pC:=@Go.Code.wp_mono
abbrev Ep:=@Decidable.not_not
abbrev FW:=@Int.add_assoc
abbrev IU:=@Int.dvd_of_emod_eq_zero
abbrev Ja:=@Int.fdiv_eq_ediv_of_nonneg
abbrev wZ:=@Int.le_of_lt
abbrev kg:=@Int.le_refl
abbrev ER:=@Int.lt_or_eq_of_le
abbrev I1:=@Int.mul_le_mul_of_nonneg_right
abbrev Bc:=@Int.natCast_mul
abbrev EB:=@Int.sub_add_cancel
abbrev I6:=@Int.tdiv_eq_ediv_of_nonneg
abbrev cc:=@Int.toNat_natCast
abbrev xe:=@Int.toNat_of_nonneg
abbrev AT:=@Int.zero_add
abbrev Bt:=@Go.IntKind.wrap_i64
abbrev u1:=@List.Pairwise.imp
abbrev ln:=@List.all_cons
abbrev ct:=@List.all_eq_true
abbrev qM:=@List.any_eq_false
abbrev mf:=@List.any_eq_true
abbrev o7:=@List.append_assoc
abbrev uR:=@List.append_nil
abbrev jX:=@List.cons_append
abbrev EG:=@List.countP_cons
abbrev zN:=@List.drop_append
abbrev vf:=@List.drop_drop
abbrev sw:=@List.drop_eq_getElem_cons
abbrev nL:=@List.drop_eq_nil_of_le
abbrev fS9:=@List.drop_length
abbrev uu:=@List.drop_succ_cons
abbrev xG:=@List.drop_take
abbrev iE:=@List.drop_zero
abbrev ta:=@List.eq_nil_of_length_eq_zero
abbrev I9:=@List.exists_cons_of_ne_nil
abbrev xY:=@List.ext_getElem?
abbrev Br:=@List.filter_cons_of_neg
abbrev zV:=@List.filter_cons_of_pos
abbrev Bz:=@List.filter_filter
abbrev Bn:=@List.find?_cons
abbrev uH:=@List.find?_eq_none
abbrev ID:=@List.find?_eq_some_iff_append
abbrev xM:=@List.findSome?_cons
abbrev D8:=@List.findSome?_eq_none_iff
abbrev II:=@List.findSome?_eq_some_iff
abbrev Ak:=@List.flatMap_append
abbrev fO:=@List.flatMap_cons
abbrev zL:=@List.foldl_append
abbrev qO:=@List.foldl_cons
abbrev Ab:=@List.foldl_nil
abbrev Fe:=@List.getD_eq_getElem?_getD
abbrev ka:=@List.getElem?_append_left
abbrev kf:=@List.getElem?_append_right
abbrev zI:=@List.getElem?_cons_succ
abbrev jr:=@List.getElem?_cons_zero
abbrev jx:=@List.getElem?_drop
abbrev bN:=@List.getElem?_eq_getElem
abbrev ec:=@List.getElem?_eq_none
abbrev o9:=@List.getElem?_eq_some_iff
abbrev mL:=@List.getElem?_map
abbrev E5:=@List.getElem?_take
abbrev mM:=@List.getElem?_take_of_lt
abbrev AE:=@List.getElem_mem
abbrev AI:=@List.isEmpty_eq_false_iff
abbrev cR:=@List.length_append
abbrev bp:=@List.length_cons
abbrev k7:=@List.length_drop
abbrev uN:=@List.length_filter_le
abbrev Aj:=@List.length_filter_lt_length_iff_exists
abbrev mw:=@List.length_map
abbrev cP:=@List.length_nil
abbrev yN:=@List.length_pos_of_mem
abbrev lB:=@List.length_reverse
abbrev dj:=@List.length_take
abbrev wh:=@List.mapM_cons
abbrev zf:=@List.map_congr_left
abbrev cU:=@List.map_cons
abbrev pI:=@List.map_map
abbrev kn:=@List.mem_append
abbrev bv:=@List.mem_cons
abbrev fE:=@List.mem_cons_of_mem
abbrev kP:=@List.mem_cons_self
abbrev iU:=@List.mem_filter
abbrev mY:=@List.mem_flatMap
abbrev ch:=@List.mem_map
abbrev C6:=@List.mem_of_find?_eq_some
abbrev dK:=@List.mem_of_getElem?
abbrev iN:=@List.mem_range
abbrev oq:=@List.mem_range'_1
abbrev rQ:=@List.mem_reverse
abbrev ou:=@List.mem_singleton
abbrev gh:=@List.nil_append
abbrev zm:=@List.nodup_append
abbrev sK:=@List.nodup_cons
abbrev n8:=@List.not_mem_nil
abbrev zr:=@List.pairwise_append
abbrev yR:=@List.pairwise_cons
abbrev FO:=@List.pairwise_lt_range'
abbrev sS:=@List.pairwise_map
abbrev wb:=@List.pairwise_singleton
abbrev we:=@List.range'_succ
abbrev pY:=@List.replicate_succ
abbrev zq:=@List.reverse_cons
abbrev tK:=@List.reverse_reverse
abbrev Fb:=@List.set_eq_take_append_cons_drop
abbrev sG:=@List.size_toArray
abbrev yM:=@List.sum_cons
abbrev oa:=@List.take_add_one
abbrev yK:=@List.take_append
abbrev qw:=@List.take_append_drop
abbrev qB:=@List.take_append_of_le_length
abbrev oz:=@List.take_length
abbrev gI:=@List.take_of_length_le
abbrev mC:=@List.take_succ_cons
abbrev C5:=@List.take_succ_eq_append_getElem
abbrev wx:=@List.take_take
abbrev kR:=@List.take_zero
abbrev gL:=@Nat.add_assoc
abbrev pO:=@Nat.add_comm
abbrev ea:=@Nat.add_mul
abbrev sB:=@Nat.add_right_cancel_iff
abbrev yG:=@Nat.add_sub_cancel
abbrev pK:=@Nat.add_sub_cancel_left
abbrev eu:=@Nat.add_zero
abbrev fP:=@Nat.beq_eq
abbrev dA:=@Nat.ble_eq_true_of_le
abbrev wJ:=@Nat.div_one
abbrev aS:=@Nat.eq_of_beq_eq_true
abbrev vv:=@Nat.eq_zero_or_pos
abbrev yS:=@Nat.le_max_left
abbrev az:=@Nat.le_of_ble_eq_true
abbrev sJ:=@Nat.le_of_eq
abbrev aI:=@Nat.le_refl
abbrev lT:=@Nat.le_trans
abbrev wO:=@Nat.le_zero
abbrev zl:=@Nat.lt_irrefl
abbrev kK:=@Nat.lt_of_lt_of_le
abbrev aA:=@Nat.lt_or_ge
abbrev zE:=@Nat.lt_trichotomy
abbrev om:=@Nat.min_eq_left
abbrev n7:=@Nat.mod_eq_of_lt
abbrev mB:=@Nat.mod_lt
abbrev y6:=@Nat.mul_assoc
abbrev vJ:=@Nat.mul_comm
abbrev rX:=@Nat.mul_le_mul
abbrev kH:=@Nat.mul_le_mul_right
abbrev qx:=@Nat.mul_one
abbrev ww:=@Nat.ne_of_lt
abbrev wa:=@Nat.one_mul
abbrev js:=@Nat.pow_le_pow_right
abbrev pL:=@Nat.pow_succ
abbrev wt:=@Nat.sub_self
abbrev s9:=@Nat.sub_zero
abbrev ci:=@Nat.zero_add
abbrev mT:=@Nat.zero_le
abbrev zi:=@Go.Oper.apart_spec
abbrev Do:=@Option.bind_eq_some_iff
abbrev wM:=@Option.getD_some
abbrev wH:=@Option.isSome_iff_exists
abbrev sC:=@Option.isSome_none
abbrev yB:=@Option.map_eq_none_iff
abbrev vz:=@Option.map_eq_some_iff
abbrev en:=@Option.map_none
abbrev dB:=@Option.map_some
abbrev yZ:=@Option.none_or
abbrev aM:=@Option.some.inj
abbrev af:=@Option.some.injEq
abbrev ca:=@Prod.mk.injEq
abbrev ar:=@Go.Result.andThen_ok
abbrev tU:=@Go.Result.ok.injEq
abbrev al:=@Go.Sem.run_bind
abbrev av:=@Go.Sem.run_pure
abbrev iW:=@UInt8.toNat_inj
abbrev zF:=@UInt8.toNat_ofNat'
abbrev sM:=@Go.World.alloc_eq
abbrev pV:=@and_congr_right
abbrev bA:=@beq_eq_false_iff_ne
abbrev bI:=@beq_iff_eq
abbrev qj:=@beq_self_eq_true
abbrev ek:=@bne_self_eq_false
abbrev ae:=@cond_false
abbrev aj:=@cond_true
abbrev eK:=@congrArg
abbrev sX:=@decide_eq_decide
abbrev ax:=@decide_eq_false
abbrev jt:=@decide_eq_false_iff_not
abbrev ay:=@decide_eq_true
abbrev aT:=@decide_eq_true_eq
abbrev lC:=@decide_false
abbrev lZ:=@decide_true
abbrev lr:=@exists_congr
abbrev vI:=@forall_eq_or_imp
abbrev aD:=@if_false
abbrev ab:=@if_neg
abbrev ad:=@if_pos
abbrev be:=@if_true
abbrev zk:=@not_false_eq_true
abbrev qy:=@not_true_eq_false
abbrev qs:=@or_false
abbrev tR:=@Go.run_loadCells_list
abbrev sL:=@Go.run_newObj
abbrev aJ:=@Go.run_underlying
abbrev lW:=@true_and
end Go
namespace Go.Abs
inductive Lf where
 | i (k:IntKind)
 | bo
 | s
 deriving Inhabited,DecidableEq
@[reducible] def Lf.den:Lf->Type
 | .i _=>Int
 | .bo=>Bool
 | .s=>aa
@[reducible] def den:List Lf->Type
 | []=>Unit
 | [a]=>a.den
 | a::b::l=>a.den×den (b::l)
inductive V where
 | unk
 | pr (z b j o:Nat)
 | ws (b:Nat)
 | rs (z b j n:Nat) (cap:Option Nat)
 | b (x:Bool)
 | i (k:IntKind) (n:Int)
 | s (l:aa)
 | pn
 | p (b o:Nat)
 | sn
 | sl (b o len:Nat) (cap:Option Nat)
 | fn (f:Nat) (cap:List V)
 | nf
 | ni
 | it (t:Nat) (v:V)
 | ag (l:List V)
 | ai (k:IntKind) (n:Nat) (l:List Int)
 | tp (l:List V)
 | mp (b:Nat)
 deriving Inhabited
structure Rf where
 r:Nat
 n:Nat:=0
 k:Nat:=0
 o:Nat:=0
 fz:Bool:=false
abbrev Rf.of(r n k:Nat):Rf:=⟨r,n,k,0,false⟩
abbrev Inj:=Nat->Option (Option Rf)
def fnW(K f:Nat)(a:Array Value):Value:=
 match Nat.blt f K with
 | true=>.func (.func f) #[] a
 | false=>.func (.func (f - K)) a #[]
def fnV(f:Nat)(a:Array Value):Value:=fnW 1000000 f a
def LA(K f:Nat)(a:Array Value):∃g b c,fnW K f a=.func (.func g) b c:=by
 unfold fnW;split
 ·exact⟨_,_,_,rfl⟩
 ·exact⟨_,_,_,rfl⟩
def uW(f:Nat)(a:Array Value):∃g b c,fnV f a=.func (.func g) b c:=LA _ f a
def JX{K f:Nat}(h:Nat.blt f K=true)(a:Array Value):fnW K f a=.func (.func f) #[] a:=by
 unfold fnW;rw[h]
def y3{f:Nat}(h:Nat.blt f 1000000=true)(a:Array Value):fnV f a=.func (.func f) #[] a:=JX h a
def Hz(K f:Nat)(a:Array Value):fnW K (f+K) a=.func (.func f) a #[]:=by
 unfold fnW;cases h:Nat.blt (f+K) K with
 | true=>have:f+K<K:=az h;omega
 | false=>simp
def HJ(f:Nat)(a:Array Value):fnV (f+1000000) a=.func (.func f) a #[]:=Hz _ f a
def fnFW(K f:Nat):Nat:=match Nat.blt f K with | true=>f | false=>f - K
def fnAW{α:Type}(K f:Nat)(args cap:List α):List α:=match Nat.blt f K with | true=>args++cap | false=>cap++args
def fnF(f:Nat):Nat:=fnFW 1000000 f
def fnA{α:Type}(f:Nat)(args cap:List α):List α:=fnAW 1000000 f args cap
def Hu(c:Option Nat)(k:Nat):Prop:=∀m,c=some m->k=m
def gX{k:Nat}:Hu none k:=λ_ h=>by cases h
def nz{k:Nat}:Hu (some k) k:=λ_ h=>by cases h;rfl
mutual
def VR(ι:Inj):V->Value->Prop
 | .b x,v=>v=.bool x
 | .i k n,v=>v=.int k n
 | .s l,v=>v=.string ⟨l.toArray⟩
 | .pn,v=>v=.pointer none
 | .p b o,v=>∃q,ι b=some (some q)/\v=.pointer (some ⟨q.r,o,none⟩)
 | .sn,v=>v=.slice none 0 0
 | .sl b o len cap,v=>∃q c,ι b=some (some q)/\(∀n,cap=some n->c=n)/\len<=c/\v=.slice (some ⟨q.r,o,none⟩) len c
 | .unk,v=>v.cells=#[v]/\v.oneCell'=true
 | .pr z b j o,v=>∃q,ι b=some (some q)/\v=.pointer (some ⟨q.r,q.o+(j*z+o),none⟩)
 | .ws b,v=>(∃q,ι b=some (some q)/\v=.slice (some ⟨q.r,q.o,none⟩) q.n q.k)\/(ι b=some none/\∃a,v=.slice a 0 0)
 | .rs z b j n e,v=>(∃q c o,ι b=some (some q)/\(n<=c/\Hu e c)/\(0<n->o=q.o+j*z)/\v=.slice (some ⟨q.r,o,none⟩) n c)\/(ι b=some none/\(n=0/\Hu e 0)/\∃a,v=.slice a 0 0)
 | .fn f cap,v=>∃d,v=fnV f d/\VRs ι cap d.toList
 | .nf,v=>v=.nilFunc
 | .ni,v=>v=.nilIface
 | .it t x,v=>∃y,v=.iface t y/\VR ι x y
 | .ag l,v=>∃d:Array Value,v=.agg d/\VRs ι l d.toList
 | .ai k n l,v=>l.length=n/\v=.agg (l.map (Value.int k)).toArray
 | .tp l,v=>∃d:Array Value,v=.tuple d/\VRs ι l d.toList
 | .mp b,v=>∃q,ι b=some (some q)/\v=.map (some q.r)
def VRs(ι:Inj):List V->List Value->Prop
 | [],a=>a=[]
 | x::l,a=>∃y b,a=y::b/\VR ι x y/\VRs ι l b
end
mutual
def VR.mono{ι E:Inj}(h:∀b r,ι b=some r->E b=some r):∀(v:V) (x:Value),VR ι v x->VR E v x
 | .b _,_,A | .i _ _,_,A | .s _,_,A | .pn,_,A | .sn,_,A | .nf,_,A | .ni,_,A | .ai _ _ _,_,A | .unk,_,A=>by simpa[VR]using A
 | .p b o,x,A | .pr z b j o,x,A | .mp b,x,A=>by
  simp only[VR]at A ⊢;obtain⟨r,h1,h2⟩:=A;exact⟨r,h _ _ h1,h2⟩
 | .ws b,x,A=>by
  simp only[VR]at A ⊢;rcases A with⟨q,h1,h2⟩ | ⟨h1,h2⟩
  ·exact .inl ⟨q,h _ _ h1,h2⟩
  ·exact .inr ⟨h _ _ h1,h2⟩
 | .rs z b j n _,x,A=>by
  simp only[VR]at A ⊢;rcases A with⟨q,c,o,h1,h2⟩ | ⟨h1,h2⟩
  ·exact .inl ⟨q,c,o,h _ _ h1,h2⟩
  ·exact .inr ⟨h _ _ h1,h2⟩
 | .sl b o len cap,x,A=>by
  simp only[VR]at A ⊢;obtain⟨r,c,h1,h2⟩:=A;exact⟨r,c,h _ _ h1,h2⟩
 | .fn f cap,x,A=>by
  simp only[VR]at A ⊢;obtain⟨C,h1,h2⟩:=A;exact⟨C,h1,VRs.mono h _ _ h2⟩
 | .it t v,x,A=>by
  simp only[VR]at A ⊢;obtain⟨y,h1,h2⟩:=A;exact⟨y,h1,VR.mono h _ _ h2⟩
 | .ag l,x,A=>by
  simp only[VR]at A ⊢;obtain⟨C,h1,h2⟩:=A;exact⟨C,h1,VRs.mono h _ _ h2⟩
 | .tp l,x,A=>by
  simp only[VR]at A ⊢;obtain⟨C,h1,h2⟩:=A;exact⟨C,h1,VRs.mono h _ _ h2⟩
def VRs.mono{ι A:Inj}(h:∀b r,ι b=some r->A b=some r):∀(l:List V) (E:List Value),VRs ι l E->VRs A l E
 | [],_,C=>by simpa[VRs]using C
 | v::l,E,C=>by
  simp only[VRs]at C ⊢;obtain⟨y,F,h1,h2,G⟩:=C;exact⟨y,F,h1,VR.mono h _ _ h2,VRs.mono h _ _ G⟩
end
def VRs.length{ι:Inj}:∀{l:List V} {xs:List Value},VRs ι l xs->xs.length=l.length
 | [],_,h=>by simp only[VRs]at h;simp[h]
 | _::_,_,h=>by
  simp only[VRs]at h;obtain⟨y,C,rfl,_,A⟩:=h;simp[VRs.length A]
def VRs.get{ι:Inj}:∀{l:List V} {xs:List Value} {j:Nat} {v:V},VRs ι l xs->l[j]?=some v->∃x,xs[j]?=some x/\VR ι v x
 | [],_,_,_,_,A=>by simp at A
 | _::_,_,0,_,h,A=>by
  simp only[VRs]at h;obtain⟨y,C,rfl,h2,_⟩:=h;simp only[jr,af]at A;subst A;exact⟨y,by simp,h2⟩
 | _::_,_,j+1,_,h,A=>by
  simp only[VRs]at h;obtain⟨y,C,rfl,_,E⟩:=h;simp only[zI]at A ⊢;exact VRs.get E A
def VRs.of_get{ι:Inj}:∀{l:List V} {A:List Value},A.length=l.length->(∀(j:Nat) (v:V) (x:Value),l[j]?=some v->A[j]?=some x->VR ι v x)->VRs ι l A
 | [],A,C,_=>by simp only[VRs];exact ta (by simpa using C)
 | v::l,[],C,_=>by simp at C
 | v::l,x::A,C,h=>by
  simp only[VRs];refine⟨x,A,rfl,h 0 v x (by simp) (by simp),VRs.of_get (by simpa using C) λj F E h1 h2=>h (j+1) F E (by simpa using h1) (by simpa using h2)⟩
def VRs.append{ι:Inj}:∀{l:List V} {xs:List Value} {m:List V} {A:List Value},VRs ι l xs->VRs ι m A->VRs ι (l++m) (xs++A)
 | [],_,_,_,h,C=>by simp only[VRs]at h;subst h;simpa using C
 | _::_,_,_,_,h,C=>by
  simp only[VRs]at h;obtain⟨y,A,rfl,h2,E⟩:=h;simp only[jX,VRs];exact⟨y,_,rfl,h2,VRs.append E C⟩
def VRs.drop{ι:Inj}:∀{l:List V} {xs:List Value} (n:Nat),VRs ι l xs->VRs ι (l.drop n) (xs.drop n)
 | _,_,0,h=>by simpa using h
 | [],_,_+1,h=>by simp only[VRs]at h;subst h;simp[VRs]
 | _::_,_,n+1,h=>by
  simp only[VRs]at h;obtain⟨y,C,rfl,_,A⟩:=h;simpa using VRs.drop n A
def VRs.take{ι:Inj}:∀{l:List V} {xs:List Value} (n:Nat),VRs ι l xs->VRs ι (l.take n) (xs.take n)
 | _,_,0,_=>by simp[VRs]
 | [],_,_+1,h=>by simp only[VRs]at h;subst h;simp[VRs]
 | _::_,_,n+1,h=>by
  simp only[VRs]at h;obtain⟨y,C,rfl,h2,A⟩:=h;simp only[mC,VRs];exact⟨y,_,rfl,h2,VRs.take n A⟩
def VRs.set{ι:Inj}:∀{l:List V} {xs:List Value} (n:Nat) {v:V} {x:Value},VRs ι l xs->VR ι v x->VRs ι (l.set n v) (xs.set n x)
 | [],_,_,_,_,h,_=>by simp only[VRs]at h;subst h;simp[VRs]
 | _::_,_,0,_,_,h,A=>by
  simp only[VRs]at h;obtain⟨y,E,rfl,_,C⟩:=h;simp only[List.set_cons_zero,VRs];exact⟨_,_,rfl,A,C⟩
 | _::_,_,n+1,_,_,h,A=>by
  simp only[VRs]at h;obtain⟨y,E,rfl,h2,C⟩:=h;simp only[List.set_cons_succ,VRs];exact⟨_,_,rfl,h2,VRs.set n C A⟩
def VRs.ints{ι:Inj}(k:IntKind):∀(l:List Int),VRs ι (l.map (V.i k)) (l.map (Value.int k))
 | []=>by simp[VRs]
 | n::l=>by simp only[cU,VRs];exact⟨_,_,rfl,by simp[VR],VRs.ints k l⟩
def Lf.toV:(a:Lf)->a.den->V
 | .i k,n=>.i k n
 | .bo,x=>.b x
 | .s,l=>.s l
def Lf.val:(a:Lf)->a.den->Value
 | .i k,n=>.int k n
 | .bo,x=>.bool x
 | .s,l=>.string ⟨l.toArray⟩
def cells:(t:List Lf)->den t->List V
 | [],_=>[]
 | [a],x=>[a.toV x]
 | a::b::l,x=>a.toV x.1::cells (b::l) x.2
def vals:(t:List Lf)->den t->List Value
 | [],_=>[]
 | [a],x=>[a.val x]
 | a::b::l,x=>a.val x.1::vals (b::l) x.2
def Lf.ok(ι:Inj):∀(a:Lf) (x:a.den),VR ι (a.toV x) (a.val x)
 | .i _,_=>by simp[Lf.toV,Lf.val,VR]
 | .bo,_=>by simp[Lf.toV,Lf.val,VR]
 | .s,_=>by simp[Lf.toV,Lf.val,VR]
def Lf.ok_iff(ι:Inj):∀(a:Lf) (x:a.den) (y:Value),VR ι (a.toV x) y↔y=a.val x
 | .i _,_,_=>by simp[Lf.toV,Lf.val,VR]
 | .bo,_,_=>by simp[Lf.toV,Lf.val,VR]
 | .s,_,_=>by simp[Lf.toV,Lf.val,VR]
def jg(ι:Inj):∀(t:List Lf) (x:den t) (c:List Value),VRs ι (cells t x) c↔c=vals t x
 | [],_,c=>by simp[cells,vals,VRs]
 | [a],x,c=>by
  simp only[cells,vals,VRs];constructor
  ·rintro⟨y,d,rfl,h,rfl⟩;rw[(a.ok_iff ι x y).1 h]
  ·rintro rfl;exact⟨_,_,rfl,a.ok ι x,rfl⟩
 | a::b::l,x,c=>by
  simp only[cells,vals,VRs];constructor
  ·rintro⟨y,d,rfl,h,e⟩;rw[(a.ok_iff ι _ y).1 h,(jg ι (b::l) x.2 d).1 e]
  ·rintro rfl;exact⟨_,_,rfl,a.ok ι _,(jg ι (b::l) x.2 _).2 rfl⟩
def ir:∀(t:List Lf) (x:den t),(cells t x).length=t.length
 | [],_=>rfl
 | [_],_=>rfl
 | _::b::l,x=>by simp[cells,ir (b::l) x.2]
def gF:∀(t:List Lf) (x:den t),(vals t x).length=t.length
 | [],_=>rfl
 | [_],_=>rfl
 | _::b::l,x=>by simp[vals,gF (b::l) x.2]
inductive Blk where
 | dead
 | rows (t:List Lf) (l:List (den t))
 | cells (l:List V)
 | ints (k:IntKind) (n:Nat) (l:List Int)
 | iter (s:aa) (pos:Nat)
 | mp (k:IntKind) (l:List (Int×Nat))
 deriving Inhabited
def NF(fr:Nat×Nat)(n:Nat):Prop:=∀j,j<n->¬(fr.1<=j/\j<fr.2)
def BR(ι:Inj)(q:Rf):Blk->Obj->Prop
 | .dead,_=>True
 | .rows t l,o=>∃a e fr,o=.cells a e fr/\l.length=q.n/\q.n<=q.k/\q.o+q.k*t.length<=a.size/\(a.toList.drop q.o).take (l.length*t.length)=l.flatMap (vals t)/\(q.fz=true\/NF fr a.size)
 | .cells l,o=>∃a e fr,o=.cells a e fr/\VRs ι l a.toList/\NF fr a.size
 | .ints k n l,o=>∃e fr,o=.cells (l.map (Value.int k)).toArray e fr/\l.length=n/\NF fr n
 | .iter s pos,o=>o=.stringIter ⟨s.toArray⟩ pos
 | .mp k l,o=>∃c b,o=.map c b/\c.toList.map (λe=>(e.key,e.val))=l.map λp=>(Value.int k p.1,fnV p.2 #[])
def BR.mono{ι C:Inj}{q:Rf}(h:∀b r,ι b=some r->C b=some r):∀{blk:Blk} {o:Obj},BR ι q blk o->BR C q blk o
 | .dead,_,_=>trivial
 | .rows t l,o,A=>A
 | .cells l,o,A=>by
  obtain⟨E,e,fr,h1,h2,F⟩:=A;exact⟨E,e,fr,h1,VRs.mono h _ _ h2,F⟩
 | .ints k n l,o,A=>A
 | .iter s pos,o,A=>A
 | .mp k l,o,A=>A
def look{α:Type}:List (Nat×α)->Nat->Option α
 | [],_=>none
 | (k,v)::l,n=>cond (Nat.beq k n) (some v) (look l n)
def aG{α:Type}(k:Nat)(v:α)(l:List (Nat×α))(n:Nat):look ((k,v)::l) n=if k=n then some v else look l n:=by
 simp only[look];by_cases h:k=n
 ·subst h;simp
 ·have:Nat.beq k n=false:=by
   cases a:Nat.beq k n
   ·rfl
   ·exact absurd (aS a) h
  simp[this,h]
structure St where
 T:List (Nat×Option V)
 H:List (Nat×Blk)
 nb:Nat
 lo:Nat:=0
 ro:Nat:=0
 rb:Nat:=0
 deriving Inhabited
def TR(ι:Inj)(T:List (Nat×Option V))(a:Array Value):Prop:=
 ∀t v,look T t=some (some v)->∃x,a[t]?=some x/\VR ι v x
def BW(ι:Inj)(w:World)(b:Nat)(blk:Blk):Prop:=
 (∃q o,ι b=some (some q)/\w.heap[q.r]?=some o/\BR ι q blk o)\/(ι b=some none/\∃t,blk=.rows t [])
structure WR(ι:Inj)(H:List (Nat×Blk))(nb:Nat)(w:World):Prop where
 inj:∀b b' q q',ι b=some (some q)->ι b'=some (some q')->q.r=q'.r->b=b'\/(q.fz=true/\q'.fz=true)
 low:∀b q,ι b=some q->b<nb
 dom:∀b q,ι b=some (some q)->q.r<w.heap.size
 blk:∀b blk,look H b=some blk->blk≠.dead->BW ι w b blk
def BW.real{ι:Inj}{w:World}{b:Nat}{blk:Blk}(h:BW ι w b blk)(A:∀t,blk≠.rows t []):∃q o,ι b=some (some q)/\w.heap[q.r]?=some o/\BR ι q blk o:=by
 rcases h with h | ⟨_,t,h⟩
 ·exact h
 ·exact absurd h (A t)
def BW.map{ι C:Inj}{w w':World}{b F:Nat}{blk A:Blk}(h:BW ι w b blk)(E:C F=ι b)(K:∀q,ι b=some (some q)->w'.heap[q.r]?=w.heap[q.r]?)
  (G:∀q o,BR ι q blk o->BR C q A o) (J:∀t,blk=.rows t []->A=.rows t []):BW C w' F A:=by
 rcases h with⟨q,o,h1,h2,M⟩ | ⟨h1,t,h2⟩
 ·exact .inl ⟨q,o,by rw[E,h1],by rw[K q h1,h2],G q o M⟩
 ·exact .inr ⟨by rw[E,h1],t,J t h2⟩
structure Fr(ι0:Inj)(w0 w:World):Prop where
 os:w.os=w0.os
 tape:w.tape=w0.tape
 output:w.output=w0.output
 size:w0.heap.size<=w.heap.size
 blk:∀k,k<w0.heap.size->(∀b q,ι0 b=some (some q)->q.r≠k)->w.heap[k]?=w0.heap[k]?
def Fr.refl(ι0:Inj)(w:World):Fr ι0 w w:=⟨rfl,rfl,rfl,aI _,λ_ _ _=>rfl⟩
def roI(ι0:Inj)(ro:Nat):Inj:=λb=>cond (Nat.blt b ro) none (ι0 b)
def lI{ι0:Inj}{ro b:Nat}{r:Option Rf}(h:roI ι0 ro b=some r):ι0 b=some r:=by
 unfold roI at h;cases a:Nat.blt b ro with
 | true=>simp[a]at h
 | false=>simpa[a]using h
def Dj{ι0:Inj}{ro b:Nat}{r:Option Rf}(h:roI ι0 ro b=some r):ro<=b:=by
 unfold roI at h;rcases aA b ro with a | a
 ·rw[show Nat.blt b ro=true from dA a]at h;cases h
 ·exact a
def xR{ι0:Inj}{ro b:Nat}{r:Option Rf}(h:ι0 b=some r)(c:ro<=b):roI ι0 ro b=some r:=by
 have:Nat.blt b ro=false:=by
  cases a:Nat.blt b ro with
  | false=>rfl
  | true=>have:b<ro:=az a;omega
 simp[roI,this,h]
def GL(R:Inj)(w:World):Prop:=∃L:List (Nat×Obj),MA L/\(∀x∈L,w.heap[x.1]?=some x.2)/\∀x∈L,∀b q,R b=some (some q)->q.r≠x.1
def GL.mono{R E:Inj}{w:World}(h:GL R w)(M:∀b q,E b=some (some q)->(∃C A,R C=some (some A)/\A.r=q.r)\/w.heap.size<=q.r):GL E w:=by
 obtain⟨L,h1,h2,O⟩:=h;refine⟨L,h1,h2,λx G b q K=>?_⟩;rcases M b q K with⟨C,A,F,J⟩ | F
 ·rw[<-J];exact O x G C A F
 ·have Q:x.1<w.heap.size:=by
   rcases aA x.1 w.heap.size with h | h
   ·exact h
   ·have:=h2 x G;rw[tj h]at this;cases this
  omega
structure Base where
 w:World
 D:List Deferred:=[]
structure Inv(n:Nat)(ι0:Inj)(w0:Base)(ι:Inj)(s:St)(a:Act)(w:World):Prop where
 size:a.tmps.size=n
 defers:a.defers=w0.D
 tmps:TR ι s.T a.tmps
 mem:WR ι s.H s.nb w
 ext:∀b q,ι0 b=some q->ι b=some q\/s.rb<=b
 new:∀b q,ι b=some (some q)->(∃q',ι0 b=some (some q')/\q'.r=q.r)\/w0.w.heap.size<=q.r
 fr:Fr (roI ι0 s.ro) w0.w w
 low:∀b r,ι0 b=some r->b<s.lo
 fz:∀b q,ι b=some (some q)->q.fz=true->b<s.ro
 gl:GL (roI ι0 s.ro) w0.w
def Inv.glHere{n:Nat}{ι0 ι:Inj}{w0:Base}{s:St}{a:Act}{w:World}(h:Inv n ι0 w0 ι s a w){R:Inj}(O:∀b q,R b=some (some q)->ι b=some (some q)/\s.ro<=b):GL R w:=by
 obtain⟨L,h1,h2,F⟩:=h.gl;have C:∀x∈L,x.1<w0.w.heap.size:=by
  intro x A;rcases aA x.1 w0.w.heap.size with h | h
  ·exact h
  ·have:=h2 x A;rw[tj h]at this;cases this
 refine⟨L,h1,λx A=>?_,λx A b q K=>?_⟩
 ·rw[h.fr.blk x.1 (C x A) (F x A)];exact h2 x A
 ·obtain⟨M,G⟩:=O b q K;rcases h.new b q M with⟨Q,E,J⟩ | E
  ·rw[<-J];exact F x A b Q (xR E G)
  ·have:=C x A;omega
def upd(ι:Inj)(b:Nat)(r:Option Rf):Inj:=λc=>if c=b then some r else ι c
def l6{ι:Inj}{b:Nat}{r:Option Rf}(h:ι b=none):∀c q,ι c=some q->upd ι b r c=some q:=by
 intro c q hc;unfold upd;split
 ·rename_i e;subst e;rw[h]at hc;cases hc
 ·exact hc
def TR.mono{ι A:Inj}(h:∀b r,ι b=some r->A b=some r){T:List (Nat×Option V)}{C:Array Value}(F:TR ι T C):TR A T C:=
 λt v E=>let⟨x,h1,h2⟩:=F t v E;⟨x,h1,VR.mono h _ _ h2⟩
def TR.put{ι:Inj}{T:List (Nat×Option V)}{a:Act}{d:Nat}{v:Option V}{x:Value}(G:TR ι T a.tmps)(F:d<a.tmps.size)
  (E:∀u,v=some u->VR ι u x):TR ι ((d,v)::T) (a.put (some d) x).tmps:=by
 intro t u A;rw[aG]at A;simp only[Act.put];split at A
 ·rename_i e;subst e;simp only[af]at A;exact⟨x,by simp[F],E u A⟩
 ·rename_i C;obtain⟨y,h1,h2⟩:=G t u A;exact⟨y,by rw[KA C];exact h1,h2⟩
def setObj(w:World)(r:Nat)(o:Obj):World:={ w with heap:=w.heap.setIfInBounds r o }
def gC(w:World)(o:Obj):(w.alloc o).heap[w.heap.size]?=some o:=by
 show(w.heap.push o)[w.heap.size]?=some o;simp
def gq(w:World)(o:Obj){k:Nat}(h:k≠w.heap.size):(w.alloc o).heap[k]?=w.heap[k]?:=by
 show(w.heap.push o)[k]?=_;rw[Array.getElem?_push,ab h]
def nj{w:World}{r:Nat}{o:Obj}(h:w.heap[r]?=some o):r<w.heap.size:=by
 rcases aA r w.heap.size with a | a
 ·exact a
 ·simp[tj a]at h
def WR.draws{ι:Inj}{H:List (Nat×Blk)}{nb:Nat}{w:World}(h:WR ι H nb w)(n:Nat):WR ι H nb { w with drawn:=n }:=
 ⟨h.inj,h.low,h.dom,h.blk⟩
def nK{w:World}{r k:Nat}(o:Obj)(h:r≠k):(setObj w r o).heap[k]?=w.heap[k]?:=by
 simp[setObj,KA h]
def WR.write{ι:Inj}{H:List (Nat×Blk)}{nb b:Nat}{q:Rf}{w:World}{blk:Blk}{o:Obj}(h:WR ι H nb w)(E:ι b=some (some q))(K:q.fz=false)(O:BR ι q blk o):
  WR ι ((b,blk)::H) nb (setObj w q.r o):=by
 have M:=h.dom b q E;refine⟨h.inj,h.low,λc q hc=>by simpa[setObj]using h.dom c q hc,λc A C Q=>?_⟩;rw[aG]at C;split at C
 ·rename_i e;subst e;simp only[af]at C;subst C;exact .inl ⟨q,o,E,by simp[setObj,M],O⟩
 ·rename_i F;exact(h.blk c A C Q).map rfl (λp J=>nK o λe=>(h.inj b c q p E J e).elim F λG=>by rw[K]at G;cases G.1) (λ_ _ x=>x) (λ_ x=>x)
def WR.alloc{ι:Inj}{H:List (Nat×Blk)}{nb A f:Nat}{q:Rf}{w:World}{blk:Blk}{o:Obj}(h:WR ι H nb w)(X:ι f=none)(Z:nb<=A)(G:f<A)
  (Y:q.r=w.heap.size) (U:BR (upd ι f (some q)) q blk o):WR (upd ι f (some q)) ((f,blk)::H) A (w.alloc o):=by
 have E:=l6 (r:=some q) X;refine⟨λb b' r r' h1 h2 Q=>?_,λc p hc=>?_,λc p hc=>?_,λc C F W=>?_⟩
 ·unfold upd at h1 h2;split at h1<;>split at h2
  ·rename_i O K;exact .inl (O.trans K.symm)
  ·simp only[af]at h1;subst h1;have:=h.dom _ _ h2;omega
  ·simp only[af]at h2;subst h2;have:=h.dom _ _ h1;omega
  ·exact h.inj _ _ _ _ h1 h2 Q
 ·unfold upd at hc;split at hc
  ·rename_i e;subst e;exact G
  ·have:=h.low _ _ hc;omega
 ·unfold upd at hc;split at hc
  ·simp only[af]at hc;subst hc;simp;omega
  ·have:=h.dom _ _ hc;simp;omega
 ·rw[aG]at F;split at F
  ·rename_i e;subst e;simp only[af]at F;subst F;exact .inl ⟨q,o,by simp[upd],by rw[Y];exact gC w o,U⟩
  ·rename_i J;refine(h.blk c C F W).map (by simp[upd,Ne.symm J]) (λp M=>?_) (λ_ _ x=>BR.mono E x) (λ_ x=>x);have:=h.dom _ _ M;exact gq w o (by omega)
def Fr.draws{ι0:Inj}{w0 w:World}(h:Fr ι0 w0 w)(n:Nat):Fr ι0 w0 { w with drawn:=n }:=⟨h.os,h.tape,h.output,h.size,h.blk⟩
def Fr.alloc{ι0:Inj}{w0 w:World}(h:Fr ι0 w0 w)(o:Obj):Fr ι0 w0 (w.alloc o):=by
 refine⟨h.os,h.tape,h.output,by have:=h.size;simp;omega,λk A C=>?_⟩;have:=h.size;rw[gq w o (by omega)];exact h.blk k A C
def Fr.write{ι0:Inj}{w0 w:World}(h:Fr ι0 w0 w){r:Nat}(E:(∃b q,ι0 b=some (some q)/\q.r=r)\/w0.heap.size<=r)(o:Obj):Fr ι0 w0 (setObj w r o):=by
 refine⟨h.os,h.tape,h.output,by simpa[setObj]using h.size,λk G F=>?_⟩;have A:r≠k:=by
  rintro rfl;rcases E with⟨b,q,C,J⟩ | E
  ·exact F b q C J
  ·omega
 simp only[setObj,KA A];exact h.blk k G F
def aN{w:World}{r o:Nat}{a:Array Value}{e:TypeId}{fr:Nat×Nat}(h:w.heap[r]?=some (.cells a e fr)):
  w.cell? ⟨r,o,none⟩=a[o]?:=by
 simp[World.cell?,h]
def mF{w:World}{r o:Nat}{a:Array Value}{e:TypeId}{fr:Nat×Nat}(h:w.heap[r]?=some (.cells a e fr))(c:NF fr a.size)(b:o<a.size):
  w.frozen? ⟨r,o,none⟩=false:=by
 have:=c o b;simp only[World.frozen?,h];by_cases h1:fr.1<=o<;>by_cases h2:o<fr.2<;>simp_all
def ye{w:World}{r o:Nat}{v:Value}{b:Array Value}{e:TypeId}{fr:Nat×Nat}(h:w.heap[r]?=some (.cells b e fr)):
  w.setCell ⟨r,o,none⟩ v=setObj w r (.cells (b.setIfInBounds o v) e fr):=by
 unfold World.setCell setObj;congr 1;apply KG;intro k;rw[Array.getElem?_modify,JC];have c:=nj h;by_cases a:r=k
 ·subst a;rw[ad rfl,ad rfl,ad c,h];simp
 ·rw[ab a,ab a]
def vN(w:World)(r:Nat)(o a:Obj):setObj (setObj w r o) r a=setObj w r a:=by
 simp[setObj]
def yY{w:World}{r:Nat}{o:Obj}(h:w.heap[r]?=some o):setObj w r o=w:=by
 unfold setObj;congr 1;apply KG;intro k;rw[JC];by_cases a:r=k
 ·subst a;rw[ad rfl,ad (nj h),h]
 ·rw[ab a]
def tQ{w:World}{r:Nat}{o a:Obj}(h:w.heap[r]?=some o):(setObj w r a).heap[r]?=some a:=by
 have b:=nj h;simp[setObj,b]
end Go.Abs
