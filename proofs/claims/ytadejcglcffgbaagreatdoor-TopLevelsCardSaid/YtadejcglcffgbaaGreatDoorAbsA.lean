
import Derived.Tactics
import Derived.Below
import Derived.Test.YtadejcglcffgbaaGreatDoorGlob
set_option linter.unusedSimpArgs false
set_option linter.unusedVariables false
set_option linter.defProp false
namespace Go
abbrev aa:=List UInt8
abbrev lq:=@Array.ext'
abbrev TC:=@Array.ext_getElem?
abbrev rK:=@Array.getD_eq_getD_getElem?
abbrev Uo:=@Array.getElem?_append_left
abbrev XE:=@Array.getElem?_eq_getElem
abbrev vV:=@Array.getElem?_eq_none
abbrev Ws:=@Array.getElem?_replicate
abbrev TU:=@Array.getElem?_setIfInBounds
abbrev VD:=@Array.getElem?_setIfInBounds_ne
abbrev qu:=@Array.getElem?_toList
abbrev Nj:=@Array.length_toList
abbrev SY:=@Array.mapM_eq_mapM_toList
abbrev IB:=@Array.map_empty
abbrev yo:=@Array.toList_append
abbrev HA:=@BitVec.toNat_ofNat
abbrev IE:=@Bool.and_eq_false_iff
abbrev aB:=@Bool.and_eq_true
abbrev H8:=@Bool.and_false
abbrev M5:=@Bool.and_self
abbrev Dc:=@Bool.and_true
abbrev vG:=@Bool.eq_iff_iff
abbrev Aq:=@Bool.false_and
abbrev bQ:=@Bool.false_eq_true
abbrev sL:=@Bool.false_or
abbrev Hk:=@Bool.not_eq_true
abbrev jX:=@Bool.not_eq_true'
abbrev kL:=@Bool.not_false
abbrev dL:=@Bool.not_true
abbrev qO:=@Bool.or_eq_false_iff
abbrev iq:=@Bool.or_eq_true
abbrev DN:=@Bool.or_false
abbrev pT:=@Bool.true_and
abbrev Ek:=@Bool.true_or
abbrev M4:=@ByteArray.ext
abbrev It:=@Classical.em
abbrev uJ:=@Go.Code.wp_mono
abbrev HN:=@Go.DataW.trod_int
abbrev Nv:=@Decidable.not_not
abbrev zZ:=@Eq.trans
abbrev MV:=@Int.dvd_of_emod_eq_zero
abbrev MB:=@Int.emod_lt_of_pos
abbrev O5:=@Int.emod_nonneg
abbrev sQ:=@Int.le_refl
abbrev zF:=@Int.mul_comm
abbrev S5:=@Int.mul_le_mul_of_nonneg_right
abbrev He:=@Int.natCast_mul
abbrev OF:=@Int.sub_add_cancel
abbrev SH:=@Int.tdiv_eq_ediv_of_nonneg
abbrev K3:=@Int.tmod_eq_emod
abbrev O3:=@Int.tmod_eq_emod_of_nonneg
abbrev bX:=@Int.toNat_natCast
abbrev HK:=@Int.toNat_of_nonneg
abbrev zq:=@Int.zero_sub
abbrev HF:=@Go.IntKind.wrap_i64
abbrev EK:=@List.all_append
abbrev m7:=@List.all_cons
abbrev bS:=@List.all_eq_true
abbrev vM:=@List.any_append
abbrev vI:=@List.any_cons
abbrev sW:=@List.any_eq_false
abbrev sX:=@List.any_eq_true
abbrev f8:=@List.append_assoc
abbrev lH:=@List.append_nil
abbrev Ej:=@List.cons.injEq
abbrev fi:=@List.cons_append
abbrev KV:=@List.countP_cons
abbrev IX:=@List.drop_append
abbrev kK:=@List.drop_drop
abbrev rD:=@List.drop_eq_getElem_cons
abbrev mB:=@List.drop_eq_nil_of_le
abbrev EN:=@List.drop_left'
abbrev xe:=@List.drop_length
abbrev oi:=@List.drop_succ_cons
abbrev zG:=@List.drop_take
abbrev cS:=@List.drop_zero
abbrev sZ:=@List.eq_nil_of_length_eq_zero
abbrev AD:=@List.ext_getElem?
abbrev MQ:=@List.filter_append
abbrev RV:=@List.filter_cons_of_neg
abbrev SG:=@List.filter_cons_of_pos
abbrev Ic:=@List.filter_filter
abbrev Dv:=@List.findSome?_cons
abbrev Ta:=@List.findSome?_eq_none_iff
abbrev Ix:=@List.flatMap_append
abbrev nY:=@List.flatMap_cons
abbrev Hu:=@List.foldl_append
abbrev vD:=@List.foldl_cons
abbrev Jg:=@List.foldl_nil
abbrev Ht:=@List.getD_eq_getElem?_getD
abbrev n6:=@List.getElem?_append_left
abbrev qQ:=@List.getElem?_append_right
abbrev iO9:=@List.getElem?_cons_succ
abbrev lF:=@List.getElem?_cons_zero
abbrev lK:=@List.getElem?_drop
abbrev bu:=@List.getElem?_eq_getElem
abbrev f7:=@List.getElem?_eq_none
abbrev nc:=@List.getElem?_eq_some_iff
abbrev nX:=@List.getElem?_map
abbrev Lh:=@List.getElem?_set_self
abbrev NY:=@List.getElem?_take
abbrev mW:=@List.getElem?_take_of_lt
abbrev AO:=@List.getElem_mem
abbrev oO:=@List.head?_cons
abbrev BD:=@List.isEmpty_eq_false_iff
abbrev aZ:=@List.length_append
abbrev aG:=@List.length_cons
abbrev ci:=@List.length_drop
abbrev AY:=@List.length_filter_le
abbrev Bh:=@List.length_filter_lt_length_iff_exists
abbrev tt:=@List.length_map
abbrev cE:=@List.length_nil
abbrev Gl:=@List.length_pos_of_mem
abbrev uT:=@List.length_reverse
abbrev FI:=@List.length_set
abbrev C3:=@List.length_singleton
abbrev dA:=@List.length_take
abbrev xK:=@List.mapM_cons
abbrev Gt:=@List.map_append
abbrev gN:=@List.map_cons
abbrev tq:=@List.map_map
abbrev kQ:=@List.mem_append
abbrev cb:=@List.mem_cons
abbrev fD:=@List.mem_cons_of_mem
abbrev l7:=@List.mem_cons_self
abbrev l8:=@List.mem_filter
abbrev Gi:=@List.mem_flatMap
abbrev eF:=@List.mem_map
abbrev fk:=@List.mem_of_getElem?
abbrev LE:=@List.mem_or_eq_of_mem_set
abbrev ju:=@List.mem_range
abbrev tO:=@List.mem_range'_1
abbrev Gy:=@List.mem_reverse
abbrev lV:=@List.mem_singleton
abbrev dO:=@List.nil_append
abbrev G3:=@List.nodup_append
abbrev xA:=@List.nodup_cons
abbrev ov:=@List.not_mem_nil
abbrev xa:=@List.range'_succ
abbrev tg:=@List.replicate_succ
abbrev wR:=@List.reverse_reverse
abbrev MX:=@List.set_eq_take_append_cons_drop
abbrev wU:=@List.size_toArray
abbrev qX:=@List.take_add_one
abbrev Fv:=@List.take_append
abbrev tN:=@List.take_append_drop
abbrev uS:=@List.take_append_of_le_length
abbrev GE:=@List.take_left
abbrev oV:=@List.take_length
abbrev jw:=@List.take_of_length_le
abbrev mU:=@List.take_succ_cons
abbrev Oo:=@List.take_succ_eq_append_getElem
abbrev CM:=@List.take_take
abbrev mV:=@List.take_zero
abbrev ig:=@Nat.add_assoc
abbrev oP:=@Nat.add_comm
abbrev ia:=@Nat.add_mul
abbrev yZ:=@Nat.add_right_cancel_iff
abbrev FN:=@Nat.add_sub_cancel
abbrev GY:=@Nat.add_sub_cancel_left
abbrev dK:=@Nat.add_zero
abbrev js:=@Nat.beq_eq
abbrev cD:=@Nat.ble_eq_true_of_le
abbrev FV:=@Nat.div_le_self
abbrev Fp:=@Nat.div_mul_le_self
abbrev tM:=@Nat.div_one
abbrev bB:=@Nat.eq_of_beq_eq_true
abbrev Cd:=@Nat.eq_zero_or_pos
abbrev AX:=@Nat.le_add_right
abbrev Gw:=@Nat.le_max_left
abbrev aI:=@Nat.le_of_ble_eq_true
abbrev xM:=@Nat.le_of_eq
abbrev aU:=@Nat.le_refl
abbrev qZ:=@Nat.le_trans
abbrev Bm:=@Nat.le_zero
abbrev G5:=@Nat.lt_irrefl
abbrev oQ:=@Nat.lt_of_lt_of_le
abbrev aJ:=@Nat.lt_or_ge
abbrev GI:=@Nat.lt_trichotomy
abbrev ta:=@Nat.min_eq_left
abbrev Gg:=@Nat.min_le_right
abbrev qj:=@Nat.mod_eq_of_lt
abbrev rt:=@Nat.mod_lt
abbrev Fo:=@Nat.mul_assoc
abbrev uV:=@Nat.mul_comm
abbrev xk:=@Nat.mul_le_mul
abbrev o7:=@Nat.mul_le_mul_right
abbrev rI:=@Nat.mul_one
abbrev Cm:=@Nat.ne_of_lt
abbrev Bc:=@Nat.one_le_pow
abbrev yF:=@Nat.one_mul
abbrev CH:=@Nat.or_assoc
abbrev B9:=@Nat.or_comm
abbrev AP:=@Nat.or_lt_two_pow
abbrev lh:=@Nat.pow_le_pow_right
abbrev ts:=@Nat.pow_succ
abbrev C5:=@Nat.pow_zero
abbrev Be:=@Nat.sub_self
abbrev tu:=@Nat.sub_zero
abbrev Cf:=@Nat.succ_mul
abbrev cK:=@Nat.zero_add
abbrev jr:=@Nat.zero_le
abbrev A7:=@Nat.zero_mul
abbrev Gf:=@Go.Oper.apart_spec
abbrev Ba:=@Option.bind_eq_some_iff
abbrev CJ:=@Option.getD_some
abbrev CE:=@Option.isSome_iff_exists
abbrev wK:=@Option.isSome_none
abbrev FK:=@Option.map_eq_some_iff
abbrev jb:=@Option.map_none
abbrev fh:=@Option.map_some
abbrev Gq:=@Option.none_or
abbrev br:=@Option.some.inj
abbrev aq:=@Option.some.injEq
abbrev bC:=@Prod.mk.injEq
abbrev aA:=@Go.Result.andThen_ok
abbrev yg:=@Go.Result.ok.injEq
abbrev az:=@Go.Sem.run_bind
abbrev aD:=@Go.Sem.run_pure
abbrev oS:=@Sum.inr.injEq
abbrev iE:=@UInt8.toNat_inj
abbrev G0:=@UInt8.toNat_ofNat'
abbrev xW:=@Go.World.alloc_eq
abbrev Gs:=@Go.World.cells?_some
abbrev vu:=@and_congr_right
abbrev tw:=@and_true
abbrev aK:=@beq_eq_false_iff_ne
abbrev bL:=@beq_iff_eq
abbrev tQ:=@beq_self_eq_true
abbrev eT:=@bne_self_eq_false
abbrev af:=@cond_false
abbrev aj:=@cond_true
abbrev co:=@congrArg
abbrev uR:=@decide_eq_decide
abbrev au:=@decide_eq_false
abbrev tK:=@decide_eq_false_iff_not
abbrev ar:=@decide_eq_true
abbrev ch:=@decide_eq_true_eq
abbrev og:=@decide_false
abbrev o6:=@decide_true
abbrev qI:=@exists_congr
abbrev yv:=@false_and
abbrev Bn:=@forall_eq_or_imp
abbrev aF:=@if_false
abbrev ab:=@if_neg
abbrev ae:=@if_pos
abbrev aN:=@if_true
abbrev FR:=@not_false_eq_true
abbrev vg:=@not_true_eq_false
abbrev oK:=@or_false
abbrev wQ:=@Go.run_loadCells_list
abbrev yy:=@Go.run_newObj
abbrev be:=@Go.run_underlying
abbrev kz:=@true_and
end Go
namespace Go.Abs
inductive Lf where
 | i (k:IntKind)
 | bo
 | s
 deriving Inhabited,DecidableEq
@[reducible] def Lf.den:Lf->Type
 | .i _=>Int
 | .bo=>Bool
 | .s=>aa
@[reducible] def den:List Lf->Type
 | []=>Unit
 | [a]=>a.den
 | a::b::l=>a.den×den (b::l)
inductive V where
 | unk
 | pr (z b j o:Nat)
 | ws (b:Nat)
 | rs (z b j n:Nat) (cap:Option Nat)
 | b (x:Bool)
 | i (k:IntKind) (n:Int)
 | s (l:aa)
 | pn
 | p (b o:Nat)
 | sn
 | sl (b o len:Nat) (cap:Option Nat)
 | fn (f:Nat) (cap:List V)
 | nf
 | ni
 | it (t:Nat) (v:V)
 | ag (l:List V)
 | ai (k:IntKind) (n:Nat) (l:List Int)
 | tp (l:List V)
 | mp (b:Nat)
 deriving Inhabited
structure Rf where
 r:Nat
 n:Nat:=0
 k:Nat:=0
 o:Nat:=0
 fz:Bool:=false
abbrev Rf.of(r n k:Nat):Rf:=⟨r,n,k,0,false⟩
abbrev Inj:=Nat->Option (Option Rf)
def fnW(K f:Nat)(a:Array Value):Value:=
 match Nat.blt f K with
 | true=>.func (.func f) #[] a
 | false=>.func (.func (f - K)) a #[]
def fnV(f:Nat)(a:Array Value):Value:=fnW 1000000 f a
def Xq(K f:Nat)(a:Array Value):∃g b c,fnW K f a=.func (.func g) b c:=by
 unfold fnW;split
 ·exact⟨_,_,_,rfl⟩
 ·exact⟨_,_,_,rfl⟩
def AB(f:Nat)(a:Array Value):∃g b c,fnV f a=.func (.func g) b c:=Xq _ f a
def UC{K f:Nat}(h:Nat.blt f K=true)(a:Array Value):fnW K f a=.func (.func f) #[] a:=by
 unfold fnW;rw[h]
def GM{f:Nat}(h:Nat.blt f 1000000=true)(a:Array Value):fnV f a=.func (.func f) #[] a:=UC h a
def Rq(K f:Nat)(a:Array Value):fnW K (f+K) a=.func (.func f) a #[]:=by
 unfold fnW;cases h:Nat.blt (f+K) K with
 | true=>have:f+K<K:=aI h;omega
 | false=>simp
def QN(f:Nat)(a:Array Value):fnV (f+1000000) a=.func (.func f) a #[]:=Rq _ f a
def fnFW(K f:Nat):Nat:=match Nat.blt f K with | true=>f | false=>f - K
def fnAW{α:Type}(K f:Nat)(args cap:List α):List α:=match Nat.blt f K with | true=>args++cap | false=>cap++args
def fnF(f:Nat):Nat:=fnFW 1000000 f
def fnA{α:Type}(f:Nat)(args cap:List α):List α:=fnAW 1000000 f args cap
def P4(c:Option Nat)(k:Nat):Prop:=∀m,c=some m->k=m
def kI{k:Nat}:P4 none k:=λ_ h=>by cases h
def sj{k:Nat}:P4 (some k) k:=λ_ h=>by cases h;rfl
mutual
def VR(ι:Inj):V->Value->Prop
 | .b x,v=>v=.bool x
 | .i k n,v=>v=.int k n
 | .s l,v=>v=.string ⟨l.toArray⟩
 | .pn,v=>v=.pointer none
 | .p b o,v=>∃q,ι b=some (some q)/\v=.pointer (some ⟨q.r,o,none⟩)
 | .sn,v=>v=.slice none 0 0
 | .sl b o len cap,v=>∃q c,ι b=some (some q)/\(∀n,cap=some n->c=n)/\len<=c/\v=.slice (some ⟨q.r,o,none⟩) len c
 | .unk,v=>v.cells=#[v]/\v.oneCell'=true
 | .pr z b j o,v=>∃q,ι b=some (some q)/\v=.pointer (some ⟨q.r,q.o+(j*z+o),none⟩)
 | .ws b,v=>(∃q,ι b=some (some q)/\v=.slice (some ⟨q.r,q.o,none⟩) q.n q.k)\/(ι b=some none/\∃a,v=.slice a 0 0)
 | .rs z b j n e,v=>(∃q c o,ι b=some (some q)/\(n<=c/\P4 e c)/\(0<n->o=q.o+j*z)/\v=.slice (some ⟨q.r,o,none⟩) n c)\/(ι b=some none/\(n=0/\P4 e 0)/\∃a,v=.slice a 0 0)
 | .fn f cap,v=>∃d,v=fnV f d/\VRs ι cap d.toList
 | .nf,v=>v=.nilFunc
 | .ni,v=>v=.nilIface
 | .it t x,v=>∃y,v=.iface t y/\VR ι x y
 | .ag l,v=>∃d:Array Value,v=.agg d/\VRs ι l d.toList
 | .ai k n l,v=>l.length=n/\v=.agg (l.map (Value.int k)).toArray
 | .tp l,v=>∃d:Array Value,v=.tuple d/\VRs ι l d.toList
 | .mp b,v=>∃q,ι b=some (some q)/\v=.map (some q.r)
def VRs(ι:Inj):List V->List Value->Prop
 | [],a=>a=[]
 | x::l,a=>∃y b,a=y::b/\VR ι x y/\VRs ι l b
end
mutual
def VR.mono{ι F:Inj}(h:∀b r,ι b=some r->F b=some r):∀(v:V) (x:Value),VR ι v x->VR F v x
 | .b _,_,hx | .i _ _,_,hx | .s _,_,hx | .pn,_,hx | .sn,_,hx | .nf,_,hx | .ni,_,hx | .ai _ _ _,_,hx | .unk,_,hx=>by simpa[VR]using hx
 | .p b o,x,hx | .pr z b j o,x,hx | .mp b,x,hx=>by
  simp only[VR]at hx ⊢;obtain⟨r,E,C⟩:=hx;exact⟨r,h _ _ E,C⟩
 | .ws b,x,hx=>by
  simp only[VR]at hx ⊢;rcases hx with⟨q,E,C⟩ | ⟨E,C⟩
  ·exact .inl ⟨q,h _ _ E,C⟩
  ·exact .inr ⟨h _ _ E,C⟩
 | .rs z b j n _,x,hx=>by
  simp only[VR]at hx ⊢;rcases hx with⟨q,c,o,E,C⟩ | ⟨E,C⟩
  ·exact .inl ⟨q,c,o,h _ _ E,C⟩
  ·exact .inr ⟨h _ _ E,C⟩
 | .sl b o len cap,x,hx=>by
  simp only[VR]at hx ⊢;obtain⟨r,c,E,C⟩:=hx;exact⟨r,c,h _ _ E,C⟩
 | .fn f cap,x,hx=>by
  simp only[VR]at hx ⊢;obtain⟨G,E,C⟩:=hx;exact⟨G,E,VRs.mono h _ _ C⟩
 | .it t v,x,hx=>by
  simp only[VR]at hx ⊢;obtain⟨y,E,C⟩:=hx;exact⟨y,E,VR.mono h _ _ C⟩
 | .ag l,x,hx=>by
  simp only[VR]at hx ⊢;obtain⟨G,E,C⟩:=hx;exact⟨G,E,VRs.mono h _ _ C⟩
 | .tp l,x,hx=>by
  simp only[VR]at hx ⊢;obtain⟨G,E,C⟩:=hx;exact⟨G,E,VRs.mono h _ _ C⟩
def VRs.mono{ι C:Inj}(h:∀b r,ι b=some r->C b=some r):∀(l:List V) (E:List Value),VRs ι l E->VRs C l E
 | [],_,hx=>by simpa[VRs]using hx
 | v::l,E,hx=>by
  simp only[VRs]at hx ⊢;obtain⟨y,G,J,F,O⟩:=hx;exact⟨y,G,J,VR.mono h _ _ F,VRs.mono h _ _ O⟩
end
def VRs.length{ι:Inj}:∀{l:List V} {xs:List Value},VRs ι l xs->xs.length=l.length
 | [],_,h=>by simp only[VRs]at h;simp[h]
 | _::_,_,h=>by
  simp only[VRs]at h;obtain⟨y,E,rfl,_,C⟩:=h;simp[VRs.length C]
def VRs.get{ι:Inj}:∀{l:List V} {xs:List Value} {j:Nat} {v:V},VRs ι l xs->l[j]?=some v->∃x,xs[j]?=some x/\VR ι v x
 | [],_,_,_,_,C=>by simp at C
 | _::_,_,0,_,h,C=>by
  simp only[VRs]at h;obtain⟨y,F,rfl,E,_⟩:=h;simp only[lF,aq]at C;subst C;exact⟨y,by simp,E⟩
 | _::_,_,j+1,_,h,C=>by
  simp only[VRs]at h;obtain⟨y,F,rfl,_,G⟩:=h;simp only[iO9]at C ⊢;exact VRs.get G C
def VRs.of_get{ι:Inj}:∀{l:List V} {C:List Value},C.length=l.length->(∀(j:Nat) (v:V) (x:Value),l[j]?=some v->C[j]?=some x->VR ι v x)->VRs ι l C
 | [],C,E,_=>by simp only[VRs];exact sZ (by simpa using E)
 | v::l,[],E,_=>by simp at E
 | v::l,x::C,E,h=>by
  simp only[VRs];refine⟨x,C,rfl,h 0 v x (by simp) (by simp),VRs.of_get (by simpa using E) λj O G J F=>h (j+1) O G (by simpa using J) (by simpa using F)⟩
def VRs.append{ι:Inj}:∀{l:List V} {xs:List Value} {m:List V} {C:List Value},VRs ι l xs->VRs ι m C->VRs ι (l++m) (xs++C)
 | [],_,_,_,h,E=>by simp only[VRs]at h;subst h;simpa using E
 | _::_,_,_,_,h,E=>by
  simp only[VRs]at h;obtain⟨y,C,rfl,F,G⟩:=h;simp only[fi,VRs];exact⟨y,_,rfl,F,VRs.append G E⟩
def VRs.drop{ι:Inj}:∀{l:List V} {xs:List Value} (n:Nat),VRs ι l xs->VRs ι (l.drop n) (xs.drop n)
 | _,_,0,h=>by simpa using h
 | [],_,_+1,h=>by simp only[VRs]at h;subst h;simp[VRs]
 | _::_,_,n+1,h=>by
  simp only[VRs]at h;obtain⟨y,E,rfl,_,C⟩:=h;simpa using VRs.drop n C
def VRs.take{ι:Inj}:∀{l:List V} {xs:List Value} (n:Nat),VRs ι l xs->VRs ι (l.take n) (xs.take n)
 | _,_,0,_=>by simp[VRs]
 | [],_,_+1,h=>by simp only[VRs]at h;subst h;simp[VRs]
 | _::_,_,n+1,h=>by
  simp only[VRs]at h;obtain⟨y,F,rfl,C,E⟩:=h;simp only[mU,VRs];exact⟨y,_,rfl,C,VRs.take n E⟩
def VRs.set{ι:Inj}:∀{l:List V} {xs:List Value} (n:Nat) {v:V} {x:Value},VRs ι l xs->VR ι v x->VRs ι (l.set n v) (xs.set n x)
 | [],_,_,_,_,h,_=>by simp only[VRs]at h;subst h;simp[VRs]
 | _::_,_,0,_,_,h,C=>by
  simp only[VRs]at h;obtain⟨y,G,rfl,_,E⟩:=h;simp only[List.set_cons_zero,VRs];exact⟨_,_,rfl,C,E⟩
 | _::_,_,n+1,_,_,h,C=>by
  simp only[VRs]at h;obtain⟨y,G,rfl,F,E⟩:=h;simp only[List.set_cons_succ,VRs];exact⟨_,_,rfl,F,VRs.set n E C⟩
def VRs.ints{ι:Inj}(k:IntKind):∀(l:List Int),VRs ι (l.map (V.i k)) (l.map (Value.int k))
 | []=>by simp[VRs]
 | n::l=>by simp only[gN,VRs];exact⟨_,_,rfl,by simp[VR],VRs.ints k l⟩
def Lf.toV:(a:Lf)->a.den->V
 | .i k,n=>.i k n
 | .bo,x=>.b x
 | .s,l=>.s l
def Lf.val:(a:Lf)->a.den->Value
 | .i k,n=>.int k n
 | .bo,x=>.bool x
 | .s,l=>.string ⟨l.toArray⟩
def cells:(t:List Lf)->den t->List V
 | [],_=>[]
 | [a],x=>[a.toV x]
 | a::b::l,x=>a.toV x.1::cells (b::l) x.2
def vals:(t:List Lf)->den t->List Value
 | [],_=>[]
 | [a],x=>[a.val x]
 | a::b::l,x=>a.val x.1::vals (b::l) x.2
def Lf.ok(ι:Inj):∀(a:Lf) (x:a.den),VR ι (a.toV x) (a.val x)
 | .i _,_=>by simp[Lf.toV,Lf.val,VR]
 | .bo,_=>by simp[Lf.toV,Lf.val,VR]
 | .s,_=>by simp[Lf.toV,Lf.val,VR]
def Lf.ok_iff(ι:Inj):∀(a:Lf) (x:a.den) (y:Value),VR ι (a.toV x) y↔y=a.val x
 | .i _,_,_=>by simp[Lf.toV,Lf.val,VR]
 | .bo,_,_=>by simp[Lf.toV,Lf.val,VR]
 | .s,_,_=>by simp[Lf.toV,Lf.val,VR]
def nW(ι:Inj):∀(t:List Lf) (x:den t) (c:List Value),VRs ι (cells t x) c↔c=vals t x
 | [],_,c=>by simp[cells,vals,VRs]
 | [a],x,c=>by
  simp only[cells,vals,VRs];constructor
  ·rintro⟨y,d,rfl,h,rfl⟩;rw[(a.ok_iff ι x y).1 h]
  ·rintro rfl;exact⟨_,_,rfl,a.ok ι x,rfl⟩
 | a::b::l,x,c=>by
  simp only[cells,vals,VRs];constructor
  ·rintro⟨y,d,rfl,h,e⟩;rw[(a.ok_iff ι _ y).1 h,(nW ι (b::l) x.2 d).1 e]
  ·rintro rfl;exact⟨_,_,rfl,a.ok ι _,(nW ι (b::l) x.2 _).2 rfl⟩
def kP:∀(t:List Lf) (x:den t),(cells t x).length=t.length
 | [],_=>rfl
 | [_],_=>rfl
 | _::b::l,x=>by simp[cells,kP (b::l) x.2]
def gS:∀(t:List Lf) (x:den t),(vals t x).length=t.length
 | [],_=>rfl
 | [_],_=>rfl
 | _::b::l,x=>by simp[vals,gS (b::l) x.2]
inductive Blk where
 | dead
 | rows (t:List Lf) (l:List (den t))
 | cells (l:List V)
 | ints (k:IntKind) (n:Nat) (l:List Int)
 | iter (s:aa) (pos:Nat)
 | mp (k:IntKind) (l:List (Int×Nat))
 deriving Inhabited
def NF(fr:Nat×Nat)(n:Nat):Prop:=∀j,j<n->¬(fr.1<=j/\j<fr.2)
def BR(ι:Inj)(q:Rf):Blk->Obj->Prop
 | .dead,_=>True
 | .rows t l,o=>∃a e fr,o=.cells a e fr/\l.length=q.n/\q.n<=q.k/\q.o+q.k*t.length<=a.size/\(a.toList.drop q.o).take (l.length*t.length)=l.flatMap (vals t)/\(q.fz=true\/NF fr a.size)
 | .cells l,o=>∃a e fr,o=.cells a e fr/\VRs ι l a.toList/\NF fr a.size
 | .ints k n l,o=>∃e fr,o=.cells (l.map (Value.int k)).toArray e fr/\l.length=n/\NF fr n
 | .iter s pos,o=>o=.stringIter ⟨s.toArray⟩ pos
 | .mp k l,o=>∃c b,o=.map c b/\c.toList.map (λe=>(e.key,e.val))=l.map λp=>(Value.int k p.1,fnV p.2 #[])
def BR.mono{ι E:Inj}{q:Rf}(h:∀b r,ι b=some r->E b=some r):∀{blk:Blk} {o:Obj},BR ι q blk o->BR E q blk o
 | .dead,_,_=>trivial
 | .rows t l,o,C=>C
 | .cells l,o,C=>by
  obtain⟨O,e,fr,G,F,J⟩:=C;exact⟨O,e,fr,G,VRs.mono h _ _ F,J⟩
 | .ints k n l,o,C=>C
 | .iter s pos,o,C=>C
 | .mp k l,o,C=>C
def look{α:Type}:List (Nat×α)->Nat->Option α
 | [],_=>none
 | (k,v)::l,n=>cond (Nat.beq k n) (some v) (look l n)
def aS{α:Type}(k:Nat)(v:α)(l:List (Nat×α))(n:Nat):look ((k,v)::l) n=if k=n then some v else look l n:=by
 simp only[look];by_cases h:k=n
 ·subst h;simp
 ·have:Nat.beq k n=false:=by
   cases a:Nat.beq k n
   ·rfl
   ·exact absurd (bB a) h
  simp[this,h]
structure St where
 T:List (Nat×Option V)
 H:List (Nat×Blk)
 nb:Nat
 lo:Nat:=0
 ro:Nat:=0
 rb:Nat:=0
 deriving Inhabited
def TR(ι:Inj)(T:List (Nat×Option V))(a:Array Value):Prop:=
 ∀t v,look T t=some (some v)->∃x,a[t]?=some x/\VR ι v x
def BW(ι:Inj)(w:World)(b:Nat)(blk:Blk):Prop:=
 (∃q o,ι b=some (some q)/\w.heap[q.r]?=some o/\BR ι q blk o)\/(ι b=some none/\∃t,blk=.rows t [])
structure WR(ι:Inj)(H:List (Nat×Blk))(nb:Nat)(w:World):Prop where
 inj:∀b b' q q',ι b=some (some q)->ι b'=some (some q')->q.r=q'.r->b=b'\/(q.fz=true/\q'.fz=true)
 low:∀b q,ι b=some q->b<nb
 dom:∀b q,ι b=some (some q)->q.r<w.heap.size
 blk:∀b blk,look H b=some blk->blk≠.dead->BW ι w b blk
def BW.real{ι:Inj}{w:World}{b:Nat}{blk:Blk}(h:BW ι w b blk)(C:∀t,blk≠.rows t []):∃q o,ι b=some (some q)/\w.heap[q.r]?=some o/\BR ι q blk o:=by
 rcases h with h | ⟨_,t,h⟩
 ·exact h
 ·exact absurd h (C t)
def BW.map{ι E:Inj}{w w':World}{b O:Nat}{blk C:Blk}(h:BW ι w b blk)(J:E O=ι b)(Q:∀q,ι b=some (some q)->w'.heap[q.r]?=w.heap[q.r]?)
  (W:∀q o,BR ι q blk o->BR E q C o) (U:∀t,blk=.rows t []->C=.rows t []):BW E w' O C:=by
 rcases h with⟨q,o,F,G,X⟩ | ⟨F,t,G⟩
 ·exact .inl ⟨q,o,by rw[J,F],by rw[Q q F,G],W q o X⟩
 ·exact .inr ⟨by rw[J,F],t,U t G⟩
structure Fr(ι0:Inj)(w0 w:World):Prop where
 os:w.os=w0.os
 tape:w.tape=w0.tape
 output:w.output=w0.output
 size:w0.heap.size<=w.heap.size
 blk:∀k,k<w0.heap.size->(∀b q,ι0 b=some (some q)->q.r≠k)->w.heap[k]?=w0.heap[k]?
def Fr.refl(ι0:Inj)(w:World):Fr ι0 w w:=⟨rfl,rfl,rfl,aU _,λ_ _ _=>rfl⟩
def roI(ι0:Inj)(ro:Nat):Inj:=λb=>cond (Nat.blt b ro) none (ι0 b)
def qd{ι0:Inj}{ro b:Nat}{r:Option Rf}(h:roI ι0 ro b=some r):ι0 b=some r:=by
 unfold roI at h;cases a:Nat.blt b ro with
 | true=>simp[a]at h
 | false=>simpa[a]using h
def N2{ι0:Inj}{ro b:Nat}{r:Option Rf}(h:roI ι0 ro b=some r):ro<=b:=by
 unfold roI at h;rcases aJ b ro with a | a
 ·rw[show Nat.blt b ro=true from cD a]at h;cases h
 ·exact a
def Ds{ι0:Inj}{ro b:Nat}{r:Option Rf}(h:ι0 b=some r)(a:ro<=b):roI ι0 ro b=some r:=by
 have:Nat.blt b ro=false:=by
  cases hx:Nat.blt b ro with
  | false=>rfl
  | true=>have:b<ro:=aI hx;omega
 simp[roI,this,h]
def GL(R:Inj)(w:World):Prop:=∃L:List (Nat×Obj),WZ L/\(∀x∈L,w.heap[x.1]?=some x.2)/\∀x∈L,∀b q,R b=some (some q)->q.r≠x.1
def GL.mono{R J:Inj}{w:World}(h:GL R w)(X:∀b q,J b=some (some q)->(∃E C,R E=some (some C)/\C.r=q.r)\/w.heap.size<=q.r):GL J w:=by
 obtain⟨L,Q,F,U⟩:=h;refine⟨L,Q,F,λx hx b q O=>?_⟩;rcases X b q O with⟨E,C,G,W⟩ | G
 ·rw[<-W];exact U x hx E C G
 ·have hs:x.1<w.heap.size:=by
   rcases aJ x.1 w.heap.size with h | h
   ·exact h
   ·have:=F x hx;rw[vV h]at this;cases this
  omega
structure Base where
 w:World
 D:List Deferred:=[]
structure Inv(n:Nat)(ι0:Inj)(w0:Base)(ι:Inj)(s:St)(a:Act)(w:World):Prop where
 size:a.tmps.size=n
 defers:a.defers=w0.D
 tmps:TR ι s.T a.tmps
 mem:WR ι s.H s.nb w
 ext:∀b q,ι0 b=some q->ι b=some q\/s.rb<=b
 new:∀b q,ι b=some (some q)->(∃q',ι0 b=some (some q')/\q'.r=q.r)\/w0.w.heap.size<=q.r
 fr:Fr (roI ι0 s.ro) w0.w w
 low:∀b r,ι0 b=some r->b<s.lo
 fz:∀b q,ι b=some (some q)->q.fz=true->b<s.ro
 gl:GL (roI ι0 s.ro) w0.w
def Inv.glHere{n:Nat}{ι0 ι:Inj}{w0:Base}{s:St}{a:Act}{w:World}(h:Inv n ι0 w0 ι s a w){R:Inj}(X:∀b q,R b=some (some q)->ι b=some (some q)/\s.ro<=b):GL R w:=by
 obtain⟨L,Q,C,F⟩:=h.gl;have hs:∀x∈L,x.1<w0.w.heap.size:=by
  intro x hx;rcases aJ x.1 w0.w.heap.size with h | h
  ·exact h
  ·have:=C x hx;rw[vV h]at this;cases this
 refine⟨L,Q,λx hx=>?_,λx hx b q G=>?_⟩
 ·rw[h.fr.blk x.1 (hs x hx) (F x hx)];exact C x hx
 ·obtain⟨U,W⟩:=X b q G;rcases h.new b q U with⟨O,E,J⟩ | E
  ·rw[<-J];exact F x hx b O (Ds E W)
  ·have:=hs x hx;omega
def upd(ι:Inj)(b:Nat)(r:Option Rf):Inj:=λc=>if c=b then some r else ι c
def qA{ι:Inj}{b:Nat}{r:Option Rf}(h:ι b=none):∀c q,ι c=some q->upd ι b r c=some q:=by
 intro c q hc;unfold upd;split
 ·rename_i e;subst e;rw[h]at hc;cases hc
 ·exact hc
def TR.mono{ι C:Inj}(h:∀b r,ι b=some r->C b=some r){T:List (Nat×Option V)}{E:Array Value}(G:TR ι T E):TR C T E:=
 λt v F=>let⟨x,h1,h2⟩:=G t v F;⟨x,h1,VR.mono h _ _ h2⟩
def TR.put{ι:Inj}{T:List (Nat×Option V)}{a:Act}{d:Nat}{v:Option V}{x:Value}(Q:TR ι T a.tmps)(G:d<a.tmps.size)
  (O:∀u,v=some u->VR ι u x):TR ι ((d,v)::T) (a.put (some d) x).tmps:=by
 intro t u C;rw[aS]at C;simp only[Act.put];split at C
 ·rename_i e;subst e;simp only[aq]at C;exact⟨x,by simp[G],O u C⟩
 ·rename_i E;obtain⟨y,J,F⟩:=Q t u C;exact⟨y,by rw[VD E];exact J,F⟩
def setObj(w:World)(r:Nat)(o:Obj):World:={ w with heap:=w.heap.setIfInBounds r o }
def jV(w:World)(o:Obj):(w.alloc o).heap[w.heap.size]?=some o:=by
 show(w.heap.push o)[w.heap.size]?=some o;simp
def jY(w:World)(o:Obj){k:Nat}(h:k≠w.heap.size):(w.alloc o).heap[k]?=w.heap[k]?:=by
 show(w.heap.push o)[k]?=_;rw[Array.getElem?_push,ab h]
def nM{w:World}{r:Nat}{o:Obj}(h:w.heap[r]?=some o):r<w.heap.size:=by
 rcases aJ r w.heap.size with a | a
 ·exact a
 ·simp[vV a]at h
def WR.draws{ι:Inj}{H:List (Nat×Blk)}{nb:Nat}{w:World}(h:WR ι H nb w)(n:Nat):WR ι H nb { w with drawn:=n }:=
 ⟨h.inj,h.low,h.dom,h.blk⟩
def s7{w:World}{r k:Nat}(o:Obj)(h:r≠k):(setObj w r o).heap[k]?=w.heap[k]?:=by
 simp[setObj,VD h]
def WR.write{ι:Inj}{H:List (Nat×Blk)}{nb b:Nat}{q:Rf}{w:World}{blk:Blk}{o:Obj}(h:WR ι H nb w)(F:ι b=some (some q))(W:q.fz=false)(Q:BR ι q blk o):
  WR ι ((b,blk)::H) nb (setObj w q.r o):=by
 have U:=h.dom b q F;refine⟨h.inj,h.low,λc q hc=>by simpa[setObj]using h.dom c q hc,λc C E O=>?_⟩;rw[aS]at E;split at E
 ·rename_i e;subst e;simp only[aq]at E;subst E;exact .inl ⟨q,o,F,by simp[setObj,U],Q⟩
 ·rename_i G;exact(h.blk c C E O).map rfl (λp hp=>s7 o λe=>(h.inj b c q p F hp e).elim G λJ=>by rw[W]at J;cases J.1) (λ_ _ x=>x) (λ_ x=>x)
def WR.alloc{ι:Inj}{H:List (Nat×Blk)}{nb C f:Nat}{q:Rf}{w:World}{blk:Blk}{o:Obj}(h:WR ι H nb w)(hf:ι f=none)(hn:nb<=C)(Q:f<C)
  (X:q.r=w.heap.size) (ho:BR (upd ι f (some q)) q blk o):WR (upd ι f (some q)) ((f,blk)::H) C (w.alloc o):=by
 have O:=qA (r:=some q) hf;refine⟨λb b' r r' F E hr=>?_,λc p hc=>?_,λc p hc=>?_,λc G J W=>?_⟩
 ·unfold upd at F E;split at F<;>split at E
  ·rename_i Z Y;exact .inl (Z.trans Y.symm)
  ·simp only[aq]at F;subst F;have:=h.dom _ _ E;omega
  ·simp only[aq]at E;subst E;have:=h.dom _ _ F;omega
  ·exact h.inj _ _ _ _ F E hr
 ·unfold upd at hc;split at hc
  ·rename_i e;subst e;exact Q
  ·have:=h.low _ _ hc;omega
 ·unfold upd at hc;split at hc
  ·simp only[aq]at hc;subst hc;simp;omega
  ·have:=h.dom _ _ hc;simp;omega
 ·rw[aS]at J;split at J
  ·rename_i e;subst e;simp only[aq]at J;subst J;exact .inl ⟨q,o,by simp[upd],by rw[X];exact jV w o,ho⟩
  ·rename_i U;refine(h.blk c G J W).map (by simp[upd,Ne.symm U]) (λp hp=>?_) (λ_ _ x=>BR.mono O x) (λ_ x=>x);have:=h.dom _ _ hp;exact jY w o (by omega)
def Fr.draws{ι0:Inj}{w0 w:World}(h:Fr ι0 w0 w)(n:Nat):Fr ι0 w0 { w with drawn:=n }:=⟨h.os,h.tape,h.output,h.size,h.blk⟩
def Fr.alloc{ι0:Inj}{w0 w:World}(h:Fr ι0 w0 w)(o:Obj):Fr ι0 w0 (w.alloc o):=by
 refine⟨h.os,h.tape,h.output,by have:=h.size;simp;omega,λk E C=>?_⟩;have:=h.size;rw[jY w o (by omega)];exact h.blk k E C
def Fr.write{ι0:Inj}{w0 w:World}(h:Fr ι0 w0 w){r:Nat}(G:(∃b q,ι0 b=some (some q)/\q.r=r)\/w0.heap.size<=r)(o:Obj):Fr ι0 w0 (setObj w r o):=by
 refine⟨h.os,h.tape,h.output,by simpa[setObj]using h.size,λk O F=>?_⟩;have E:r≠k:=by
  rintro rfl;rcases G with⟨b,q,C,J⟩ | G
  ·exact F b q C J
  ·omega
 simp only[setObj,VD E];exact h.blk k O F
def bg{w:World}{r o:Nat}{a:Array Value}{e:TypeId}{fr:Nat×Nat}(h:w.heap[r]?=some (.cells a e fr)):
  w.cell? ⟨r,o,none⟩=a[o]?:=by
 simp[World.cell?,h]
def rz{w:World}{r o:Nat}{a:Array Value}{e:TypeId}{fr:Nat×Nat}(h:w.heap[r]?=some (.cells a e fr))(b:NF fr a.size)(c:o<a.size):
  w.frozen? ⟨r,o,none⟩=false:=by
 have:=b o c;simp only[World.frozen?,h];by_cases f:fr.1<=o<;>by_cases d:o<fr.2<;>simp_all
def Fb{w:World}{r o:Nat}{v:Value}{b:Array Value}{e:TypeId}{fr:Nat×Nat}(h:w.heap[r]?=some (.cells b e fr)):
  w.setCell ⟨r,o,none⟩ v=setObj w r (.cells (b.setIfInBounds o v) e fr):=by
 unfold World.setCell setObj;congr 1;apply TC;intro k;rw[Array.getElem?_modify,TU];have c:=nM h;by_cases a:r=k
 ·subst a;rw[ae rfl,ae rfl,ae c,h];simp
 ·rw[ab a,ab a]
def BN(w:World)(r:Nat)(o a:Obj):setObj (setObj w r o) r a=setObj w r a:=by
 simp[setObj]
def Fz{w:World}{r:Nat}{o:Obj}(h:w.heap[r]?=some o):setObj w r o=w:=by
 unfold setObj;congr 1;apply TC;intro k;rw[TU];by_cases a:r=k
 ·subst a;rw[ae rfl,ae (nM h),h]
 ·rw[ab a]
def xY{w:World}{r:Nat}{o a:Obj}(h:w.heap[r]?=some o):(setObj w r a).heap[r]?=some a:=by
 have b:=nM h;simp[setObj,b]
end Go.Abs
