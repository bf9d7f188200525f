
import Derived.Tactics
import Derived.Below
import Derived.Test.YtadejcglcffgbabGreatDoorGlob
set_option linter.unusedSimpArgs false
set_option linter.unusedVariables false
set_option linter.defProp false
namespace Go
abbrev aa:=List UInt8
abbrev kH:=@Array.ext'
abbrev Ly:=@Array.ext_getElem?
abbrev nD:=@Array.getD_eq_getD_getElem?
abbrev Me:=@Array.getElem?_eq_getElem
abbrev uv:=@Array.getElem?_eq_none
abbrev Na:=@Array.getElem?_replicate
abbrev KB:=@Array.getElem?_setIfInBounds
abbrev LN:=@Array.getElem?_setIfInBounds_ne
abbrev oz:=@Array.getElem?_toList
abbrev Ln:=@Array.length_toList
abbrev Js:=@Array.mapM_eq_mapM_toList
abbrev Ao:=@Array.map_empty
abbrev ua:=@Array.toList_append
abbrev CL:=@Bool.and_eq_false_iff
abbrev aC:=@Bool.and_eq_true
abbrev AP:=@Bool.and_false
abbrev AS:=@Bool.and_self
abbrev uQ:=@Bool.and_true
abbrev uB:=@Bool.eq_iff_iff
abbrev BM:=@Bool.false_and
abbrev cj:=@Bool.false_eq_true
abbrev sU:=@Bool.false_or
abbrev Bg:=@Bool.not_eq_true
abbrev jd:=@Bool.not_eq_true'
abbrev jc:=@Bool.not_false
abbrev dD:=@Bool.not_true
abbrev Bn:=@Bool.or_eq_false_iff
abbrev fP:=@Bool.or_eq_true
abbrev kP:=@Bool.true_and
abbrev BF:=@Bool.true_or
abbrev FK:=@ByteArray.ext
abbrev By:=@Classical.em
abbrev sg:=@Go.Code.wp_mono
abbrev BJ:=@Go.DataW.trod_int
abbrev CH:=@Decidable.not_not
abbrev FQ:=@Int.dvd_of_emod_eq_zero
abbrev D3:=@Int.emod_lt_of_pos
abbrev G4:=@Int.emod_nonneg
abbrev pX:=@Int.le_refl
abbrev vw:=@Int.mul_comm
abbrev Jl:=@Int.mul_le_mul_of_nonneg_right
abbrev Au:=@Int.natCast_mul
abbrev FX:=@Int.sub_add_cancel
abbrev IZ:=@Int.tdiv_eq_ediv_of_nonneg
abbrev GW:=@Int.tmod_eq_emod
abbrev Fz:=@Int.tmod_eq_emod_of_nonneg
abbrev cf:=@Int.toNat_natCast
abbrev BC:=@Int.toNat_of_nonneg
abbrev uS:=@Int.zero_sub
abbrev B5:=@Go.IntKind.wrap_i64
abbrev lw:=@List.all_cons
abbrev ch:=@List.all_eq_true
abbrev pT:=@List.any_eq_false
abbrev oh:=@List.any_eq_true
abbrev rU:=@List.append_assoc
abbrev vv:=@List.append_nil
abbrev xN:=@List.cons.injEq
abbrev kL:=@List.cons_append
abbrev EP:=@List.countP_cons
abbrev BI:=@List.drop_append
abbrev uT:=@List.drop_drop
abbrev pF:=@List.drop_eq_getElem_cons
abbrev oi:=@List.drop_eq_nil_of_le
abbrev yP:=@List.drop_length
abbrev B2:=@List.drop_succ_cons
abbrev yL:=@List.drop_take
abbrev gk:=@List.drop_zero
abbrev sN:=@List.eq_nil_of_length_eq_zero
abbrev vh:=@List.ext_getElem?
abbrev EG:=@List.filter_append
abbrev I5:=@List.filter_cons_of_neg
abbrev Jv:=@List.filter_cons_of_pos
abbrev CQ:=@List.filter_filter
abbrev yK:=@List.findSome?_cons
abbrev Jn:=@List.findSome?_eq_none_iff
abbrev CU:=@List.flatMap_append
abbrev jY:=@List.flatMap_cons
abbrev Ax:=@List.foldl_append
abbrev qM:=@List.foldl_cons
abbrev AN:=@List.foldl_nil
abbrev Bh:=@List.getD_eq_getElem?_getD
abbrev lb:=@List.getElem?_append_left
abbrev mM:=@List.getElem?_append_right
abbrev An:=@List.getElem?_cons_succ
abbrev iE:=@List.getElem?_cons_zero
abbrev jK:=@List.getElem?_drop
abbrev bj:=@List.getElem?_eq_getElem
abbrev dX:=@List.getElem?_eq_none
abbrev lu:=@List.getElem?_eq_some_iff
abbrev om:=@List.getElem?_map
abbrev G3:=@List.getElem?_set_self
abbrev FZ:=@List.getElem?_take
abbrev mR:=@List.getElem?_take_of_lt
abbrev BB:=@List.isEmpty_eq_false_iff
abbrev gv:=@List.length_append
abbrev cU:=@List.length_cons
abbrev lY:=@List.length_drop
abbrev CW:=@List.length_filter_le
abbrev BZ:=@List.length_filter_lt_length_iff_exists
abbrev FR:=@List.length_map
abbrev iN:=@List.length_nil
abbrev Aj:=@List.length_pos_of_mem
abbrev qH:=@List.length_reverse
abbrev vV:=@List.length_set
abbrev y6:=@List.length_singleton
abbrev dx:=@List.length_take
abbrev sV:=@List.mapM_cons
abbrev zD:=@List.map_append
abbrev fb:=@List.map_cons
abbrev sA:=@List.map_map
abbrev jW:=@List.mem_append
abbrev bX:=@List.mem_cons
abbrev gN:=@List.mem_cons_of_mem
abbrev xc:=@List.mem_cons_self
abbrev jm:=@List.mem_filter
abbrev zU:=@List.mem_flatMap
abbrev da:=@List.mem_map
abbrev dY:=@List.mem_of_getElem?
abbrev EQ:=@List.mem_or_eq_of_mem_set
abbrev ij:=@List.mem_range
abbrev oD:=@List.mem_range'_1
abbrev lx:=@List.mem_singleton
abbrev gP:=@List.nil_append
abbrev yY:=@List.nodup_append
abbrev ud:=@List.nodup_cons
abbrev m6:=@List.not_mem_nil
abbrev si:=@List.range'_succ
abbrev qx:=@List.replicate_succ
abbrev sJ:=@List.reverse_reverse
abbrev GO:=@List.set_eq_take_append_cons_drop
abbrev wQ:=@List.size_toArray
abbrev oO:=@List.take_add_one
abbrev zl:=@List.take_append
abbrev ui:=@List.take_append_drop
abbrev qG:=@List.take_append_of_le_length
abbrev oM:=@List.take_length
abbrev gg:=@List.take_of_length_le
abbrev qi:=@List.take_succ_cons
abbrev G5:=@List.take_succ_eq_append_getElem
abbrev wY:=@List.take_take
abbrev nE:=@List.take_zero
abbrev gh:=@Nat.add_assoc
abbrev oN:=@Nat.add_comm
abbrev fh:=@Nat.add_mul
abbrev rZ:=@Nat.add_right_cancel_iff
abbrev zm:=@Nat.add_sub_cancel
abbrev zo:=@Nat.add_sub_cancel_left
abbrev eJ:=@Nat.add_zero
abbrev iR:=@Nat.beq_eq
abbrev dl:=@Nat.ble_eq_true_of_le
abbrev Aa:=@Nat.div_le_self
abbrev zu:=@Nat.div_mul_le_self
abbrev oJ:=@Nat.div_one
abbrev be:=@Nat.eq_of_beq_eq_true
abbrev wG:=@Nat.eq_zero_or_pos
abbrev y9:=@Nat.le_max_left
abbrev aJ:=@Nat.le_of_ble_eq_true
abbrev tc:=@Nat.le_of_eq
abbrev aV:=@Nat.le_refl
abbrev ow:=@Nat.le_trans
abbrev wa:=@Nat.le_zero
abbrev zj:=@Nat.lt_irrefl
abbrev lH:=@Nat.lt_of_lt_of_le
abbrev aI:=@Nat.lt_or_ge
abbrev zZ:=@Nat.lt_trichotomy
abbrev o7:=@Nat.min_eq_left
abbrev zW:=@Nat.min_le_right
abbrev oH:=@Nat.mod_eq_of_lt
abbrev m9:=@Nat.mod_lt
abbrev yS:=@Nat.mul_assoc
abbrev tH:=@Nat.mul_comm
abbrev ul:=@Nat.mul_le_mul
abbrev lz:=@Nat.mul_le_mul_right
abbrev na:=@Nat.mul_one
abbrev wo:=@Nat.ne_of_lt
abbrev vQ:=@Nat.one_le_pow
abbrev rL:=@Nat.one_mul
abbrev iH:=@Nat.pow_le_pow_right
abbrev oy:=@Nat.pow_succ
abbrev vZ:=@Nat.pow_zero
abbrev wh:=@Nat.succ_mul
abbrev bV:=@Nat.zero_add
abbrev oL:=@Nat.zero_le
abbrev zE:=@Go.Oper.apart_spec
abbrev vD:=@Option.bind_eq_some_iff
abbrev wO:=@Option.getD_some
abbrev Fq:=@Option.isSome_iff_exists
abbrev tX:=@Option.isSome_none
abbrev Ab:=@Option.map_eq_some_iff
abbrev fY:=@Option.map_none
abbrev ek:=@Option.map_some
abbrev zS:=@Option.none_or
abbrev aY:=@Option.some.inj
abbrev aq:=@Option.some.injEq
abbrev cJ:=@Prod.mk.injEq
abbrev az:=@Go.Result.andThen_ok
abbrev ug:=@Go.Result.ok.injEq
abbrev ax:=@Go.Sem.run_bind
abbrev aA:=@Go.Sem.run_pure
abbrev hZ:=@UInt8.toNat_inj
abbrev Ag:=@UInt8.toNat_ofNat'
abbrev uf:=@Go.World.alloc_eq
abbrev zO:=@Go.World.cells?_some
abbrev qy:=@and_congr_right
abbrev qw:=@and_true
abbrev aN:=@beq_eq_false_iff_ne
abbrev bI:=@beq_iff_eq
abbrev o9:=@beq_self_eq_true
abbrev eG:=@bne_self_eq_false
abbrev af:=@cond_false
abbrev am:=@cond_true
abbrev fc:=@congrArg
abbrev tO:=@decide_eq_decide
abbrev ar:=@decide_eq_false
abbrev sI:=@decide_eq_false_iff_not
abbrev au:=@decide_eq_true
abbrev cA:=@decide_eq_true_eq
abbrev ml:=@decide_false
abbrev mu:=@decide_true
abbrev mm:=@exists_congr
abbrev tD:=@false_and
abbrev wI:=@forall_eq_or_imp
abbrev aG:=@if_false
abbrev ab:=@if_neg
abbrev ad:=@if_pos
abbrev bc:=@if_true
abbrev yU:=@not_false_eq_true
abbrev qm:=@not_true_eq_false
abbrev zg:=@of_decide_eq_true
abbrev oR:=@or_false
abbrev sM:=@Go.run_loadCells_list
abbrev rP:=@Go.run_newObj
abbrev aR:=@Go.run_underlying
abbrev ie:=@true_and
end Go
namespace Go.Abs
inductive Lf where
 | i (k:IntKind)
 | bo
 | s
 deriving Inhabited,DecidableEq
@[reducible] def Lf.den:Lf->Type
 | .i _=>Int
 | .bo=>Bool
 | .s=>aa
@[reducible] def den:List Lf->Type
 | []=>Unit
 | [a]=>a.den
 | a::b::l=>a.den×den (b::l)
inductive V where
 | unk
 | pr (z b j o:Nat)
 | ws (b:Nat)
 | rs (z b j n:Nat) (cap:Option Nat)
 | b (x:Bool)
 | i (k:IntKind) (n:Int)
 | s (l:aa)
 | pn
 | p (b o:Nat)
 | sn
 | sl (b o len:Nat) (cap:Option Nat)
 | fn (f:Nat) (cap:List V)
 | nf
 | ni
 | it (t:Nat) (v:V)
 | ag (l:List V)
 | ai (k:IntKind) (n:Nat) (l:List Int)
 | tp (l:List V)
 | mp (b:Nat)
 deriving Inhabited
structure Rf where
 r:Nat
 n:Nat:=0
 k:Nat:=0
 o:Nat:=0
 fz:Bool:=false
abbrev Rf.of(r n k:Nat):Rf:=⟨r,n,k,0,false⟩
abbrev Inj:=Nat->Option (Option Rf)
def fnW(K f:Nat)(a:Array Value):Value:=
 match Nat.blt f K with
 | true=>.func (.func f) #[] a
 | false=>.func (.func (f - K)) a #[]
def fnV(f:Nat)(a:Array Value):Value:=fnW 1000000 f a
def NY(K f:Nat)(a:Array Value):∃g b c,fnW K f a=.func (.func g) b c:=by
 unfold fnW;split
 ·exact⟨_,_,_,rfl⟩
 ·exact⟨_,_,_,rfl⟩
def vt(f:Nat)(a:Array Value):∃g b c,fnV f a=.func (.func g) b c:=NY _ f a
def Kx{K f:Nat}(h:Nat.blt f K=true)(a:Array Value):fnW K f a=.func (.func f) #[] a:=by
 unfold fnW;rw[h]
def GX{f:Nat}(h:Nat.blt f 1000000=true)(a:Array Value):fnV f a=.func (.func f) #[] a:=Kx h a
def HY(K f:Nat)(a:Array Value):fnW K (f+K) a=.func (.func f) a #[]:=by
 unfold fnW;cases h:Nat.blt (f+K) K with
 | true=>have:f+K<K:=aJ h;omega
 | false=>simp
def H5(f:Nat)(a:Array Value):fnV (f+1000000) a=.func (.func f) a #[]:=HY _ f a
def fnFW(K f:Nat):Nat:=match Nat.blt f K with | true=>f | false=>f - K
def fnAW{α:Type}(K f:Nat)(args cap:List α):List α:=match Nat.blt f K with | true=>args++cap | false=>cap++args
def fnF(f:Nat):Nat:=fnFW 1000000 f
def fnA{α:Type}(f:Nat)(args cap:List α):List α:=fnAW 1000000 f args cap
def iO9(c:Option Nat)(k:Nat):Prop:=∀m,c=some m->k=m
def iu{k:Nat}:iO9 none k:=λ_ h=>by cases h
def nU{k:Nat}:iO9 (some k) k:=λ_ h=>by cases h;rfl
mutual
def VR(ι:Inj):V->Value->Prop
 | .b x,v=>v=.bool x
 | .i k n,v=>v=.int k n
 | .s l,v=>v=.string ⟨l.toArray⟩
 | .pn,v=>v=.pointer none
 | .p b o,v=>∃q,ι b=some (some q)/\v=.pointer (some ⟨q.r,o,none⟩)
 | .sn,v=>v=.slice none 0 0
 | .sl b o len cap,v=>∃q c,ι b=some (some q)/\(∀n,cap=some n->c=n)/\len<=c/\v=.slice (some ⟨q.r,o,none⟩) len c
 | .unk,v=>v.cells=#[v]/\v.oneCell'=true
 | .pr z b j o,v=>∃q,ι b=some (some q)/\v=.pointer (some ⟨q.r,q.o+(j*z+o),none⟩)
 | .ws b,v=>(∃q,ι b=some (some q)/\v=.slice (some ⟨q.r,q.o,none⟩) q.n q.k)\/(ι b=some none/\∃a,v=.slice a 0 0)
 | .rs z b j n e,v=>(∃q c o,ι b=some (some q)/\(n<=c/\iO9 e c)/\(0<n->o=q.o+j*z)/\v=.slice (some ⟨q.r,o,none⟩) n c)\/(ι b=some none/\(n=0/\iO9 e 0)/\∃a,v=.slice a 0 0)
 | .fn f cap,v=>∃d,v=fnV f d/\VRs ι cap d.toList
 | .nf,v=>v=.nilFunc
 | .ni,v=>v=.nilIface
 | .it t x,v=>∃y,v=.iface t y/\VR ι x y
 | .ag l,v=>∃d:Array Value,v=.agg d/\VRs ι l d.toList
 | .ai k n l,v=>l.length=n/\v=.agg (l.map (Value.int k)).toArray
 | .tp l,v=>∃d:Array Value,v=.tuple d/\VRs ι l d.toList
 | .mp b,v=>∃q,ι b=some (some q)/\v=.map (some q.r)
def VRs(ι:Inj):List V->List Value->Prop
 | [],a=>a=[]
 | x::l,a=>∃y b,a=y::b/\VR ι x y/\VRs ι l b
end
mutual
def VR.mono{ι F:Inj}(h:∀b r,ι b=some r->F b=some r):∀(v:V) (x:Value),VR ι v x->VR F v x
 | .b _,_,hx | .i _ _,_,hx | .s _,_,hx | .pn,_,hx | .sn,_,hx | .nf,_,hx | .ni,_,hx | .ai _ _ _,_,hx | .unk,_,hx=>by simpa[VR]using hx
 | .p b o,x,hx | .pr z b j o,x,hx | .mp b,x,hx=>by
  simp only[VR]at hx ⊢;obtain⟨r,C,A⟩:=hx;exact⟨r,h _ _ C,A⟩
 | .ws b,x,hx=>by
  simp only[VR]at hx ⊢;rcases hx with⟨q,C,A⟩ | ⟨C,A⟩
  ·exact .inl ⟨q,h _ _ C,A⟩
  ·exact .inr ⟨h _ _ C,A⟩
 | .rs z b j n _,x,hx=>by
  simp only[VR]at hx ⊢;rcases hx with⟨q,c,o,C,A⟩ | ⟨C,A⟩
  ·exact .inl ⟨q,c,o,h _ _ C,A⟩
  ·exact .inr ⟨h _ _ C,A⟩
 | .sl b o len cap,x,hx=>by
  simp only[VR]at hx ⊢;obtain⟨r,c,C,A⟩:=hx;exact⟨r,c,h _ _ C,A⟩
 | .fn f cap,x,hx=>by
  simp only[VR]at hx ⊢;obtain⟨E,C,A⟩:=hx;exact⟨E,C,VRs.mono h _ _ A⟩
 | .it t v,x,hx=>by
  simp only[VR]at hx ⊢;obtain⟨y,C,A⟩:=hx;exact⟨y,C,VR.mono h _ _ A⟩
 | .ag l,x,hx=>by
  simp only[VR]at hx ⊢;obtain⟨E,C,A⟩:=hx;exact⟨E,C,VRs.mono h _ _ A⟩
 | .tp l,x,hx=>by
  simp only[VR]at hx ⊢;obtain⟨E,C,A⟩:=hx;exact⟨E,C,VRs.mono h _ _ A⟩
def VRs.mono{ι A:Inj}(h:∀b r,ι b=some r->A b=some r):∀(l:List V) (C:List Value),VRs ι l C->VRs A l C
 | [],_,hx=>by simpa[VRs]using hx
 | v::l,C,hx=>by
  simp only[VRs]at hx ⊢;obtain⟨y,G,J,F,E⟩:=hx;exact⟨y,G,J,VR.mono h _ _ F,VRs.mono h _ _ E⟩
end
def VRs.length{ι:Inj}:∀{l:List V} {xs:List Value},VRs ι l xs->xs.length=l.length
 | [],_,h=>by simp only[VRs]at h;simp[h]
 | _::_,_,h=>by
  simp only[VRs]at h;obtain⟨y,C,rfl,_,A⟩:=h;simp[VRs.length A]
def VRs.get{ι:Inj}:∀{l:List V} {xs:List Value} {j:Nat} {v:V},VRs ι l xs->l[j]?=some v->∃x,xs[j]?=some x/\VR ι v x
 | [],_,_,_,_,A=>by simp at A
 | _::_,_,0,_,h,A=>by
  simp only[VRs]at h;obtain⟨y,F,rfl,E,_⟩:=h;simp only[iE,aq]at A;subst A;exact⟨y,by simp,E⟩
 | _::_,_,j+1,_,h,A=>by
  simp only[VRs]at h;obtain⟨y,F,rfl,_,C⟩:=h;simp only[An]at A ⊢;exact VRs.get C A
def VRs.of_get{ι:Inj}:∀{l:List V} {A:List Value},A.length=l.length->(∀(j:Nat) (v:V) (x:Value),l[j]?=some v->A[j]?=some x->VR ι v x)->VRs ι l A
 | [],A,C,_=>by simp only[VRs];exact sN (by simpa using C)
 | v::l,[],C,_=>by simp at C
 | v::l,x::A,C,h=>by
  simp only[VRs];refine⟨x,A,rfl,h 0 v x (by simp) (by simp),VRs.of_get (by simpa using C) λj G F J E=>h (j+1) G F (by simpa using J) (by simpa using E)⟩
def VRs.append{ι:Inj}:∀{l:List V} {xs:List Value} {m:List V} {A:List Value},VRs ι l xs->VRs ι m A->VRs ι (l++m) (xs++A)
 | [],_,_,_,h,C=>by simp only[VRs]at h;subst h;simpa using C
 | _::_,_,_,_,h,C=>by
  simp only[VRs]at h;obtain⟨y,A,rfl,F,E⟩:=h;simp only[kL,VRs];exact⟨y,_,rfl,F,VRs.append E C⟩
def VRs.drop{ι:Inj}:∀{l:List V} {xs:List Value} (n:Nat),VRs ι l xs->VRs ι (l.drop n) (xs.drop n)
 | _,_,0,h=>by simpa using h
 | [],_,_+1,h=>by simp only[VRs]at h;subst h;simp[VRs]
 | _::_,_,n+1,h=>by
  simp only[VRs]at h;obtain⟨y,C,rfl,_,A⟩:=h;simpa using VRs.drop n A
def VRs.take{ι:Inj}:∀{l:List V} {xs:List Value} (n:Nat),VRs ι l xs->VRs ι (l.take n) (xs.take n)
 | _,_,0,_=>by simp[VRs]
 | [],_,_+1,h=>by simp only[VRs]at h;subst h;simp[VRs]
 | _::_,_,n+1,h=>by
  simp only[VRs]at h;obtain⟨y,E,rfl,C,A⟩:=h;simp only[qi,VRs];exact⟨y,_,rfl,C,VRs.take n A⟩
def VRs.set{ι:Inj}:∀{l:List V} {xs:List Value} (n:Nat) {v:V} {x:Value},VRs ι l xs->VR ι v x->VRs ι (l.set n v) (xs.set n x)
 | [],_,_,_,_,h,_=>by simp only[VRs]at h;subst h;simp[VRs]
 | _::_,_,0,_,_,h,C=>by
  simp only[VRs]at h;obtain⟨y,F,rfl,_,A⟩:=h;simp only[List.set_cons_zero,VRs];exact⟨_,_,rfl,C,A⟩
 | _::_,_,n+1,_,_,h,C=>by
  simp only[VRs]at h;obtain⟨y,F,rfl,E,A⟩:=h;simp only[List.set_cons_succ,VRs];exact⟨_,_,rfl,E,VRs.set n A C⟩
def VRs.ints{ι:Inj}(k:IntKind):∀(l:List Int),VRs ι (l.map (V.i k)) (l.map (Value.int k))
 | []=>by simp[VRs]
 | n::l=>by simp only[fb,VRs];exact⟨_,_,rfl,by simp[VR],VRs.ints k l⟩
def Lf.toV:(a:Lf)->a.den->V
 | .i k,n=>.i k n
 | .bo,x=>.b x
 | .s,l=>.s l
def Lf.val:(a:Lf)->a.den->Value
 | .i k,n=>.int k n
 | .bo,x=>.bool x
 | .s,l=>.string ⟨l.toArray⟩
def cells:(t:List Lf)->den t->List V
 | [],_=>[]
 | [a],x=>[a.toV x]
 | a::b::l,x=>a.toV x.1::cells (b::l) x.2
def vals:(t:List Lf)->den t->List Value
 | [],_=>[]
 | [a],x=>[a.val x]
 | a::b::l,x=>a.val x.1::vals (b::l) x.2
def Lf.ok(ι:Inj):∀(a:Lf) (x:a.den),VR ι (a.toV x) (a.val x)
 | .i _,_=>by simp[Lf.toV,Lf.val,VR]
 | .bo,_=>by simp[Lf.toV,Lf.val,VR]
 | .s,_=>by simp[Lf.toV,Lf.val,VR]
def Lf.ok_iff(ι:Inj):∀(a:Lf) (x:a.den) (y:Value),VR ι (a.toV x) y↔y=a.val x
 | .i _,_,_=>by simp[Lf.toV,Lf.val,VR]
 | .bo,_,_=>by simp[Lf.toV,Lf.val,VR]
 | .s,_,_=>by simp[Lf.toV,Lf.val,VR]
def kE(ι:Inj):∀(t:List Lf) (x:den t) (c:List Value),VRs ι (cells t x) c↔c=vals t x
 | [],_,c=>by simp[cells,vals,VRs]
 | [a],x,c=>by
  simp only[cells,vals,VRs];constructor
  ·rintro⟨y,d,rfl,h,rfl⟩;rw[(a.ok_iff ι x y).1 h]
  ·rintro rfl;exact⟨_,_,rfl,a.ok ι x,rfl⟩
 | a::b::l,x,c=>by
  simp only[cells,vals,VRs];constructor
  ·rintro⟨y,d,rfl,h,e⟩;rw[(a.ok_iff ι _ y).1 h,(kE ι (b::l) x.2 d).1 e]
  ·rintro rfl;exact⟨_,_,rfl,a.ok ι _,(kE ι (b::l) x.2 _).2 rfl⟩
def iK:∀(t:List Lf) (x:den t),(cells t x).length=t.length
 | [],_=>rfl
 | [_],_=>rfl
 | _::b::l,x=>by simp[cells,iK (b::l) x.2]
def eX:∀(t:List Lf) (x:den t),(vals t x).length=t.length
 | [],_=>rfl
 | [_],_=>rfl
 | _::b::l,x=>by simp[vals,eX (b::l) x.2]
inductive Blk where
 | dead
 | rows (t:List Lf) (l:List (den t))
 | cells (l:List V)
 | ints (k:IntKind) (n:Nat) (l:List Int)
 | iter (s:aa) (pos:Nat)
 | mp (k:IntKind) (l:List (Int×Nat))
 deriving Inhabited
def NF(fr:Nat×Nat)(n:Nat):Prop:=∀j,j<n->¬(fr.1<=j/\j<fr.2)
def BR(ι:Inj)(q:Rf):Blk->Obj->Prop
 | .dead,_=>True
 | .rows t l,o=>∃a e fr,o=.cells a e fr/\l.length=q.n/\q.n<=q.k/\q.o+q.k*t.length<=a.size/\(a.toList.drop q.o).take (l.length*t.length)=l.flatMap (vals t)/\(q.fz=true\/NF fr a.size)
 | .cells l,o=>∃a e fr,o=.cells a e fr/\VRs ι l a.toList/\NF fr a.size
 | .ints k n l,o=>∃e fr,o=.cells (l.map (Value.int k)).toArray e fr/\l.length=n/\NF fr n
 | .iter s pos,o=>o=.stringIter ⟨s.toArray⟩ pos
 | .mp k l,o=>∃c b,o=.map c b/\c.toList.map (λe=>(e.key,e.val))=l.map λp=>(Value.int k p.1,fnV p.2 #[])
def BR.mono{ι C:Inj}{q:Rf}(h:∀b r,ι b=some r->C b=some r):∀{blk:Blk} {o:Obj},BR ι q blk o->BR C q blk o
 | .dead,_,_=>trivial
 | .rows t l,o,A=>A
 | .cells l,o,A=>by
  obtain⟨J,e,fr,G,F,E⟩:=A;exact⟨J,e,fr,G,VRs.mono h _ _ F,E⟩
 | .ints k n l,o,A=>A
 | .iter s pos,o,A=>A
 | .mp k l,o,A=>A
def look{α:Type}:List (Nat×α)->Nat->Option α
 | [],_=>none
 | (k,v)::l,n=>cond (Nat.beq k n) (some v) (look l n)
def aO{α:Type}(k:Nat)(v:α)(l:List (Nat×α))(n:Nat):look ((k,v)::l) n=if k=n then some v else look l n:=by
 simp only[look];by_cases h:k=n
 ·subst h;simp
 ·have:Nat.beq k n=false:=by
   cases a:Nat.beq k n
   ·rfl
   ·exact absurd (be a) h
  simp[this,h]
structure St where
 T:List (Nat×Option V)
 H:List (Nat×Blk)
 nb:Nat
 lo:Nat:=0
 ro:Nat:=0
 rb:Nat:=0
 deriving Inhabited
def TR(ι:Inj)(T:List (Nat×Option V))(a:Array Value):Prop:=
 ∀t v,look T t=some (some v)->∃x,a[t]?=some x/\VR ι v x
def BW(ι:Inj)(w:World)(b:Nat)(blk:Blk):Prop:=
 (∃q o,ι b=some (some q)/\w.heap[q.r]?=some o/\BR ι q blk o)\/(ι b=some none/\∃t,blk=.rows t [])
structure WR(ι:Inj)(H:List (Nat×Blk))(nb:Nat)(w:World):Prop where
 inj:∀b b' q q',ι b=some (some q)->ι b'=some (some q')->q.r=q'.r->b=b'\/(q.fz=true/\q'.fz=true)
 low:∀b q,ι b=some q->b<nb
 dom:∀b q,ι b=some (some q)->q.r<w.heap.size
 blk:∀b blk,look H b=some blk->blk≠.dead->BW ι w b blk
def BW.real{ι:Inj}{w:World}{b:Nat}{blk:Blk}(h:BW ι w b blk)(A:∀t,blk≠.rows t []):∃q o,ι b=some (some q)/\w.heap[q.r]?=some o/\BR ι q blk o:=by
 rcases h with h | ⟨_,t,h⟩
 ·exact h
 ·exact absurd h (A t)
def BW.map{ι C:Inj}{w w':World}{b G:Nat}{blk A:Blk}(h:BW ι w b blk)(J:C G=ι b)(O:∀q,ι b=some (some q)->w'.heap[q.r]?=w.heap[q.r]?)
  (Q:∀q o,BR ι q blk o->BR C q A o) (U:∀t,blk=.rows t []->A=.rows t []):BW C w' G A:=by
 rcases h with⟨q,o,E,F,M⟩ | ⟨E,t,F⟩
 ·exact .inl ⟨q,o,by rw[J,E],by rw[O q E,F],Q q o M⟩
 ·exact .inr ⟨by rw[J,E],t,U t F⟩
structure Fr(ι0:Inj)(w0 w:World):Prop where
 os:w.os=w0.os
 tape:w.tape=w0.tape
 output:w.output=w0.output
 size:w0.heap.size<=w.heap.size
 blk:∀k,k<w0.heap.size->(∀b q,ι0 b=some (some q)->q.r≠k)->w.heap[k]?=w0.heap[k]?
def Fr.refl(ι0:Inj)(w:World):Fr ι0 w w:=⟨rfl,rfl,rfl,aV _,λ_ _ _=>rfl⟩
def roI(ι0:Inj)(ro:Nat):Inj:=λb=>cond (Nat.blt b ro) none (ι0 b)
def rB{ι0:Inj}{ro b:Nat}{r:Option Rf}(h:roI ι0 ro b=some r):ι0 b=some r:=by
 unfold roI at h;cases a:Nat.blt b ro with
 | true=>simp[a]at h
 | false=>simpa[a]using h
def NK{ι0:Inj}{ro b:Nat}{r:Option Rf}(h:roI ι0 ro b=some r):ro<=b:=by
 unfold roI at h;rcases aI b ro with a | a
 ·rw[show Nat.blt b ro=true from dl a]at h;cases h
 ·exact a
def Cm{ι0:Inj}{ro b:Nat}{r:Option Rf}(h:ι0 b=some r)(a:ro<=b):roI ι0 ro b=some r:=by
 have:Nat.blt b ro=false:=by
  cases hx:Nat.blt b ro with
  | false=>rfl
  | true=>have:b<ro:=aJ hx;omega
 simp[roI,this,h]
def GL(R:Inj)(w:World):Prop:=∃L:List (Nat×Obj),NJ L/\(∀x∈L,w.heap[x.1]?=some x.2)/\∀x∈L,∀b q,R b=some (some q)->q.r≠x.1
def GL.mono{R G:Inj}{w:World}(h:GL R w)(U:∀b q,G b=some (some q)->(∃C A,R C=some (some A)/\A.r=q.r)\/w.heap.size<=q.r):GL G w:=by
 obtain⟨L,Q,F,J⟩:=h;refine⟨L,Q,F,λx hx b q O=>?_⟩;rcases U b q O with⟨C,A,E,M⟩ | E
 ·rw[<-M];exact J x hx C A E
 ·have hs:x.1<w.heap.size:=by
   rcases aI x.1 w.heap.size with h | h
   ·exact h
   ·have:=F x hx;rw[uv h]at this;cases this
  omega
structure Base where
 w:World
 D:List Deferred:=[]
structure Inv(n:Nat)(ι0:Inj)(w0:Base)(ι:Inj)(s:St)(a:Act)(w:World):Prop where
 size:a.tmps.size=n
 defers:a.defers=w0.D
 tmps:TR ι s.T a.tmps
 mem:WR ι s.H s.nb w
 ext:∀b q,ι0 b=some q->ι b=some q\/s.rb<=b
 new:∀b q,ι b=some (some q)->(∃q',ι0 b=some (some q')/\q'.r=q.r)\/w0.w.heap.size<=q.r
 fr:Fr (roI ι0 s.ro) w0.w w
 low:∀b r,ι0 b=some r->b<s.lo
 fz:∀b q,ι b=some (some q)->q.fz=true->b<s.ro
 gl:GL (roI ι0 s.ro) w0.w
def Inv.glHere{n:Nat}{ι0 ι:Inj}{w0:Base}{s:St}{a:Act}{w:World}(h:Inv n ι0 w0 ι s a w){R:Inj}(O:∀b q,R b=some (some q)->ι b=some (some q)/\s.ro<=b):GL R w:=by
 obtain⟨L,M,C,A⟩:=h.gl;have hs:∀x∈L,x.1<w0.w.heap.size:=by
  intro x hx;rcases aI x.1 w0.w.heap.size with h | h
  ·exact h
  ·have:=C x hx;rw[uv h]at this;cases this
 refine⟨L,M,λx hx=>?_,λx hx b q G=>?_⟩
 ·rw[h.fr.blk x.1 (hs x hx) (A x hx)];exact C x hx
 ·obtain⟨J,F⟩:=O b q G;rcases h.new b q J with⟨U,E,Q⟩ | E
  ·rw[<-Q];exact A x hx b U (Cm E F)
  ·have:=hs x hx;omega
def upd(ι:Inj)(b:Nat)(r:Option Rf):Inj:=λc=>if c=b then some r else ι c
def mj{ι:Inj}{b:Nat}{r:Option Rf}(h:ι b=none):∀c q,ι c=some q->upd ι b r c=some q:=by
 intro c q hc;unfold upd;split
 ·rename_i e;subst e;rw[h]at hc;cases hc
 ·exact hc
def TR.mono{ι A:Inj}(h:∀b r,ι b=some r->A b=some r){T:List (Nat×Option V)}{C:Array Value}(F:TR ι T C):TR A T C:=
 λt v E=>let⟨x,h1,h2⟩:=F t v E;⟨x,h1,VR.mono h _ _ h2⟩
def TR.put{ι:Inj}{T:List (Nat×Option V)}{a:Act}{d:Nat}{v:Option V}{x:Value}(M:TR ι T a.tmps)(F:d<a.tmps.size)
  (J:∀u,v=some u->VR ι u x):TR ι ((d,v)::T) (a.put (some d) x).tmps:=by
 intro t u A;rw[aO]at A;simp only[Act.put];split at A
 ·rename_i e;subst e;simp only[aq]at A;exact⟨x,by simp[F],J u A⟩
 ·rename_i C;obtain⟨y,G,E⟩:=M t u A;exact⟨y,by rw[LN C];exact G,E⟩
def setObj(w:World)(r:Nat)(o:Obj):World:={ w with heap:=w.heap.setIfInBounds r o }
def jv(w:World)(o:Obj):(w.alloc o).heap[w.heap.size]?=some o:=by
 show(w.heap.push o)[w.heap.size]?=some o;simp
def gY(w:World)(o:Obj){k:Nat}(h:k≠w.heap.size):(w.alloc o).heap[k]?=w.heap[k]?:=by
 show(w.heap.push o)[k]?=_;rw[Array.getElem?_push,ab h]
def lX{w:World}{r:Nat}{o:Obj}(h:w.heap[r]?=some o):r<w.heap.size:=by
 rcases aI r w.heap.size with a | a
 ·exact a
 ·simp[uv a]at h
def WR.draws{ι:Inj}{H:List (Nat×Blk)}{nb:Nat}{w:World}(h:WR ι H nb w)(n:Nat):WR ι H nb { w with drawn:=n }:=
 ⟨h.inj,h.low,h.dom,h.blk⟩
def n9{w:World}{r k:Nat}(o:Obj)(h:r≠k):(setObj w r o).heap[k]?=w.heap[k]?:=by
 simp[setObj,LN h]
def WR.write{ι:Inj}{H:List (Nat×Blk)}{nb b:Nat}{q:Rf}{w:World}{blk:Blk}{o:Obj}(h:WR ι H nb w)(E:ι b=some (some q))(J:q.fz=false)(Q:BR ι q blk o):
  WR ι ((b,blk)::H) nb (setObj w q.r o):=by
 have O:=h.dom b q E;refine⟨h.inj,h.low,λc q hc=>by simpa[setObj]using h.dom c q hc,λc C A M=>?_⟩;rw[aO]at A;split at A
 ·rename_i e;subst e;simp only[aq]at A;subst A;exact .inl ⟨q,o,E,by simp[setObj,O],Q⟩
 ·rename_i F;exact(h.blk c C A M).map rfl (λp hp=>n9 o λe=>(h.inj b c q p E hp e).elim F λG=>by rw[J]at G;cases G.1) (λ_ _ x=>x) (λ_ x=>x)
def WR.alloc{ι:Inj}{H:List (Nat×Blk)}{nb A f:Nat}{q:Rf}{w:World}{blk:Blk}{o:Obj}(h:WR ι H nb w)(Y:ι f=none)(hn:nb<=A)(M:f<A)
  (Z:q.r=w.heap.size) (ho:BR (upd ι f (some q)) q blk o):WR (upd ι f (some q)) ((f,blk)::H) A (w.alloc o):=by
 have J:=mj (r:=some q) Y;refine⟨λb b' r r' E C W=>?_,λc p hc=>?_,λc p hc=>?_,λc G F U=>?_⟩
 ·unfold upd at E C;split at E<;>split at C
  ·rename_i X Q;exact .inl (X.trans Q.symm)
  ·simp only[aq]at E;subst E;have:=h.dom _ _ C;omega
  ·simp only[aq]at C;subst C;have:=h.dom _ _ E;omega
  ·exact h.inj _ _ _ _ E C W
 ·unfold upd at hc;split at hc
  ·rename_i e;subst e;exact M
  ·have:=h.low _ _ hc;omega
 ·unfold upd at hc;split at hc
  ·simp only[aq]at hc;subst hc;simp;omega
  ·have:=h.dom _ _ hc;simp;omega
 ·rw[aO]at F;split at F
  ·rename_i e;subst e;simp only[aq]at F;subst F;exact .inl ⟨q,o,by simp[upd],by rw[Z];exact jv w o,ho⟩
  ·rename_i O;refine(h.blk c G F U).map (by simp[upd,Ne.symm O]) (λp hp=>?_) (λ_ _ x=>BR.mono J x) (λ_ x=>x);have:=h.dom _ _ hp;exact gY w o (by omega)
def Fr.draws{ι0:Inj}{w0 w:World}(h:Fr ι0 w0 w)(n:Nat):Fr ι0 w0 { w with drawn:=n }:=⟨h.os,h.tape,h.output,h.size,h.blk⟩
def Fr.alloc{ι0:Inj}{w0 w:World}(h:Fr ι0 w0 w)(o:Obj):Fr ι0 w0 (w.alloc o):=by
 refine⟨h.os,h.tape,h.output,by have:=h.size;simp;omega,λk A C=>?_⟩;have:=h.size;rw[gY w o (by omega)];exact h.blk k A C
def Fr.write{ι0:Inj}{w0 w:World}(h:Fr ι0 w0 w){r:Nat}(F:(∃b q,ι0 b=some (some q)/\q.r=r)\/w0.heap.size<=r)(o:Obj):Fr ι0 w0 (setObj w r o):=by
 refine⟨h.os,h.tape,h.output,by simpa[setObj]using h.size,λk G E=>?_⟩;have C:r≠k:=by
  rintro rfl;rcases F with⟨b,q,A,J⟩ | F
  ·exact E b q A J
  ·omega
 simp only[setObj,LN C];exact h.blk k G E
def bB{w:World}{r o:Nat}{a:Array Value}{e:TypeId}{fr:Nat×Nat}(h:w.heap[r]?=some (.cells a e fr)):
  w.cell? ⟨r,o,none⟩=a[o]?:=by
 simp[World.cell?,h]
def mV{w:World}{r o:Nat}{a:Array Value}{e:TypeId}{fr:Nat×Nat}(h:w.heap[r]?=some (.cells a e fr))(b:NF fr a.size)(c:o<a.size):
  w.frozen? ⟨r,o,none⟩=false:=by
 have:=b o c;simp only[World.frozen?,h];by_cases f:fr.1<=o<;>by_cases d:o<fr.2<;>simp_all
def xG{w:World}{r o:Nat}{v:Value}{b:Array Value}{e:TypeId}{fr:Nat×Nat}(h:w.heap[r]?=some (.cells b e fr)):
  w.setCell ⟨r,o,none⟩ v=setObj w r (.cells (b.setIfInBounds o v) e fr):=by
 unfold World.setCell setObj;congr 1;apply Ly;intro k;rw[Array.getElem?_modify,KB];have c:=lX h;by_cases a:r=k
 ·subst a;rw[ad rfl,ad rfl,ad c,h];simp
 ·rw[ab a,ab a]
def vL(w:World)(r:Nat)(o a:Obj):setObj (setObj w r o) r a=setObj w r a:=by
 simp[setObj]
def Ak{w:World}{r:Nat}{o:Obj}(h:w.heap[r]?=some o):setObj w r o=w:=by
 unfold setObj;congr 1;apply Ly;intro k;rw[KB];by_cases a:r=k
 ·subst a;rw[ad rfl,ad (lX h),h]
 ·rw[ab a]
def rV{w:World}{r:Nat}{o a:Obj}(h:w.heap[r]?=some o):(setObj w r a).heap[r]?=some a:=by
 have b:=lX h;simp[setObj,b]
end Go.Abs
