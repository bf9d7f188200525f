
import Derived.Tactics
import Derived.Below
import Derived.Test.YtjkmipianfkncaaGreatDoorGlob
set_option linter.unusedSimpArgs false
set_option linter.unusedVariables false
set_option linter.defProp false
namespace Go
abbrev aa:=List UInt8
abbrev mg:=@Array.ext'
abbrev Rk:=@Array.ext_getElem?
abbrev qg:=@Array.getD_eq_getD_getElem?
abbrev Qr:=@Array.getElem?_append_left
abbrev RD:=@Array.getElem?_eq_getElem
abbrev xj:=@Array.getElem?_eq_none
abbrev Tv:=@Array.getElem?_replicate
abbrev Q8:=@Array.getElem?_setIfInBounds
abbrev Qo:=@Array.getElem?_setIfInBounds_ne
abbrev qp:=@Array.getElem?_toList
abbrev K3:=@Array.length_toList
abbrev Ou:=@Array.mapM_eq_mapM_toList
abbrev FO:=@Array.map_empty
abbrev wZ:=@Array.toList_append
abbrev ur:=@BEq.rfl
abbrev C5:=@Bool.and_eq_false_iff
abbrev aB:=@Bool.and_eq_true
abbrev vG:=@Bool.and_false
abbrev GA:=@Bool.and_self
abbrev BH:=@Bool.and_true
abbrev re:=@Bool.eq_iff_iff
abbrev vz:=@Bool.false_and
abbrev bs:=@Bool.false_eq_true
abbrev od:=@Bool.false_or
abbrev GE:=@Bool.not_eq_true
abbrev kC:=@Bool.not_eq_true'
abbrev gJ:=@Bool.not_false
abbrev bV:=@Bool.not_true
abbrev nL:=@Bool.or_eq_false_iff
abbrev ie:=@Bool.or_eq_true
abbrev wy:=@Bool.or_false
abbrev m8:=@Bool.true_and
abbrev Gg:=@Bool.true_or
abbrev Jh:=@ByteArray.ext
abbrev fS9:=@Classical.em
abbrev sR:=@Go.Code.wp_mono
abbrev Lc:=@Decidable.not_not
abbrev I9:=@Int.dvd_of_emod_eq_zero
abbrev Ij:=@Int.emod_lt_of_pos
abbrev Jv:=@Int.emod_nonneg
abbrev yh:=@Int.le_refl
abbrev yk:=@Int.mul_comm
abbrev Ox:=@Int.mul_le_mul_of_nonneg_right
abbrev Fb:=@Int.natCast_mul
abbrev Ln:=@Int.sub_add_cancel
abbrev OQ:=@Int.tdiv_eq_ediv_of_nonneg
abbrev LD:=@Int.tmod_eq_emod
abbrev KD:=@Int.tmod_eq_emod_of_nonneg
abbrev bT:=@Int.toNat_natCast
abbrev Gs:=@Int.toNat_of_nonneg
abbrev yE:=@Int.zero_sub
abbrev EQ:=@Go.IntKind.wrap_i64
abbrev AV:=@List.all_append
abbrev md:=@List.all_cons
abbrev cq:=@List.all_eq_true
abbrev rl:=@List.any_append
abbrev qx:=@List.any_cons
abbrev rc:=@List.any_eq_false
abbrev sS:=@List.any_eq_true
abbrev lK:=@List.append_assoc
abbrev nW:=@List.append_nil
abbrev H3:=@List.cons.injEq
abbrev dq:=@List.cons_append
abbrev J3:=@List.countP_cons
abbrev F9:=@List.drop_append
abbrev uC:=@List.drop_append_of_le_length
abbrev jr:=@List.drop_drop
abbrev qd:=@List.drop_eq_getElem_cons
abbrev iD:=@List.drop_eq_nil_of_le
abbrev Cm:=@List.drop_left'
abbrev vn:=@List.drop_length
abbrev pU:=@List.drop_succ_cons
abbrev wh:=@List.drop_take
abbrev cg:=@List.drop_zero
abbrev xw:=@List.eq_nil_of_length_eq_zero
abbrev CO:=@List.ext_getElem?
abbrev Ii:=@List.filter_append
abbrev O9:=@List.filter_cons_of_neg
abbrev OU:=@List.filter_cons_of_pos
abbrev Fq:=@List.filter_filter
abbrev C0:=@List.findSome?_cons
abbrev OY:=@List.findSome?_eq_none_iff
abbrev IN:=@List.flatMap_append
abbrev qu:=@List.flatMap_cons
abbrev Gk:=@List.foldl_append
abbrev ux:=@List.foldl_cons
abbrev ER:=@List.foldl_nil
abbrev yI:=@List.getD_eq_getElem?_getD
abbrev mS:=@List.getElem?_append_left
abbrev pj:=@List.getElem?_append_right
abbrev EU:=@List.getElem?_cons_succ
abbrev lO:=@List.getElem?_cons_zero
abbrev mX:=@List.getElem?_drop
abbrev bg:=@List.getElem?_eq_getElem
abbrev gC:=@List.getElem?_eq_none
abbrev rj:=@List.getElem?_eq_some_iff
abbrev pg:=@List.getElem?_map
abbrev Jf:=@List.getElem?_take
abbrev pS:=@List.getElem?_take_of_lt
abbrev uB:=@List.head?_cons
abbrev AG:=@List.isEmpty_eq_false_iff
abbrev bW:=@List.length_append
abbrev aP:=@List.length_cons
abbrev bj:=@List.length_drop
abbrev yV:=@List.length_filter_le
abbrev zi:=@List.length_filter_lt_length_iff_exists
abbrev ED:=@List.length_map
abbrev iy:=@List.length_nil
abbrev Ek:=@List.length_pos_of_mem
abbrev tj:=@List.length_reverse
abbrev Ea:=@List.length_singleton
abbrev de:=@List.length_take
abbrev DI:=@List.mapM_cons
abbrev DN:=@List.map_append
abbrev ge:=@List.map_cons
abbrev vD:=@List.map_map
abbrev lV:=@List.mem_append
abbrev cT:=@List.mem_cons
abbrev gW:=@List.mem_cons_of_mem
abbrev rU:=@List.mem_cons_self
abbrev mW:=@List.mem_filter
abbrev ew:=@List.mem_map
abbrev fE:=@List.mem_of_getElem?
abbrev kx:=@List.mem_range
abbrev zV:=@List.mem_range'_1
abbrev Em:=@List.mem_reverse
abbrev ul:=@List.mem_singleton
abbrev dW:=@List.nil_append
abbrev Ey:=@List.nodup_append
abbrev xu:=@List.nodup_cons
abbrev rR:=@List.not_mem_nil
abbrev wl:=@List.range'_succ
abbrev tM:=@List.replicate_succ
abbrev wk:=@List.reverse_reverse
abbrev J1:=@List.set_eq_take_append_cons_drop
abbrev zH:=@List.size_toArray
abbrev rS:=@List.take_add_one
abbrev DX:=@List.take_append
abbrev tu:=@List.take_append_drop
abbrev tw:=@List.take_append_of_le_length
abbrev AD:=@List.take_left
abbrev ox:=@List.take_length
abbrev iv:=@List.take_of_length_le
abbrev oI:=@List.take_succ_cons
abbrev K9:=@List.take_succ_eq_append_getElem
abbrev zB:=@List.take_take
abbrev nA:=@List.take_zero
abbrev gN:=@Nat.add_assoc
abbrev pV:=@Nat.add_comm
abbrev gD:=@Nat.add_mul
abbrev wz:=@Nat.add_right_cancel_iff
abbrev D7:=@Nat.add_sub_cancel
abbrev C6:=@Nat.add_sub_cancel_left
abbrev ct:=@Nat.add_zero
abbrev iU:=@Nat.beq_eq
abbrev dF:=@Nat.ble_eq_true_of_le
abbrev Dj:=@Nat.div_le_self
abbrev Dm:=@Nat.div_mul_le_self
abbrev rW:=@Nat.div_one
abbrev bD:=@Nat.eq_of_beq_eq_true
abbrev zl:=@Nat.eq_zero_or_pos
abbrev zJ:=@Nat.le_add_right
abbrev Eg:=@Nat.le_max_left
abbrev aG:=@Nat.le_of_ble_eq_true
abbrev xp:=@Nat.le_of_eq
abbrev aQ:=@Nat.le_refl
abbrev pt:=@Nat.le_trans
abbrev yR:=@Nat.le_zero
abbrev D9:=@Nat.lt_irrefl
abbrev pK:=@Nat.lt_of_lt_of_le
abbrev aF:=@Nat.lt_or_ge
abbrev Ep:=@Nat.lt_trichotomy
abbrev rQ:=@Nat.min_eq_left
abbrev rG:=@Nat.mod_eq_of_lt
abbrev zo:=@Nat.mod_lt
abbrev EH:=@Nat.mul_assoc
abbrev tq:=@Nat.mul_comm
abbrev Es:=@Nat.mul_le_mul
abbrev nE:=@Nat.mul_le_mul_right
abbrev qo:=@Nat.mul_one
abbrev Ax:=@Nat.ne_of_lt
abbrev zk:=@Nat.one_le_pow
abbrev vP:=@Nat.one_mul
abbrev zj:=@Nat.or_comm
abbrev nG:=@Nat.pow_le_pow_right
abbrev rX:=@Nat.pow_succ
abbrev Ac:=@Nat.pow_zero
abbrev rF:=@Nat.sub_zero
abbrev dc:=@Nat.zero_add
abbrev dh:=@Nat.zero_le
abbrev Ak:=@Nat.zero_mul
abbrev Ei:=@Go.Oper.apart_spec
abbrev wn:=@Option.getD_some
abbrev Ai:=@Option.isSome_iff_exists
abbrev vI:=@Option.isSome_none
abbrev ir:=@Option.map_none
abbrev eO:=@Option.map_some
abbrev Ez:=@Option.none_or
abbrev aZ:=@Option.some.inj
abbrev ar:=@Option.some.injEq
abbrev bi:=@Prod.mk.injEq
abbrev ay:=@Go.Result.andThen_ok
abbrev xf:=@Go.Result.ok.injEq
abbrev aw:=@Go.Sem.run_bind
abbrev aA:=@Go.Sem.run_pure
abbrev tH:=@Sum.inr.inj
abbrev nI:=@Sum.inr.injEq
abbrev ga:=@UInt8.toNat_inj
abbrev D1:=@UInt8.toNat_ofNat'
abbrev wG:=@Go.World.alloc_eq
abbrev uh:=@and_congr_right
abbrev vH:=@and_true
abbrev aK:=@beq_eq_false_iff_ne
abbrev bv:=@beq_iff_eq
abbrev rO:=@beq_self_eq_true
abbrev dX:=@bne_self_eq_false
abbrev af:=@cond_false
abbrev aj:=@cond_true
abbrev ck:=@congrArg
abbrev oC:=@decide_eq_decide
abbrev am:=@decide_eq_false
abbrev uk:=@decide_eq_false_iff_not
abbrev aq:=@decide_eq_true
abbrev ci:=@decide_eq_true_eq
abbrev Dy:=@decide_eq_true_iff
abbrev mY:=@decide_false
abbrev nJ:=@decide_true
abbrev oY:=@exists_congr
abbrev xc:=@false_and
abbrev DC:=@forall_eq_or_imp
abbrev aC:=@if_false
abbrev ab:=@if_neg
abbrev ae:=@if_pos
abbrev aH:=@if_true
abbrev EK:=@not_false_eq_true
abbrev ub:=@not_true_eq_false
abbrev t8:=@or_false
abbrev vR:=@Go.run_loadCells_list
abbrev vt:=@Go.run_newObj
abbrev aT:=@Go.run_underlying
abbrev jg:=@true_and
end Go
namespace Go.Abs
inductive Lf where
 | i (k:IntKind)
 | bo
 | s
 deriving Inhabited,DecidableEq
@[reducible] def Lf.den:Lf->Type
 | .i _=>Int
 | .bo=>Bool
 | .s=>aa
@[reducible] def den:List Lf->Type
 | []=>Unit
 | [a]=>a.den
 | a::b::l=>a.den×den (b::l)
inductive V where
 | unk
 | pr (z b j o:Nat)
 | ws (b:Nat)
 | rs (z b j n:Nat) (cap:Option Nat)
 | b (x:Bool)
 | i (k:IntKind) (n:Int)
 | s (l:aa)
 | pn
 | p (b o:Nat)
 | sn
 | sl (b o len:Nat) (cap:Option Nat)
 | fn (f:Nat) (cap:List V)
 | nf
 | ni
 | it (t:Nat) (v:V)
 | ag (l:List V)
 | ai (k:IntKind) (n:Nat) (l:List Int)
 | tp (l:List V)
 | mp (b:Nat)
 deriving Inhabited
structure Rf where
 r:Nat
 n:Nat:=0
 k:Nat:=0
 o:Nat:=0
 fz:Bool:=false
abbrev Rf.of(r n k:Nat):Rf:=⟨r,n,k,0,false⟩
abbrev Inj:=Nat->Option (Option Rf)
def fnW(K f:Nat)(a:Array Value):Value:=
 match Nat.blt f K with
 | true=>.func (.func f) #[] a
 | false=>.func (.func (f - K)) a #[]
def fnV(f:Nat)(a:Array Value):Value:=fnW 1000000 f a
def Tq(K f:Nat)(a:Array Value):∃g b c,fnW K f a=.func (.func g) b c:=by
 unfold fnW;split
 ·exact⟨_,_,_,rfl⟩
 ·exact⟨_,_,_,rfl⟩
def xY(f:Nat)(a:Array Value):∃g b c,fnV f a=.func (.func g) b c:=Tq _ f a
def Qm{K f:Nat}(h:Nat.blt f K=true)(a:Array Value):fnW K f a=.func (.func f) #[] a:=by
 unfold fnW;rw[h]
def Di{f:Nat}(h:Nat.blt f 1000000=true)(a:Array Value):fnV f a=.func (.func f) #[] a:=Qm h a
def N2(K f:Nat)(a:Array Value):fnW K (f+K) a=.func (.func f) a #[]:=by
 unfold fnW;cases h:Nat.blt (f+K) K with
 | true=>have:f+K<K:=aG h;omega
 | false=>simp
def MU(f:Nat)(a:Array Value):fnV (f+1000000) a=.func (.func f) a #[]:=N2 _ f a
def fnFW(K f:Nat):Nat:=match Nat.blt f K with | true=>f | false=>f - K
def fnAW{α:Type}(K f:Nat)(args cap:List α):List α:=match Nat.blt f K with | true=>args++cap | false=>cap++args
def fnF(f:Nat):Nat:=fnFW 1000000 f
def fnA{α:Type}(f:Nat)(args cap:List α):List α:=fnAW 1000000 f args cap
def MC(c:Option Nat)(k:Nat):Prop:=∀m,c=some m->k=m
def jQ{k:Nat}:MC none k:=λ_ h=>by cases h
def qU{k:Nat}:MC (some k) k:=λ_ h=>by cases h;rfl
mutual
def VR(ι:Inj):V->Value->Prop
 | .b x,v=>v=.bool x
 | .i k n,v=>v=.int k n
 | .s l,v=>v=.string ⟨l.toArray⟩
 | .pn,v=>v=.pointer none
 | .p b o,v=>∃q,ι b=some (some q)/\v=.pointer (some ⟨q.r,o,none⟩)
 | .sn,v=>v=.slice none 0 0
 | .sl b o len cap,v=>∃q c,ι b=some (some q)/\(∀n,cap=some n->c=n)/\len<=c/\v=.slice (some ⟨q.r,o,none⟩) len c
 | .unk,v=>v.cells=#[v]/\v.oneCell'=true
 | .pr z b j o,v=>∃q,ι b=some (some q)/\v=.pointer (some ⟨q.r,q.o+(j*z+o),none⟩)
 | .ws b,v=>(∃q,ι b=some (some q)/\v=.slice (some ⟨q.r,q.o,none⟩) q.n q.k)\/(ι b=some none/\∃a,v=.slice a 0 0)
 | .rs z b j n e,v=>(∃q c o,ι b=some (some q)/\(n<=c/\MC e c)/\(0<n->o=q.o+j*z)/\v=.slice (some ⟨q.r,o,none⟩) n c)\/(ι b=some none/\(n=0/\MC e 0)/\∃a,v=.slice a 0 0)
 | .fn f cap,v=>∃d,v=fnV f d/\VRs ι cap d.toList
 | .nf,v=>v=.nilFunc
 | .ni,v=>v=.nilIface
 | .it t x,v=>∃y,v=.iface t y/\VR ι x y
 | .ag l,v=>∃d:Array Value,v=.agg d/\VRs ι l d.toList
 | .ai k n l,v=>l.length=n/\v=.agg (l.map (Value.int k)).toArray
 | .tp l,v=>∃d:Array Value,v=.tuple d/\VRs ι l d.toList
 | .mp b,v=>∃q,ι b=some (some q)/\v=.map (some q.r)
def VRs(ι:Inj):List V->List Value->Prop
 | [],a=>a=[]
 | x::l,a=>∃y ys,a=y::ys/\VR ι x y/\VRs ι l ys
end
mutual
def VR.mono{ι G:Inj}(h:∀b r,ι b=some r->G b=some r):∀(v:V) (x:Value),VR ι v x->VR G v x
 | .b _,_,hx | .i _ _,_,hx | .s _,_,hx | .pn,_,hx | .sn,_,hx | .nf,_,hx | .ni,_,hx | .ai _ _ _,_,hx | .unk,_,hx=>by simpa[VR]using hx
 | .p b o,x,hx | .pr z b j o,x,hx | .mp b,x,hx=>by
  simp only[VR]at hx ⊢;obtain⟨r,E,C⟩:=hx;exact⟨r,h _ _ E,C⟩
 | .ws b,x,hx=>by
  simp only[VR]at hx ⊢;rcases hx with⟨q,E,C⟩ | ⟨E,C⟩
  ·exact .inl ⟨q,h _ _ E,C⟩
  ·exact .inr ⟨h _ _ E,C⟩
 | .rs z b j n _,x,hx=>by
  simp only[VR]at hx ⊢;rcases hx with⟨q,c,o,E,C⟩ | ⟨E,C⟩
  ·exact .inl ⟨q,c,o,h _ _ E,C⟩
  ·exact .inr ⟨h _ _ E,C⟩
 | .sl b o len cap,x,hx=>by
  simp only[VR]at hx ⊢;obtain⟨r,c,E,C⟩:=hx;exact⟨r,c,h _ _ E,C⟩
 | .fn f cap,x,hx=>by
  simp only[VR]at hx ⊢;obtain⟨F,E,C⟩:=hx;exact⟨F,E,VRs.mono h _ _ C⟩
 | .it t v,x,hx=>by
  simp only[VR]at hx ⊢;obtain⟨y,E,C⟩:=hx;exact⟨y,E,VR.mono h _ _ C⟩
 | .ag l,x,hx=>by
  simp only[VR]at hx ⊢;obtain⟨F,E,C⟩:=hx;exact⟨F,E,VRs.mono h _ _ C⟩
 | .tp l,x,hx=>by
  simp only[VR]at hx ⊢;obtain⟨F,E,C⟩:=hx;exact⟨F,E,VRs.mono h _ _ C⟩
def VRs.mono{ι C:Inj}(h:∀b r,ι b=some r->C b=some r):∀(l:List V) (E:List Value),VRs ι l E->VRs C l E
 | [],_,hx=>by simpa[VRs]using hx
 | v::l,E,hx=>by
  simp only[VRs]at hx ⊢;obtain⟨y,ys,G,F,J⟩:=hx;exact⟨y,ys,G,VR.mono h _ _ F,VRs.mono h _ _ J⟩
end
def VRs.length{ι:Inj}:∀{l:List V} {xs:List Value},VRs ι l xs->xs.length=l.length
 | [],_,h=>by simp only[VRs]at h;simp[h]
 | _::_,_,h=>by
  simp only[VRs]at h;obtain⟨y,ys,rfl,_,C⟩:=h;simp[VRs.length C]
def VRs.get{ι:Inj}:∀{l:List V} {xs:List Value} {j:Nat} {v:V},VRs ι l xs->l[j]?=some v->∃x,xs[j]?=some x/\VR ι v x
 | [],_,_,_,_,C=>by simp at C
 | _::_,_,0,_,h,C=>by
  simp only[VRs]at h;obtain⟨y,ys,rfl,E,_⟩:=h;simp only[lO,ar]at C;subst C;exact⟨y,by simp,E⟩
 | _::_,_,j+1,_,h,C=>by
  simp only[VRs]at h;obtain⟨y,ys,rfl,_,F⟩:=h;simp only[EU]at C ⊢;exact VRs.get F C
def VRs.of_get{ι:Inj}:∀{l:List V} {C:List Value},C.length=l.length->(∀(j:Nat) (v:V) (x:Value),l[j]?=some v->C[j]?=some x->VR ι v x)->VRs ι l C
 | [],C,E,_=>by simp only[VRs];exact xw (by simpa using E)
 | v::l,[],E,_=>by simp at E
 | v::l,x::C,E,h=>by
  simp only[VRs];refine⟨x,C,rfl,h 0 v x (by simp) (by simp),VRs.of_get (by simpa using E) λj G O J F=>h (j+1) G O (by simpa using J) (by simpa using F)⟩
def VRs.append{ι:Inj}:∀{l:List V} {xs:List Value} {m:List V} {ys:List Value},VRs ι l xs->VRs ι m ys->VRs ι (l++m) (xs++ys)
 | [],_,_,_,h,C=>by simp only[VRs]at h;subst h;simpa using C
 | _::_,_,_,_,h,C=>by
  simp only[VRs]at h;obtain⟨y,ys,rfl,E,F⟩:=h;simp only[dq,VRs];exact⟨y,_,rfl,E,VRs.append F C⟩
def VRs.drop{ι:Inj}:∀{l:List V} {xs:List Value} (n:Nat),VRs ι l xs->VRs ι (l.drop n) (xs.drop n)
 | _,_,0,h=>by simpa using h
 | [],_,_+1,h=>by simp only[VRs]at h;subst h;simp[VRs]
 | _::_,_,n+1,h=>by
  simp only[VRs]at h;obtain⟨y,ys,rfl,_,C⟩:=h;simpa using VRs.drop n C
def VRs.take{ι:Inj}:∀{l:List V} {xs:List Value} (n:Nat),VRs ι l xs->VRs ι (l.take n) (xs.take n)
 | _,_,0,_=>by simp[VRs]
 | [],_,_+1,h=>by simp only[VRs]at h;subst h;simp[VRs]
 | _::_,_,n+1,h=>by
  simp only[VRs]at h;obtain⟨y,ys,rfl,C,E⟩:=h;simp only[oI,VRs];exact⟨y,_,rfl,C,VRs.take n E⟩
def VRs.set{ι:Inj}:∀{l:List V} {xs:List Value} (n:Nat) {v:V} {x:Value},VRs ι l xs->VR ι v x->VRs ι (l.set n v) (xs.set n x)
 | [],_,_,_,_,h,_=>by simp only[VRs]at h;subst h;simp[VRs]
 | _::_,_,0,_,_,h,C=>by
  simp only[VRs]at h;obtain⟨y,ys,rfl,_,E⟩:=h;simp only[List.set_cons_zero,VRs];exact⟨_,_,rfl,C,E⟩
 | _::_,_,n+1,_,_,h,C=>by
  simp only[VRs]at h;obtain⟨y,ys,rfl,F,E⟩:=h;simp only[List.set_cons_succ,VRs];exact⟨_,_,rfl,F,VRs.set n E C⟩
def VRs.ints{ι:Inj}(k:IntKind):∀(l:List Int),VRs ι (l.map (V.i k)) (l.map (Value.int k))
 | []=>by simp[VRs]
 | n::l=>by simp only[ge,VRs];exact⟨_,_,rfl,by simp[VR],VRs.ints k l⟩
def Lf.toV:(a:Lf)->a.den->V
 | .i k,n=>.i k n
 | .bo,x=>.b x
 | .s,l=>.s l
def Lf.val:(a:Lf)->a.den->Value
 | .i k,n=>.int k n
 | .bo,x=>.bool x
 | .s,l=>.string ⟨l.toArray⟩
def cells:(t:List Lf)->den t->List V
 | [],_=>[]
 | [a],x=>[a.toV x]
 | a::b::l,x=>a.toV x.1::cells (b::l) x.2
def vals:(t:List Lf)->den t->List Value
 | [],_=>[]
 | [a],x=>[a.val x]
 | a::b::l,x=>a.val x.1::vals (b::l) x.2
def Lf.ok(ι:Inj):∀(a:Lf) (x:a.den),VR ι (a.toV x) (a.val x)
 | .i _,_=>by simp[Lf.toV,Lf.val,VR]
 | .bo,_=>by simp[Lf.toV,Lf.val,VR]
 | .s,_=>by simp[Lf.toV,Lf.val,VR]
def Lf.ok_iff(ι:Inj):∀(a:Lf) (x:a.den) (y:Value),VR ι (a.toV x) y↔y=a.val x
 | .i _,_,_=>by simp[Lf.toV,Lf.val,VR]
 | .bo,_,_=>by simp[Lf.toV,Lf.val,VR]
 | .s,_,_=>by simp[Lf.toV,Lf.val,VR]
def mU(ι:Inj):∀(t:List Lf) (x:den t) (ys:List Value),VRs ι (cells t x) ys↔ys=vals t x
 | [],_,ys=>by simp[cells,vals,VRs]
 | [a],x,ys=>by
  simp only[cells,vals,VRs];constructor
  ·rintro⟨y,c,rfl,h,rfl⟩;rw[(a.ok_iff ι x y).1 h]
  ·rintro rfl;exact⟨_,_,rfl,a.ok ι x,rfl⟩
 | a::b::l,x,ys=>by
  simp only[cells,vals,VRs];constructor
  ·rintro⟨y,c,rfl,h,d⟩;rw[(a.ok_iff ι _ y).1 h,(mU ι (b::l) x.2 c).1 d]
  ·rintro rfl;exact⟨_,_,rfl,a.ok ι _,(mU ι (b::l) x.2 _).2 rfl⟩
def kw:∀(t:List Lf) (x:den t),(cells t x).length=t.length
 | [],_=>rfl
 | [_],_=>rfl
 | _::b::l,x=>by simp[cells,kw (b::l) x.2]
def jA:∀(t:List Lf) (x:den t),(vals t x).length=t.length
 | [],_=>rfl
 | [_],_=>rfl
 | _::b::l,x=>by simp[vals,jA (b::l) x.2]
inductive Blk where
 | dead
 | rows (t:List Lf) (l:List (den t))
 | cells (l:List V)
 | ints (k:IntKind) (n:Nat) (l:List Int)
 | iter (s:aa) (pos:Nat)
 | mp (k:IntKind) (l:List (Int×Nat))
 deriving Inhabited
def NF(fr:Nat×Nat)(n:Nat):Prop:=∀j,j<n->¬(fr.1<=j/\j<fr.2)
def BR(ι:Inj)(q:Rf):Blk->Obj->Prop
 | .dead,_=>True
 | .rows t l,o=>∃a e fr,o=.cells a e fr/\l.length=q.n/\q.n<=q.k/\q.o+q.k*t.length<=a.size/\(a.toList.drop q.o).take (l.length*t.length)=l.flatMap (vals t)/\(q.fz=true\/NF fr a.size)
 | .cells l,o=>∃a e fr,o=.cells a e fr/\VRs ι l a.toList/\NF fr a.size
 | .ints k n l,o=>∃e fr,o=.cells (l.map (Value.int k)).toArray e fr/\l.length=n/\NF fr n
 | .iter s pos,o=>o=.stringIter ⟨s.toArray⟩ pos
 | .mp k l,o=>∃c b,o=.map c b/\c.toList.map (λe=>(e.key,e.val))=l.map λp=>(Value.int k p.1,fnV p.2 #[])
def BR.mono{ι E:Inj}{q:Rf}(h:∀b r,ι b=some r->E b=some r):∀{blk:Blk} {o:Obj},BR ι q blk o->BR E q blk o
 | .dead,_,_=>trivial
 | .rows t l,o,C=>C
 | .cells l,o,C=>by
  obtain⟨G,e,fr,J,F,O⟩:=C;exact⟨G,e,fr,J,VRs.mono h _ _ F,O⟩
 | .ints k n l,o,C=>C
 | .iter s pos,o,C=>C
 | .mp k l,o,C=>C
def look{α:Type}:List (Nat×α)->Nat->Option α
 | [],_=>none
 | (k,v)::l,n=>cond (Nat.beq k n) (some v) (look l n)
def aR{α:Type}(k:Nat)(v:α)(l:List (Nat×α))(n:Nat):look ((k,v)::l) n=if k=n then some v else look l n:=by
 simp only[look];by_cases h:k=n
 ·subst h;simp
 ·have:Nat.beq k n=false:=by
   cases a:Nat.beq k n
   ·rfl
   ·exact absurd (bD a) h
  simp[this,h]
structure St where
 T:List (Nat×Option V)
 H:List (Nat×Blk)
 nb:Nat
 lo:Nat:=0
 ro:Nat:=0
 rb:Nat:=0
 deriving Inhabited
def TR(ι:Inj)(T:List (Nat×Option V))(a:Array Value):Prop:=
 ∀t v,look T t=some (some v)->∃x,a[t]?=some x/\VR ι v x
def BW(ι:Inj)(w:World)(b:Nat)(blk:Blk):Prop:=
 (∃q o,ι b=some (some q)/\w.heap[q.r]?=some o/\BR ι q blk o)\/(ι b=some none/\∃t,blk=.rows t [])
structure WR(ι:Inj)(H:List (Nat×Blk))(nb:Nat)(w:World):Prop where
 inj:∀b b' q q',ι b=some (some q)->ι b'=some (some q')->q.r=q'.r->b=b'\/(q.fz=true/\q'.fz=true)
 low:∀b q,ι b=some q->b<nb
 dom:∀b q,ι b=some (some q)->q.r<w.heap.size
 blk:∀b blk,look H b=some blk->blk≠.dead->BW ι w b blk
def BW.real{ι:Inj}{w:World}{b:Nat}{blk:Blk}(h:BW ι w b blk)(C:∀t,blk≠.rows t []):∃q o,ι b=some (some q)/\w.heap[q.r]?=some o/\BR ι q blk o:=by
 rcases h with h | ⟨_,t,h⟩
 ·exact h
 ·exact absurd h (C t)
def BW.map{ι E:Inj}{w w':World}{b J:Nat}{blk C:Blk}(h:BW ι w b blk)(O:E J=ι b)(U:∀q,ι b=some (some q)->w'.heap[q.r]?=w.heap[q.r]?)
  (Q:∀q o,BR ι q blk o->BR E q C o) (X:∀t,blk=.rows t []->C=.rows t []):BW E w' J C:=by
 rcases h with⟨q,o,F,G,W⟩ | ⟨F,t,G⟩
 ·exact .inl ⟨q,o,by rw[O,F],by rw[U q F,G],Q q o W⟩
 ·exact .inr ⟨by rw[O,F],t,X t G⟩
structure Fr(ι0:Inj)(w0 w:World):Prop where
 os:w.os=w0.os
 tape:w.tape=w0.tape
 output:w.output=w0.output
 size:w0.heap.size<=w.heap.size
 blk:∀k,k<w0.heap.size->(∀b q,ι0 b=some (some q)->q.r≠k)->w.heap[k]?=w0.heap[k]?
def Fr.refl(ι0:Inj)(w:World):Fr ι0 w w:=⟨rfl,rfl,rfl,aQ _,λ_ _ _=>rfl⟩
def roI(ι0:Inj)(ro:Nat):Inj:=λb=>cond (Nat.blt b ro) none (ι0 b)
def oJ{ι0:Inj}{ro b:Nat}{r:Option Rf}(h:roI ι0 ro b=some r):ι0 b=some r:=by
 unfold roI at h;cases a:Nat.blt b ro with
 | true=>simp[a]at h
 | false=>simpa[a]using h
def JX{ι0:Inj}{ro b:Nat}{r:Option Rf}(h:roI ι0 ro b=some r):ro<=b:=by
 unfold roI at h;rcases aF b ro with a | a
 ·rw[show Nat.blt b ro=true from dF a]at h;cases h
 ·exact a
def A3{ι0:Inj}{ro b:Nat}{r:Option Rf}(h:ι0 b=some r)(a:ro<=b):roI ι0 ro b=some r:=by
 have:Nat.blt b ro=false:=by
  cases hx:Nat.blt b ro with
  | false=>rfl
  | true=>have:b<ro:=aG hx;omega
 simp[roI,this,h]
def GL(R:Inj)(w:World):Prop:=∃L:List (Nat×Obj),Tm L/\(∀x∈L,w.heap[x.1]?=some x.2)/\∀x∈L,∀b q,R b=some (some q)->q.r≠x.1
def GL.mono{R G:Inj}{w:World}(h:GL R w)(Q:∀b q,G b=some (some q)->(∃E C,R E=some (some C)/\C.r=q.r)\/w.heap.size<=q.r):GL G w:=by
 obtain⟨L,U,F,W⟩:=h;refine⟨L,U,F,λx hx b q X=>?_⟩;rcases Q b q X with⟨E,C,J,O⟩ | J
 ·rw[<-O];exact W x hx E C J
 ·have hs:x.1<w.heap.size:=by
   rcases aF x.1 w.heap.size with h | h
   ·exact h
   ·have:=F x hx;rw[xj h]at this;cases this
  omega
structure Base where
 w:World
 D:List Deferred:=[]
structure Inv(n:Nat)(ι0:Inj)(w0:Base)(ι:Inj)(s:St)(a:Act)(w:World):Prop where
 size:a.tmps.size=n
 defers:a.defers=w0.D
 tmps:TR ι s.T a.tmps
 mem:WR ι s.H s.nb w
 ext:∀b q,ι0 b=some q->ι b=some q\/s.rb<=b
 new:∀b q,ι b=some (some q)->(∃q',ι0 b=some (some q')/\q'.r=q.r)\/w0.w.heap.size<=q.r
 fr:Fr (roI ι0 s.ro) w0.w w
 low:∀b r,ι0 b=some r->b<s.lo
 fz:∀b q,ι b=some (some q)->q.fz=true->b<s.ro
 gl:GL (roI ι0 s.ro) w0.w
def Inv.glHere{n:Nat}{ι0 ι:Inj}{w0:Base}{s:St}{a:Act}{w:World}(h:Inv n ι0 w0 ι s a w){R:Inj}(O:∀b q,R b=some (some q)->ι b=some (some q)/\s.ro<=b):GL R w:=by
 obtain⟨L,W,C,F⟩:=h.gl;have hs:∀x∈L,x.1<w0.w.heap.size:=by
  intro x hx;rcases aF x.1 w0.w.heap.size with h | h
  ·exact h
  ·have:=C x hx;rw[xj h]at this;cases this
 refine⟨L,W,λx hx=>?_,λx hx b q X=>?_⟩
 ·rw[h.fr.blk x.1 (hs x hx) (F x hx)];exact C x hx
 ·obtain⟨Q,J⟩:=O b q X;rcases h.new b q Q with⟨G,E,U⟩ | E
  ·rw[<-U];exact F x hx b G (A3 E J)
  ·have:=hs x hx;omega
def upd(ι:Inj)(b:Nat)(r:Option Rf):Inj:=λc=>if c=b then some r else ι c
def oL{ι:Inj}{b:Nat}{r:Option Rf}(h:ι b=none):∀c q,ι c=some q->upd ι b r c=some q:=by
 intro c q hc;unfold upd;split
 ·rename_i e;subst e;rw[h]at hc;cases hc
 ·exact hc
def TR.mono{ι C:Inj}(h:∀b r,ι b=some r->C b=some r){T:List (Nat×Option V)}{E:Array Value}(G:TR ι T E):TR C T E:=
 λt v F=>let⟨x,h1,h2⟩:=G t v F;⟨x,h1,VR.mono h _ _ h2⟩
def TR.put{ι:Inj}{T:List (Nat×Option V)}{a:Act}{d:Nat}{v:Option V}{x:Value}(O:TR ι T a.tmps)(hd:d<a.tmps.size)
  (J:∀u,v=some u->VR ι u x):TR ι ((d,v)::T) (a.put (some d) x).tmps:=by
 intro t u C;rw[aR]at C;simp only[Act.put];split at C
 ·rename_i e;subst e;simp only[ar]at C;exact⟨x,by simp[hd],J u C⟩
 ·rename_i E;obtain⟨y,G,F⟩:=O t u C;exact⟨y,by rw[Qo E];exact G,F⟩
def setObj(w:World)(r:Nat)(o:Obj):World:={ w with heap:=w.heap.setIfInBounds r o }
def lp(w:World)(o:Obj):(w.alloc o).heap[w.heap.size]?=some o:=by
 show(w.heap.push o)[w.heap.size]?=some o;simp
def jt(w:World)(o:Obj){k:Nat}(h:k≠w.heap.size):(w.alloc o).heap[k]?=w.heap[k]?:=by
 show(w.heap.push o)[k]?=_;rw[Array.getElem?_push,ab h]
def ue{w:World}{r:Nat}{o:Obj}(h:w.heap[r]?=some o):r<w.heap.size:=by
 rcases aF r w.heap.size with a | a
 ·exact a
 ·simp[xj a]at h
def WR.draws{ι:Inj}{H:List (Nat×Blk)}{nb:Nat}{w:World}(h:WR ι H nb w)(n:Nat):WR ι H nb { w with drawn:=n }:=
 ⟨h.inj,h.low,h.dom,h.blk⟩
def rr{w:World}{r k:Nat}(o:Obj)(h:r≠k):(setObj w r o).heap[k]?=w.heap[k]?:=by
 simp[setObj,Qo h]
def WR.write{ι:Inj}{H:List (Nat×Blk)}{nb b:Nat}{q:Rf}{w:World}{blk:Blk}{o:Obj}(h:WR ι H nb w)(G:ι b=some (some q))(U:q.fz=false)(Q:BR ι q blk o):
  WR ι ((b,blk)::H) nb (setObj w q.r o):=by
 have O:=h.dom b q G;refine⟨h.inj,h.low,λc q hc=>by simpa[setObj]using h.dom c q hc,λc E C hd=>?_⟩;rw[aR]at C;split at C
 ·rename_i e;subst e;simp only[ar]at C;subst C;exact .inl ⟨q,o,G,by simp[setObj,O],Q⟩
 ·rename_i F;exact(h.blk c E C hd).map rfl (λp hp=>rr o λe=>(h.inj b c q p G hp e).elim F λJ=>by rw[U]at J;cases J.1) (λ_ _ x=>x) (λ_ x=>x)
def WR.alloc{ι:Inj}{H:List (Nat×Blk)}{nb C f:Nat}{q:Rf}{w:World}{blk:Blk}{o:Obj}(h:WR ι H nb w)(hf:ι f=none)(hn:nb<=C)(U:f<C)
  (hq:q.r=w.heap.size) (Y:BR (upd ι f (some q)) q blk o):WR (upd ι f (some q)) ((f,blk)::H) C (w.alloc o):=by
 have O:=oL (r:=some q) hf;refine⟨λb b' r r' F E X=>?_,λc p hc=>?_,λc p hc=>?_,λc J G hd=>?_⟩
 ·unfold upd at F E;split at F<;>split at E
  ·rename_i Z W;exact .inl (Z.trans W.symm)
  ·simp only[ar]at F;subst F;have:=h.dom _ _ E;omega
  ·simp only[ar]at E;subst E;have:=h.dom _ _ F;omega
  ·exact h.inj _ _ _ _ F E X
 ·unfold upd at hc;split at hc
  ·rename_i e;subst e;exact U
  ·have:=h.low _ _ hc;omega
 ·unfold upd at hc;split at hc
  ·simp only[ar]at hc;subst hc;simp;omega
  ·have:=h.dom _ _ hc;simp;omega
 ·rw[aR]at G;split at G
  ·rename_i e;subst e;simp only[ar]at G;subst G;exact .inl ⟨q,o,by simp[upd],by rw[hq];exact lp w o,Y⟩
  ·rename_i Q;refine(h.blk c J G hd).map (by simp[upd,Ne.symm Q]) (λp hp=>?_) (λ_ _ x=>BR.mono O x) (λ_ x=>x);have:=h.dom _ _ hp;exact jt w o (by omega)
def Fr.draws{ι0:Inj}{w0 w:World}(h:Fr ι0 w0 w)(n:Nat):Fr ι0 w0 { w with drawn:=n }:=⟨h.os,h.tape,h.output,h.size,h.blk⟩
def Fr.alloc{ι0:Inj}{w0 w:World}(h:Fr ι0 w0 w)(o:Obj):Fr ι0 w0 (w.alloc o):=by
 refine⟨h.os,h.tape,h.output,by have:=h.size;simp;omega,λk E C=>?_⟩;have:=h.size;rw[jt w o (by omega)];exact h.blk k E C
def Fr.write{ι0:Inj}{w0 w:World}(h:Fr ι0 w0 w){r:Nat}(F:(∃b q,ι0 b=some (some q)/\q.r=r)\/w0.heap.size<=r)(o:Obj):Fr ι0 w0 (setObj w r o):=by
 refine⟨h.os,h.tape,h.output,by simpa[setObj]using h.size,λk J G=>?_⟩;have C:r≠k:=by
  rintro rfl;rcases F with⟨b,q,E,O⟩ | F
  ·exact G b q E O
  ·omega
 simp only[setObj,Qo C];exact h.blk k J G
def bC{w:World}{r o:Nat}{a:Array Value}{e:TypeId}{fr:Nat×Nat}(h:w.heap[r]?=some (.cells a e fr)):
  w.cell? ⟨r,o,none⟩=a[o]?:=by
 simp[World.cell?,h]
def qi{w:World}{r o:Nat}{a:Array Value}{e:TypeId}{fr:Nat×Nat}(h:w.heap[r]?=some (.cells a e fr))(c:NF fr a.size)(b:o<a.size):
  w.frozen? ⟨r,o,none⟩=false:=by
 have:=c o b;simp only[World.frozen?,h];by_cases f:fr.1<=o<;>by_cases d:o<fr.2<;>simp_all
def Be{w:World}{r o:Nat}{v:Value}{b:Array Value}{e:TypeId}{fr:Nat×Nat}(h:w.heap[r]?=some (.cells b e fr)):
  w.setCell ⟨r,o,none⟩ v=setObj w r (.cells (b.setIfInBounds o v) e fr):=by
 unfold World.setCell setObj;congr 1;apply Rk;intro k;rw[Array.getElem?_modify,Q8];have c:=ue h;by_cases a:r=k
 ·subst a;rw[ae rfl,ae rfl,ae c,h];simp
 ·rw[ab a,ab a]
def Af(w:World)(r:Nat)(o a:Obj):setObj (setObj w r o) r a=setObj w r a:=by
 simp[setObj]
def D3{w:World}{r:Nat}{o:Obj}(h:w.heap[r]?=some o):setObj w r o=w:=by
 unfold setObj;congr 1;apply Rk;intro k;rw[Q8];by_cases a:r=k
 ·subst a;rw[ae rfl,ae (ue h),h]
 ·rw[ab a]
def wi{w:World}{r:Nat}{o a:Obj}(h:w.heap[r]?=some o):(setObj w r a).heap[r]?=some a:=by
 have b:=ue h;simp[setObj,b]
end Go.Abs
