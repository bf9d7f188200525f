
/- The abstract values and the abstract memory of the interpreter, and how they relate to the model's own.
   Conditions: none; everything here is generic over the program. -/
import Derived.Tactics
import Derived.Below
import Derived.Test.YthemneooekobkaaGreatDoorGlob
set_option linter.unusedSimpArgs false
set_option linter.unusedVariables false
namespace Go
abbrev aa:=List UInt8
abbrev lP:=@Array.ext'
abbrev Tn:=@Array.ext_getElem?
abbrev rq:=@Array.getD_eq_getD_getElem?
abbrev VT:=@Array.getElem?_append_left
abbrev Wt:=@Array.getElem?_eq_getElem
abbrev wx:=@Array.getElem?_eq_none
abbrev WP:=@Array.getElem?_replicate
abbrev Ui:=@Array.getElem?_setIfInBounds
abbrev VF:=@Array.getElem?_setIfInBounds_ne
abbrev qJ:=@Array.getElem?_toList
abbrev Nj:=@Array.length_toList
abbrev SG:=@Array.mapM_eq_mapM_toList
abbrev Ir:=@Array.map_empty
abbrev xc:=@Array.toList_append
abbrev wb:=@BEq.rfl
abbrev Fg:=@Bool.and_eq_false_iff
abbrev az:=@Bool.and_eq_true
abbrev Ao:=@Bool.and_false
abbrev D3:=@Bool.and_true
abbrev tz:=@Bool.eq_iff_iff
abbrev yT:=@Bool.false_and
abbrev bz:=@Bool.false_eq_true
abbrev oO:=@Bool.false_or
abbrev Jb:=@Bool.not_eq_true
abbrev jW:=@Bool.not_eq_true'
abbrev jx:=@Bool.not_false
abbrev du:=@Bool.not_true
abbrev oV:=@Bool.or_eq_false_iff
abbrev ip:=@Bool.or_eq_true
abbrev yF:=@Bool.or_false
abbrev qZ:=@Bool.true_and
abbrev Hm:=@Bool.true_or
abbrev KO:=@ByteArray.ext
abbrev Hq:=@Classical.em
abbrev uB:=@Go.Code.wp_mono
abbrev IT:=@Go.DataW.trod_int
abbrev Lx:=@Decidable.not_not
abbrev NW:=@Int.dvd_of_emod_eq_zero
abbrev LK:=@Int.emod_lt_of_pos
abbrev Nx:=@Int.emod_nonneg
abbrev uZ:=@Int.le_refl
abbrev AY:=@Int.mul_comm
abbrev SL:=@Int.mul_le_mul_of_nonneg_right
abbrev Ig:=@Int.natCast_mul
abbrev LF:=@Int.sub_add_cancel
abbrev Sv:=@Int.tdiv_eq_ediv_of_nonneg
abbrev Pe:=@Int.tmod_eq_emod
abbrev M6:=@Int.tmod_eq_emod_of_nonneg
abbrev bO:=@Int.toNat_natCast
abbrev IS:=@Int.toNat_of_nonneg
abbrev Az:=@Int.zero_sub
abbrev HS:=@Go.IntKind.wrap_i64
abbrev EG:=@List.all_append
abbrev nz:=@List.all_cons
abbrev bW:=@List.all_eq_true
abbrev tw:=@List.any_append
abbrev rh:=@List.any_cons
abbrev ta:=@List.any_eq_false
abbrev tf:=@List.any_eq_true
abbrev fQ:=@List.append_assoc
abbrev kR:=@List.append_nil
abbrev DC:=@List.cons.injEq
abbrev eK:=@List.cons_append
abbrev OH:=@List.countP_cons
abbrev iO9:=@List.drop_append
abbrev jv:=@List.drop_drop
abbrev rP:=@List.drop_eq_getElem_cons
abbrev jt:=@List.drop_eq_nil_of_le
abbrev EM:=@List.drop_left'
abbrev yb:=@List.drop_length
abbrev oM:=@List.drop_succ_cons
abbrev xZ:=@List.drop_take
abbrev cU:=@List.drop_zero
abbrev tj:=@List.eq_nil_of_length_eq_zero
abbrev zP:=@List.ext_getElem?
abbrev M9:=@List.filter_append
abbrev Td:=@List.filter_cons_of_neg
abbrev SE:=@List.filter_cons_of_pos
abbrev Ij:=@List.filter_filter
abbrev EN:=@List.findSome?_cons
abbrev SC:=@List.findSome?_eq_none_iff
abbrev Ik:=@List.flatMap_append
abbrev pV:=@List.flatMap_cons
abbrev I7:=@List.foldl_append
abbrev vU:=@List.foldl_cons
abbrev Iq:=@List.foldl_nil
abbrev E9:=@List.getD_eq_getElem?_getD
abbrev oe:=@List.getElem?_append_left
abbrev ra:=@List.getElem?_append_right
abbrev HF:=@List.getElem?_cons_succ
abbrev lR:=@List.getElem?_cons_zero
abbrev lV:=@List.getElem?_drop
abbrev aT:=@List.getElem?_eq_getElem
abbrev ga:=@List.getElem?_eq_none
abbrev qX:=@List.getElem?_eq_some_iff
abbrev nr:=@List.getElem?_map
abbrev N9:=@List.getElem?_set_self
abbrev L6:=@List.getElem?_take
abbrev qf:=@List.getElem?_take_of_lt
abbrev Jg:=@List.getElem_mem
abbrev o5:=@List.head?_cons
abbrev BS:=@List.isEmpty_eq_false_iff
abbrev aO:=@List.length_append
abbrev aC:=@List.length_cons
abbrev bN:=@List.length_drop
abbrev Cf:=@List.length_filter_le
abbrev BX:=@List.length_filter_lt_length_iff_exists
abbrev vH:=@List.length_map
abbrev bh:=@List.length_nil
abbrev GP:=@List.length_pos_of_mem
abbrev vP:=@List.length_reverse
abbrev FU:=@List.length_set
abbrev cV:=@List.length_take
abbrev zb:=@List.mapM_cons
abbrev FD:=@List.map_append
abbrev ge:=@List.map_cons
abbrev ud:=@List.map_map
abbrev lg:=@List.mem_append
abbrev cN:=@List.mem_cons
abbrev f7:=@List.mem_cons_of_mem
abbrev nl:=@List.mem_cons_self
abbrev mg:=@List.mem_filter
abbrev eG:=@List.mem_map
abbrev fc:=@List.mem_of_getElem?
abbrev MH:=@List.mem_or_eq_of_mem_set
abbrev jA:=@List.mem_range
abbrev uk:=@List.mem_range'_1
abbrev Gu:=@List.mem_reverse
abbrev uf:=@List.mem_singleton
abbrev dS:=@List.nil_append
abbrev FG:=@List.nodup_append
abbrev xy:=@List.nodup_cons
abbrev o7:=@List.not_mem_nil
abbrev yG:=@List.range'_succ
abbrev uq:=@List.replicate_succ
abbrev yQ:=@List.reverse_reverse
abbrev MA:=@List.set_eq_take_append_cons_drop
abbrev Gy:=@List.singleton_append
abbrev y4:=@List.size_toArray
abbrev qp:=@List.take_add_one
abbrev Hg:=@List.take_append
abbrev ur:=@List.take_append_drop
abbrev vp:=@List.take_append_of_le_length
abbrev BB:=@List.take_left
abbrev nq:=@List.take_length
abbrev js:=@List.take_of_length_le
abbrev np:=@List.take_succ_cons
abbrev K3:=@List.take_succ_eq_append_getElem
abbrev A9:=@List.take_take
abbrev nj:=@List.take_zero
abbrev gO:=@Nat.add_assoc
abbrev pw:=@Nat.add_comm
abbrev iq:=@Nat.add_mul
abbrev yn:=@Nat.add_right_cancel_iff
abbrev Gv:=@Nat.add_sub_cancel
abbrev Gg:=@Nat.add_sub_cancel_left
abbrev cM:=@Nat.add_zero
abbrev jG:=@Nat.beq_eq
abbrev cP:=@Nat.ble_eq_true_of_le
abbrev FK:=@Nat.div_le_self
abbrev FT:=@Nat.div_mul_le_self
abbrev uc:=@Nat.div_one
abbrev bB:=@Nat.eq_of_beq_eq_true
abbrev Ce:=@Nat.eq_zero_or_pos
abbrev Da:=@Nat.le_add_right
abbrev FI:=@Nat.le_max_left
abbrev aL:=@Nat.le_of_ble_eq_true
abbrev zi:=@Nat.le_of_eq
abbrev aX:=@Nat.le_refl
abbrev rQ:=@Nat.le_trans
abbrev CM:=@Nat.le_zero
abbrev GA:=@Nat.lt_irrefl
abbrev pi:=@Nat.lt_of_lt_of_le
abbrev aH:=@Nat.lt_or_ge
abbrev G2:=@Nat.lt_trichotomy
abbrev tL:=@Nat.min_eq_left
abbrev G8:=@Nat.min_le_right
abbrev rG:=@Nat.mod_eq_of_lt
abbrev sc:=@Nat.mod_lt
abbrev Hf:=@Nat.mul_assoc
abbrev vi:=@Nat.mul_comm
abbrev zy:=@Nat.mul_le_mul
abbrev o8:=@Nat.mul_le_mul_right
abbrev rD:=@Nat.mul_one
abbrev CV:=@Nat.ne_of_lt
abbrev CO:=@Nat.one_le_pow
abbrev xH:=@Nat.one_mul
abbrev BM:=@Nat.or_comm
abbrev ly:=@Nat.pow_le_pow_right
abbrev um:=@Nat.pow_succ
abbrev Cj:=@Nat.pow_zero
abbrev B5:=@Nat.sub_self
abbrev ub:=@Nat.sub_zero
abbrev BH:=@Nat.succ_mul
abbrev dc:=@Nat.zero_add
abbrev kE:=@Nat.zero_le
abbrev CC:=@Nat.zero_mul
abbrev G3:=@Go.Oper.apart_spec
abbrev C5:=@Option.bind_eq_some_iff
abbrev xW:=@Option.getD_some
abbrev Cb:=@Option.isSome_iff_exists
abbrev xP:=@Option.isSome_none
abbrev F8:=@Option.map_eq_some_iff
abbrev jl:=@Option.map_none
abbrev fg:=@Option.map_some
abbrev GB:=@Option.none_or
abbrev bm:=@Option.some.inj
abbrev av:=@Option.some.injEq
abbrev bM:=@Prod.mk.injEq
abbrev aA:=@Go.Result.andThen_ok
abbrev yw:=@Go.Result.ok.injEq
abbrev ay:=@Go.Sem.run_bind
abbrev aF:=@Go.Sem.run_pure
abbrev pa:=@Sum.inr.injEq
abbrev gD:=@UInt8.toNat_inj
abbrev Gz:=@UInt8.toNat_ofNat'
abbrev zw:=@Go.World.alloc_eq
abbrev FH:=@Go.World.cells?_some
abbrev vk:=@and_congr_right
abbrev uj:=@and_true
abbrev aI:=@beq_eq_false_iff_ne
abbrev bp:=@beq_iff_eq
abbrev vG:=@beq_self_eq_true
abbrev fC:=@bne_self_eq_false
abbrev af:=@cond_false
abbrev ah:=@cond_true
abbrev cD:=@congrArg
abbrev n8:=@decide_eq_decide
abbrev ar:=@decide_eq_false
abbrev tN:=@decide_eq_false_iff_not
abbrev aq:=@decide_eq_true
abbrev cg:=@decide_eq_true_eq
abbrev GE:=@decide_eq_true_iff
abbrev oC:=@decide_false
abbrev o9:=@decide_true
abbrev qk:=@exists_congr
abbrev xi:=@false_and
abbrev A5:=@forall_eq_or_imp
abbrev aE:=@if_false
abbrev ab:=@if_neg
abbrev ae:=@if_pos
abbrev aM:=@if_true
abbrev He:=@not_false_eq_true
abbrev vj:=@not_true_eq_false
abbrev qi:=@or_false
abbrev yq:=@Go.run_loadCells_list
abbrev xw:=@Go.run_newObj
abbrev aY:=@Go.run_underlying
abbrev kP:=@true_and
end Go
namespace Go.Abs
inductive Lf where
 | i (k:IntKind)
 | bo
 | s
 deriving Inhabited,DecidableEq
@[reducible] def Lf.den:Lf->Type
 | .i _=>Int
 | .bo=>Bool
 | .s=>aa
@[reducible] def den:List Lf->Type
 | []=>Unit
 | [a]=>a.den
 | a::b::l=>a.den×den (b::l)
inductive V where
 | unk
 | pr (z b j o:Nat)
 | ws (b:Nat)
 | rs (z b j n:Nat) (cap:Option Nat)
 | b (x:Bool)
 | i (k:IntKind) (n:Int)
 | s (l:aa)
 | pn
 | p (b o:Nat)
 | sn
 | sl (b o len:Nat) (cap:Option Nat)
 | fn (f:Nat) (cap:List V)
 | nf
 | ni
 | it (t:Nat) (v:V)
 | ag (l:List V)
 | ai (k:IntKind) (n:Nat) (l:List Int)
 | tp (l:List V)
 | mp (b:Nat)
 deriving Inhabited
structure Rf where
 r:Nat
 n:Nat:=0
 k:Nat:=0
  /-- Of a block of rows: where the rows begin. -/
 o:Nat:=0
  /-- Is it only read? Then others may lie there, too. -/
 fz:Bool:=false
abbrev Rf.of (r n k:Nat):Rf:=⟨r,n,k,0,false⟩
abbrev Inj:=Nat->Option (Option Rf)
def fnW (K f:Nat) (a:Array Value):Value:=
 match Nat.blt f K with
 | true=>.func (.func f) #[] a
 | false=>.func (.func (f - K)) a #[]
def fnV (f:Nat) (a:Array Value):Value:=fnW 1000000 f a
theorem WI (K f:Nat) (a:Array Value):∃g b c,fnW K f a=.func (.func g) b c:=by
 unfold fnW;split
 ·exact ⟨_,_,_,rfl⟩
 ·exact ⟨_,_,_,rfl⟩
theorem zL (f:Nat) (a:Array Value):∃g b c,fnV f a=.func (.func g) b c:=WI _ f a
theorem VB {K f:Nat} (h:Nat.blt f K=true) (a:Array Value):fnW K f a=.func (.func f) #[] a:=by
 unfold fnW;rw [h]
theorem FV {f:Nat} (h:Nat.blt f 1000000=true) (a:Array Value):fnV f a=.func (.func f) #[] a:=VB h a
theorem Qp (K f:Nat) (a:Array Value):fnW K (f+K) a=.func (.func f) a #[]:=by
 unfold fnW;cases h:Nat.blt (f+K) K with
 | true=>have:f+K<K:=aL h;omega
 | false=>simp
theorem RS (f:Nat) (a:Array Value):fnV (f+1000000) a=.func (.func f) a #[]:=Qp _ f a
def fnFW (K f:Nat):Nat:=match Nat.blt f K with | true=>f | false=>f - K
def fnAW {α:Type} (K f:Nat) (args cap:List α):List α:=match Nat.blt f K with | true=>args++cap | false=>cap++args
def fnF (f:Nat):Nat:=fnFW 1000000 f
def fnA {α:Type} (f:Nat) (args cap:List α):List α:=fnAW 1000000 f args cap
def PC (c:Option Nat) (k:Nat):Prop:=∀m,c=some m->k=m
theorem kY {k:Nat}:PC none k:=λ_ h=>by cases h
theorem sI {k:Nat}:PC (some k) k:=λ_ h=>by cases h;rfl
mutual
def VR (ι:Inj):V->Value->Prop
 | .b x,v=>v=.bool x
 | .i k n,v=>v=.int k n
 | .s l,v=>v=.string ⟨l.toArray⟩
 | .pn,v=>v=.pointer none
 | .p b o,v=>∃q,ι b=some (some q)/\v=.pointer (some ⟨q.r,o,none⟩)
 | .sn,v=>v=.slice none 0 0
 | .sl b o len cap,v=>∃q c,ι b=some (some q)/\(∀n,cap=some n->c=n)/\len<=c/\v=.slice (some ⟨q.r,o,none⟩) len c
 | .unk,v=>v.cells=#[v]/\v.oneCell'=true
 | .pr z b j o,v=>∃q,ι b=some (some q)/\v=.pointer (some ⟨q.r,q.o+(j*z+o),none⟩)
 | .ws b,v=>(∃q,ι b=some (some q)/\v=.slice (some ⟨q.r,q.o,none⟩) q.n q.k)\/(ι b=some none/\∃a,v=.slice a 0 0)
 | .rs z b j n e,v=>(∃q c o,ι b=some (some q)/\(n<=c/\PC e c)/\(0<n->o=q.o+j*z)/\v=.slice (some ⟨q.r,o,none⟩) n c)\/(ι b=some none/\(n=0/\PC e 0)/\∃a,v=.slice a 0 0)
 | .fn f cap,v=>∃d,v=fnV f d/\VRs ι cap d.toList
 | .nf,v=>v=.nilFunc
 | .ni,v=>v=.nilIface
 | .it t x,v=>∃y,v=.iface t y/\VR ι x y
 | .ag l,v=>∃d:Array Value,v=.agg d/\VRs ι l d.toList
 | .ai k n l,v=>l.length=n/\v=.agg (l.map (Value.int k)).toArray
 | .tp l,v=>∃d:Array Value,v=.tuple d/\VRs ι l d.toList
 | .mp b,v=>∃q,ι b=some (some q)/\v=.map (some q.r)
def VRs (ι:Inj):List V->List Value->Prop
 | [],a=>a=[]
 | x::l,a=>∃y b,a=y::b/\VR ι x y/\VRs ι l b
end
mutual
theorem VR.mono {ι G:Inj} (h:∀b r,ι b=some r->G b=some r):∀(v:V) (x:Value),VR ι v x->VR G v x
 | .b _,_,hx | .i _ _,_,hx | .s _,_,hx | .pn,_,hx | .sn,_,hx | .nf,_,hx | .ni,_,hx | .ai _ _ _,_,hx | .unk,_,hx=>by simpa [VR] using hx
 | .p b o,x,hx | .pr z b j o,x,hx | .mp b,x,hx=>by
  simp only [VR] at hx ⊢;obtain ⟨r,E,C⟩:=hx;exact ⟨r,h _ _ E,C⟩
 | .ws b,x,hx=>by
  simp only [VR] at hx ⊢;rcases hx with ⟨q,E,C⟩ | ⟨E,C⟩
  ·exact .inl ⟨q,h _ _ E,C⟩
  ·exact .inr ⟨h _ _ E,C⟩
 | .rs z b j n _,x,hx=>by
  simp only [VR] at hx ⊢;rcases hx with ⟨q,c,o,E,C⟩ | ⟨E,C⟩
  ·exact .inl ⟨q,c,o,h _ _ E,C⟩
  ·exact .inr ⟨h _ _ E,C⟩
 | .sl b o len cap,x,hx=>by
  simp only [VR] at hx ⊢;obtain ⟨r,c,E,C⟩:=hx;exact ⟨r,c,h _ _ E,C⟩
 | .fn f cap,x,hx=>by
  simp only [VR] at hx ⊢;obtain ⟨F,E,C⟩:=hx;exact ⟨F,E,VRs.mono h _ _ C⟩
 | .it t v,x,hx=>by
  simp only [VR] at hx ⊢;obtain ⟨y,E,C⟩:=hx;exact ⟨y,E,VR.mono h _ _ C⟩
 | .ag l,x,hx=>by
  simp only [VR] at hx ⊢;obtain ⟨F,E,C⟩:=hx;exact ⟨F,E,VRs.mono h _ _ C⟩
 | .tp l,x,hx=>by
  simp only [VR] at hx ⊢;obtain ⟨F,E,C⟩:=hx;exact ⟨F,E,VRs.mono h _ _ C⟩
theorem VRs.mono {ι C:Inj} (h:∀b r,ι b=some r->C b=some r):∀(l:List V) (E:List Value),VRs ι l E->VRs C l E
 | [],_,hx=>by simpa [VRs] using hx
 | v::l,E,hx=>by
  simp only [VRs] at hx ⊢;obtain ⟨y,F,G,J,O⟩:=hx;exact ⟨y,F,G,VR.mono h _ _ J,VRs.mono h _ _ O⟩
end
theorem VRs.length {ι:Inj}:∀{l:List V} {xs:List Value},VRs ι l xs->xs.length=l.length
 | [],_,h=>by simp only [VRs] at h;simp [h]
 | _::_,_,h=>by
  simp only [VRs] at h;obtain ⟨y,E,rfl,_,C⟩:=h;simp [VRs.length C]
theorem VRs.get {ι:Inj}:∀{l:List V} {xs:List Value} {j:Nat} {v:V},VRs ι l xs->l[j]?=some v->∃x,xs[j]?=some x/\VR ι v x
 | [],_,_,_,_,C=>by simp at C
 | _::_,_,0,_,h,C=>by
  simp only [VRs] at h;obtain ⟨y,E,rfl,F,_⟩:=h;simp only [lR,av] at C;subst C;exact ⟨y,by simp,F⟩
 | _::_,_,j+1,_,h,C=>by
  simp only [VRs] at h;obtain ⟨y,E,rfl,_,G⟩:=h;simp only [HF] at C ⊢;exact VRs.get G C
theorem VRs.of_get {ι:Inj}:∀{l:List V} {C:List Value},C.length=l.length->(∀(j:Nat) (v:V) (x:Value),l[j]?=some v->C[j]?=some x->VR ι v x)->VRs ι l C
 | [],C,E,_=>by simp only [VRs];exact tj (by simpa using E)
 | v::l,[],E,_=>by simp at E
 | v::l,x::C,E,h=>by
  simp only [VRs];refine ⟨x,C,rfl,h 0 v x (by simp) (by simp),VRs.of_get (by simpa using E) λj G O F J=>h (j+1) G O (by simpa using F) (by simpa using J)⟩
theorem VRs.append {ι:Inj}:∀{l:List V} {xs:List Value} {m:List V} {E:List Value},VRs ι l xs->VRs ι m E->VRs ι (l++m) (xs++E)
 | [],_,_,_,h,C=>by simp only [VRs] at h;subst h;simpa using C
 | _::_,_,_,_,h,C=>by
  simp only [VRs] at h;obtain ⟨y,E,rfl,F,G⟩:=h;simp only [eK,VRs];exact ⟨y,_,rfl,F,VRs.append G C⟩
theorem VRs.drop {ι:Inj}:∀{l:List V} {xs:List Value} (n:Nat),VRs ι l xs->VRs ι (l.drop n) (xs.drop n)
 | _,_,0,h=>by simpa using h
 | [],_,_+1,h=>by simp only [VRs] at h;subst h;simp [VRs]
 | _::_,_,n+1,h=>by
  simp only [VRs] at h;obtain ⟨y,E,rfl,_,C⟩:=h;simpa using VRs.drop n C
theorem VRs.take {ι:Inj}:∀{l:List V} {xs:List Value} (n:Nat),VRs ι l xs->VRs ι (l.take n) (xs.take n)
 | _,_,0,_=>by simp [VRs]
 | [],_,_+1,h=>by simp only [VRs] at h;subst h;simp [VRs]
 | _::_,_,n+1,h=>by
  simp only [VRs] at h;obtain ⟨y,F,rfl,C,E⟩:=h;simp only [np,VRs];exact ⟨y,_,rfl,C,VRs.take n E⟩
theorem VRs.set {ι:Inj}:∀{l:List V} {xs:List Value} (n:Nat) {v:V} {x:Value},VRs ι l xs->VR ι v x->VRs ι (l.set n v) (xs.set n x)
 | [],_,_,_,_,h,_=>by simp only [VRs] at h;subst h;simp [VRs]
 | _::_,_,0,_,_,h,C=>by
  simp only [VRs] at h;obtain ⟨y,G,rfl,_,E⟩:=h;simp only [List.set_cons_zero,VRs];exact ⟨_,_,rfl,C,E⟩
 | _::_,_,n+1,_,_,h,C=>by
  simp only [VRs] at h;obtain ⟨y,G,rfl,F,E⟩:=h;simp only [List.set_cons_succ,VRs];exact ⟨_,_,rfl,F,VRs.set n E C⟩
theorem VRs.ints {ι:Inj} (k:IntKind):∀(l:List Int),VRs ι (l.map (V.i k)) (l.map (Value.int k))
 | []=>by simp [VRs]
 | n::l=>by simp only [ge,VRs];exact ⟨_,_,rfl,by simp [VR],VRs.ints k l⟩
def Lf.toV:(a:Lf)->a.den->V
 | .i k,n=>.i k n
 | .bo,x=>.b x
 | .s,l=>.s l
def Lf.val:(a:Lf)->a.den->Value
 | .i k,n=>.int k n
 | .bo,x=>.bool x
 | .s,l=>.string ⟨l.toArray⟩
def cells:(t:List Lf)->den t->List V
 | [],_=>[]
 | [a],x=>[a.toV x]
 | a::b::l,x=>a.toV x.1::cells (b::l) x.2
def vals:(t:List Lf)->den t->List Value
 | [],_=>[]
 | [a],x=>[a.val x]
 | a::b::l,x=>a.val x.1::vals (b::l) x.2
theorem Lf.ok (ι:Inj):∀(a:Lf) (x:a.den),VR ι (a.toV x) (a.val x)
 | .i _,_=>by simp [Lf.toV,Lf.val,VR]
 | .bo,_=>by simp [Lf.toV,Lf.val,VR]
 | .s,_=>by simp [Lf.toV,Lf.val,VR]
theorem Lf.ok_iff (ι:Inj):∀(a:Lf) (x:a.den) (y:Value),VR ι (a.toV x) y↔y=a.val x
 | .i _,_,_=>by simp [Lf.toV,Lf.val,VR]
 | .bo,_,_=>by simp [Lf.toV,Lf.val,VR]
 | .s,_,_=>by simp [Lf.toV,Lf.val,VR]
theorem oL (ι:Inj):∀(t:List Lf) (x:den t) (c:List Value),VRs ι (cells t x) c↔c=vals t x
 | [],_,c=>by simp [cells,vals,VRs]
 | [a],x,c=>by
  simp only [cells,vals,VRs];constructor
  ·rintro ⟨y,d,rfl,h,rfl⟩;rw [(a.ok_iff ι x y).1 h]
  ·rintro rfl;exact ⟨_,_,rfl,a.ok ι x,rfl⟩
 | a::b::l,x,c=>by
  simp only [cells,vals,VRs];constructor
  ·rintro ⟨y,d,rfl,h,e⟩;rw [(a.ok_iff ι _ y).1 h,(oL ι (b::l) x.2 d).1 e]
  ·rintro rfl;exact ⟨_,_,rfl,a.ok ι _,(oL ι (b::l) x.2 _).2 rfl⟩
theorem lc:∀(t:List Lf) (x:den t),(cells t x).length=t.length
 | [],_=>rfl
 | [_],_=>rfl
 | _::b::l,x=>by simp [cells,lc (b::l) x.2]
theorem g9:∀(t:List Lf) (x:den t),(vals t x).length=t.length
 | [],_=>rfl
 | [_],_=>rfl
 | _::b::l,x=>by simp [vals,g9 (b::l) x.2]
inductive Blk where
 | dead
 | rows (t:List Lf) (l:List (den t))
 | cells (l:List V)
 | ints (k:IntKind) (n:Nat) (l:List Int)
 | iter (s:aa) (pos:Nat)
 | mp (k:IntKind) (l:List (Int×Nat))
 deriving Inhabited
def NF (fr:Nat×Nat) (n:Nat):Prop:=∀j,j<n->¬(fr.1<=j/\j<fr.2)
def BR (ι:Inj) (q:Rf):Blk->Obj->Prop
 | .dead,_=>True
 | .rows t l,o=>∃a e fr,o=.cells a e fr/\l.length=q.n/\q.n<=q.k/\q.o+q.k*t.length<=a.size/\(a.toList.drop q.o).take (l.length*t.length)=l.flatMap (vals t)/\(q.fz=true\/NF fr a.size)
 | .cells l,o=>∃a e fr,o=.cells a e fr/\VRs ι l a.toList/\NF fr a.size
 | .ints k n l,o=>∃e fr,o=.cells (l.map (Value.int k)).toArray e fr/\l.length=n/\NF fr n
 | .iter s pos,o=>o=.stringIter ⟨s.toArray⟩ pos
 | .mp k l,o=>∃c b,o=.map c b/\c.toList.map (λe=>(e.key,e.val))=l.map λp=>(Value.int k p.1,fnV p.2 #[])
theorem BR.mono {ι E:Inj} {q:Rf} (h:∀b r,ι b=some r->E b=some r):∀{blk:Blk} {o:Obj},BR ι q blk o->BR E q blk o
 | .dead,_,_=>trivial
 | .rows t l,o,C=>C
 | .cells l,o,C=>by
  obtain ⟨G,e,fr,F,J,O⟩:=C;exact ⟨G,e,fr,F,VRs.mono h _ _ J,O⟩
 | .ints k n l,o,C=>C
 | .iter s pos,o,C=>C
 | .mp k l,o,C=>C
def look {α:Type}:List (Nat×α)->Nat->Option α
 | [],_=>none
 | (k,v)::l,n=>cond (Nat.beq k n) (some v) (look l n)
theorem aV {α:Type} (k:Nat) (v:α) (l:List (Nat×α)) (n:Nat):look ((k,v)::l) n=if k=n then some v else look l n:=by
 simp only [look];by_cases h:k=n
 ·subst h;simp
 ·have:Nat.beq k n=false:=by
   cases a:Nat.beq k n
   ·rfl
   ·exact absurd (bB a) h
  simp [this,h]
structure St where
 T:List (Nat×Option V)
 H:List (Nat×Blk)
 nb:Nat
  /-- So many blocks came in. -/
 lo:Nat:=0
  /-- The first so many of them are only read. -/
 ro:Nat:=0
  /-- From this one on they may be moved (blocks of rows, by append). -/
 rb:Nat:=0
 deriving Inhabited
def TR (ι:Inj) (T:List (Nat×Option V)) (a:Array Value):Prop:=
 ∀t v,look T t=some (some v)->∃x,a[t]?=some x/\VR ι v x
def BW (ι:Inj) (w:World) (b:Nat) (blk:Blk):Prop:=
 (∃q o,ι b=some (some q)/\w.heap[q.r]?=some o/\BR ι q blk o)\/(ι b=some none/\∃t,blk=.rows t [])
structure WR (ι:Inj) (H:List (Nat×Blk)) (nb:Nat) (w:World):Prop where
 inj:∀b b' q q',ι b=some (some q)->ι b'=some (some q')->q.r=q'.r->b=b'\/(q.fz=true/\q'.fz=true)
 low:∀b q,ι b=some q->b<nb
 dom:∀b q,ι b=some (some q)->q.r<w.heap.size
 blk:∀b blk,look H b=some blk->blk≠.dead->BW ι w b blk
theorem BW.real {ι:Inj} {w:World} {b:Nat} {blk:Blk} (h:BW ι w b blk) (C:∀t,blk≠.rows t []):∃q o,ι b=some (some q)/\w.heap[q.r]?=some o/\BR ι q blk o:=by
 rcases h with h | ⟨_,t,h⟩
 ·exact h
 ·exact absurd h (C t)
theorem BW.map {ι E:Inj} {w w':World} {b O:Nat} {blk C:Blk} (h:BW ι w b blk) (J:E O=ι b) (X:∀q,ι b=some (some q)->w'.heap[q.r]?=w.heap[q.r]?)
  (U:∀q o,BR ι q blk o->BR E q C o) (Q:∀t,blk=.rows t []->C=.rows t []):BW E w' O C:=by
 rcases h with ⟨q,o,F,G,W⟩ | ⟨F,t,G⟩
 ·exact .inl ⟨q,o,by rw [J,F],by rw [X q F,G],U q o W⟩
 ·exact .inr ⟨by rw [J,F],t,Q t G⟩
structure Fr (ι0:Inj) (w0 w:World):Prop where
 os:w.os=w0.os
 tape:w.tape=w0.tape
 output:w.output=w0.output
 size:w0.heap.size<=w.heap.size
 blk:∀k,k<w0.heap.size->(∀b q,ι0 b=some (some q)->q.r≠k)->w.heap[k]?=w0.heap[k]?
theorem Fr.refl (ι0:Inj) (w:World):Fr ι0 w w:=⟨rfl,rfl,rfl,aX _,λ_ _ _=>rfl⟩
def roI (ι0:Inj) (ro:Nat):Inj:=λb=>cond (Nat.blt b ro) none (ι0 b)
theorem qD {ι0:Inj} {ro b:Nat} {r:Option Rf} (h:roI ι0 ro b=some r):ι0 b=some r:=by
 unfold roI at h;cases a:Nat.blt b ro with
 | true=>simp [a] at h
 | false=>simpa [a] using h
theorem NJ {ι0:Inj} {ro b:Nat} {r:Option Rf} (h:roI ι0 ro b=some r):ro<=b:=by
 unfold roI at h;rcases aH b ro with a | a
 ·rw [show Nat.blt b ro=true from cP a] at h;cases h
 ·exact a
theorem DL {ι0:Inj} {ro b:Nat} {r:Option Rf} (h:ι0 b=some r) (a:ro<=b):roI ι0 ro b=some r:=by
 have:Nat.blt b ro=false:=by
  cases hx:Nat.blt b ro with
  | false=>rfl
  | true=>have:b<ro:=aL hx;omega
 simp [roI,this,h]
def GL (R:Inj) (w:World):Prop:=∃L:List (Nat×Obj),Xm L/\(∀x∈L,w.heap[x.1]?=some x.2)/\∀x∈L,∀b q,R b=some (some q)->q.r≠x.1
theorem GL.mono {R G:Inj} {w:World} (h:GL R w) (W:∀b q,G b=some (some q)->(∃E C,R E=some (some C)/\C.r=q.r)\/w.heap.size<=q.r):GL G w:=by
 obtain ⟨L,Q,J,X⟩:=h;refine ⟨L,Q,J,λx hx b q U=>?_⟩;rcases W b q U with ⟨E,C,F,O⟩ | F
 ·rw [<-O];exact X x hx E C F
 ·have hs:x.1<w.heap.size:=by
   rcases aH x.1 w.heap.size with h | h
   ·exact h
   ·have:=J x hx;rw [wx h] at this;cases this
  omega
structure Base where
 w:World
 D:List Deferred:=[]
structure Inv (n:Nat) (ι0:Inj) (w0:Base) (ι:Inj) (s:St) (a:Act) (w:World):Prop where
 size:a.tmps.size=n
 defers:a.defers=w0.D
 tmps:TR ι s.T a.tmps
 mem:WR ι s.H s.nb w
 ext:∀b q,ι0 b=some q->ι b=some q\/s.rb<=b
 new:∀b q,ι b=some (some q)->(∃q',ι0 b=some (some q')/\q'.r=q.r)\/w0.w.heap.size<=q.r
 fr:Fr (roI ι0 s.ro) w0.w w
 low:∀b r,ι0 b=some r->b<s.lo
 fz:∀b q,ι b=some (some q)->q.fz=true->b<s.ro
 gl:GL (roI ι0 s.ro) w0.w
theorem Inv.glHere {n:Nat} {ι0 ι:Inj} {w0:Base} {s:St} {a:Act} {w:World} (h:Inv n ι0 w0 ι s a w) {R:Inj} (W:∀b q,R b=some (some q)->ι b=some (some q)/\s.ro<=b):GL R w:=by
 obtain ⟨L,O,E,F⟩:=h.gl;have hs:∀x∈L,x.1<w0.w.heap.size:=by
  intro x hx;rcases aH x.1 w0.w.heap.size with h | h
  ·exact h
  ·have:=E x hx;rw [wx h] at this;cases this
 refine ⟨L,O,λx hx=>?_,λx hx b q Q=>?_⟩
 ·rw [h.fr.blk x.1 (hs x hx) (F x hx)];exact E x hx
 ·obtain ⟨G,J⟩:=W b q Q;rcases h.new b q G with ⟨X,C,U⟩ | C
  ·rw [<-U];exact F x hx b X (DL C J)
  ·have:=hs x hx;omega
def upd (ι:Inj) (b:Nat) (r:Option Rf):Inj:=λc=>if c=b then some r else ι c
theorem ql {ι:Inj} {b:Nat} {r:Option Rf} (h:ι b=none):∀c q,ι c=some q->upd ι b r c=some q:=by
 intro c q hc;unfold upd;split
 ·rename_i e;subst e;rw [h] at hc;cases hc
 ·exact hc
theorem TR.mono {ι C:Inj} (h:∀b r,ι b=some r->C b=some r) {T:List (Nat×Option V)} {E:Array Value} (G:TR ι T E):TR C T E:=
 λt v F=>let ⟨x,h1,h2⟩:=G t v F;⟨x,h1,VR.mono h _ _ h2⟩
theorem TR.put {ι:Inj} {T:List (Nat×Option V)} {a:Act} {d:Nat} {v:Option V} {x:Value} (J:TR ι T a.tmps) (Q:d<a.tmps.size)
  (F:∀u,v=some u->VR ι u x):TR ι ((d,v)::T) (a.put (some d) x).tmps:=by
 intro t u C;rw [aV] at C;simp only [Act.put];split at C
 ·rename_i e;subst e;simp only [av] at C;exact ⟨x,by simp [Q],F u C⟩
 ·rename_i E;obtain ⟨y,G,O⟩:=J t u C;exact ⟨y,by rw [VF E];exact G,O⟩
def setObj (w:World) (r:Nat) (o:Obj):World:={ w with heap:=w.heap.setIfInBounds r o }
theorem ko (w:World) (o:Obj):(w.alloc o).heap[w.heap.size]?=some o:=by
 show (w.heap.push o)[w.heap.size]?=some o;simp
theorem ks (w:World) (o:Obj) {k:Nat} (h:k≠w.heap.size):(w.alloc o).heap[k]?=w.heap[k]?:=by
 show (w.heap.push o)[k]?=_;rw [Array.getElem?_push,ab h]
theorem pU {w:World} {r:Nat} {o:Obj} (h:w.heap[r]?=some o):r<w.heap.size:=by
 rcases aH r w.heap.size with a | a
 ·exact a
 ·simp [wx a] at h
theorem WR.draws {ι:Inj} {H:List (Nat×Blk)} {nb:Nat} {w:World} (h:WR ι H nb w) (n:Nat):WR ι H nb { w with drawn:=n }:=
 ⟨h.inj,h.low,h.dom,h.blk⟩
theorem tt {w:World} {r k:Nat} (o:Obj) (h:r≠k):(setObj w r o).heap[k]?=w.heap[k]?:=by
 simp [setObj,VF h]
theorem WR.write {ι:Inj} {H:List (Nat×Blk)} {nb b:Nat} {q:Rf} {w:World} {blk:Blk} {o:Obj} (h:WR ι H nb w) (F:ι b=some (some q)) (Q:q.fz=false) (U:BR ι q blk o):
  WR ι ((b,blk)::H) nb (setObj w q.r o):=by
 have O:=h.dom b q F;refine ⟨h.inj,h.low,λc q hc=>by simpa [setObj] using h.dom c q hc,λc C E W=>?_⟩;rw [aV] at E;split at E
 ·rename_i e;subst e;simp only [av] at E;subst E;exact .inl ⟨q,o,F,by simp [setObj,O],U⟩
 ·rename_i G;exact (h.blk c C E W).map rfl (λp hp=>tt o λe=>(h.inj b c q p F hp e).elim G λJ=>by rw [Q] at J;cases J.1) (λ_ _ x=>x) (λ_ x=>x)
theorem WR.alloc {ι:Inj} {H:List (Nat×Blk)} {nb C f:Nat} {q:Rf} {w:World} {blk:Blk} {o:Obj} (h:WR ι H nb w) (W:ι f=none) (hn:nb<=C) (U:f<C)
  (X:q.r=w.heap.size) (ho:BR (upd ι f (some q)) q blk o):WR (upd ι f (some q)) ((f,blk)::H) C (w.alloc o):=by
 have O:=ql (r:=some q) W;refine ⟨λb b' r r' E F Y=>?_,λc p hc=>?_,λc p hc=>?_,λc G J hd=>?_⟩
 ·unfold upd at E F;split at E<;>split at F
  ·rename_i Z e2;exact .inl (Z.trans e2.symm)
  ·simp only [av] at E;subst E;have:=h.dom _ _ F;omega
  ·simp only [av] at F;subst F;have:=h.dom _ _ E;omega
  ·exact h.inj _ _ _ _ E F Y
 ·unfold upd at hc;split at hc
  ·rename_i e;subst e;exact U
  ·have:=h.low _ _ hc;omega
 ·unfold upd at hc;split at hc
  ·simp only [av] at hc;subst hc;simp;omega
  ·have:=h.dom _ _ hc;simp;omega
 ·rw [aV] at J;split at J
  ·rename_i e;subst e;simp only [av] at J;subst J;exact .inl ⟨q,o,by simp [upd],by rw [X];exact ko w o,ho⟩
  ·rename_i Q;refine (h.blk c G J hd).map (by simp [upd,Ne.symm Q]) (λp hp=>?_) (λ_ _ x=>BR.mono O x) (λ_ x=>x);have:=h.dom _ _ hp;exact ks w o (by omega)
theorem Fr.draws {ι0:Inj} {w0 w:World} (h:Fr ι0 w0 w) (n:Nat):Fr ι0 w0 { w with drawn:=n }:=⟨h.os,h.tape,h.output,h.size,h.blk⟩
theorem Fr.alloc {ι0:Inj} {w0 w:World} (h:Fr ι0 w0 w) (o:Obj):Fr ι0 w0 (w.alloc o):=by
 refine ⟨h.os,h.tape,h.output,by have:=h.size;simp;omega,λk E C=>?_⟩;have:=h.size;rw [ks w o (by omega)];exact h.blk k E C
theorem Fr.write {ι0:Inj} {w0 w:World} (h:Fr ι0 w0 w) {r:Nat} (F:(∃b q,ι0 b=some (some q)/\q.r=r)\/w0.heap.size<=r) (o:Obj):Fr ι0 w0 (setObj w r o):=by
 refine ⟨h.os,h.tape,h.output,by simpa [setObj] using h.size,λk O G=>?_⟩;have C:r≠k:=by
  rintro rfl;rcases F with ⟨b,q,E,J⟩ | F
  ·exact G b q E J
  ·omega
 simp only [setObj,VF C];exact h.blk k O G
theorem bi {w:World} {r o:Nat} {a:Array Value} {e:TypeId} {fr:Nat×Nat} (h:w.heap[r]?=some (.cells a e fr)):
  w.cell? ⟨r,o,none⟩=a[o]?:=by
 simp [World.cell?,h]
theorem rS {w:World} {r o:Nat} {a:Array Value} {e:TypeId} {fr:Nat×Nat} (h:w.heap[r]?=some (.cells a e fr)) (b:NF fr a.size) (c:o<a.size):
  w.frozen? ⟨r,o,none⟩=false:=by
 have:=b o c;simp only [World.frozen?,h];by_cases d:fr.1<=o<;>by_cases f:o<fr.2<;>simp_all
theorem DV {w:World} {r o:Nat} {v:Value} {b:Array Value} {e:TypeId} {fr:Nat×Nat} (h:w.heap[r]?=some (.cells b e fr)):
  w.setCell ⟨r,o,none⟩ v=setObj w r (.cells (b.setIfInBounds o v) e fr):=by
 unfold World.setCell setObj;congr 1;apply Tn;intro k;rw [Array.getElem?_modify,Ui];have c:=pU h;by_cases a:r=k
 ·subst a;rw [ae rfl,ae rfl,ae c,h];simp
 ·rw [ab a,ab a]
theorem Bz (w:World) (r:Nat) (o a:Obj):setObj (setObj w r o) r a=setObj w r a:=by
 simp [setObj]
theorem Hi {w:World} {r:Nat} {o:Obj} (h:w.heap[r]?=some o):setObj w r o=w:=by
 unfold setObj;congr 1;apply Tn;intro k;rw [Ui];by_cases a:r=k
 ·subst a;rw [ae rfl,ae (pU h),h]
 ·rw [ab a]
theorem zk {w:World} {r:Nat} {o a:Obj} (h:w.heap[r]?=some o):(setObj w r a).heap[r]?=some a:=by
 have b:=pU h;simp [setObj,b]
end Go.Abs
