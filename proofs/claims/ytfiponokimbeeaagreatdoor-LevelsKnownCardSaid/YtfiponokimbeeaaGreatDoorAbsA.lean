
/- The abstract values and the abstract memory of the interpreter, and how they relate to the model's own.
   Conditions: none; everything here is generic over the program. -/
import Derived.Tactics
import Derived.Below
import Derived.Test.YtfiponokimbeeaaGreatDoorGlob
set_option linter.unusedSimpArgs false
set_option linter.unusedVariables false
namespace Go
abbrev aa:=List UInt8
abbrev jQ:=@Array.ext'
abbrev OW:=@Array.ext_getElem?
abbrev qN:=@Array.getD_eq_getD_getElem?
abbrev Qu:=@Array.getElem?_append_left
abbrev U5:=@Array.getElem?_eq_getElem
abbrev vN:=@Array.getElem?_eq_none
abbrev Rj:=@Array.getElem?_replicate
abbrev P7:=@Array.getElem?_setIfInBounds
abbrev Qp:=@Array.getElem?_setIfInBounds_ne
abbrev pU:=@Array.getElem?_toList
abbrev KV:=@Array.length_toList
abbrev OH:=@Array.mapM_eq_mapM_toList
abbrev FV:=@Array.map_empty
abbrev wF:=@Array.toList_append
abbrev yp:=@BEq.rfl
abbrev EV:=@BitVec.toNat_ofNat
abbrev BV:=@Bool.and_eq_false_iff
abbrev az:=@Bool.and_eq_true
abbrev xT:=@Bool.and_false
abbrev E7:=@Bool.and_true
abbrev xh:=@Bool.eq_iff_iff
abbrev wQ:=@Bool.false_and
abbrev bA:=@Bool.false_eq_true
abbrev pP:=@Bool.false_or
abbrev fS9:=@Bool.not_eq_true
abbrev kP:=@Bool.not_eq_true'
abbrev iv:=@Bool.not_false
abbrev cX:=@Bool.not_true
abbrev n8:=@Bool.or_eq_false_iff
abbrev gM:=@Bool.or_eq_true
abbrev ur:=@Bool.or_false
abbrev qo:=@Bool.true_and
abbrev FT:=@Bool.true_or
abbrev Iq:=@ByteArray.ext
abbrev FP:=@Classical.em
abbrev sI:=@Go.Code.wp_mono
abbrev ID:=@Decidable.not_not
abbrev Ol:=@Int.dvd_of_emod_eq_zero
abbrev yw:=@Int.le_refl
abbrev OQ:=@Int.mul_le_mul_of_nonneg_right
abbrev KZ:=@Int.natCast_mul
abbrev Ll:=@Int.sub_add_cancel
abbrev OU:=@Int.tdiv_eq_ediv_of_nonneg
abbrev cV:=@Int.toNat_natCast
abbrev FN:=@Int.toNat_of_nonneg
abbrev EO:=@Go.IntKind.wrap_i64
abbrev B6:=@List.all_append
abbrev lA:=@List.all_cons
abbrev co:=@List.all_eq_true
abbrev rM:=@List.any_append
abbrev qm:=@List.any_cons
abbrev s9:=@List.any_eq_false
abbrev uz:=@List.any_eq_true
abbrev fi:=@List.append_assoc
abbrev lL:=@List.append_nil
abbrev ep:=@List.cons_append
abbrev ET:=@List.drop_append
abbrev iL:=@List.drop_drop
abbrev pR:=@List.drop_eq_getElem_cons
abbrev iP:=@List.drop_eq_nil_of_le
abbrev GA:=@List.drop_left'
abbrev rI:=@List.drop_length
abbrev mU:=@List.drop_succ_cons
abbrev wP:=@List.drop_take
abbrev ch:=@List.drop_zero
abbrev sQ:=@List.eq_nil_of_length_eq_zero
abbrev On:=@List.eq_of_mem_replicate
abbrev Bg:=@List.ext_getElem?
abbrev EL:=@List.filter_filter
abbrev BZ:=@List.findSome?_cons
abbrev H6:=@List.flatMap_append
abbrev na:=@List.flatMap_cons
abbrev E1:=@List.foldl_append
abbrev uq:=@List.foldl_cons
abbrev Fg:=@List.foldl_nil
abbrev BP:=@List.getD_eq_getElem?_getD
abbrev mQ:=@List.getElem?_append_left
abbrev pN:=@List.getElem?_append_right
abbrev FR:=@List.getElem?_cons_succ
abbrev kU:=@List.getElem?_cons_zero
abbrev lO:=@List.getElem?_drop
abbrev bn:=@List.getElem?_eq_getElem
abbrev fW:=@List.getElem?_eq_none
abbrev rP:=@List.getElem?_eq_some_iff
abbrev lG:=@List.getElem?_map
abbrev Im:=@List.getElem?_take
abbrev pS:=@List.getElem?_take_of_lt
abbrev EN:=@List.getElem_mem
abbrev rE:=@List.head?_cons
abbrev Fz:=@List.isEmpty_eq_false_iff
abbrev bH:=@List.length_append
abbrev aM:=@List.length_cons
abbrev cY:=@List.length_drop
abbrev HU:=@List.length_filter_le
abbrev Gw:=@List.length_filter_lt_length_iff_exists
abbrev yx:=@List.length_map
abbrev dP:=@List.length_nil
abbrev K5:=@List.length_pos_of_mem
abbrev yN:=@List.length_reverse
abbrev fZ:=@List.length_take
abbrev Ei:=@List.mapM_cons
abbrev fk:=@List.map_cons
abbrev tP:=@List.map_map
abbrev mX:=@List.mem_append
abbrev cf:=@List.mem_cons
abbrev eO:=@List.mem_cons_of_mem
abbrev km:=@List.mem_cons_self
abbrev oL:=@List.mem_filter
abbrev Di:=@List.mem_flatMap
abbrev fq:=@List.mem_map
abbrev f7:=@List.mem_of_getElem?
abbrev kj:=@List.mem_range
abbrev Dt:=@List.mem_reverse
abbrev mn:=@List.mem_singleton
abbrev dD:=@List.nil_append
abbrev Dm:=@List.nodup_append
abbrev xz:=@List.nodup_cons
abbrev nD:=@List.not_mem_nil
abbrev Ey:=@List.range'_succ
abbrev nA:=@List.replicate_succ
abbrev vk:=@List.reverse_reverse
abbrev H3:=@List.set_eq_take_append_cons_drop
abbrev DJ:=@List.singleton_append
abbrev xc:=@List.size_toArray
abbrev wj:=@List.take_add_one
abbrev DG:=@List.take_append
abbrev tW:=@List.take_append_drop
abbrev ul:=@List.take_append_of_le_length
abbrev zI:=@List.take_left
abbrev nM:=@List.take_length
abbrev lu:=@List.take_of_length_le
abbrev mz:=@List.take_succ_cons
abbrev K7:=@List.take_succ_eq_append_getElem
abbrev zY:=@List.take_take
abbrev lw:=@List.take_zero
abbrev fY:=@Nat.add_assoc
abbrev oN:=@Nat.add_comm
abbrev f9:=@Nat.add_mul
abbrev wi:=@Nat.add_right_cancel_iff
abbrev Dj:=@Nat.add_sub_cancel
abbrev D2:=@Nat.add_sub_cancel_left
abbrev cn:=@Nat.add_zero
abbrev ie:=@Nat.beq_eq
abbrev cr:=@Nat.ble_eq_true_of_le
abbrev AD:=@Nat.div_one
abbrev bB:=@Nat.eq_of_beq_eq_true
abbrev Eh:=@Nat.eq_zero_or_pos
abbrev za:=@Nat.le_add_right
abbrev Ef:=@Nat.le_max_left
abbrev aE:=@Nat.le_of_ble_eq_true
abbrev wv:=@Nat.le_of_eq
abbrev aP:=@Nat.le_refl
abbrev rV:=@Nat.le_trans
abbrev Ag:=@Nat.le_zero
abbrev qb:=@Nat.lt_of_lt_of_le
abbrev aF:=@Nat.lt_or_ge
abbrev Ek:=@Nat.lt_trichotomy
abbrev sy:=@Nat.min_eq_left
abbrev o6:=@Nat.mod_eq_of_lt
abbrev AA:=@Nat.mod_lt
abbrev wJ:=@Nat.mul_comm
abbrev C4:=@Nat.mul_le_mul
abbrev nF:=@Nat.mul_le_mul_right
abbrev vr:=@Nat.mul_one
abbrev zo:=@Nat.ne_of_lt
abbrev xn:=@Nat.or_assoc
abbrev Aa:=@Nat.or_comm
abbrev Av:=@Nat.or_lt_two_pow
abbrev qD:=@Nat.pow_le_pow_right
abbrev wR:=@Nat.pow_succ
abbrev AG:=@Nat.sub_self
abbrev rZ:=@Nat.sub_zero
abbrev cP:=@Nat.zero_add
abbrev jh:=@Nat.zero_le
abbrev zH:=@Nat.zero_mul
abbrev Du:=@Go.Oper.apart_spec
abbrev wH:=@Option.getD_some
abbrev zM:=@Option.isSome_iff_exists
abbrev vF:=@Option.isSome_none
abbrev hO:=@Option.map_none
abbrev eo:=@Option.map_some
abbrev Eo:=@Option.none_or
abbrev ba:=@Option.some.inj
abbrev ak:=@Option.some.injEq
abbrev bE:=@Prod.mk.injEq
abbrev ay:=@Go.Result.andThen_ok
abbrev xm:=@Go.Result.ok.injEq
abbrev aw:=@Go.Sem.run_bind
abbrev aB:=@Go.Sem.run_pure
abbrev nB:=@Sum.inr.injEq
abbrev gZ:=@UInt8.toNat_inj
abbrev Dk:=@UInt8.toNat_ofNat'
abbrev xi:=@Go.World.alloc_eq
abbrev ui:=@and_congr_right
abbrev vJ:=@and_true
abbrev aW:=@beq_eq_false_iff_ne
abbrev bQ:=@beq_iff_eq
abbrev um:=@beq_self_eq_true
abbrev fj:=@bne_self_eq_false
abbrev ah:=@cond_false
abbrev aj:=@cond_true
abbrev ci:=@congrArg
abbrev nI:=@decide_eq_decide
abbrev av:=@decide_eq_false
abbrev vX:=@decide_eq_false_iff_not
abbrev au:=@decide_eq_true
abbrev dl:=@decide_eq_true_eq
abbrev pV:=@decide_false
abbrev sD:=@decide_true
abbrev oQ:=@exists_congr
abbrev aC:=@if_false
abbrev ab:=@if_neg
abbrev ae:=@if_pos
abbrev aK:=@if_true
abbrev Eb:=@not_false_eq_true
abbrev ue:=@not_true_eq_false
abbrev o7:=@or_false
abbrev vi:=@Go.run_loadCells_list
abbrev wI:=@Go.run_newObj
abbrev aT:=@Go.run_underlying
abbrev mN:=@true_and
end Go
namespace Go.Abs
inductive Lf where
 | i (k:IntKind)
 | bo
 | s
 deriving Inhabited,DecidableEq
@[reducible] def Lf.den:Lf->Type
 | .i _=>Int
 | .bo=>Bool
 | .s=>aa
@[reducible] def den:List Lf->Type
 | []=>Unit
 | [a]=>a.den
 | a::b::l=>a.den×den (b::l)
inductive V where
 | unk
 | pr (z b j o:Nat)
 | ws (b:Nat)
 | rs (z b j n:Nat) (cap:Option Nat)
 | b (x:Bool)
 | i (k:IntKind) (n:Int)
 | s (l:aa)
 | pn
 | p (b o:Nat)
 | sn
 | sl (b o len:Nat) (cap:Option Nat)
 | fn (f:Nat) (cap:List V)
 | nf
 | ni
 | it (t:Nat) (v:V)
 | ag (l:List V)
 | ai (k:IntKind) (n:Nat) (l:List Int)
 | tp (l:List V)
 | mp (b:Nat)
 deriving Inhabited
structure Rf where
 r:Nat
 n:Nat:=0
 k:Nat:=0
  /-- Of a block of rows: where the rows begin. -/
 o:Nat:=0
  /-- Is it only read? Then others may lie there, too. -/
 fz:Bool:=false
abbrev Rf.of (r n k:Nat):Rf:=⟨r,n,k,0,false⟩
abbrev Inj:=Nat->Option (Option Rf)
def fnW (K f:Nat) (a:Array Value):Value:=
 match Nat.blt f K with
 | true=>.func (.func f) #[] a
 | false=>.func (.func (f - K)) a #[]
def fnV (f:Nat) (a:Array Value):Value:=fnW 1000000 f a
theorem Ta (K f:Nat) (a:Array Value):∃g b c,fnW K f a=.func (.func g) b c:=by
 unfold fnW;split
 ·exact ⟨_,_,_,rfl⟩
 ·exact ⟨_,_,_,rfl⟩
theorem yI (f:Nat) (a:Array Value):∃g b c,fnV f a=.func (.func g) b c:=Ta _ f a
theorem Pz {K f:Nat} (h:Nat.blt f K=true) (a:Array Value):fnW K f a=.func (.func f) #[] a:=by
 unfold fnW;rw [h]
theorem Em {f:Nat} (h:Nat.blt f 1000000=true) (a:Array Value):fnV f a=.func (.func f) #[] a:=Pz h a
theorem N4 (K f:Nat) (a:Array Value):fnW K (f+K) a=.func (.func f) a #[]:=by
 unfold fnW;cases h:Nat.blt (f+K) K with
 | true=>have:f+K<K:=aE h;omega
 | false=>simp
theorem N9 (f:Nat) (a:Array Value):fnV (f+1000000) a=.func (.func f) a #[]:=N4 _ f a
def fnFW (K f:Nat):Nat:=match Nat.blt f K with | true=>f | false=>f - K
def fnAW {α:Type} (K f:Nat) (args cap:List α):List α:=match Nat.blt f K with | true=>args++cap | false=>cap++args
def fnF (f:Nat):Nat:=fnFW 1000000 f
def fnA {α:Type} (f:Nat) (args cap:List α):List α:=fnAW 1000000 f args cap
def MG (c:Option Nat) (k:Nat):Prop:=∀m,c=some m->k=m
theorem jq {k:Nat}:MG none k:=λ_ h=>by cases h
theorem rh {k:Nat}:MG (some k) k:=λ_ h=>by cases h;rfl
mutual
def VR (ι:Inj):V->Value->Prop
 | .b x,v=>v=.bool x
 | .i k n,v=>v=.int k n
 | .s l,v=>v=.string ⟨l.toArray⟩
 | .pn,v=>v=.pointer none
 | .p b o,v=>∃q,ι b=some (some q)/\v=.pointer (some ⟨q.r,o,none⟩)
 | .sn,v=>v=.slice none 0 0
 | .sl b o len cap,v=>∃q c,ι b=some (some q)/\(∀n,cap=some n->c=n)/\len<=c/\v=.slice (some ⟨q.r,o,none⟩) len c
 | .unk,v=>v.cells=#[v]/\v.oneCell'=true
 | .pr z b j o,v=>∃q,ι b=some (some q)/\v=.pointer (some ⟨q.r,q.o+(j*z+o),none⟩)
 | .ws b,v=>(∃q,ι b=some (some q)/\v=.slice (some ⟨q.r,q.o,none⟩) q.n q.k)\/(ι b=some none/\∃a,v=.slice a 0 0)
 | .rs z b j n e,v=>(∃q c o,ι b=some (some q)/\(n<=c/\MG e c)/\(0<n->o=q.o+j*z)/\v=.slice (some ⟨q.r,o,none⟩) n c)\/(ι b=some none/\(n=0/\MG e 0)/\∃a,v=.slice a 0 0)
 | .fn f cap,v=>∃d,v=fnV f d/\VRs ι cap d.toList
 | .nf,v=>v=.nilFunc
 | .ni,v=>v=.nilIface
 | .it t x,v=>∃y,v=.iface t y/\VR ι x y
 | .ag l,v=>∃d:Array Value,v=.agg d/\VRs ι l d.toList
 | .ai k n l,v=>l.length=n/\v=.agg (l.map (Value.int k)).toArray
 | .tp l,v=>∃d:Array Value,v=.tuple d/\VRs ι l d.toList
 | .mp b,v=>∃q,ι b=some (some q)/\v=.map (some q.r)
def VRs (ι:Inj):List V->List Value->Prop
 | [],a=>a=[]
 | x::l,a=>∃y b,a=y::b/\VR ι x y/\VRs ι l b
end
mutual
theorem VR.mono {ι G:Inj} (h:∀b r,ι b=some r->G b=some r):∀(v:V) (x:Value),VR ι v x->VR G v x
 | .b _,_,hx | .i _ _,_,hx | .s _,_,hx | .pn,_,hx | .sn,_,hx | .nf,_,hx | .ni,_,hx | .ai _ _ _,_,hx | .unk,_,hx=>by simpa [VR] using hx
 | .p b o,x,hx | .pr z b j o,x,hx | .mp b,x,hx=>by
  simp only [VR] at hx ⊢;obtain ⟨r,E,C⟩:=hx;exact ⟨r,h _ _ E,C⟩
 | .ws b,x,hx=>by
  simp only [VR] at hx ⊢;rcases hx with ⟨q,E,C⟩ | ⟨E,C⟩
  ·exact .inl ⟨q,h _ _ E,C⟩
  ·exact .inr ⟨h _ _ E,C⟩
 | .rs z b j n _,x,hx=>by
  simp only [VR] at hx ⊢;rcases hx with ⟨q,c,o,E,C⟩ | ⟨E,C⟩
  ·exact .inl ⟨q,c,o,h _ _ E,C⟩
  ·exact .inr ⟨h _ _ E,C⟩
 | .sl b o len cap,x,hx=>by
  simp only [VR] at hx ⊢;obtain ⟨r,c,E,C⟩:=hx;exact ⟨r,c,h _ _ E,C⟩
 | .fn f cap,x,hx=>by
  simp only [VR] at hx ⊢;obtain ⟨F,E,C⟩:=hx;exact ⟨F,E,VRs.mono h _ _ C⟩
 | .it t v,x,hx=>by
  simp only [VR] at hx ⊢;obtain ⟨y,E,C⟩:=hx;exact ⟨y,E,VR.mono h _ _ C⟩
 | .ag l,x,hx=>by
  simp only [VR] at hx ⊢;obtain ⟨F,E,C⟩:=hx;exact ⟨F,E,VRs.mono h _ _ C⟩
 | .tp l,x,hx=>by
  simp only [VR] at hx ⊢;obtain ⟨F,E,C⟩:=hx;exact ⟨F,E,VRs.mono h _ _ C⟩
theorem VRs.mono {ι C:Inj} (h:∀b r,ι b=some r->C b=some r):∀(l:List V) (E:List Value),VRs ι l E->VRs C l E
 | [],_,hx=>by simpa [VRs] using hx
 | v::l,E,hx=>by
  simp only [VRs] at hx ⊢;obtain ⟨y,F,G,J,O⟩:=hx;exact ⟨y,F,G,VR.mono h _ _ J,VRs.mono h _ _ O⟩
end
theorem VRs.length {ι:Inj}:∀{l:List V} {xs:List Value},VRs ι l xs->xs.length=l.length
 | [],_,h=>by simp only [VRs] at h;simp [h]
 | _::_,_,h=>by
  simp only [VRs] at h;obtain ⟨y,E,rfl,_,C⟩:=h;simp [VRs.length C]
theorem VRs.get {ι:Inj}:∀{l:List V} {xs:List Value} {j:Nat} {v:V},VRs ι l xs->l[j]?=some v->∃x,xs[j]?=some x/\VR ι v x
 | [],_,_,_,_,C=>by simp at C
 | _::_,_,0,_,h,C=>by
  simp only [VRs] at h;obtain ⟨y,E,rfl,F,_⟩:=h;simp only [kU,ak] at C;subst C;exact ⟨y,by simp,F⟩
 | _::_,_,j+1,_,h,C=>by
  simp only [VRs] at h;obtain ⟨y,E,rfl,_,G⟩:=h;simp only [FR] at C ⊢;exact VRs.get G C
theorem VRs.of_get {ι:Inj}:∀{l:List V} {C:List Value},C.length=l.length->(∀(j:Nat) (v:V) (x:Value),l[j]?=some v->C[j]?=some x->VR ι v x)->VRs ι l C
 | [],C,E,_=>by simp only [VRs];exact sQ (by simpa using E)
 | v::l,[],E,_=>by simp at E
 | v::l,x::C,E,h=>by
  simp only [VRs];refine ⟨x,C,rfl,h 0 v x (by simp) (by simp),VRs.of_get (by simpa using E) λj G J F O=>h (j+1) G J (by simpa using F) (by simpa using O)⟩
theorem VRs.append {ι:Inj}:∀{l:List V} {xs:List Value} {m:List V} {C:List Value},VRs ι l xs->VRs ι m C->VRs ι (l++m) (xs++C)
 | [],_,_,_,h,E=>by simp only [VRs] at h;subst h;simpa using E
 | _::_,_,_,_,h,E=>by
  simp only [VRs] at h;obtain ⟨y,C,rfl,F,G⟩:=h;simp only [ep,VRs];exact ⟨y,_,rfl,F,VRs.append G E⟩
theorem VRs.drop {ι:Inj}:∀{l:List V} {xs:List Value} (n:Nat),VRs ι l xs->VRs ι (l.drop n) (xs.drop n)
 | _,_,0,h=>by simpa using h
 | [],_,_+1,h=>by simp only [VRs] at h;subst h;simp [VRs]
 | _::_,_,n+1,h=>by
  simp only [VRs] at h;obtain ⟨y,E,rfl,_,C⟩:=h;simpa using VRs.drop n C
theorem VRs.take {ι:Inj}:∀{l:List V} {xs:List Value} (n:Nat),VRs ι l xs->VRs ι (l.take n) (xs.take n)
 | _,_,0,_=>by simp [VRs]
 | [],_,_+1,h=>by simp only [VRs] at h;subst h;simp [VRs]
 | _::_,_,n+1,h=>by
  simp only [VRs] at h;obtain ⟨y,F,rfl,C,E⟩:=h;simp only [mz,VRs];exact ⟨y,_,rfl,C,VRs.take n E⟩
theorem VRs.set {ι:Inj}:∀{l:List V} {xs:List Value} (n:Nat) {v:V} {x:Value},VRs ι l xs->VR ι v x->VRs ι (l.set n v) (xs.set n x)
 | [],_,_,_,_,h,_=>by simp only [VRs] at h;subst h;simp [VRs]
 | _::_,_,0,_,_,h,C=>by
  simp only [VRs] at h;obtain ⟨y,F,rfl,_,E⟩:=h;simp only [List.set_cons_zero,VRs];exact ⟨_,_,rfl,C,E⟩
 | _::_,_,n+1,_,_,h,C=>by
  simp only [VRs] at h;obtain ⟨y,F,rfl,G,E⟩:=h;simp only [List.set_cons_succ,VRs];exact ⟨_,_,rfl,G,VRs.set n E C⟩
theorem VRs.ints {ι:Inj} (k:IntKind):∀(l:List Int),VRs ι (l.map (V.i k)) (l.map (Value.int k))
 | []=>by simp [VRs]
 | n::l=>by simp only [fk,VRs];exact ⟨_,_,rfl,by simp [VR],VRs.ints k l⟩
def Lf.toV:(a:Lf)->a.den->V
 | .i k,n=>.i k n
 | .bo,x=>.b x
 | .s,l=>.s l
def Lf.val:(a:Lf)->a.den->Value
 | .i k,n=>.int k n
 | .bo,x=>.bool x
 | .s,l=>.string ⟨l.toArray⟩
def cells:(t:List Lf)->den t->List V
 | [],_=>[]
 | [a],x=>[a.toV x]
 | a::b::l,x=>a.toV x.1::cells (b::l) x.2
def vals:(t:List Lf)->den t->List Value
 | [],_=>[]
 | [a],x=>[a.val x]
 | a::b::l,x=>a.val x.1::vals (b::l) x.2
theorem Lf.ok (ι:Inj):∀(a:Lf) (x:a.den),VR ι (a.toV x) (a.val x)
 | .i _,_=>by simp [Lf.toV,Lf.val,VR]
 | .bo,_=>by simp [Lf.toV,Lf.val,VR]
 | .s,_=>by simp [Lf.toV,Lf.val,VR]
theorem Lf.ok_iff (ι:Inj):∀(a:Lf) (x:a.den) (y:Value),VR ι (a.toV x) y↔y=a.val x
 | .i _,_,_=>by simp [Lf.toV,Lf.val,VR]
 | .bo,_,_=>by simp [Lf.toV,Lf.val,VR]
 | .s,_,_=>by simp [Lf.toV,Lf.val,VR]
theorem my (ι:Inj):∀(t:List Lf) (x:den t) (c:List Value),VRs ι (cells t x) c↔c=vals t x
 | [],_,c=>by simp [cells,vals,VRs]
 | [a],x,c=>by
  simp only [cells,vals,VRs];constructor
  ·rintro ⟨y,d,rfl,h,rfl⟩;rw [(a.ok_iff ι x y).1 h]
  ·rintro rfl;exact ⟨_,_,rfl,a.ok ι x,rfl⟩
 | a::b::l,x,c=>by
  simp only [cells,vals,VRs];constructor
  ·rintro ⟨y,d,rfl,h,e⟩;rw [(a.ok_iff ι _ y).1 h,(my ι (b::l) x.2 d).1 e]
  ·rintro rfl;exact ⟨_,_,rfl,a.ok ι _,(my ι (b::l) x.2 _).2 rfl⟩
theorem jG:∀(t:List Lf) (x:den t),(cells t x).length=t.length
 | [],_=>rfl
 | [_],_=>rfl
 | _::b::l,x=>by simp [cells,jG (b::l) x.2]
theorem jc:∀(t:List Lf) (x:den t),(vals t x).length=t.length
 | [],_=>rfl
 | [_],_=>rfl
 | _::b::l,x=>by simp [vals,jc (b::l) x.2]
inductive Blk where
 | dead
 | rows (t:List Lf) (l:List (den t))
 | cells (l:List V)
 | ints (k:IntKind) (n:Nat) (l:List Int)
 | iter (s:aa) (pos:Nat)
 | mp (k:IntKind) (l:List (Int×Nat))
 deriving Inhabited
def NF (fr:Nat×Nat) (n:Nat):Prop:=∀j,j<n->¬(fr.1<=j/\j<fr.2)
def BR (ι:Inj) (q:Rf):Blk->Obj->Prop
 | .dead,_=>True
 | .rows t l,o=>∃a e fr,o=.cells a e fr/\l.length=q.n/\q.n<=q.k/\q.o+q.k*t.length<=a.size/\(a.toList.drop q.o).take (l.length*t.length)=l.flatMap (vals t)/\(q.fz=true\/NF fr a.size)
 | .cells l,o=>∃a e fr,o=.cells a e fr/\VRs ι l a.toList/\NF fr a.size
 | .ints k n l,o=>∃e fr,o=.cells (l.map (Value.int k)).toArray e fr/\l.length=n/\NF fr n
 | .iter s pos,o=>o=.stringIter ⟨s.toArray⟩ pos
 | .mp k l,o=>∃c b,o=.map c b/\c.toList.map (λe=>(e.key,e.val))=l.map λp=>(Value.int k p.1,fnV p.2 #[])
theorem BR.mono {ι E:Inj} {q:Rf} (h:∀b r,ι b=some r->E b=some r):∀{blk:Blk} {o:Obj},BR ι q blk o->BR E q blk o
 | .dead,_,_=>trivial
 | .rows t l,o,C=>C
 | .cells l,o,C=>by
  obtain ⟨F,e,fr,G,J,O⟩:=C;exact ⟨F,e,fr,G,VRs.mono h _ _ J,O⟩
 | .ints k n l,o,C=>C
 | .iter s pos,o,C=>C
 | .mp k l,o,C=>C
def look {α:Type}:List (Nat×α)->Nat->Option α
 | [],_=>none
 | (k,v)::l,n=>cond (Nat.beq k n) (some v) (look l n)
theorem aR {α:Type} (k:Nat) (v:α) (l:List (Nat×α)) (n:Nat):look ((k,v)::l) n=if k=n then some v else look l n:=by
 simp only [look];by_cases h:k=n
 ·subst h;simp
 ·have:Nat.beq k n=false:=by
   cases a:Nat.beq k n
   ·rfl
   ·exact absurd (bB a) h
  simp [this,h]
structure St where
 T:List (Nat×Option V)
 H:List (Nat×Blk)
 nb:Nat
  /-- So many blocks came in. -/
 lo:Nat:=0
  /-- The first so many of them are only read. -/
 ro:Nat:=0
  /-- From this one on they may be moved (blocks of rows, by append). -/
 rb:Nat:=0
 deriving Inhabited
def TR (ι:Inj) (T:List (Nat×Option V)) (a:Array Value):Prop:=
 ∀t v,look T t=some (some v)->∃x,a[t]?=some x/\VR ι v x
def BW (ι:Inj) (w:World) (b:Nat) (blk:Blk):Prop:=
 (∃q o,ι b=some (some q)/\w.heap[q.r]?=some o/\BR ι q blk o)\/(ι b=some none/\∃t,blk=.rows t [])
structure WR (ι:Inj) (H:List (Nat×Blk)) (nb:Nat) (w:World):Prop where
 inj:∀b b' q q',ι b=some (some q)->ι b'=some (some q')->q.r=q'.r->b=b'\/(q.fz=true/\q'.fz=true)
 low:∀b q,ι b=some q->b<nb
 dom:∀b q,ι b=some (some q)->q.r<w.heap.size
 blk:∀b blk,look H b=some blk->blk≠.dead->BW ι w b blk
theorem BW.real {ι:Inj} {w:World} {b:Nat} {blk:Blk} (h:BW ι w b blk) (C:∀t,blk≠.rows t []):∃q o,ι b=some (some q)/\w.heap[q.r]?=some o/\BR ι q blk o:=by
 rcases h with h | ⟨_,t,h⟩
 ·exact h
 ·exact absurd h (C t)
theorem BW.map {ι E:Inj} {w w':World} {b O:Nat} {blk C:Blk} (h:BW ι w b blk) (J:E O=ι b) (X:∀q,ι b=some (some q)->w'.heap[q.r]?=w.heap[q.r]?)
  (Q:∀q o,BR ι q blk o->BR E q C o) (U:∀t,blk=.rows t []->C=.rows t []):BW E w' O C:=by
 rcases h with ⟨q,o,F,G,W⟩ | ⟨F,t,G⟩
 ·exact .inl ⟨q,o,by rw [J,F],by rw [X q F,G],Q q o W⟩
 ·exact .inr ⟨by rw [J,F],t,U t G⟩
structure Fr (ι0:Inj) (w0 w:World):Prop where
 os:w.os=w0.os
 tape:w.tape=w0.tape
 output:w.output=w0.output
 size:w0.heap.size<=w.heap.size
 blk:∀k,k<w0.heap.size->(∀b q,ι0 b=some (some q)->q.r≠k)->w.heap[k]?=w0.heap[k]?
theorem Fr.refl (ι0:Inj) (w:World):Fr ι0 w w:=⟨rfl,rfl,rfl,aP _,λ_ _ _=>rfl⟩
def roI (ι0:Inj) (ro:Nat):Inj:=λb=>cond (Nat.blt b ro) none (ι0 b)
theorem oO {ι0:Inj} {ro b:Nat} {r:Option Rf} (h:roI ι0 ro b=some r):ι0 b=some r:=by
 unfold roI at h;cases a:Nat.blt b ro with
 | true=>simp [a] at h
 | false=>simpa [a] using h
theorem Jo {ι0:Inj} {ro b:Nat} {r:Option Rf} (h:roI ι0 ro b=some r):ro<=b:=by
 unfold roI at h;rcases aF b ro with a | a
 ·rw [show Nat.blt b ro=true from cr a] at h;cases h
 ·exact a
theorem CJ {ι0:Inj} {ro b:Nat} {r:Option Rf} (h:ι0 b=some r) (a:ro<=b):roI ι0 ro b=some r:=by
 have:Nat.blt b ro=false:=by
  cases hx:Nat.blt b ro with
  | false=>rfl
  | true=>have:b<ro:=aE hx;omega
 simp [roI,this,h]
def GL (R:Inj) (w:World):Prop:=∃L:List (Nat×Obj),UB L/\(∀x∈L,w.heap[x.1]?=some x.2)/\∀x∈L,∀b q,R b=some (some q)->q.r≠x.1
theorem GL.mono {R F:Inj} {w:World} (h:GL R w) (U:∀b q,F b=some (some q)->(∃E C,R E=some (some C)/\C.r=q.r)\/w.heap.size<=q.r):GL F w:=by
 obtain ⟨L,O,J,W⟩:=h;refine ⟨L,O,J,λx hx b q X=>?_⟩;rcases U b q X with ⟨E,C,G,Q⟩ | G
 ·rw [<-Q];exact W x hx E C G
 ·have hs:x.1<w.heap.size:=by
   rcases aF x.1 w.heap.size with h | h
   ·exact h
   ·have:=J x hx;rw [vN h] at this;cases this
  omega
structure Base where
 w:World
 D:List Deferred:=[]
structure Inv (n:Nat) (ι0:Inj) (w0:Base) (ι:Inj) (s:St) (a:Act) (w:World):Prop where
 size:a.tmps.size=n
 defers:a.defers=w0.D
 tmps:TR ι s.T a.tmps
 mem:WR ι s.H s.nb w
 ext:∀b q,ι0 b=some q->ι b=some q\/s.rb<=b
 new:∀b q,ι b=some (some q)->(∃q',ι0 b=some (some q')/\q'.r=q.r)\/w0.w.heap.size<=q.r
 fr:Fr (roI ι0 s.ro) w0.w w
 low:∀b r,ι0 b=some r->b<s.lo
 fz:∀b q,ι b=some (some q)->q.fz=true->b<s.ro
 gl:GL (roI ι0 s.ro) w0.w
theorem Inv.glHere {n:Nat} {ι0 ι:Inj} {w0:Base} {s:St} {a:Act} {w:World} (h:Inv n ι0 w0 ι s a w) {R:Inj} (U:∀b q,R b=some (some q)->ι b=some (some q)/\s.ro<=b):GL R w:=by
 obtain ⟨L,G,C,E⟩:=h.gl;have hs:∀x∈L,x.1<w0.w.heap.size:=by
  intro x hx;rcases aF x.1 w0.w.heap.size with h | h
  ·exact h
  ·have:=C x hx;rw [vN h] at this;cases this
 refine ⟨L,G,λx hx=>?_,λx hx b q X=>?_⟩
 ·rw [h.fr.blk x.1 (hs x hx) (E x hx)];exact C x hx
 ·obtain ⟨Q,J⟩:=U b q X;rcases h.new b q Q with ⟨O,F,W⟩ | F
  ·rw [<-W];exact E x hx b O (CJ F J)
  ·have:=hs x hx;omega
def upd (ι:Inj) (b:Nat) (r:Option Rf):Inj:=λc=>if c=b then some r else ι c
theorem pw {ι:Inj} {b:Nat} {r:Option Rf} (h:ι b=none):∀c q,ι c=some q->upd ι b r c=some q:=by
 intro c q hc;unfold upd;split
 ·rename_i e;subst e;rw [h] at hc;cases hc
 ·exact hc
theorem TR.mono {ι C:Inj} (h:∀b r,ι b=some r->C b=some r) {T:List (Nat×Option V)} {E:Array Value} (G:TR ι T E):TR C T E:=
 λt v F=>let ⟨x,h1,h2⟩:=G t v F;⟨x,h1,VR.mono h _ _ h2⟩
theorem TR.put {ι:Inj} {T:List (Nat×Option V)} {a:Act} {d:Nat} {v:Option V} {x:Value} (G:TR ι T a.tmps) (O:d<a.tmps.size)
  (Q:∀u,v=some u->VR ι u x):TR ι ((d,v)::T) (a.put (some d) x).tmps:=by
 intro t u C;rw [aR] at C;simp only [Act.put];split at C
 ·rename_i e;subst e;simp only [ak] at C;exact ⟨x,by simp [O],Q u C⟩
 ·rename_i E;obtain ⟨y,F,J⟩:=G t u C;exact ⟨y,by rw [Qp E];exact F,J⟩
def setObj (w:World) (r:Nat) (o:Obj):World:={ w with heap:=w.heap.setIfInBounds r o }
theorem iQ (w:World) (o:Obj):(w.alloc o).heap[w.heap.size]?=some o:=by
 show (w.heap.push o)[w.heap.size]?=some o;simp
theorem iS (w:World) (o:Obj) {k:Nat} (h:k≠w.heap.size):(w.alloc o).heap[k]?=w.heap[k]?:=by
 show (w.heap.push o)[k]?=_;rw [Array.getElem?_push,ab h]
theorem qY {w:World} {r:Nat} {o:Obj} (h:w.heap[r]?=some o):r<w.heap.size:=by
 rcases aF r w.heap.size with a | a
 ·exact a
 ·simp [vN a] at h
theorem WR.draws {ι:Inj} {H:List (Nat×Blk)} {nb:Nat} {w:World} (h:WR ι H nb w) (n:Nat):WR ι H nb { w with drawn:=n }:=
 ⟨h.inj,h.low,h.dom,h.blk⟩
theorem rH {w:World} {r k:Nat} (o:Obj) (h:r≠k):(setObj w r o).heap[k]?=w.heap[k]?:=by
 simp [setObj,Qp h]
theorem WR.write {ι:Inj} {H:List (Nat×Blk)} {nb b:Nat} {q:Rf} {w:World} {blk:Blk} {o:Obj} (h:WR ι H nb w) (G:ι b=some (some q)) (U:q.fz=false) (O:BR ι q blk o):
  WR ι ((b,blk)::H) nb (setObj w q.r o):=by
 have Q:=h.dom b q G;refine ⟨h.inj,h.low,λc q hc=>by simpa [setObj] using h.dom c q hc,λc E C W=>?_⟩;rw [aR] at C;split at C
 ·rename_i e;subst e;simp only [ak] at C;subst C;exact .inl ⟨q,o,G,by simp [setObj,Q],O⟩
 ·rename_i F;exact (h.blk c E C W).map rfl (λp hp=>rH o λe=>(h.inj b c q p G hp e).elim F λJ=>by rw [U] at J;cases J.1) (λ_ _ x=>x) (λ_ x=>x)
theorem WR.alloc {ι:Inj} {H:List (Nat×Blk)} {nb C f:Nat} {q:Rf} {w:World} {blk:Blk} {o:Obj} (h:WR ι H nb w) (hf:ι f=none) (hn:nb<=C) (U:f<C)
  (hq:q.r=w.heap.size) (X:BR (upd ι f (some q)) q blk o):WR (upd ι f (some q)) ((f,blk)::H) C (w.alloc o):=by
 have O:=pw (r:=some q) hf;refine ⟨λb b' r r' E F Y=>?_,λc p hc=>?_,λc p hc=>?_,λc J G hd=>?_⟩
 ·unfold upd at E F;split at E<;>split at F
  ·rename_i W Z;exact .inl (W.trans Z.symm)
  ·simp only [ak] at E;subst E;have:=h.dom _ _ F;omega
  ·simp only [ak] at F;subst F;have:=h.dom _ _ E;omega
  ·exact h.inj _ _ _ _ E F Y
 ·unfold upd at hc;split at hc
  ·rename_i e;subst e;exact U
  ·have:=h.low _ _ hc;omega
 ·unfold upd at hc;split at hc
  ·simp only [ak] at hc;subst hc;simp;omega
  ·have:=h.dom _ _ hc;simp;omega
 ·rw [aR] at G;split at G
  ·rename_i e;subst e;simp only [ak] at G;subst G;exact .inl ⟨q,o,by simp [upd],by rw [hq];exact iQ w o,X⟩
  ·rename_i Q;refine (h.blk c J G hd).map (by simp [upd,Ne.symm Q]) (λp hp=>?_) (λ_ _ x=>BR.mono O x) (λ_ x=>x);have:=h.dom _ _ hp;exact iS w o (by omega)
theorem Fr.draws {ι0:Inj} {w0 w:World} (h:Fr ι0 w0 w) (n:Nat):Fr ι0 w0 { w with drawn:=n }:=⟨h.os,h.tape,h.output,h.size,h.blk⟩
theorem Fr.alloc {ι0:Inj} {w0 w:World} (h:Fr ι0 w0 w) (o:Obj):Fr ι0 w0 (w.alloc o):=by
 refine ⟨h.os,h.tape,h.output,by have:=h.size;simp;omega,λk E C=>?_⟩;have:=h.size;rw [iS w o (by omega)];exact h.blk k E C
theorem Fr.write {ι0:Inj} {w0 w:World} (h:Fr ι0 w0 w) {r:Nat} (F:(∃b q,ι0 b=some (some q)/\q.r=r)\/w0.heap.size<=r) (o:Obj):Fr ι0 w0 (setObj w r o):=by
 refine ⟨h.os,h.tape,h.output,by simpa [setObj] using h.size,λk J G=>?_⟩;have E:r≠k:=by
  rintro rfl;rcases F with ⟨b,q,C,O⟩ | F
  ·exact G b q C O
  ·omega
 simp only [setObj,Qp E];exact h.blk k J G
theorem bf {w:World} {r o:Nat} {a:Array Value} {e:TypeId} {fr:Nat×Nat} (h:w.heap[r]?=some (.cells a e fr)):
  w.cell? ⟨r,o,none⟩=a[o]?:=by
 simp [World.cell?,h]
theorem qC {w:World} {r o:Nat} {a:Array Value} {e:TypeId} {fr:Nat×Nat} (h:w.heap[r]?=some (.cells a e fr)) (c:NF fr a.size) (b:o<a.size):
  w.frozen? ⟨r,o,none⟩=false:=by
 have:=c o b;simp only [World.frozen?,h];by_cases d:fr.1<=o<;>by_cases f:o<fr.2<;>simp_all
theorem BG {w:World} {r o:Nat} {v:Value} {b:Array Value} {e:TypeId} {fr:Nat×Nat} (h:w.heap[r]?=some (.cells b e fr)):
  w.setCell ⟨r,o,none⟩ v=setObj w r (.cells (b.setIfInBounds o v) e fr):=by
 unfold World.setCell setObj;congr 1;apply OW;intro k;rw [Array.getElem?_modify,P7];have c:=qY h;by_cases a:r=k
 ·subst a;rw [ae rfl,ae rfl,ae c,h];simp
 ·rw [ab a,ab a]
theorem Au (w:World) (r:Nat) (o a:Obj):setObj (setObj w r o) r a=setObj w r a:=by
 simp [setObj]
theorem DV {w:World} {r:Nat} {o:Obj} (h:w.heap[r]?=some o):setObj w r o=w:=by
 unfold setObj;congr 1;apply OW;intro k;rw [P7];by_cases a:r=k
 ·subst a;rw [ae rfl,ae (qY h),h]
 ·rw [ab a]
theorem vg {w:World} {r:Nat} {o a:Obj} (h:w.heap[r]?=some o):(setObj w r a).heap[r]?=some a:=by
 have b:=qY h;simp [setObj,b]
end Go.Abs
