/- The abstract values and the abstract memory of the interpreter, and how they relate to the model's own.
   Conditions: none; everything here is generic over the program. -/
import Derived.Tactics
import Derived.Below
import Derived.Test.YtpkdacjndoiabaaGreatDoorGlob
set_option linter.unusedSimpArgs false
namespace Go
abbrev aa:=List UInt8
abbrev lh:=@Array.ext'
abbrev LI:=@Array.ext_getElem?
abbrev ph:=@Array.getD_eq_getD_getElem?
abbrev L9:=@Array.getElem?_append_left
abbrev M5:=@Array.getElem?_eq_getElem
abbrev uP:=@Array.getElem?_eq_none
abbrev N9:=@Array.getElem?_replicate
abbrev Lv:=@Array.getElem?_setIfInBounds
abbrev K6:=@Array.getElem?_setIfInBounds_ne
abbrev re:=@Array.getElem?_toList
abbrev Ft:=@Array.length_toList
abbrev Kh:=@Array.mapM_eq_mapM_toList
abbrev Dg:=@Array.map_empty
abbrev vD:=@Array.toList_append
abbrev tD:=@BEq.rfl
abbrev AS:=@Bool.and_eq_false_iff
abbrev az:=@Bool.and_eq_true
abbrev C2:=@Bool.and_false
abbrev GB:=@Bool.and_self
abbrev wY:=@Bool.and_true
abbrev tC:=@Bool.eq_iff_iff
abbrev DQ:=@Bool.false_and
abbrev bP:=@Bool.false_eq_true
abbrev vk:=@Bool.false_or
abbrev CJ:=@Bool.not_eq_true
abbrev jU:=@Bool.not_eq_true'
abbrev i6:=@Bool.not_false
abbrev dq:=@Bool.not_true
abbrev qE:=@Bool.or_eq_false_iff
abbrev gK:=@Bool.or_eq_true
abbrev Gh:=@Bool.or_false
abbrev m4:=@Bool.true_and
abbrev D3:=@Bool.true_or
abbrev Fj:=@ByteArray.ext
abbrev Dw:=@Classical.em
abbrev rI:=@Go.Code.wp_mono
abbrev F5:=@Decidable.not_not
abbrev xD:=@Eq.trans
abbrev GX:=@Int.dvd_of_emod_eq_zero
abbrev GI:=@Int.emod_lt_of_pos
abbrev Ic:=@Int.emod_nonneg
abbrev wN:=@Int.le_refl
abbrev xp:=@Int.mul_comm
abbrev Ki:=@Int.mul_le_mul_of_nonneg_right
abbrev Ea:=@Int.natCast_mul
abbrev FN:=@Int.sub_add_cancel
abbrev Ku:=@Int.tdiv_eq_ediv_of_nonneg
abbrev HW:=@Int.tmod_eq_emod
abbrev HO:=@Int.tmod_eq_emod_of_nonneg
abbrev bQ:=@Int.toNat_natCast
abbrev Du:=@Int.toNat_of_nonneg
abbrev wX:=@Int.zero_sub
abbrev Ct:=@Go.IntKind.wrap_i64
abbrev nZ:=@List.all_cons
abbrev dB:=@List.all_eq_true
abbrev Fe:=@List.any_cons
abbrev so:=@List.any_eq_false
abbrev sv:=@List.any_eq_true
abbrev iY:=@List.append_assoc
abbrev oZ:=@List.append_nil
abbrev Hk:=@List.cons.injEq
abbrev fI:=@List.cons_append
abbrev HD:=@List.countP_cons
abbrev CZ:=@List.drop_append
abbrev kr:=@List.drop_drop
abbrev uN:=@List.drop_eq_getElem_cons
abbrev iZ:=@List.drop_eq_nil_of_le
abbrev zT:=@List.drop_left'
abbrev In:=@List.drop_length
abbrev n6:=@List.drop_succ_cons
abbrev vc:=@List.drop_take
abbrev gF:=@List.drop_zero
abbrev wU:=@List.eq_nil_of_length_eq_zero
abbrev zB:=@List.ext_getElem?
abbrev Gt:=@List.filter_append
abbrev KJ:=@List.filter_cons_of_neg
abbrev Kp:=@List.filter_cons_of_pos
abbrev DC:=@List.filter_filter
abbrev zH:=@List.findSome?_cons
abbrev Km:=@List.findSome?_eq_none_iff
abbrev FB:=@List.flatMap_append
abbrev pb:=@List.flatMap_cons
abbrev Dd:=@List.foldl_append
abbrev tN:=@List.foldl_cons
abbrev Db:=@List.foldl_nil
abbrev zY:=@List.getD_eq_getElem?_getD
abbrev mK:=@List.getElem?_append_left
abbrev pa:=@List.getElem?_append_right
abbrev Cu:=@List.getElem?_cons_succ
abbrev lj:=@List.getElem?_cons_zero
abbrev lT:=@List.getElem?_drop
abbrev bi:=@List.getElem?_eq_getElem
abbrev gG:=@List.getElem?_eq_none
abbrev n8:=@List.getElem?_eq_some_iff
abbrev lO:=@List.getElem?_map
abbrev Iq:=@List.getElem?_set_self
abbrev Gz:=@List.getElem?_take
abbrev o5:=@List.getElem?_take_of_lt
abbrev FJ:=@List.getElem_mem
abbrev xx:=@List.head?_cons
abbrev yh:=@List.isEmpty_eq_false_iff
abbrev aN:=@List.length_append
abbrev aD:=@List.length_cons
abbrev ch:=@List.length_drop
abbrev zq:=@List.length_filter_le
abbrev yK:=@List.length_filter_lt_length_iff_exists
abbrev tw:=@List.length_map
abbrev bh:=@List.length_nil
abbrev Cn:=@List.length_pos_of_mem
abbrev s8:=@List.length_reverse
abbrev Bv:=@List.length_set
abbrev cK:=@List.length_take
abbrev Cf:=@List.mapM_cons
abbrev BE:=@List.map_append
abbrev fO:=@List.map_cons
abbrev rz:=@List.map_map
abbrev nA:=@List.mem_append
abbrev dh:=@List.mem_cons
abbrev gz:=@List.mem_cons_of_mem
abbrev oQ:=@List.mem_cons_self
abbrev mO:=@List.mem_filter
abbrev eD:=@List.mem_map
abbrev gU:=@List.mem_of_getElem?
abbrev FW:=@List.mem_or_eq_of_mem_set
abbrev kO:=@List.mem_range
abbrev yq:=@List.mem_range'_1
abbrev Bq:=@List.mem_singleton
abbrev d9:=@List.nil_append
abbrev B9:=@List.nodup_append
abbrev wl:=@List.nodup_cons
abbrev qQ:=@List.not_mem_nil
abbrev vB:=@List.range'_succ
abbrev rl:=@List.replicate_succ
abbrev vJ:=@List.reverse_reverse
abbrev G6:=@List.set_eq_take_append_cons_drop
abbrev vt:=@List.size_toArray
abbrev og:=@List.take_add_one
abbrev Bb:=@List.take_append
abbrev yp:=@List.take_append_drop
abbrev sR:=@List.take_append_of_le_length
abbrev ot:=@List.take_length
abbrev iu:=@List.take_of_length_le
abbrev pW:=@List.take_succ_cons
abbrev GZ:=@List.take_succ_eq_append_getElem
abbrev yv:=@List.take_take
abbrev nr:=@List.take_zero
abbrev gv:=@Nat.add_assoc
abbrev oE:=@Nat.add_comm
abbrev gA:=@Nat.add_mul
abbrev ux:=@Nat.add_right_cancel_iff
abbrev BJ:=@Nat.add_sub_cancel
abbrev B8:=@Nat.add_sub_cancel_left
abbrev cu:=@Nat.add_zero
abbrev iH:=@Nat.beq_eq
abbrev dA:=@Nat.ble_eq_true_of_le
abbrev Ci:=@Nat.div_le_self
abbrev BN:=@Nat.div_mul_le_self
abbrev qY:=@Nat.div_one
abbrev bB:=@Nat.eq_of_beq_eq_true
abbrev yb:=@Nat.eq_zero_or_pos
abbrev yW:=@Nat.le_add_right
abbrev Ch:=@Nat.le_max_left
abbrev aH:=@Nat.le_of_ble_eq_true
abbrev uT:=@Nat.le_of_eq
abbrev aV:=@Nat.le_refl
abbrev pK:=@Nat.le_trans
abbrev yZ:=@Nat.le_zero
abbrev Br:=@Nat.lt_irrefl
abbrev pN:=@Nat.lt_of_lt_of_le
abbrev aG:=@Nat.lt_or_ge
abbrev By:=@Nat.lt_trichotomy
abbrev qT:=@Nat.min_eq_left
abbrev pi:=@Nat.mod_eq_of_lt
abbrev ye:=@Nat.mod_lt
abbrev BZ:=@Nat.mul_assoc
abbrev vT:=@Nat.mul_comm
abbrev Ck:=@Nat.mul_le_mul
abbrev ny:=@Nat.mul_le_mul_right
abbrev pJ:=@Nat.mul_one
abbrev ze:=@Nat.ne_of_lt
abbrev yP:=@Nat.one_le_pow
abbrev wC:=@Nat.one_mul
abbrev yD:=@Nat.or_comm
abbrev np:=@Nat.pow_le_pow_right
abbrev rA:=@Nat.pow_succ
abbrev xZ:=@Nat.pow_zero
abbrev yc:=@Nat.sub_self
abbrev wx:=@Nat.sub_zero
abbrev cT:=@Nat.zero_add
abbrev rC:=@Nat.zero_le
abbrev y4:=@Nat.zero_mul
abbrev BU:=@Go.Oper.apart_spec
abbrev vu:=@Option.getD_some
abbrev xW:=@Option.isSome_iff_exists
abbrev vS:=@Option.isSome_none
abbrev Bs:=@Option.map_id
abbrev il:=@Option.map_none
abbrev eu:=@Option.map_some
abbrev Bt:=@Option.none_or
abbrev aZ:=@Option.some.inj
abbrev aq:=@Option.some.injEq
abbrev bS:=@Prod.mk.injEq
abbrev ay:=@Go.Result.andThen_ok
abbrev vH:=@Go.Result.ok.injEq
abbrev aw:=@Go.Sem.run_bind
abbrev aA:=@Go.Sem.run_pure
abbrev qS:=@Sum.inr.injEq
abbrev gu:=@UInt8.toNat_inj
abbrev BY:=@UInt8.toNat_ofNat'
abbrev wA:=@Go.World.alloc_eq
abbrev sU:=@and_congr_right
abbrev vI:=@and_true
abbrev aL:=@beq_eq_false_iff_ne
abbrev bA:=@beq_iff_eq
abbrev pM:=@beq_self_eq_true
abbrev eF:=@bne_self_eq_false
abbrev af:=@cond_false
abbrev aj:=@cond_true
abbrev dp:=@congrArg
abbrev mG:=@decide_eq_decide
abbrev au:=@decide_eq_false
abbrev qP:=@decide_eq_false_iff_not
abbrev ar:=@decide_eq_true
abbrev bV:=@decide_eq_true_eq
abbrev mY:=@decide_false
abbrev nh:=@decide_true
abbrev oN:=@exists_congr
abbrev vh:=@false_and
abbrev Bx:=@forall_eq_or_imp
abbrev aE:=@if_false
abbrev ab:=@if_neg
abbrev ae:=@if_pos
abbrev aO:=@if_true
abbrev Bj:=@not_false_eq_true
abbrev tu:=@not_true_eq_false
abbrev tt:=@or_false
abbrev uL:=@Go.run_loadCells_list
abbrev wc:=@Go.run_newObj
abbrev aU:=@Go.run_underlying
abbrev ja:=@true_and
end Go
namespace Go.Abs
inductive Lf where
 | i (k:IntKind)
 | bo
 | s
 deriving Inhabited,DecidableEq
@[reducible] def Lf.den:Lf->Type
 | .i _=>Int
 | .bo=>Bool
 | .s=>aa
@[reducible] def den:List Lf->Type
 | []=>Unit
 | [a]=>a.den
 | a::b::l=>a.den×den (b::l)
inductive V where
 | unk
 | pr (z b j o:Nat)
 | ws (b:Nat)
 | rs (z b j n:Nat) (cap:Option Nat)
 | b (x:Bool)
 | i (k:IntKind) (n:Int)
 | s (l:aa)
 | pn
 | p (b o:Nat)
 | sn
 | sl (b o len:Nat) (cap:Option Nat)
 | fn (f:Nat) (cap:List V)
 | nf
 | ni
 | it (t:Nat) (v:V)
 | ag (l:List V)
 | ai (k:IntKind) (n:Nat) (l:List Int)
 | tp (l:List V)
 | mp (b:Nat)
 deriving Inhabited
structure Rf where
 r:Nat
 n:Nat:=0
 k:Nat:=0
  /-- Of a block of rows: where the rows begin. -/
 o:Nat:=0
  /-- Is it only read? Then others may lie there, too. -/
 fz:Bool:=false
abbrev Rf.of (r n k:Nat):Rf:=⟨r,n,k,0,false⟩
abbrev Inj:=Nat->Option (Option Rf)
def fnW (K f:Nat) (cs:Array Value):Value:=
 match Nat.blt f K with
 | true=>.func (.func f) #[] cs
 | false=>.func (.func (f - K)) cs #[]
def fnV (f:Nat) (cs:Array Value):Value:=fnW 1000000 f cs
theorem Om (K f:Nat) (cs:Array Value):∃g b c,fnW K f cs=.func (.func g) b c:=by
 unfold fnW
 split
 ·exact ⟨_,_,_,rfl⟩
 ·exact ⟨_,_,_,rfl⟩
theorem wO (f:Nat) (cs:Array Value):∃g b c,fnV f cs=.func (.func g) b c:=Om _ f cs
theorem Mi {K f:Nat} (h:Nat.blt f K=true) (cs:Array Value):fnW K f cs=.func (.func f) #[] cs:=by
 unfold fnW;rw [h]
theorem Bd {f:Nat} (h:Nat.blt f 1000000=true) (cs:Array Value):fnV f cs=.func (.func f) #[] cs:=Mi h cs
theorem JK (K f:Nat) (cs:Array Value):fnW K (f+K) cs=.func (.func f) cs #[]:=by
 unfold fnW
 cases h:Nat.blt (f+K) K with
 | true=>have:f+K<K:=aH h;omega
 | false=>simp
theorem IZ (f:Nat) (cs:Array Value):fnV (f+1000000) cs=.func (.func f) cs #[]:=JK _ f cs
def fnFW (K f:Nat):Nat:=match Nat.blt f K with | true=>f | false=>f - K
def fnAW {α:Type} (K f:Nat) (args cap:List α):List α:=match Nat.blt f K with | true=>args++cap | false=>cap++args
def fnF (f:Nat):Nat:=fnFW 1000000 f
def fnA {α:Type} (f:Nat) (args cap:List α):List α:=fnAW 1000000 f args cap
def IV (c:Option Nat) (k:Nat):Prop:=∀m,c=some m->k=m
theorem jF {k:Nat}:IV none k:=λ_ h=>by cases h
theorem qp {k:Nat}:IV (some k) k:=λ_ h=>by cases h;rfl
mutual
def VR (ι:Inj):V->Value->Prop
 | .b x,v=>v=.bool x
 | .i k n,v=>v=.int k n
 | .s l,v=>v=.string ⟨l.toArray⟩
 | .pn,v=>v=.pointer none
 | .p b o,v=>∃q,ι b=some (some q)/\v=.pointer (some ⟨q.r,o,none⟩)
 | .sn,v=>v=.slice none 0 0
 | .sl b o len cap,v=>∃q c,ι b=some (some q)/\(∀n,cap=some n->c=n)/\len<=c/\v=.slice (some ⟨q.r,o,none⟩) len c
 | .unk,v=>v.cells=#[v]/\v.oneCell'=true
 | .pr z b j o,v=>∃q,ι b=some (some q)/\v=.pointer (some ⟨q.r,q.o+(j*z+o),none⟩)
 | .ws b,v=>(∃q,ι b=some (some q)/\v=.slice (some ⟨q.r,q.o,none⟩) q.n q.k)\/(ι b=some none/\∃a,v=.slice a 0 0)
 | .rs z b j n cm,v=>(∃q c o,ι b=some (some q)/\(n<=c/\IV cm c)/\(0<n->o=q.o+j*z)/\v=.slice (some ⟨q.r,o,none⟩) n c)\/(ι b=some none/\(n=0/\IV cm 0)/\∃a,v=.slice a 0 0)
 | .fn f cap,v=>∃cs,v=fnV f cs/\VRs ι cap cs.toList
 | .nf,v=>v=.nilFunc
 | .ni,v=>v=.nilIface
 | .it t x,v=>∃y,v=.iface t y/\VR ι x y
 | .ag l,v=>∃cs:Array Value,v=.agg cs/\VRs ι l cs.toList
 | .ai k n l,v=>l.length=n/\v=.agg (l.map (Value.int k)).toArray
 | .tp l,v=>∃cs:Array Value,v=.tuple cs/\VRs ι l cs.toList
 | .mp b,v=>∃q,ι b=some (some q)/\v=.map (some q.r)
def VRs (ι:Inj):List V->List Value->Prop
 | [],vs=>vs=[]
 | x::l,vs=>∃y ys,vs=y::ys/\VR ι x y/\VRs ι l ys
end
mutual
theorem VR.mono {ι ι':Inj} (h:∀b r,ι b=some r->ι' b=some r):∀(v:V) (x:Value),VR ι v x->VR ι' v x
 | .b _,_,hx | .i _ _,_,hx | .s _,_,hx | .pn,_,hx | .sn,_,hx | .nf,_,hx | .ni,_,hx | .ai _ _ _,_,hx | .unk,_,hx=>by simpa [VR] using hx
 | .p b o,x,hx | .pr z b j o,x,hx | .mp b,x,hx=>by
  simp only [VR] at hx ⊢
  obtain ⟨r,h1,h2⟩:=hx
  exact ⟨r,h _ _ h1,h2⟩
 | .ws b,x,hx=>by
  simp only [VR] at hx ⊢
  rcases hx with ⟨q,h1,h2⟩ | ⟨h1,h2⟩
  ·exact .inl ⟨q,h _ _ h1,h2⟩
  ·exact .inr ⟨h _ _ h1,h2⟩
 | .rs z b j n _,x,hx=>by
  simp only [VR] at hx ⊢
  rcases hx with ⟨q,c,o,h1,h2⟩ | ⟨h1,h2⟩
  ·exact .inl ⟨q,c,o,h _ _ h1,h2⟩
  ·exact .inr ⟨h _ _ h1,h2⟩
 | .sl b o len cap,x,hx=>by
  simp only [VR] at hx ⊢
  obtain ⟨r,c,h1,h2⟩:=hx
  exact ⟨r,c,h _ _ h1,h2⟩
 | .fn f cap,x,hx=>by
  simp only [VR] at hx ⊢
  obtain ⟨cs,h1,h2⟩:=hx
  exact ⟨cs,h1,VRs.mono h _ _ h2⟩
 | .it t v,x,hx=>by
  simp only [VR] at hx ⊢
  obtain ⟨y,h1,h2⟩:=hx
  exact ⟨y,h1,VR.mono h _ _ h2⟩
 | .ag l,x,hx=>by
  simp only [VR] at hx ⊢
  obtain ⟨cs,h1,h2⟩:=hx
  exact ⟨cs,h1,VRs.mono h _ _ h2⟩
 | .tp l,x,hx=>by
  simp only [VR] at hx ⊢
  obtain ⟨cs,h1,h2⟩:=hx
  exact ⟨cs,h1,VRs.mono h _ _ h2⟩
theorem VRs.mono {ι ι':Inj} (h:∀b r,ι b=some r->ι' b=some r):∀(l:List V) (xs:List Value),VRs ι l xs->VRs ι' l xs
 | [],_,hx=>by simpa [VRs] using hx
 | v::l,xs,hx=>by
  simp only [VRs] at hx ⊢
  obtain ⟨y,ys,h1,h2,h3⟩:=hx
  exact ⟨y,ys,h1,VR.mono h _ _ h2,VRs.mono h _ _ h3⟩
end
theorem VRs.length {ι:Inj}:∀{l:List V} {xs:List Value},VRs ι l xs->xs.length=l.length
 | [],_,h=>by simp only [VRs] at h;simp [h]
 | _::_,_,h=>by
  simp only [VRs] at h
  obtain ⟨y,ys,rfl,_,h3⟩:=h
  simp [VRs.length h3]
theorem VRs.get {ι:Inj}:∀{l:List V} {xs:List Value} {j:Nat} {v:V},VRs ι l xs->l[j]?=some v->∃x,xs[j]?=some x/\VR ι v x
 | [],_,_,_,_,hj=>by simp at hj
 | _::_,_,0,_,h,hj=>by
  simp only [VRs] at h
  obtain ⟨y,ys,rfl,h2,_⟩:=h
  simp only [lj,aq] at hj
  subst hj
  exact ⟨y,by simp,h2⟩
 | _::_,_,j+1,_,h,hj=>by
  simp only [VRs] at h
  obtain ⟨y,ys,rfl,_,h3⟩:=h
  simp only [Cu] at hj ⊢
  exact VRs.get h3 hj
theorem VRs.of_get {ι:Inj}:∀{l:List V} {xs:List Value},xs.length=l.length->(∀(j:Nat) (v:V) (x:Value),l[j]?=some v->xs[j]?=some x->VR ι v x)->VRs ι l xs
 | [],xs,hl,_=>by simp only [VRs];exact wU (by simpa using hl)
 | v::l,[],hl,_=>by simp at hl
 | v::l,x::xs,hl,h=>by
  simp only [VRs]
  refine ⟨x,xs,rfl,h 0 v x (by simp) (by simp),VRs.of_get (by simpa using hl) λj v' x' h1 h2=>h (j+1) v' x' (by simpa using h1) (by simpa using h2)⟩
theorem VRs.append {ι:Inj}:∀{l:List V} {xs:List Value} {m:List V} {ys:List Value},VRs ι l xs->VRs ι m ys->VRs ι (l++m) (xs++ys)
 | [],_,_,_,h,h'=>by simp only [VRs] at h;subst h;simpa using h'
 | _::_,_,_,_,h,h'=>by
  simp only [VRs] at h
  obtain ⟨y,ys,rfl,h2,h3⟩:=h
  simp only [fI,VRs]
  exact ⟨y,_,rfl,h2,VRs.append h3 h'⟩
theorem VRs.drop {ι:Inj}:∀{l:List V} {xs:List Value} (n:Nat),VRs ι l xs->VRs ι (l.drop n) (xs.drop n)
 | _,_,0,h=>by simpa using h
 | [],_,_+1,h=>by simp only [VRs] at h;subst h;simp [VRs]
 | _::_,_,n+1,h=>by
  simp only [VRs] at h
  obtain ⟨y,ys,rfl,_,h3⟩:=h
  simpa using VRs.drop n h3
theorem VRs.take {ι:Inj}:∀{l:List V} {xs:List Value} (n:Nat),VRs ι l xs->VRs ι (l.take n) (xs.take n)
 | _,_,0,_=>by simp [VRs]
 | [],_,_+1,h=>by simp only [VRs] at h;subst h;simp [VRs]
 | _::_,_,n+1,h=>by
  simp only [VRs] at h
  obtain ⟨y,ys,rfl,h2,h3⟩:=h
  simp only [pW,VRs]
  exact ⟨y,_,rfl,h2,VRs.take n h3⟩
theorem VRs.set {ι:Inj}:∀{l:List V} {xs:List Value} (n:Nat) {v:V} {x:Value},VRs ι l xs->VR ι v x->VRs ι (l.set n v) (xs.set n x)
 | [],_,_,_,_,h,_=>by simp only [VRs] at h;subst h;simp [VRs]
 | _::_,_,0,_,_,h,hv=>by
  simp only [VRs] at h
  obtain ⟨y,ys,rfl,_,h3⟩:=h
  simp only [List.set_cons_zero,VRs]
  exact ⟨_,_,rfl,hv,h3⟩
 | _::_,_,n+1,_,_,h,hv=>by
  simp only [VRs] at h
  obtain ⟨y,ys,rfl,h2,h3⟩:=h
  simp only [List.set_cons_succ,VRs]
  exact ⟨_,_,rfl,h2,VRs.set n h3 hv⟩
theorem VRs.ints {ι:Inj} (k:IntKind):∀(l:List Int),VRs ι (l.map (V.i k)) (l.map (Value.int k))
 | []=>by simp [VRs]
 | n::l=>by simp only [fO,VRs];exact ⟨_,_,rfl,by simp [VR],VRs.ints k l⟩
def Lf.toV:(a:Lf)->a.den->V
 | .i k,n=>.i k n
 | .bo,x=>.b x
 | .s,l=>.s l
def Lf.val:(a:Lf)->a.den->Value
 | .i k,n=>.int k n
 | .bo,x=>.bool x
 | .s,l=>.string ⟨l.toArray⟩
def cells:(t:List Lf)->den t->List V
 | [],_=>[]
 | [a],x=>[a.toV x]
 | a::b::l,x=>a.toV x.1::cells (b::l) x.2
def vals:(t:List Lf)->den t->List Value
 | [],_=>[]
 | [a],x=>[a.val x]
 | a::b::l,x=>a.val x.1::vals (b::l) x.2
theorem Lf.ok (ι:Inj):∀(a:Lf) (x:a.den),VR ι (a.toV x) (a.val x)
 | .i _,_=>by simp [Lf.toV,Lf.val,VR]
 | .bo,_=>by simp [Lf.toV,Lf.val,VR]
 | .s,_=>by simp [Lf.toV,Lf.val,VR]
theorem Lf.ok_iff (ι:Inj):∀(a:Lf) (x:a.den) (y:Value),VR ι (a.toV x) y↔y=a.val x
 | .i _,_,_=>by simp [Lf.toV,Lf.val,VR]
 | .bo,_,_=>by simp [Lf.toV,Lf.val,VR]
 | .s,_,_=>by simp [Lf.toV,Lf.val,VR]
theorem mZ (ι:Inj):∀(t:List Lf) (x:den t) (ys:List Value),VRs ι (cells t x) ys↔ys=vals t x
 | [],_,ys=>by simp [cells,vals,VRs]
 | [a],x,ys=>by
  simp only [cells,vals,VRs]
  constructor
  ·rintro ⟨y,zs,rfl,h,rfl⟩
   rw [(a.ok_iff ι x y).1 h]
  ·rintro rfl
   exact ⟨_,_,rfl,a.ok ι x,rfl⟩
 | a::b::l,x,ys=>by
  simp only [cells,vals,VRs]
  constructor
  ·rintro ⟨y,zs,rfl,h,h'⟩
   rw [(a.ok_iff ι _ y).1 h,(mZ ι (b::l) x.2 zs).1 h']
  ·rintro rfl
   exact ⟨_,_,rfl,a.ok ι _,(mZ ι (b::l) x.2 _).2 rfl⟩
theorem kh:∀(t:List Lf) (x:den t),(cells t x).length=t.length
 | [],_=>rfl
 | [_],_=>rfl
 | _::b::l,x=>by simp [cells,kh (b::l) x.2]
theorem jq:∀(t:List Lf) (x:den t),(vals t x).length=t.length
 | [],_=>rfl
 | [_],_=>rfl
 | _::b::l,x=>by simp [vals,jq (b::l) x.2]
inductive Blk where
 | dead
 | rows (t:List Lf) (l:List (den t))
 | cells (l:List V)
 | ints (k:IntKind) (n:Nat) (l:List Int)
 | iter (s:aa) (pos:Nat)
 | mp (k:IntKind) (l:List (Int×Nat))
 deriving Inhabited
def NF (fr:Nat×Nat) (n:Nat):Prop:=∀j,j<n->¬(fr.1<=j/\j<fr.2)
def BR (ι:Inj) (q:Rf):Blk->Obj->Prop
 | .dead,_=>True
 | .rows t l,o=>∃cs e fr,o=.cells cs e fr/\l.length=q.n/\q.n<=q.k/\q.o+q.k*t.length<=cs.size/\(cs.toList.drop q.o).take (l.length*t.length)=l.flatMap (vals t)/\(q.fz=true\/NF fr cs.size)
 | .cells l,o=>∃cs e fr,o=.cells cs e fr/\VRs ι l cs.toList/\NF fr cs.size
 | .ints k n l,o=>∃e fr,o=.cells (l.map (Value.int k)).toArray e fr/\l.length=n/\NF fr n
 | .iter s pos,o=>o=.stringIter ⟨s.toArray⟩ pos
 | .mp k l,o=>∃es clock,o=.map es clock/\es.toList.map (λe=>(e.key,e.val))=l.map λp=>(Value.int k p.1,fnV p.2 #[])
theorem BR.mono {ι ι':Inj} {q:Rf} (h:∀b r,ι b=some r->ι' b=some r):∀{blk:Blk} {o:Obj},BR ι q blk o->BR ι' q blk o
 | .dead,_,_=>trivial
 | .rows t l,o,hb=>hb
 | .cells l,o,hb=>by
  obtain ⟨cs,e,fr,h1,h2,h3⟩:=hb
  exact ⟨cs,e,fr,h1,VRs.mono h _ _ h2,h3⟩
 | .ints k n l,o,hb=>hb
 | .iter s pos,o,hb=>hb
 | .mp k l,o,hb=>hb
def look {α:Type}:List (Nat×α)->Nat->Option α
 | [],_=>none
 | (k,v)::l,n=>cond (Nat.beq k n) (some v) (look l n)
theorem aS {α:Type} (k:Nat) (v:α) (l:List (Nat×α)) (n:Nat):look ((k,v)::l) n=if k=n then some v else look l n:=by
 simp only [look]
 by_cases h:k=n
 ·subst h;simp
 ·have:Nat.beq k n=false:=by
   cases hb:Nat.beq k n
   ·rfl
   ·exact absurd (bB hb) h
  simp [this,h]
structure St where
 T:List (Nat×Option V)
 H:List (Nat×Blk)
 nb:Nat
  /-- So many blocks came in. -/
 lo:Nat:=0
  /-- The first so many of them are only read. -/
 ro:Nat:=0
  /-- From this one on they may be moved (blocks of rows, by append). -/
 rb:Nat:=0
 deriving Inhabited
def TR (ι:Inj) (T:List (Nat×Option V)) (tm:Array Value):Prop:=
 ∀t v,look T t=some (some v)->∃x,tm[t]?=some x/\VR ι v x
def BW (ι:Inj) (w:World) (b:Nat) (blk:Blk):Prop:=
 (∃q o,ι b=some (some q)/\w.heap[q.r]?=some o/\BR ι q blk o)\/(ι b=some none/\∃t,blk=.rows t [])
structure WR (ι:Inj) (H:List (Nat×Blk)) (nb:Nat) (w:World):Prop where
 inj:∀b b' q q',ι b=some (some q)->ι b'=some (some q')->q.r=q'.r->b=b'\/(q.fz=true/\q'.fz=true)
 low:∀b q,ι b=some q->b<nb
 dom:∀b q,ι b=some (some q)->q.r<w.heap.size
 blk:∀b blk,look H b=some blk->blk≠.dead->BW ι w b blk
theorem BW.real {ι:Inj} {w:World} {b:Nat} {blk:Blk} (h:BW ι w b blk) (hn:∀t,blk≠.rows t []):∃q o,ι b=some (some q)/\w.heap[q.r]?=some o/\BR ι q blk o:=by
 rcases h with h | ⟨_,t,h⟩
 ·exact h
 ·exact absurd h (hn t)
theorem BW.map {ι ι':Inj} {w w':World} {b b':Nat} {blk blk':Blk} (h:BW ι w b blk) (hb:ι' b'=ι b) (hw:∀q,ι b=some (some q)->w'.heap[q.r]?=w.heap[q.r]?)
  (hr:∀q o,BR ι q blk o->BR ι' q blk' o) (hn:∀t,blk=.rows t []->blk'=.rows t []):BW ι' w' b' blk':=by
 rcases h with ⟨q,o,h1,h2,h3⟩ | ⟨h1,t,h2⟩
 ·exact .inl ⟨q,o,by rw [hb,h1],by rw [hw q h1,h2],hr q o h3⟩
 ·exact .inr ⟨by rw [hb,h1],t,hn t h2⟩
structure Fr (ι0:Inj) (w0 w:World):Prop where
 os:w.os=w0.os
 tape:w.tape=w0.tape
 output:w.output=w0.output
 size:w0.heap.size<=w.heap.size
 blk:∀k,k<w0.heap.size->(∀b q,ι0 b=some (some q)->q.r≠k)->w.heap[k]?=w0.heap[k]?
theorem Fr.refl (ι0:Inj) (w:World):Fr ι0 w w:=⟨rfl,rfl,rfl,aV _,λ_ _ _=>rfl⟩
def roI (ι0:Inj) (ro:Nat):Inj:=λb=>cond (Nat.blt b ro) none (ι0 b)
theorem ov {ι0:Inj} {ro b:Nat} {r:Option Rf} (h:roI ι0 ro b=some r):ι0 b=some r:=by
 unfold roI at h
 cases hb:Nat.blt b ro with
 | true=>simp [hb] at h
 | false=>simpa [hb] using h
theorem FI {ι0:Inj} {ro b:Nat} {r:Option Rf} (h:roI ι0 ro b=some r):ro<=b:=by
 unfold roI at h
 rcases aG b ro with h' | h'
 ·rw [show Nat.blt b ro=true from dA h'] at h;cases h
 ·exact h'
theorem zD {ι0:Inj} {ro b:Nat} {r:Option Rf} (h:ι0 b=some r) (hb:ro<=b):roI ι0 ro b=some r:=by
 have:Nat.blt b ro=false:=by
  cases hx:Nat.blt b ro with
  | false=>rfl
  | true=>have:b<ro:=aH hx;omega
 simp [roI,this,h]
def GL (R:Inj) (w:World):Prop:=∃L:List (Nat×Obj),Ou L/\(∀x∈L,w.heap[x.1]?=some x.2)/\∀x∈L,∀b q,R b=some (some q)->q.r≠x.1
theorem GL.mono {R R':Inj} {w:World} (h:GL R w) (hR:∀b q,R' b=some (some q)->(∃b' q',R b'=some (some q')/\q'.r=q.r)\/w.heap.size<=q.r):GL R' w:=by
 obtain ⟨L,h1,h2,h3⟩:=h
 refine ⟨L,h1,h2,λx hx b q hb=>?_⟩
 rcases hR b q hb with ⟨b',q',h4,h5⟩ | h4
 ·rw [<-h5];exact h3 x hx b' q' h4
 ·have hs:x.1<w.heap.size:=by
   rcases aG x.1 w.heap.size with h | h
   ·exact h
   ·have:=h2 x hx;rw [uP h] at this;cases this
  omega
structure Base where
 w:World
 D:List Deferred:=[]
structure Inv (n:Nat) (ι0:Inj) (w0:Base) (ι:Inj) (s:St) (a:Act) (w:World):Prop where
 size:a.tmps.size=n
 defers:a.defers=w0.D
 tmps:TR ι s.T a.tmps
 mem:WR ι s.H s.nb w
 ext:∀b q,ι0 b=some q->ι b=some q\/s.rb<=b
 new:∀b q,ι b=some (some q)->(∃q',ι0 b=some (some q')/\q'.r=q.r)\/w0.w.heap.size<=q.r
 fr:Fr (roI ι0 s.ro) w0.w w
 low:∀b r,ι0 b=some r->b<s.lo
 fz:∀b q,ι b=some (some q)->q.fz=true->b<s.ro
 gl:GL (roI ι0 s.ro) w0.w
theorem Inv.glHere {n:Nat} {ι0 ι:Inj} {w0:Base} {s:St} {a:Act} {w:World} (h:Inv n ι0 w0 ι s a w) {R:Inj} (hR:∀b q,R b=some (some q)->ι b=some (some q)/\s.ro<=b):GL R w:=by
 obtain ⟨L,h1,h2,h3⟩:=h.gl
 have hs:∀x∈L,x.1<w0.w.heap.size:=by
  intro x hx
  rcases aG x.1 w0.w.heap.size with h | h
  ·exact h
  ·have:=h2 x hx;rw [uP h] at this;cases this
 refine ⟨L,h1,λx hx=>?_,λx hx b q hb=>?_⟩
 ·rw [h.fr.blk x.1 (hs x hx) (h3 x hx)];exact h2 x hx
 ·obtain ⟨h4,h5⟩:=hR b q hb
  rcases h.new b q h4 with ⟨q',h6,h7⟩ | h6
  ·rw [<-h7];exact h3 x hx b q' (zD h6 h5)
  ·have:=hs x hx;omega
def upd (ι:Inj) (b:Nat) (r:Option Rf):Inj:=λc=>if c=b then some r else ι c
theorem om {ι:Inj} {b:Nat} {r:Option Rf} (h:ι b=none):∀c q,ι c=some q->upd ι b r c=some q:=by
 intro c q hc
 unfold upd
 split
 ·rename_i e;subst e;rw [h] at hc;cases hc
 ·exact hc
theorem TR.mono {ι ι':Inj} (h:∀b r,ι b=some r->ι' b=some r) {T:List (Nat×Option V)} {tm:Array Value} (ht:TR ι T tm):TR ι' T tm:=
 λt v hv=>let ⟨x,h1,h2⟩:=ht t v hv;⟨x,h1,VR.mono h _ _ h2⟩
theorem TR.put {ι:Inj} {T:List (Nat×Option V)} {a:Act} {d:Nat} {v:Option V} {x:Value} (ht:TR ι T a.tmps) (hd:d<a.tmps.size)
  (hv:∀u,v=some u->VR ι u x):TR ι ((d,v)::T) (a.put (some d) x).tmps:=by
 intro t u hu
 rw [aS] at hu
 simp only [Act.put]
 split at hu
 ·rename_i e;subst e
  simp only [aq] at hu
  exact ⟨x,by simp [hd],hv u hu⟩
 ·rename_i hne
  obtain ⟨y,h1,h2⟩:=ht t u hu
  exact ⟨y,by rw [K6 hne];exact h1,h2⟩
def setObj (w:World) (r:Nat) (o:Obj):World:={ w with heap:=w.heap.setIfInBounds r o }
theorem ji (w:World) (o:Obj):(w.alloc o).heap[w.heap.size]?=some o:=by
 show (w.heap.push o)[w.heap.size]?=some o
 simp
theorem jf (w:World) (o:Obj) {k:Nat} (h:k≠w.heap.size):(w.alloc o).heap[k]?=w.heap[k]?:=by
 show (w.heap.push o)[k]?=_
 rw [Array.getElem?_push,ab h]
theorem qz {w:World} {r:Nat} {o:Obj} (h:w.heap[r]?=some o):r<w.heap.size:=by
 rcases aG r w.heap.size with h' | h'
 ·exact h'
 ·simp [uP h'] at h
theorem WR.draws {ι:Inj} {H:List (Nat×Blk)} {nb:Nat} {w:World} (h:WR ι H nb w) (n:Nat):WR ι H nb { w with drawn:=n }:=
 ⟨h.inj,h.low,h.dom,h.blk⟩
theorem qD {w:World} {r k:Nat} (o:Obj) (h:r≠k):(setObj w r o).heap[k]?=w.heap[k]?:=by
 simp [setObj,K6 h]
theorem WR.write {ι:Inj} {H:List (Nat×Blk)} {nb b:Nat} {q:Rf} {w:World} {blk:Blk} {o:Obj} (h:WR ι H nb w) (hb:ι b=some (some q)) (hz:q.fz=false) (ho:BR ι q blk o):
  WR ι ((b,blk)::H) nb (setObj w q.r o):=by
 have hr:=h.dom b q hb
 refine ⟨h.inj,h.low,λc q hc=>by simpa [setObj] using h.dom c q hc,λc blk' hl hd=>?_⟩
 rw [aS] at hl
 split at hl
 ·rename_i e;subst e
  simp only [aq] at hl;subst hl
  exact .inl ⟨q,o,hb,by simp [setObj,hr],ho⟩
 ·rename_i hne
  exact (h.blk c blk' hl hd).map rfl (λp hp=>qD o λe=>(h.inj b c q p hb hp e).elim hne λhh=>by rw [hz] at hh;cases hh.1) (λ_ _ x=>x) (λ_ x=>x)
theorem WR.alloc {ι:Inj} {H:List (Nat×Blk)} {nb nb' f:Nat} {q:Rf} {w:World} {blk:Blk} {o:Obj} (h:WR ι H nb w) (hf:ι f=none) (hn:nb<=nb') (hfn:f<nb')
  (hq:q.r=w.heap.size) (ho:BR (upd ι f (some q)) q blk o):WR (upd ι f (some q)) ((f,blk)::H) nb' (w.alloc o):=by
 have hext:=om (r:=some q) hf
 refine ⟨λb b' r r' h1 h2 hr=>?_,λc p hc=>?_,λc p hc=>?_,λc blk' hl hd=>?_⟩
 ·unfold upd at h1 h2
  split at h1<;>split at h2
  ·rename_i e1 e2;exact .inl (e1.trans e2.symm)
  ·simp only [aq] at h1;subst h1
   have:=h.dom _ _ h2
   omega
  ·simp only [aq] at h2;subst h2
   have:=h.dom _ _ h1
   omega
  ·exact h.inj _ _ _ _ h1 h2 hr
 ·unfold upd at hc
  split at hc
  ·rename_i e;subst e;exact hfn
  ·have:=h.low _ _ hc
   omega
 ·unfold upd at hc
  split at hc
  ·simp only [aq] at hc;subst hc;simp;omega
  ·have:=h.dom _ _ hc
   simp;omega
 ·rw [aS] at hl
  split at hl
  ·rename_i e;subst e
   simp only [aq] at hl;subst hl
   exact .inl ⟨q,o,by simp [upd],by rw [hq];exact ji w o,ho⟩
  ·rename_i hne
   refine (h.blk c blk' hl hd).map (by simp [upd,Ne.symm hne]) (λp hp=>?_) (λ_ _ x=>BR.mono hext x) (λ_ x=>x)
   have:=h.dom _ _ hp
   exact jf w o (by omega)
theorem Fr.draws {ι0:Inj} {w0 w:World} (h:Fr ι0 w0 w) (n:Nat):Fr ι0 w0 { w with drawn:=n }:=⟨h.os,h.tape,h.output,h.size,h.blk⟩
theorem Fr.alloc {ι0:Inj} {w0 w:World} (h:Fr ι0 w0 w) (o:Obj):Fr ι0 w0 (w.alloc o):=by
 refine ⟨h.os,h.tape,h.output,by have:=h.size;simp;omega,λk hk hb=>?_⟩
 have:=h.size
 rw [jf w o (by omega)];exact h.blk k hk hb
theorem Fr.write {ι0:Inj} {w0 w:World} (h:Fr ι0 w0 w) {r:Nat} (hr:(∃b q,ι0 b=some (some q)/\q.r=r)\/w0.heap.size<=r) (o:Obj):Fr ι0 w0 (setObj w r o):=by
 refine ⟨h.os,h.tape,h.output,by simpa [setObj] using h.size,λk hk hb=>?_⟩
 have hne:r≠k:=by
  rintro rfl
  rcases hr with ⟨b,q,hb',hq⟩ | hr
  ·exact hb b q hb' hq
  ·omega
 simp only [setObj,K6 hne]
 exact h.blk k hk hb
theorem bE {w:World} {r o:Nat} {cs:Array Value} {e:TypeId} {fr:Nat×Nat} (h:w.heap[r]?=some (.cells cs e fr)):
  w.cell? ⟨r,o,none⟩=cs[o]?:=by
 simp [World.cell?,h]
theorem pR {w:World} {r o:Nat} {cs:Array Value} {e:TypeId} {fr:Nat×Nat} (h:w.heap[r]?=some (.cells cs e fr)) (hn:NF fr cs.size) (ho:o<cs.size):
  w.frozen? ⟨r,o,none⟩=false:=by
 have:=hn o ho
 simp only [World.frozen?,h]
 by_cases h1:fr.1<=o<;>by_cases h2:o<fr.2<;>simp_all
theorem Aj {w:World} {r o:Nat} {v:Value} {cs:Array Value} {e:TypeId} {fr:Nat×Nat} (h:w.heap[r]?=some (.cells cs e fr)):
  w.setCell ⟨r,o,none⟩ v=setObj w r (.cells (cs.setIfInBounds o v) e fr):=by
 unfold World.setCell setObj
 congr 1
 apply LI
 intro k
 rw [Array.getElem?_modify,Lv]
 have hr:=qz h
 by_cases hk:r=k
 ·subst hk
  rw [ae rfl,ae rfl,ae hr,h]
  simp
 ·rw [ab hk,ab hk]
theorem xO (w:World) (r:Nat) (o o':Obj):setObj (setObj w r o) r o'=setObj w r o':=by
 simp [setObj]
theorem Bm {w:World} {r:Nat} {o:Obj} (h:w.heap[r]?=some o):setObj w r o=w:=by
 unfold setObj
 congr 1
 apply LI
 intro k
 rw [Lv]
 by_cases hk:r=k
 ·subst hk
  rw [ae rfl,ae (qz h),h]
 ·rw [ab hk]
theorem uH {w:World} {r:Nat} {o o':Obj} (h:w.heap[r]?=some o):(setObj w r o').heap[r]?=some o':=by
 have hr:=qz h
 simp [setObj,hr]
end Go.Abs
