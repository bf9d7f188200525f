
/- The abstract values and the abstract memory of the interpreter, and how they relate to the model's own.
   Conditions: none; everything here is generic over the program. -/
import Derived.Tactics
import Derived.Below
import Derived.Test.YthemneooekobkabGreatDoorGlob
set_option linter.unusedSimpArgs false
set_option linter.unusedVariables false
namespace Go
abbrev aa:=List UInt8
abbrev lG:=@Array.ext'
abbrev RZ:=@Array.ext_getElem?
abbrev qW:=@Array.getD_eq_getD_getElem?
abbrev Ug:=@Array.getElem?_append_left
abbrev Uz:=@Array.getElem?_eq_getElem
abbrev xM:=@Array.getElem?_eq_none
abbrev W8:=@Array.getElem?_replicate
abbrev TO:=@Array.getElem?_setIfInBounds
abbrev SB:=@Array.getElem?_setIfInBounds_ne
abbrev qK:=@Array.getElem?_toList
abbrev NQ:=@Array.length_toList
abbrev QL:=@Array.mapM_eq_mapM_toList
abbrev Iz:=@Array.map_empty
abbrev xE:=@Array.toList_append
abbrev rh:=@BEq.rfl
abbrev Ey:=@Bool.and_eq_false_iff
abbrev aA:=@Bool.and_eq_true
abbrev yo:=@Bool.and_false
abbrev CW:=@Bool.and_true
abbrev us:=@Bool.eq_iff_iff
abbrev yd:=@Bool.false_and
abbrev bv:=@Bool.false_eq_true
abbrev pf:=@Bool.false_or
abbrev HC:=@Bool.not_eq_true
abbrev lz:=@Bool.not_eq_true'
abbrev il:=@Bool.not_false
abbrev ci:=@Bool.not_true
abbrev pM:=@Bool.or_eq_false_iff
abbrev iV:=@Bool.or_eq_true
abbrev xc:=@Bool.or_false
abbrev om:=@Bool.true_and
abbrev GF:=@Bool.true_or
abbrev Nw:=@ByteArray.ext
abbrev G5:=@Classical.em
abbrev tO:=@Go.Code.wp_mono
abbrev Nh:=@Decidable.not_not
abbrev MI:=@Int.dvd_of_emod_eq_zero
abbrev LH:=@Int.emod_lt_of_pos
abbrev Lq:=@Int.emod_nonneg
abbrev xW:=@Int.le_refl
abbrev Ae:=@Int.mul_comm
abbrev Rb:=@Int.mul_le_mul_of_nonneg_right
abbrev Hu:=@Int.natCast_mul
abbrev MH:=@Int.sub_add_cancel
abbrev Q8:=@Int.tdiv_eq_ediv_of_nonneg
abbrev JI:=@Int.tmod_eq_emod
abbrev LE:=@Int.tmod_eq_emod_of_nonneg
abbrev cg:=@Int.toNat_natCast
abbrev H5:=@Int.toNat_of_nonneg
abbrev zJ:=@Int.zero_sub
abbrev HO:=@Go.IntKind.wrap_i64
abbrev Et:=@List.all_append
abbrev mY:=@List.all_cons
abbrev cK:=@List.all_eq_true
abbrev sX:=@List.any_append
abbrev ri:=@List.any_cons
abbrev sU:=@List.any_eq_false
abbrev tX:=@List.any_eq_true
abbrev fN:=@List.append_assoc
abbrev lO:=@List.append_nil
abbrev fg:=@List.cons_append
abbrev NM:=@List.countP_cons
abbrev ID:=@List.drop_append
abbrev jw:=@List.drop_drop
abbrev qE:=@List.drop_eq_getElem_cons
abbrev js:=@List.drop_eq_nil_of_le
abbrev En:=@List.drop_left'
abbrev sT:=@List.drop_length
abbrev og:=@List.drop_succ_cons
abbrev xH:=@List.drop_take
abbrev bV:=@List.drop_zero
abbrev uc:=@List.eq_nil_of_length_eq_zero
abbrev DZ:=@List.ext_getElem?
abbrev Le:=@List.filter_append
abbrev Re:=@List.filter_cons_of_neg
abbrev Ro:=@List.filter_cons_of_pos
abbrev Ha:=@List.filter_filter
abbrev Df:=@List.findSome?_cons
abbrev QZ:=@List.findSome?_eq_none_iff
abbrev NY:=@List.flatMap_append
abbrev oC:=@List.flatMap_cons
abbrev Hi:=@List.foldl_append
abbrev vC:=@List.foldl_cons
abbrev Hm:=@List.foldl_nil
abbrev DU:=@List.getD_eq_getElem?_getD
abbrev od:=@List.getElem?_append_left
abbrev qG:=@List.getElem?_append_right
abbrev HK:=@List.getElem?_cons_succ
abbrev mL:=@List.getElem?_cons_zero
abbrev na:=@List.getElem?_drop
abbrev bf:=@List.getElem?_eq_getElem
abbrev g9:=@List.getElem?_eq_none
abbrev qH:=@List.getElem?_eq_some_iff
abbrev m6:=@List.getElem?_map
abbrev Kw:=@List.getElem?_take
abbrev qA:=@List.getElem?_take_of_lt
abbrev Ig:=@List.getElem_mem
abbrev o5:=@List.head?_cons
abbrev HJ:=@List.isEmpty_eq_false_iff
abbrev bg:=@List.length_append
abbrev aE:=@List.length_cons
abbrev bN:=@List.length_drop
abbrev Cc:=@List.length_filter_le
abbrev Bo:=@List.length_filter_lt_length_iff_exists
abbrev xp:=@List.length_map
abbrev bz:=@List.length_nil
abbrev E7:=@List.length_pos_of_mem
abbrev vi:=@List.length_reverse
abbrev Bi:=@List.length_singleton
abbrev dG:=@List.length_take
abbrev Ff:=@List.mapM_cons
abbrev Ge:=@List.map_append
abbrev gf:=@List.map_cons
abbrev tn:=@List.map_map
abbrev nO:=@List.mem_append
abbrev cL:=@List.mem_cons
abbrev fY:=@List.mem_cons_of_mem
abbrev mV:=@List.mem_cons_self
abbrev oh:=@List.mem_filter
abbrev E8:=@List.mem_flatMap
abbrev eY:=@List.mem_map
abbrev gM:=@List.mem_of_getElem?
abbrev kX:=@List.mem_range
abbrev BL:=@List.mem_range'_1
abbrev Fh:=@List.mem_reverse
abbrev n9:=@List.mem_singleton
abbrev dX:=@List.nil_append
abbrev EU:=@List.nodup_append
abbrev xF:=@List.nodup_cons
abbrev tc:=@List.not_mem_nil
abbrev yg:=@List.range'_succ
abbrev tz:=@List.replicate_succ
abbrev yv:=@List.reverse_reverse
abbrev N4:=@List.set_eq_take_append_cons_drop
abbrev FC:=@List.singleton_append
abbrev wx:=@List.size_toArray
abbrev rC:=@List.take_add_one
abbrev FQ:=@List.take_append
abbrev ve:=@List.take_append_drop
abbrev vq:=@List.take_append_of_le_length
abbrev By:=@List.take_left
abbrev ma:=@List.take_length
abbrev jd:=@List.take_of_length_le
abbrev oc:=@List.take_succ_cons
abbrev Lm:=@List.take_succ_eq_append_getElem
abbrev Bm:=@List.take_take
abbrev lT:=@List.take_zero
abbrev iP:=@Nat.add_assoc
abbrev qY:=@Nat.add_comm
abbrev gY:=@Nat.add_mul
abbrev xm:=@Nat.add_right_cancel_iff
abbrev Fp:=@Nat.add_sub_cancel
abbrev F4:=@Nat.add_sub_cancel_left
abbrev cP:=@Nat.add_zero
abbrev jn:=@Nat.beq_eq
abbrev cT:=@Nat.ble_eq_true_of_le
abbrev E0:=@Nat.div_le_self
abbrev F7:=@Nat.div_mul_le_self
abbrev tG:=@Nat.div_one
abbrev bP:=@Nat.eq_of_beq_eq_true
abbrev Bj:=@Nat.eq_zero_or_pos
abbrev A9:=@Nat.le_add_right
abbrev EP:=@Nat.le_max_left
abbrev aJ:=@Nat.le_of_ble_eq_true
abbrev yM:=@Nat.le_of_eq
abbrev aY:=@Nat.le_refl
abbrev qX:=@Nat.le_trans
abbrev Bq:=@Nat.le_zero
abbrev F3:=@Nat.lt_irrefl
abbrev rD:=@Nat.lt_of_lt_of_le
abbrev aH:=@Nat.lt_or_ge
abbrev EG:=@Nat.lt_trichotomy
abbrev sY:=@Nat.min_eq_left
abbrev rP:=@Nat.mod_eq_of_lt
abbrev A7:=@Nat.mod_lt
abbrev EJ:=@Nat.mul_assoc
abbrev u0:=@Nat.mul_comm
abbrev FR:=@Nat.mul_le_mul
abbrev oS:=@Nat.mul_le_mul_right
abbrev rz:=@Nat.mul_one
abbrev BC:=@Nat.ne_of_lt
abbrev Ar:=@Nat.one_le_pow
abbrev xn:=@Nat.one_mul
abbrev BA:=@Nat.or_comm
abbrev oI:=@Nat.pow_le_pow_right
abbrev tq:=@Nat.pow_succ
abbrev A8:=@Nat.pow_zero
abbrev B6:=@Nat.sub_self
abbrev oM:=@Nat.sub_zero
abbrev da:=@Nat.zero_add
abbrev ft:=@Nat.zero_le
abbrev Cd:=@Nat.zero_mul
abbrev ER:=@Go.Oper.apart_spec
abbrev xb:=@Option.getD_some
abbrev AA:=@Option.isSome_iff_exists
abbrev xh:=@Option.isSome_none
abbrev je:=@Option.map_none
abbrev fb:=@Option.map_some
abbrev Gv:=@Option.none_or
abbrev bm:=@Option.some.inj
abbrev au:=@Option.some.injEq
abbrev ba:=@Prod.mk.injEq
abbrev az:=@Go.Result.andThen_ok
abbrev yq:=@Go.Result.ok.injEq
abbrev aw:=@Go.Sem.run_bind
abbrev aD:=@Go.Sem.run_pure
abbrev lc:=@Sum.inr.inj
abbrev oG:=@Sum.inr.injEq
abbrev gJ:=@UInt8.toNat_inj
abbrev EI:=@UInt8.toNat_ofNat'
abbrev yc:=@Go.World.alloc_eq
abbrev uR:=@and_congr_right
abbrev yL:=@and_true
abbrev aK:=@beq_eq_false_iff_ne
abbrev bI:=@beq_iff_eq
abbrev xK:=@beq_self_eq_true
abbrev ye:=@bne_iff_ne
abbrev dF:=@bne_self_eq_false
abbrev af:=@cond_false
abbrev ah:=@cond_true
abbrev cj:=@congrArg
abbrev nX:=@decide_eq_decide
abbrev aq:=@decide_eq_false
abbrev uT:=@decide_eq_false_iff_not
abbrev am:=@decide_eq_true
abbrev cn:=@decide_eq_true_eq
abbrev nU:=@decide_false
abbrev oK:=@decide_true
abbrev qf:=@exists_congr
abbrev xO:=@false_and
abbrev Gt:=@forall_eq_or_imp
abbrev aB:=@if_false
abbrev ab:=@if_neg
abbrev ae:=@if_pos
abbrev aL:=@if_true
abbrev FI:=@not_false_eq_true
abbrev vr:=@not_true_eq_false
abbrev uP:=@or_false
abbrev xy:=@Go.run_loadCells_list
abbrev yO:=@Go.run_newObj
abbrev be:=@Go.run_underlying
abbrev jN:=@true_and
end Go
namespace Go.Abs
inductive Lf where
 | i (k:IntKind)
 | bo
 | s
 deriving Inhabited,DecidableEq
@[reducible] def Lf.den:Lf->Type
 | .i _=>Int
 | .bo=>Bool
 | .s=>aa
@[reducible] def den:List Lf->Type
 | []=>Unit
 | [a]=>a.den
 | a::b::l=>a.den×den (b::l)
inductive V where
 | unk
 | pr (z b j o:Nat)
 | ws (b:Nat)
 | rs (z b j n:Nat) (cap:Option Nat)
 | b (x:Bool)
 | i (k:IntKind) (n:Int)
 | s (l:aa)
 | pn
 | p (b o:Nat)
 | sn
 | sl (b o len:Nat) (cap:Option Nat)
 | fn (f:Nat) (cap:List V)
 | nf
 | ni
 | it (t:Nat) (v:V)
 | ag (l:List V)
 | ai (k:IntKind) (n:Nat) (l:List Int)
 | tp (l:List V)
 | mp (b:Nat)
 deriving Inhabited
structure Rf where
 r:Nat
 n:Nat:=0
 k:Nat:=0
  /-- Of a block of rows: where the rows begin. -/
 o:Nat:=0
  /-- Is it only read? Then others may lie there, too. -/
 fz:Bool:=false
abbrev Rf.of (r n k:Nat):Rf:=⟨r,n,k,0,false⟩
abbrev Inj:=Nat->Option (Option Rf)
def fnW (K f:Nat) (a:Array Value):Value:=
 match Nat.blt f K with
 | true=>.func (.func f) #[] a
 | false=>.func (.func (f - K)) a #[]
def fnV (f:Nat) (a:Array Value):Value:=fnW 1000000 f a
theorem Wu (K f:Nat) (a:Array Value):∃g b c,fnW K f a=.func (.func g) b c:=by
 unfold fnW;split
 ·exact ⟨_,_,_,rfl⟩
 ·exact ⟨_,_,_,rfl⟩
theorem zg (f:Nat) (a:Array Value):∃g b c,fnV f a=.func (.func g) b c:=Wu _ f a
theorem RR {K f:Nat} (h:Nat.blt f K=true) (a:Array Value):fnW K f a=.func (.func f) #[] a:=by
 unfold fnW;rw [h]
theorem FG {f:Nat} (h:Nat.blt f 1000000=true) (a:Array Value):fnV f a=.func (.func f) #[] a:=RR h a
theorem QC (K f:Nat) (a:Array Value):fnW K (f+K) a=.func (.func f) a #[]:=by
 unfold fnW;cases h:Nat.blt (f+K) K with
 | true=>have:f+K<K:=aJ h;omega
 | false=>simp
theorem OL (f:Nat) (a:Array Value):fnV (f+1000000) a=.func (.func f) a #[]:=QC _ f a
def fnFW (K f:Nat):Nat:=match Nat.blt f K with | true=>f | false=>f - K
def fnAW {α:Type} (K f:Nat) (args cap:List α):List α:=match Nat.blt f K with | true=>args++cap | false=>cap++args
def fnF (f:Nat):Nat:=fnFW 1000000 f
def fnA {α:Type} (f:Nat) (args cap:List α):List α:=fnAW 1000000 f args cap
def OS (c:Option Nat) (k:Nat):Prop:=∀m,c=some m->k=m
theorem kE {k:Nat}:OS none k:=λ_ h=>by cases h
theorem rV {k:Nat}:OS (some k) k:=λ_ h=>by cases h;rfl
mutual
def VR (ι:Inj):V->Value->Prop
 | .b x,v=>v=.bool x
 | .i k n,v=>v=.int k n
 | .s l,v=>v=.string ⟨l.toArray⟩
 | .pn,v=>v=.pointer none
 | .p b o,v=>∃q,ι b=some (some q)/\v=.pointer (some ⟨q.r,o,none⟩)
 | .sn,v=>v=.slice none 0 0
 | .sl b o len cap,v=>∃q c,ι b=some (some q)/\(∀n,cap=some n->c=n)/\len<=c/\v=.slice (some ⟨q.r,o,none⟩) len c
 | .unk,v=>v.cells=#[v]/\v.oneCell'=true
 | .pr z b j o,v=>∃q,ι b=some (some q)/\v=.pointer (some ⟨q.r,q.o+(j*z+o),none⟩)
 | .ws b,v=>(∃q,ι b=some (some q)/\v=.slice (some ⟨q.r,q.o,none⟩) q.n q.k)\/(ι b=some none/\∃a,v=.slice a 0 0)
 | .rs z b j n e,v=>(∃q c o,ι b=some (some q)/\(n<=c/\OS e c)/\(0<n->o=q.o+j*z)/\v=.slice (some ⟨q.r,o,none⟩) n c)\/(ι b=some none/\(n=0/\OS e 0)/\∃a,v=.slice a 0 0)
 | .fn f cap,v=>∃d,v=fnV f d/\VRs ι cap d.toList
 | .nf,v=>v=.nilFunc
 | .ni,v=>v=.nilIface
 | .it t x,v=>∃y,v=.iface t y/\VR ι x y
 | .ag l,v=>∃d:Array Value,v=.agg d/\VRs ι l d.toList
 | .ai k n l,v=>l.length=n/\v=.agg (l.map (Value.int k)).toArray
 | .tp l,v=>∃d:Array Value,v=.tuple d/\VRs ι l d.toList
 | .mp b,v=>∃q,ι b=some (some q)/\v=.map (some q.r)
def VRs (ι:Inj):List V->List Value->Prop
 | [],a=>a=[]
 | x::l,a=>∃y b,a=y::b/\VR ι x y/\VRs ι l b
end
mutual
theorem VR.mono {ι F:Inj} (h:∀b r,ι b=some r->F b=some r):∀(v:V) (x:Value),VR ι v x->VR F v x
 | .b _,_,hx | .i _ _,_,hx | .s _,_,hx | .pn,_,hx | .sn,_,hx | .nf,_,hx | .ni,_,hx | .ai _ _ _,_,hx | .unk,_,hx=>by simpa [VR] using hx
 | .p b o,x,hx | .pr z b j o,x,hx | .mp b,x,hx=>by
  simp only [VR] at hx ⊢;obtain ⟨r,E,C⟩:=hx;exact ⟨r,h _ _ E,C⟩
 | .ws b,x,hx=>by
  simp only [VR] at hx ⊢;rcases hx with ⟨q,E,C⟩ | ⟨E,C⟩
  ·exact .inl ⟨q,h _ _ E,C⟩
  ·exact .inr ⟨h _ _ E,C⟩
 | .rs z b j n _,x,hx=>by
  simp only [VR] at hx ⊢;rcases hx with ⟨q,c,o,E,C⟩ | ⟨E,C⟩
  ·exact .inl ⟨q,c,o,h _ _ E,C⟩
  ·exact .inr ⟨h _ _ E,C⟩
 | .sl b o len cap,x,hx=>by
  simp only [VR] at hx ⊢;obtain ⟨r,c,E,C⟩:=hx;exact ⟨r,c,h _ _ E,C⟩
 | .fn f cap,x,hx=>by
  simp only [VR] at hx ⊢;obtain ⟨G,E,C⟩:=hx;exact ⟨G,E,VRs.mono h _ _ C⟩
 | .it t v,x,hx=>by
  simp only [VR] at hx ⊢;obtain ⟨y,E,C⟩:=hx;exact ⟨y,E,VR.mono h _ _ C⟩
 | .ag l,x,hx=>by
  simp only [VR] at hx ⊢;obtain ⟨G,E,C⟩:=hx;exact ⟨G,E,VRs.mono h _ _ C⟩
 | .tp l,x,hx=>by
  simp only [VR] at hx ⊢;obtain ⟨G,E,C⟩:=hx;exact ⟨G,E,VRs.mono h _ _ C⟩
theorem VRs.mono {ι C:Inj} (h:∀b r,ι b=some r->C b=some r):∀(l:List V) (E:List Value),VRs ι l E->VRs C l E
 | [],_,hx=>by simpa [VRs] using hx
 | v::l,E,hx=>by
  simp only [VRs] at hx ⊢;obtain ⟨y,O,G,J,F⟩:=hx;exact ⟨y,O,G,VR.mono h _ _ J,VRs.mono h _ _ F⟩
end
theorem VRs.length {ι:Inj}:∀{l:List V} {xs:List Value},VRs ι l xs->xs.length=l.length
 | [],_,h=>by simp only [VRs] at h;simp [h]
 | _::_,_,h=>by
  simp only [VRs] at h;obtain ⟨y,E,rfl,_,C⟩:=h;simp [VRs.length C]
theorem VRs.get {ι:Inj}:∀{l:List V} {xs:List Value} {j:Nat} {v:V},VRs ι l xs->l[j]?=some v->∃x,xs[j]?=some x/\VR ι v x
 | [],_,_,_,_,C=>by simp at C
 | _::_,_,0,_,h,C=>by
  simp only [VRs] at h;obtain ⟨y,G,rfl,E,_⟩:=h;simp only [mL,au] at C;subst C;exact ⟨y,by simp,E⟩
 | _::_,_,j+1,_,h,C=>by
  simp only [VRs] at h;obtain ⟨y,G,rfl,_,F⟩:=h;simp only [HK] at C ⊢;exact VRs.get F C
theorem VRs.of_get {ι:Inj}:∀{l:List V} {C:List Value},C.length=l.length->(∀(j:Nat) (v:V) (x:Value),l[j]?=some v->C[j]?=some x->VR ι v x)->VRs ι l C
 | [],C,E,_=>by simp only [VRs];exact uc (by simpa using E)
 | v::l,[],E,_=>by simp at E
 | v::l,x::C,E,h=>by
  simp only [VRs];refine ⟨x,C,rfl,h 0 v x (by simp) (by simp),VRs.of_get (by simpa using E) λj G O F J=>h (j+1) G O (by simpa using F) (by simpa using J)⟩
theorem VRs.append {ι:Inj}:∀{l:List V} {xs:List Value} {m:List V} {C:List Value},VRs ι l xs->VRs ι m C->VRs ι (l++m) (xs++C)
 | [],_,_,_,h,E=>by simp only [VRs] at h;subst h;simpa using E
 | _::_,_,_,_,h,E=>by
  simp only [VRs] at h;obtain ⟨y,C,rfl,F,G⟩:=h;simp only [fg,VRs];exact ⟨y,_,rfl,F,VRs.append G E⟩
theorem VRs.drop {ι:Inj}:∀{l:List V} {xs:List Value} (n:Nat),VRs ι l xs->VRs ι (l.drop n) (xs.drop n)
 | _,_,0,h=>by simpa using h
 | [],_,_+1,h=>by simp only [VRs] at h;subst h;simp [VRs]
 | _::_,_,n+1,h=>by
  simp only [VRs] at h;obtain ⟨y,E,rfl,_,C⟩:=h;simpa using VRs.drop n C
theorem VRs.take {ι:Inj}:∀{l:List V} {xs:List Value} (n:Nat),VRs ι l xs->VRs ι (l.take n) (xs.take n)
 | _,_,0,_=>by simp [VRs]
 | [],_,_+1,h=>by simp only [VRs] at h;subst h;simp [VRs]
 | _::_,_,n+1,h=>by
  simp only [VRs] at h;obtain ⟨y,F,rfl,C,E⟩:=h;simp only [oc,VRs];exact ⟨y,_,rfl,C,VRs.take n E⟩
theorem VRs.set {ι:Inj}:∀{l:List V} {xs:List Value} (n:Nat) {v:V} {x:Value},VRs ι l xs->VR ι v x->VRs ι (l.set n v) (xs.set n x)
 | [],_,_,_,_,h,_=>by simp only [VRs] at h;subst h;simp [VRs]
 | _::_,_,0,_,_,h,E=>by
  simp only [VRs] at h;obtain ⟨y,F,rfl,_,C⟩:=h;simp only [List.set_cons_zero,VRs];exact ⟨_,_,rfl,E,C⟩
 | _::_,_,n+1,_,_,h,E=>by
  simp only [VRs] at h;obtain ⟨y,F,rfl,G,C⟩:=h;simp only [List.set_cons_succ,VRs];exact ⟨_,_,rfl,G,VRs.set n C E⟩
theorem VRs.ints {ι:Inj} (k:IntKind):∀(l:List Int),VRs ι (l.map (V.i k)) (l.map (Value.int k))
 | []=>by simp [VRs]
 | n::l=>by simp only [gf,VRs];exact ⟨_,_,rfl,by simp [VR],VRs.ints k l⟩
def Lf.toV:(a:Lf)->a.den->V
 | .i k,n=>.i k n
 | .bo,x=>.b x
 | .s,l=>.s l
def Lf.val:(a:Lf)->a.den->Value
 | .i k,n=>.int k n
 | .bo,x=>.bool x
 | .s,l=>.string ⟨l.toArray⟩
def cells:(t:List Lf)->den t->List V
 | [],_=>[]
 | [a],x=>[a.toV x]
 | a::b::l,x=>a.toV x.1::cells (b::l) x.2
def vals:(t:List Lf)->den t->List Value
 | [],_=>[]
 | [a],x=>[a.val x]
 | a::b::l,x=>a.val x.1::vals (b::l) x.2
theorem Lf.ok (ι:Inj):∀(a:Lf) (x:a.den),VR ι (a.toV x) (a.val x)
 | .i _,_=>by simp [Lf.toV,Lf.val,VR]
 | .bo,_=>by simp [Lf.toV,Lf.val,VR]
 | .s,_=>by simp [Lf.toV,Lf.val,VR]
theorem Lf.ok_iff (ι:Inj):∀(a:Lf) (x:a.den) (y:Value),VR ι (a.toV x) y↔y=a.val x
 | .i _,_,_=>by simp [Lf.toV,Lf.val,VR]
 | .bo,_,_=>by simp [Lf.toV,Lf.val,VR]
 | .s,_,_=>by simp [Lf.toV,Lf.val,VR]
theorem nZ (ι:Inj):∀(t:List Lf) (x:den t) (c:List Value),VRs ι (cells t x) c↔c=vals t x
 | [],_,c=>by simp [cells,vals,VRs]
 | [a],x,c=>by
  simp only [cells,vals,VRs];constructor
  ·rintro ⟨y,d,rfl,h,rfl⟩;rw [(a.ok_iff ι x y).1 h]
  ·rintro rfl;exact ⟨_,_,rfl,a.ok ι x,rfl⟩
 | a::b::l,x,c=>by
  simp only [cells,vals,VRs];constructor
  ·rintro ⟨y,d,rfl,h,e⟩;rw [(a.ok_iff ι _ y).1 h,(nZ ι (b::l) x.2 d).1 e]
  ·rintro rfl;exact ⟨_,_,rfl,a.ok ι _,(nZ ι (b::l) x.2 _).2 rfl⟩
theorem lE:∀(t:List Lf) (x:den t),(cells t x).length=t.length
 | [],_=>rfl
 | [_],_=>rfl
 | _::b::l,x=>by simp [cells,lE (b::l) x.2]
theorem kh:∀(t:List Lf) (x:den t),(vals t x).length=t.length
 | [],_=>rfl
 | [_],_=>rfl
 | _::b::l,x=>by simp [vals,kh (b::l) x.2]
inductive Blk where
 | dead
 | rows (t:List Lf) (l:List (den t))
 | cells (l:List V)
 | ints (k:IntKind) (n:Nat) (l:List Int)
 | iter (s:aa) (pos:Nat)
 | mp (k:IntKind) (l:List (Int×Nat))
 deriving Inhabited
def NF (fr:Nat×Nat) (n:Nat):Prop:=∀j,j<n->¬(fr.1<=j/\j<fr.2)
def BR (ι:Inj) (q:Rf):Blk->Obj->Prop
 | .dead,_=>True
 | .rows t l,o=>∃a e fr,o=.cells a e fr/\l.length=q.n/\q.n<=q.k/\q.o+q.k*t.length<=a.size/\(a.toList.drop q.o).take (l.length*t.length)=l.flatMap (vals t)/\(q.fz=true\/NF fr a.size)
 | .cells l,o=>∃a e fr,o=.cells a e fr/\VRs ι l a.toList/\NF fr a.size
 | .ints k n l,o=>∃e fr,o=.cells (l.map (Value.int k)).toArray e fr/\l.length=n/\NF fr n
 | .iter s pos,o=>o=.stringIter ⟨s.toArray⟩ pos
 | .mp k l,o=>∃c b,o=.map c b/\c.toList.map (λe=>(e.key,e.val))=l.map λp=>(Value.int k p.1,fnV p.2 #[])
theorem BR.mono {ι E:Inj} {q:Rf} (h:∀b r,ι b=some r->E b=some r):∀{blk:Blk} {o:Obj},BR ι q blk o->BR E q blk o
 | .dead,_,_=>trivial
 | .rows t l,o,C=>C
 | .cells l,o,C=>by
  obtain ⟨J,e,fr,G,O,F⟩:=C;exact ⟨J,e,fr,G,VRs.mono h _ _ O,F⟩
 | .ints k n l,o,C=>C
 | .iter s pos,o,C=>C
 | .mp k l,o,C=>C
def look {α:Type}:List (Nat×α)->Nat->Option α
 | [],_=>none
 | (k,v)::l,n=>cond (Nat.beq k n) (some v) (look l n)
theorem aV {α:Type} (k:Nat) (v:α) (l:List (Nat×α)) (n:Nat):look ((k,v)::l) n=if k=n then some v else look l n:=by
 simp only [look];by_cases h:k=n
 ·subst h;simp
 ·have:Nat.beq k n=false:=by
   cases a:Nat.beq k n
   ·rfl
   ·exact absurd (bP a) h
  simp [this,h]
structure St where
 T:List (Nat×Option V)
 H:List (Nat×Blk)
 nb:Nat
  /-- So many blocks came in. -/
 lo:Nat:=0
  /-- The first so many of them are only read. -/
 ro:Nat:=0
  /-- From this one on they may be moved (blocks of rows, by append). -/
 rb:Nat:=0
 deriving Inhabited
def TR (ι:Inj) (T:List (Nat×Option V)) (a:Array Value):Prop:=
 ∀t v,look T t=some (some v)->∃x,a[t]?=some x/\VR ι v x
def BW (ι:Inj) (w:World) (b:Nat) (blk:Blk):Prop:=
 (∃q o,ι b=some (some q)/\w.heap[q.r]?=some o/\BR ι q blk o)\/(ι b=some none/\∃t,blk=.rows t [])
structure WR (ι:Inj) (H:List (Nat×Blk)) (nb:Nat) (w:World):Prop where
 inj:∀b b' q q',ι b=some (some q)->ι b'=some (some q')->q.r=q'.r->b=b'\/(q.fz=true/\q'.fz=true)
 low:∀b q,ι b=some q->b<nb
 dom:∀b q,ι b=some (some q)->q.r<w.heap.size
 blk:∀b blk,look H b=some blk->blk≠.dead->BW ι w b blk
theorem BW.real {ι:Inj} {w:World} {b:Nat} {blk:Blk} (h:BW ι w b blk) (C:∀t,blk≠.rows t []):∃q o,ι b=some (some q)/\w.heap[q.r]?=some o/\BR ι q blk o:=by
 rcases h with h | ⟨_,t,h⟩
 ·exact h
 ·exact absurd h (C t)
theorem BW.map {ι E:Inj} {w w':World} {b O:Nat} {blk C:Blk} (h:BW ι w b blk) (J:E O=ι b) (U:∀q,ι b=some (some q)->w'.heap[q.r]?=w.heap[q.r]?)
  (X:∀q o,BR ι q blk o->BR E q C o) (W:∀t,blk=.rows t []->C=.rows t []):BW E w' O C:=by
 rcases h with ⟨q,o,F,G,Q⟩ | ⟨F,t,G⟩
 ·exact .inl ⟨q,o,by rw [J,F],by rw [U q F,G],X q o Q⟩
 ·exact .inr ⟨by rw [J,F],t,W t G⟩
structure Fr (ι0:Inj) (w0 w:World):Prop where
 os:w.os=w0.os
 tape:w.tape=w0.tape
 output:w.output=w0.output
 size:w0.heap.size<=w.heap.size
 blk:∀k,k<w0.heap.size->(∀b q,ι0 b=some (some q)->q.r≠k)->w.heap[k]?=w0.heap[k]?
theorem Fr.refl (ι0:Inj) (w:World):Fr ι0 w w:=⟨rfl,rfl,rfl,aY _,λ_ _ _=>rfl⟩
def roI (ι0:Inj) (ro:Nat):Inj:=λb=>cond (Nat.blt b ro) none (ι0 b)
theorem pT {ι0:Inj} {ro b:Nat} {r:Option Rf} (h:roI ι0 ro b=some r):ι0 b=some r:=by
 unfold roI at h;cases a:Nat.blt b ro with
 | true=>simp [a] at h
 | false=>simpa [a] using h
theorem Lc {ι0:Inj} {ro b:Nat} {r:Option Rf} (h:roI ι0 ro b=some r):ro<=b:=by
 unfold roI at h;rcases aH b ro with a | a
 ·rw [show Nat.blt b ro=true from cT a] at h;cases h
 ·exact a
theorem CU {ι0:Inj} {ro b:Nat} {r:Option Rf} (h:ι0 b=some r) (a:ro<=b):roI ι0 ro b=some r:=by
 have:Nat.blt b ro=false:=by
  cases hx:Nat.blt b ro with
  | false=>rfl
  | true=>have:b<ro:=aJ hx;omega
 simp [roI,this,h]
def GL (R:Inj) (w:World):Prop:=∃L:List (Nat×Obj),VP L/\(∀x∈L,w.heap[x.1]?=some x.2)/\∀x∈L,∀b q,R b=some (some q)->q.r≠x.1
theorem GL.mono {R F:Inj} {w:World} (h:GL R w) (X:∀b q,F b=some (some q)->(∃E C,R E=some (some C)/\C.r=q.r)\/w.heap.size<=q.r):GL F w:=by
 obtain ⟨L,Q,J,O⟩:=h;refine ⟨L,Q,J,λx hx b q W=>?_⟩;rcases X b q W with ⟨E,C,G,U⟩ | G
 ·rw [<-U];exact O x hx E C G
 ·have hs:x.1<w.heap.size:=by
   rcases aH x.1 w.heap.size with h | h
   ·exact h
   ·have:=J x hx;rw [xM h] at this;cases this
  omega
structure Base where
 w:World
 D:List Deferred:=[]
structure Inv (n:Nat) (ι0:Inj) (w0:Base) (ι:Inj) (s:St) (a:Act) (w:World):Prop where
 size:a.tmps.size=n
 defers:a.defers=w0.D
 tmps:TR ι s.T a.tmps
 mem:WR ι s.H s.nb w
 ext:∀b q,ι0 b=some q->ι b=some q\/s.rb<=b
 new:∀b q,ι b=some (some q)->(∃q',ι0 b=some (some q')/\q'.r=q.r)\/w0.w.heap.size<=q.r
 fr:Fr (roI ι0 s.ro) w0.w w
 low:∀b r,ι0 b=some r->b<s.lo
 fz:∀b q,ι b=some (some q)->q.fz=true->b<s.ro
 gl:GL (roI ι0 s.ro) w0.w
theorem Inv.glHere {n:Nat} {ι0 ι:Inj} {w0:Base} {s:St} {a:Act} {w:World} (h:Inv n ι0 w0 ι s a w) {R:Inj} (X:∀b q,R b=some (some q)->ι b=some (some q)/\s.ro<=b):GL R w:=by
 obtain ⟨L,G,E,C⟩:=h.gl;have hs:∀x∈L,x.1<w0.w.heap.size:=by
  intro x hx;rcases aH x.1 w0.w.heap.size with h | h
  ·exact h
  ·have:=E x hx;rw [xM h] at this;cases this
 refine ⟨L,G,λx hx=>?_,λx hx b q W=>?_⟩
 ·rw [h.fr.blk x.1 (hs x hx) (C x hx)];exact E x hx
 ·obtain ⟨O,Q⟩:=X b q W;rcases h.new b q O with ⟨U,F,J⟩ | F
  ·rw [<-J];exact C x hx b U (CU F Q)
  ·have:=hs x hx;omega
def upd (ι:Inj) (b:Nat) (r:Option Rf):Inj:=λc=>if c=b then some r else ι c
theorem pQ {ι:Inj} {b:Nat} {r:Option Rf} (h:ι b=none):∀c q,ι c=some q->upd ι b r c=some q:=by
 intro c q hc;unfold upd;split
 ·rename_i e;subst e;rw [h] at hc;cases hc
 ·exact hc
theorem TR.mono {ι C:Inj} (h:∀b r,ι b=some r->C b=some r) {T:List (Nat×Option V)} {E:Array Value} (G:TR ι T E):TR C T E:=
 λt v F=>let ⟨x,h1,h2⟩:=G t v F;⟨x,h1,VR.mono h _ _ h2⟩
theorem TR.put {ι:Inj} {T:List (Nat×Option V)} {a:Act} {d:Nat} {v:Option V} {x:Value} (Q:TR ι T a.tmps) (J:d<a.tmps.size)
  (F:∀u,v=some u->VR ι u x):TR ι ((d,v)::T) (a.put (some d) x).tmps:=by
 intro t u C;rw [aV] at C;simp only [Act.put];split at C
 ·rename_i e;subst e;simp only [au] at C;exact ⟨x,by simp [J],F u C⟩
 ·rename_i E;obtain ⟨y,G,O⟩:=Q t u C;exact ⟨y,by rw [SB E];exact G,O⟩
def setObj (w:World) (r:Nat) (o:Obj):World:={ w with heap:=w.heap.setIfInBounds r o }
theorem jW (w:World) (o:Obj):(w.alloc o).heap[w.heap.size]?=some o:=by
 show (w.heap.push o)[w.heap.size]?=some o;simp
theorem ka (w:World) (o:Obj) {k:Nat} (h:k≠w.heap.size):(w.alloc o).heap[k]?=w.heap[k]?:=by
 show (w.heap.push o)[k]?=_;rw [Array.getElem?_push,ab h]
theorem sw {w:World} {r:Nat} {o:Obj} (h:w.heap[r]?=some o):r<w.heap.size:=by
 rcases aH r w.heap.size with a | a
 ·exact a
 ·simp [xM a] at h
theorem WR.draws {ι:Inj} {H:List (Nat×Blk)} {nb:Nat} {w:World} (h:WR ι H nb w) (n:Nat):WR ι H nb { w with drawn:=n }:=
 ⟨h.inj,h.low,h.dom,h.blk⟩
theorem sW {w:World} {r k:Nat} (o:Obj) (h:r≠k):(setObj w r o).heap[k]?=w.heap[k]?:=by
 simp [setObj,SB h]
theorem WR.write {ι:Inj} {H:List (Nat×Blk)} {nb b:Nat} {q:Rf} {w:World} {blk:Blk} {o:Obj} (h:WR ι H nb w) (G:ι b=some (some q)) (W:q.fz=false) (O:BR ι q blk o):
  WR ι ((b,blk)::H) nb (setObj w q.r o):=by
 have U:=h.dom b q G;refine ⟨h.inj,h.low,λc q hc=>by simpa [setObj] using h.dom c q hc,λc C E Q=>?_⟩;rw [aV] at E;split at E
 ·rename_i e;subst e;simp only [au] at E;subst E;exact .inl ⟨q,o,G,by simp [setObj,U],O⟩
 ·rename_i F;exact (h.blk c C E Q).map rfl (λp hp=>sW o λe=>(h.inj b c q p G hp e).elim F λJ=>by rw [W] at J;cases J.1) (λ_ _ x=>x) (λ_ x=>x)
theorem WR.alloc {ι:Inj} {H:List (Nat×Blk)} {nb C f:Nat} {q:Rf} {w:World} {blk:Blk} {o:Obj} (h:WR ι H nb w) (W:ι f=none) (hn:nb<=C) (Q:f<C)
  (hq:q.r=w.heap.size) (Z:BR (upd ι f (some q)) q blk o):WR (upd ι f (some q)) ((f,blk)::H) C (w.alloc o):=by
 have J:=pQ (r:=some q) W;refine ⟨λb b' r r' E F hr=>?_,λc p hc=>?_,λc p hc=>?_,λc G O hd=>?_⟩
 ·unfold upd at E F;split at E<;>split at F
  ·rename_i Y X;exact .inl (Y.trans X.symm)
  ·simp only [au] at E;subst E;have:=h.dom _ _ F;omega
  ·simp only [au] at F;subst F;have:=h.dom _ _ E;omega
  ·exact h.inj _ _ _ _ E F hr
 ·unfold upd at hc;split at hc
  ·rename_i e;subst e;exact Q
  ·have:=h.low _ _ hc;omega
 ·unfold upd at hc;split at hc
  ·simp only [au] at hc;subst hc;simp;omega
  ·have:=h.dom _ _ hc;simp;omega
 ·rw [aV] at O;split at O
  ·rename_i e;subst e;simp only [au] at O;subst O;exact .inl ⟨q,o,by simp [upd],by rw [hq];exact jW w o,Z⟩
  ·rename_i U;refine (h.blk c G O hd).map (by simp [upd,Ne.symm U]) (λp hp=>?_) (λ_ _ x=>BR.mono J x) (λ_ x=>x);have:=h.dom _ _ hp;exact ka w o (by omega)
theorem Fr.draws {ι0:Inj} {w0 w:World} (h:Fr ι0 w0 w) (n:Nat):Fr ι0 w0 { w with drawn:=n }:=⟨h.os,h.tape,h.output,h.size,h.blk⟩
theorem Fr.alloc {ι0:Inj} {w0 w:World} (h:Fr ι0 w0 w) (o:Obj):Fr ι0 w0 (w.alloc o):=by
 refine ⟨h.os,h.tape,h.output,by have:=h.size;simp;omega,λk C E=>?_⟩;have:=h.size;rw [ka w o (by omega)];exact h.blk k C E
theorem Fr.write {ι0:Inj} {w0 w:World} (h:Fr ι0 w0 w) {r:Nat} (G:(∃b q,ι0 b=some (some q)/\q.r=r)\/w0.heap.size<=r) (o:Obj):Fr ι0 w0 (setObj w r o):=by
 refine ⟨h.os,h.tape,h.output,by simpa [setObj] using h.size,λk J F=>?_⟩;have C:r≠k:=by
  rintro rfl;rcases G with ⟨b,q,E,O⟩ | G
  ·exact F b q E O
  ·omega
 simp only [setObj,SB C];exact h.blk k J F
theorem bw {w:World} {r o:Nat} {a:Array Value} {e:TypeId} {fr:Nat×Nat} (h:w.heap[r]?=some (.cells a e fr)):
  w.cell? ⟨r,o,none⟩=a[o]?:=by
 simp [World.cell?,h]
theorem ru {w:World} {r o:Nat} {a:Array Value} {e:TypeId} {fr:Nat×Nat} (h:w.heap[r]?=some (.cells a e fr)) (c:NF fr a.size) (b:o<a.size):
  w.frozen? ⟨r,o,none⟩=false:=by
 have:=c o b;simp only [World.frozen?,h];by_cases d:fr.1<=o<;>by_cases f:o<fr.2<;>simp_all
theorem CV {w:World} {r o:Nat} {v:Value} {b:Array Value} {e:TypeId} {fr:Nat×Nat} (h:w.heap[r]?=some (.cells b e fr)):
  w.setCell ⟨r,o,none⟩ v=setObj w r (.cells (b.setIfInBounds o v) e fr):=by
 unfold World.setCell setObj;congr 1;apply RZ;intro k;rw [Array.getElem?_modify,TO];have c:=sw h;by_cases a:r=k
 ·subst a;rw [ae rfl,ae rfl,ae c,h];simp
 ·rw [ab a,ab a]
theorem Cb (w:World) (r:Nat) (o a:Obj):setObj (setObj w r o) r a=setObj w r a:=by
 simp [setObj]
theorem Gk {w:World} {r:Nat} {o:Obj} (h:w.heap[r]?=some o):setObj w r o=w:=by
 unfold setObj;congr 1;apply RZ;intro k;rw [TO];by_cases a:r=k
 ·subst a;rw [ae rfl,ae (sw h),h]
 ·rw [ab a]
theorem yy {w:World} {r:Nat} {o a:Obj} (h:w.heap[r]?=some o):(setObj w r a).heap[r]?=some a:=by
 have b:=sw h;simp [setObj,b]
end Go.Abs
