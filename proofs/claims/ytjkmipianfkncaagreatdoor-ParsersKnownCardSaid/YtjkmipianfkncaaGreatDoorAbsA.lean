
import Derived.Tactics
import Derived.Below
import Derived.Test.YtjkmipianfkncaaGreatDoorGlob
set_option linter.unusedSimpArgs false
set_option linter.unusedVariables false
set_option linter.defProp false
namespace Go
abbrev aa:=List UInt8
abbrev mS:=@Array.ext'
abbrev Sv:=@Array.ext_getElem?
abbrev qf:=@Array.getD_eq_getD_getElem?
abbrev RE:=@Array.getElem?_append_left
abbrev Va:=@Array.getElem?_eq_getElem
abbrev xO:=@Array.getElem?_eq_none
abbrev Vd:=@Array.getElem?_replicate
abbrev SE:=@Array.getElem?_setIfInBounds
abbrev S3:=@Array.getElem?_setIfInBounds_ne
abbrev qs:=@Array.getElem?_toList
abbrev Jz:=@Array.length_toList
abbrev Qu:=@Array.mapM_eq_mapM_toList
abbrev Gq:=@Array.map_empty
abbrev xp:=@Array.toList_append
abbrev vp:=@BEq.rfl
abbrev Dj:=@Bool.and_eq_false_iff
abbrev aC:=@Bool.and_eq_true
abbrev wN:=@Bool.and_false
abbrev HW:=@Bool.and_self
abbrev Dk:=@Bool.and_true
abbrev r7:=@Bool.eq_iff_iff
abbrev xf:=@Bool.false_and
abbrev bj:=@Bool.false_eq_true
abbrev oU:=@Bool.false_or
abbrev Ho:=@Bool.not_eq_true
abbrev kL:=@Bool.not_eq_true'
abbrev ia:=@Bool.not_false
abbrev ca:=@Bool.not_true
abbrev oP:=@Bool.or_eq_false_iff
abbrev iC:=@Bool.or_eq_true
abbrev wS:=@Bool.or_false
abbrev nO:=@Bool.true_and
abbrev HN:=@Bool.true_or
abbrev MC:=@ByteArray.ext
abbrev G8:=@Classical.em
abbrev tC:=@Go.Code.wp_mono
abbrev NB:=@Decidable.not_not
abbrev Jq:=@Int.dvd_of_emod_eq_zero
abbrev KH:=@Int.emod_lt_of_pos
abbrev Jj:=@Int.emod_nonneg
abbrev zq:=@Int.le_refl
abbrev yE:=@Int.mul_comm
abbrev Qq:=@Int.mul_le_mul_of_nonneg_right
abbrev HO:=@Int.natCast_mul
abbrev JD:=@Int.sub_add_cancel
abbrev Qz:=@Int.tdiv_eq_ediv_of_nonneg
abbrev JB:=@Int.tmod_eq_emod
abbrev KE:=@Int.tmod_eq_emod_of_nonneg
abbrev ch:=@Int.toNat_natCast
abbrev Gi:=@Int.toNat_of_nonneg
abbrev zA:=@Int.zero_sub
abbrev GN:=@Go.IntKind.wrap_i64
abbrev C4:=@List.all_append
abbrev mK:=@List.all_cons
abbrev cE:=@List.all_eq_true
abbrev sa:=@List.any_append
abbrev qA:=@List.any_cons
abbrev rU:=@List.any_eq_false
abbrev tz:=@List.any_eq_true
abbrev gG:=@List.append_assoc
abbrev lu:=@List.append_nil
abbrev Nu:=@List.cons.injEq
abbrev dB:=@List.cons_append
abbrev I9:=@List.countP_cons
abbrev GW:=@List.drop_append
abbrev vj:=@List.drop_append_of_le_length
abbrev i7:=@List.drop_drop
abbrev qQ:=@List.drop_eq_getElem_cons
abbrev iU:=@List.drop_eq_nil_of_le
abbrev D1:=@List.drop_left'
abbrev vd:=@List.drop_length
abbrev oJ:=@List.drop_succ_cons
abbrev xW:=@List.drop_take
abbrev bI:=@List.drop_zero
abbrev tU:=@List.eq_nil_of_length_eq_zero
abbrev P7:=@List.eq_of_mem_replicate
abbrev B9:=@List.ext_getElem?
abbrev Jd:=@List.filter_append
abbrev P8:=@List.filter_cons_of_neg
abbrev QM:=@List.filter_cons_of_pos
abbrev GF:=@List.filter_filter
abbrev CZ:=@List.findSome?_cons
abbrev Qk:=@List.findSome?_eq_none_iff
abbrev LF:=@List.flatMap_append
abbrev qK:=@List.flatMap_cons
abbrev GI:=@List.foldl_append
abbrev vb:=@List.foldl_cons
abbrev GU:=@List.foldl_nil
abbrev zD:=@List.getD_eq_getElem?_getD
abbrev nF:=@List.getElem?_append_left
abbrev pW:=@List.getElem?_append_right
abbrev Gj:=@List.getElem?_cons_succ
abbrev mC:=@List.getElem?_cons_zero
abbrev nv:=@List.getElem?_drop
abbrev bf:=@List.getElem?_eq_getElem
abbrev gU:=@List.getElem?_eq_none
abbrev rW:=@List.getElem?_eq_some_iff
abbrev pR:=@List.getElem?_map
abbrev Ku:=@List.getElem?_take
abbrev qm:=@List.getElem?_take_of_lt
abbrev Ej:=@List.getElem_mem
abbrev lF:=@List.head?_cons
abbrev zQ:=@List.isEmpty_eq_false_iff
abbrev bw:=@List.length_append
abbrev aN:=@List.length_cons
abbrev ba:=@List.length_drop
abbrev Ag:=@List.length_filter_le
abbrev AP:=@List.length_filter_lt_length_iff_exists
abbrev AQ:=@List.length_map
abbrev fR:=@List.length_nil
abbrev EA:=@List.length_pos_of_mem
abbrev FG:=@List.length_replicate
abbrev uu:=@List.length_reverse
abbrev ya:=@List.length_singleton
abbrev dq:=@List.length_take
abbrev D9:=@List.mapM_cons
abbrev Ep:=@List.map_append
abbrev fV:=@List.map_cons
abbrev uU:=@List.map_map
abbrev mF:=@List.mem_append
abbrev de:=@List.mem_cons
abbrev gm:=@List.mem_cons_of_mem
abbrev oq:=@List.mem_cons_self
abbrev nG:=@List.mem_filter
abbrev eU:=@List.mem_map
abbrev fG:=@List.mem_of_getElem?
abbrev kB:=@List.mem_range
abbrev BC:=@List.mem_range'_1
abbrev EY:=@List.mem_reverse
abbrev uS:=@List.mem_singleton
abbrev dI:=@List.nil_append
abbrev FB:=@List.nodup_append
abbrev xE:=@List.nodup_cons
abbrev sQ:=@List.not_mem_nil
abbrev wy:=@List.range'_succ
abbrev uW:=@List.replicate_succ
abbrev wC:=@List.reverse_reverse
abbrev Kx:=@List.set_eq_take_append_cons_drop
abbrev ET:=@List.singleton_append
abbrev AA:=@List.size_toArray
abbrev sg:=@List.take_add_one
abbrev EP:=@List.take_append
abbrev uF:=@List.take_append_drop
abbrev uC:=@List.take_append_of_le_length
abbrev xJ:=@List.take_left
abbrev nT:=@List.take_length
abbrev iR:=@List.take_of_length_le
abbrev pf:=@List.take_succ_cons
abbrev J2:=@List.take_succ_eq_append_getElem
abbrev Ad:=@List.take_take
abbrev ot:=@List.take_zero
abbrev gX:=@Nat.add_assoc
abbrev pD:=@Nat.add_comm
abbrev gY:=@Nat.add_mul
abbrev vZ:=@Nat.add_right_cancel_iff
abbrev FC:=@Nat.add_sub_cancel
abbrev Fg:=@Nat.add_sub_cancel_left
abbrev cG:=@Nat.add_zero
abbrev jn:=@Nat.beq_eq
abbrev dT:=@Nat.ble_eq_true_of_le
abbrev zV:=@Nat.div_le_self
abbrev FR:=@Nat.div_mul_le_self
abbrev sE:=@Nat.div_one
abbrev bG:=@Nat.eq_of_beq_eq_true
abbrev Ac:=@Nat.eq_zero_or_pos
abbrev AO:=@Nat.le_add_right
abbrev EW:=@Nat.le_max_left
abbrev aH:=@Nat.le_of_ble_eq_true
abbrev wA:=@Nat.le_of_eq
abbrev aQ:=@Nat.le_refl
abbrev qu:=@Nat.le_trans
abbrev Bf:=@Nat.le_zero
abbrev ED:=@Nat.lt_irrefl
abbrev qV:=@Nat.lt_of_lt_of_le
abbrev aF:=@Nat.lt_or_ge
abbrev Ew:=@Nat.lt_trichotomy
abbrev sO:=@Nat.min_eq_left
abbrev sL:=@Nat.mod_eq_of_lt
abbrev AS:=@Nat.mod_lt
abbrev Es:=@Nat.mul_assoc
abbrev uv:=@Nat.mul_comm
abbrev Ee:=@Nat.mul_le_mul
abbrev n8:=@Nat.mul_le_mul_right
abbrev qN:=@Nat.mul_one
abbrev AH:=@Nat.ne_of_lt
abbrev Ai:=@Nat.one_le_pow
abbrev xa:=@Nat.one_mul
abbrev AU:=@Nat.or_comm
abbrev n6:=@Nat.pow_le_pow_right
abbrev sC:=@Nat.pow_succ
abbrev AE:=@Nat.pow_zero
abbrev pL:=@Nat.sub_zero
abbrev cU:=@Nat.zero_add
abbrev du:=@Nat.zero_le
abbrev A7:=@Nat.zero_mul
abbrev EU:=@Go.Oper.apart_spec
abbrev wY:=@Option.getD_some
abbrev AG:=@Option.isSome_iff_exists
abbrev ym:=@Option.isSome_none
abbrev iQ:=@Option.map_none
abbrev fi:=@Option.map_some
abbrev FA:=@Option.none_or
abbrev aW:=@Option.some.inj
abbrev ar:=@Option.some.injEq
abbrev bm:=@Prod.mk.injEq
abbrev ay:=@Go.Result.andThen_ok
abbrev wT:=@Go.Result.ok.injEq
abbrev aw:=@Go.Sem.run_bind
abbrev aB:=@Go.Sem.run_pure
abbrev uN:=@Sum.inr.inj
abbrev n9:=@Sum.inr.injEq
abbrev gu:=@UInt8.toNat_inj
abbrev E4:=@UInt8.toNat_ofNat'
abbrev xd:=@Go.World.alloc_eq
abbrev uZ:=@and_congr_right
abbrev wh:=@and_true
abbrev aK:=@beq_eq_false_iff_ne
abbrev bu:=@beq_iff_eq
abbrev sU:=@beq_self_eq_true
abbrev eI:=@bne_self_eq_false
abbrev af:=@cond_false
abbrev aj:=@cond_true
abbrev cb:=@congrArg
abbrev pC:=@decide_eq_decide
abbrev am:=@decide_eq_false
abbrev uj:=@decide_eq_false_iff_not
abbrev aq:=@decide_eq_true
abbrev cr:=@decide_eq_true_eq
abbrev EV:=@decide_eq_true_iff
abbrev nK:=@decide_false
abbrev oc:=@decide_true
abbrev pi:=@exists_congr
abbrev wv:=@false_and
abbrev EK:=@forall_eq_or_imp
abbrev az:=@if_false
abbrev ab:=@if_neg
abbrev ae:=@if_pos
abbrev aG:=@if_true
abbrev E3:=@not_false_eq_true
abbrev ux:=@not_true_eq_false
abbrev us:=@or_false
abbrev wJ:=@Go.run_loadCells_list
abbrev wP:=@Go.run_newObj
abbrev aU:=@Go.run_underlying
abbrev jD:=@true_and
end Go
namespace Go.Abs
inductive Lf where
 | i (k:IntKind)
 | bo
 | s
 deriving Inhabited,DecidableEq
@[reducible] def Lf.den:Lf->Type
 | .i _=>Int
 | .bo=>Bool
 | .s=>aa
@[reducible] def den:List Lf->Type
 | []=>Unit
 | [a]=>a.den
 | a::b::l=>a.den×den (b::l)
inductive V where
 | unk
 | pr (z b j o:Nat)
 | ws (b:Nat)
 | rs (z b j n:Nat) (cap:Option Nat)
 | b (x:Bool)
 | i (k:IntKind) (n:Int)
 | s (l:aa)
 | pn
 | p (b o:Nat)
 | sn
 | sl (b o len:Nat) (cap:Option Nat)
 | fn (f:Nat) (cap:List V)
 | nf
 | ni
 | it (t:Nat) (v:V)
 | ag (l:List V)
 | ai (k:IntKind) (n:Nat) (l:List Int)
 | tp (l:List V)
 | mp (b:Nat)
 deriving Inhabited
structure Rf where
 r:Nat
 n:Nat:=0
 k:Nat:=0
 o:Nat:=0
 fz:Bool:=false
abbrev Rf.of(r n k:Nat):Rf:=⟨r,n,k,0,false⟩
abbrev Inj:=Nat->Option (Option Rf)
def fnW(K f:Nat)(a:Array Value):Value:=
 match Nat.blt f K with
 | true=>.func (.func f) #[] a
 | false=>.func (.func (f - K)) a #[]
def fnV(f:Nat)(a:Array Value):Value:=fnW 1000000 f a
def Ut(K f:Nat)(a:Array Value):∃g b c,fnW K f a=.func (.func g) b c:=by
 unfold fnW;split
 ·exact⟨_,_,_,rfl⟩
 ·exact⟨_,_,_,rfl⟩
def zB(f:Nat)(a:Array Value):∃g b c,fnV f a=.func (.func g) b c:=Ut _ f a
def SI{K f:Nat}(h:Nat.blt f K=true)(a:Array Value):fnW K f a=.func (.func f) #[] a:=by
 unfold fnW;rw[h]
def Fe{f:Nat}(h:Nat.blt f 1000000=true)(a:Array Value):fnV f a=.func (.func f) #[] a:=SI h a
def NX(K f:Nat)(a:Array Value):fnW K (f+K) a=.func (.func f) a #[]:=by
 unfold fnW;cases h:Nat.blt (f+K) K with
 | true=>have:f+K<K:=aH h;omega
 | false=>simp
def Of(f:Nat)(a:Array Value):fnV (f+1000000) a=.func (.func f) a #[]:=NX _ f a
def fnFW(K f:Nat):Nat:=match Nat.blt f K with | true=>f | false=>f - K
def fnAW{α:Type}(K f:Nat)(args cap:List α):List α:=match Nat.blt f K with | true=>args++cap | false=>cap++args
def fnF(f:Nat):Nat:=fnFW 1000000 f
def fnA{α:Type}(f:Nat)(args cap:List α):List α:=fnAW 1000000 f args cap
def Oq(c:Option Nat)(k:Nat):Prop:=∀m,c=some m->k=m
def kv{k:Nat}:Oq none k:=λ_ h=>by cases h
def rE{k:Nat}:Oq (some k) k:=λ_ h=>by cases h;rfl
mutual
def VR(ι:Inj):V->Value->Prop
 | .b x,v=>v=.bool x
 | .i k n,v=>v=.int k n
 | .s l,v=>v=.string ⟨l.toArray⟩
 | .pn,v=>v=.pointer none
 | .p b o,v=>∃q,ι b=some (some q)/\v=.pointer (some ⟨q.r,o,none⟩)
 | .sn,v=>v=.slice none 0 0
 | .sl b o len cap,v=>∃q c,ι b=some (some q)/\(∀n,cap=some n->c=n)/\len<=c/\v=.slice (some ⟨q.r,o,none⟩) len c
 | .unk,v=>v.cells=#[v]/\v.oneCell'=true
 | .pr z b j o,v=>∃q,ι b=some (some q)/\v=.pointer (some ⟨q.r,q.o+(j*z+o),none⟩)
 | .ws b,v=>(∃q,ι b=some (some q)/\v=.slice (some ⟨q.r,q.o,none⟩) q.n q.k)\/(ι b=some none/\∃a,v=.slice a 0 0)
 | .rs z b j n e,v=>(∃q c o,ι b=some (some q)/\(n<=c/\Oq e c)/\(0<n->o=q.o+j*z)/\v=.slice (some ⟨q.r,o,none⟩) n c)\/(ι b=some none/\(n=0/\Oq e 0)/\∃a,v=.slice a 0 0)
 | .fn f cap,v=>∃d,v=fnV f d/\VRs ι cap d.toList
 | .nf,v=>v=.nilFunc
 | .ni,v=>v=.nilIface
 | .it t x,v=>∃y,v=.iface t y/\VR ι x y
 | .ag l,v=>∃d:Array Value,v=.agg d/\VRs ι l d.toList
 | .ai k n l,v=>l.length=n/\v=.agg (l.map (Value.int k)).toArray
 | .tp l,v=>∃d:Array Value,v=.tuple d/\VRs ι l d.toList
 | .mp b,v=>∃q,ι b=some (some q)/\v=.map (some q.r)
def VRs(ι:Inj):List V->List Value->Prop
 | [],a=>a=[]
 | x::l,a=>∃y ys,a=y::ys/\VR ι x y/\VRs ι l ys
end
mutual
def VR.mono{ι G:Inj}(h:∀b r,ι b=some r->G b=some r):∀(v:V) (x:Value),VR ι v x->VR G v x
 | .b _,_,hx | .i _ _,_,hx | .s _,_,hx | .pn,_,hx | .sn,_,hx | .nf,_,hx | .ni,_,hx | .ai _ _ _,_,hx | .unk,_,hx=>by simpa[VR]using hx
 | .p b o,x,hx | .pr z b j o,x,hx | .mp b,x,hx=>by
  simp only[VR]at hx ⊢;obtain⟨r,C,E⟩:=hx;exact⟨r,h _ _ C,E⟩
 | .ws b,x,hx=>by
  simp only[VR]at hx ⊢;rcases hx with⟨q,C,E⟩ | ⟨C,E⟩
  ·exact .inl ⟨q,h _ _ C,E⟩
  ·exact .inr ⟨h _ _ C,E⟩
 | .rs z b j n _,x,hx=>by
  simp only[VR]at hx ⊢;rcases hx with⟨q,c,o,C,E⟩ | ⟨C,E⟩
  ·exact .inl ⟨q,c,o,h _ _ C,E⟩
  ·exact .inr ⟨h _ _ C,E⟩
 | .sl b o len cap,x,hx=>by
  simp only[VR]at hx ⊢;obtain⟨r,c,C,E⟩:=hx;exact⟨r,c,h _ _ C,E⟩
 | .fn f cap,x,hx=>by
  simp only[VR]at hx ⊢;obtain⟨F,C,E⟩:=hx;exact⟨F,C,VRs.mono h _ _ E⟩
 | .it t v,x,hx=>by
  simp only[VR]at hx ⊢;obtain⟨y,C,E⟩:=hx;exact⟨y,C,VR.mono h _ _ E⟩
 | .ag l,x,hx=>by
  simp only[VR]at hx ⊢;obtain⟨F,C,E⟩:=hx;exact⟨F,C,VRs.mono h _ _ E⟩
 | .tp l,x,hx=>by
  simp only[VR]at hx ⊢;obtain⟨F,C,E⟩:=hx;exact⟨F,C,VRs.mono h _ _ E⟩
def VRs.mono{ι C:Inj}(h:∀b r,ι b=some r->C b=some r):∀(l:List V) (E:List Value),VRs ι l E->VRs C l E
 | [],_,hx=>by simpa[VRs]using hx
 | v::l,E,hx=>by
  simp only[VRs]at hx ⊢;obtain⟨y,ys,G,J,F⟩:=hx;exact⟨y,ys,G,VR.mono h _ _ J,VRs.mono h _ _ F⟩
end
def VRs.length{ι:Inj}:∀{l:List V} {xs:List Value},VRs ι l xs->xs.length=l.length
 | [],_,h=>by simp only[VRs]at h;simp[h]
 | _::_,_,h=>by
  simp only[VRs]at h;obtain⟨y,ys,rfl,_,C⟩:=h;simp[VRs.length C]
def VRs.get{ι:Inj}:∀{l:List V} {xs:List Value} {j:Nat} {v:V},VRs ι l xs->l[j]?=some v->∃x,xs[j]?=some x/\VR ι v x
 | [],_,_,_,_,C=>by simp at C
 | _::_,_,0,_,h,C=>by
  simp only[VRs]at h;obtain⟨y,ys,rfl,F,_⟩:=h;simp only[mC,ar]at C;subst C;exact⟨y,by simp,F⟩
 | _::_,_,j+1,_,h,C=>by
  simp only[VRs]at h;obtain⟨y,ys,rfl,_,E⟩:=h;simp only[Gj]at C ⊢;exact VRs.get E C
def VRs.of_get{ι:Inj}:∀{l:List V} {C:List Value},C.length=l.length->(∀(j:Nat) (v:V) (x:Value),l[j]?=some v->C[j]?=some x->VR ι v x)->VRs ι l C
 | [],C,E,_=>by simp only[VRs];exact tU (by simpa using E)
 | v::l,[],E,_=>by simp at E
 | v::l,x::C,E,h=>by
  simp only[VRs];refine⟨x,C,rfl,h 0 v x (by simp) (by simp),VRs.of_get (by simpa using E) λj O F G J=>h (j+1) O F (by simpa using G) (by simpa using J)⟩
def VRs.append{ι:Inj}:∀{l:List V} {xs:List Value} {m:List V} {ys:List Value},VRs ι l xs->VRs ι m ys->VRs ι (l++m) (xs++ys)
 | [],_,_,_,h,C=>by simp only[VRs]at h;subst h;simpa using C
 | _::_,_,_,_,h,C=>by
  simp only[VRs]at h;obtain⟨y,ys,rfl,F,E⟩:=h;simp only[dB,VRs];exact⟨y,_,rfl,F,VRs.append E C⟩
def VRs.drop{ι:Inj}:∀{l:List V} {xs:List Value} (n:Nat),VRs ι l xs->VRs ι (l.drop n) (xs.drop n)
 | _,_,0,h=>by simpa using h
 | [],_,_+1,h=>by simp only[VRs]at h;subst h;simp[VRs]
 | _::_,_,n+1,h=>by
  simp only[VRs]at h;obtain⟨y,ys,rfl,_,C⟩:=h;simpa using VRs.drop n C
def VRs.take{ι:Inj}:∀{l:List V} {xs:List Value} (n:Nat),VRs ι l xs->VRs ι (l.take n) (xs.take n)
 | _,_,0,_=>by simp[VRs]
 | [],_,_+1,h=>by simp only[VRs]at h;subst h;simp[VRs]
 | _::_,_,n+1,h=>by
  simp only[VRs]at h;obtain⟨y,ys,rfl,E,C⟩:=h;simp only[pf,VRs];exact⟨y,_,rfl,E,VRs.take n C⟩
def VRs.set{ι:Inj}:∀{l:List V} {xs:List Value} (n:Nat) {v:V} {x:Value},VRs ι l xs->VR ι v x->VRs ι (l.set n v) (xs.set n x)
 | [],_,_,_,_,h,_=>by simp only[VRs]at h;subst h;simp[VRs]
 | _::_,_,0,_,_,h,E=>by
  simp only[VRs]at h;obtain⟨y,ys,rfl,_,C⟩:=h;simp only[List.set_cons_zero,VRs];exact⟨_,_,rfl,E,C⟩
 | _::_,_,n+1,_,_,h,E=>by
  simp only[VRs]at h;obtain⟨y,ys,rfl,F,C⟩:=h;simp only[List.set_cons_succ,VRs];exact⟨_,_,rfl,F,VRs.set n C E⟩
def VRs.ints{ι:Inj}(k:IntKind):∀(l:List Int),VRs ι (l.map (V.i k)) (l.map (Value.int k))
 | []=>by simp[VRs]
 | n::l=>by simp only[fV,VRs];exact⟨_,_,rfl,by simp[VR],VRs.ints k l⟩
def Lf.toV:(a:Lf)->a.den->V
 | .i k,n=>.i k n
 | .bo,x=>.b x
 | .s,l=>.s l
def Lf.val:(a:Lf)->a.den->Value
 | .i k,n=>.int k n
 | .bo,x=>.bool x
 | .s,l=>.string ⟨l.toArray⟩
def cells:(t:List Lf)->den t->List V
 | [],_=>[]
 | [a],x=>[a.toV x]
 | a::b::l,x=>a.toV x.1::cells (b::l) x.2
def vals:(t:List Lf)->den t->List Value
 | [],_=>[]
 | [a],x=>[a.val x]
 | a::b::l,x=>a.val x.1::vals (b::l) x.2
def Lf.ok(ι:Inj):∀(a:Lf) (x:a.den),VR ι (a.toV x) (a.val x)
 | .i _,_=>by simp[Lf.toV,Lf.val,VR]
 | .bo,_=>by simp[Lf.toV,Lf.val,VR]
 | .s,_=>by simp[Lf.toV,Lf.val,VR]
def Lf.ok_iff(ι:Inj):∀(a:Lf) (x:a.den) (y:Value),VR ι (a.toV x) y↔y=a.val x
 | .i _,_,_=>by simp[Lf.toV,Lf.val,VR]
 | .bo,_,_=>by simp[Lf.toV,Lf.val,VR]
 | .s,_,_=>by simp[Lf.toV,Lf.val,VR]
def nQ(ι:Inj):∀(t:List Lf) (x:den t) (ys:List Value),VRs ι (cells t x) ys↔ys=vals t x
 | [],_,ys=>by simp[cells,vals,VRs]
 | [a],x,ys=>by
  simp only[cells,vals,VRs];constructor
  ·rintro⟨y,c,rfl,h,rfl⟩;rw[(a.ok_iff ι x y).1 h]
  ·rintro rfl;exact⟨_,_,rfl,a.ok ι x,rfl⟩
 | a::b::l,x,ys=>by
  simp only[cells,vals,VRs];constructor
  ·rintro⟨y,c,rfl,h,d⟩;rw[(a.ok_iff ι _ y).1 h,(nQ ι (b::l) x.2 c).1 d]
  ·rintro rfl;exact⟨_,_,rfl,a.ok ι _,(nQ ι (b::l) x.2 _).2 rfl⟩
def kS:∀(t:List Lf) (x:den t),(cells t x).length=t.length
 | [],_=>rfl
 | [_],_=>rfl
 | _::b::l,x=>by simp[cells,kS (b::l) x.2]
def jN:∀(t:List Lf) (x:den t),(vals t x).length=t.length
 | [],_=>rfl
 | [_],_=>rfl
 | _::b::l,x=>by simp[vals,jN (b::l) x.2]
inductive Blk where
 | dead
 | rows (t:List Lf) (l:List (den t))
 | cells (l:List V)
 | ints (k:IntKind) (n:Nat) (l:List Int)
 | iter (s:aa) (pos:Nat)
 | mp (k:IntKind) (l:List (Int×Nat))
 deriving Inhabited
def NF(fr:Nat×Nat)(n:Nat):Prop:=∀j,j<n->¬(fr.1<=j/\j<fr.2)
def BR(ι:Inj)(q:Rf):Blk->Obj->Prop
 | .dead,_=>True
 | .rows t l,o=>∃a e fr,o=.cells a e fr/\l.length=q.n/\q.n<=q.k/\q.o+q.k*t.length<=a.size/\(a.toList.drop q.o).take (l.length*t.length)=l.flatMap (vals t)/\(q.fz=true\/NF fr a.size)
 | .cells l,o=>∃a e fr,o=.cells a e fr/\VRs ι l a.toList/\NF fr a.size
 | .ints k n l,o=>∃e fr,o=.cells (l.map (Value.int k)).toArray e fr/\l.length=n/\NF fr n
 | .iter s pos,o=>o=.stringIter ⟨s.toArray⟩ pos
 | .mp k l,o=>∃c b,o=.map c b/\c.toList.map (λe=>(e.key,e.val))=l.map λp=>(Value.int k p.1,fnV p.2 #[])
def BR.mono{ι E:Inj}{q:Rf}(h:∀b r,ι b=some r->E b=some r):∀{blk:Blk} {o:Obj},BR ι q blk o->BR E q blk o
 | .dead,_,_=>trivial
 | .rows t l,o,C=>C
 | .cells l,o,C=>by
  obtain⟨F,e,fr,J,O,G⟩:=C;exact⟨F,e,fr,J,VRs.mono h _ _ O,G⟩
 | .ints k n l,o,C=>C
 | .iter s pos,o,C=>C
 | .mp k l,o,C=>C
def look{α:Type}:List (Nat×α)->Nat->Option α
 | [],_=>none
 | (k,v)::l,n=>cond (Nat.beq k n) (some v) (look l n)
def aR{α:Type}(k:Nat)(v:α)(l:List (Nat×α))(n:Nat):look ((k,v)::l) n=if k=n then some v else look l n:=by
 simp only[look];by_cases h:k=n
 ·subst h;simp
 ·have:Nat.beq k n=false:=by
   cases a:Nat.beq k n
   ·rfl
   ·exact absurd (bG a) h
  simp[this,h]
structure St where
 T:List (Nat×Option V)
 H:List (Nat×Blk)
 nb:Nat
 lo:Nat:=0
 ro:Nat:=0
 rb:Nat:=0
 deriving Inhabited
def TR(ι:Inj)(T:List (Nat×Option V))(a:Array Value):Prop:=
 ∀t v,look T t=some (some v)->∃x,a[t]?=some x/\VR ι v x
def BW(ι:Inj)(w:World)(b:Nat)(blk:Blk):Prop:=
 (∃q o,ι b=some (some q)/\w.heap[q.r]?=some o/\BR ι q blk o)\/(ι b=some none/\∃t,blk=.rows t [])
structure WR(ι:Inj)(H:List (Nat×Blk))(nb:Nat)(w:World):Prop where
 inj:∀b b' q q',ι b=some (some q)->ι b'=some (some q')->q.r=q'.r->b=b'\/(q.fz=true/\q'.fz=true)
 low:∀b q,ι b=some q->b<nb
 dom:∀b q,ι b=some (some q)->q.r<w.heap.size
 blk:∀b blk,look H b=some blk->blk≠.dead->BW ι w b blk
def BW.real{ι:Inj}{w:World}{b:Nat}{blk:Blk}(h:BW ι w b blk)(C:∀t,blk≠.rows t []):∃q o,ι b=some (some q)/\w.heap[q.r]?=some o/\BR ι q blk o:=by
 rcases h with h | ⟨_,t,h⟩
 ·exact h
 ·exact absurd h (C t)
def BW.map{ι E:Inj}{w w':World}{b O:Nat}{blk C:Blk}(h:BW ι w b blk)(J:E O=ι b)(U:∀q,ι b=some (some q)->w'.heap[q.r]?=w.heap[q.r]?)
  (W:∀q o,BR ι q blk o->BR E q C o) (X:∀t,blk=.rows t []->C=.rows t []):BW E w' O C:=by
 rcases h with⟨q,o,F,G,Q⟩ | ⟨F,t,G⟩
 ·exact .inl ⟨q,o,by rw[J,F],by rw[U q F,G],W q o Q⟩
 ·exact .inr ⟨by rw[J,F],t,X t G⟩
structure Fr(ι0:Inj)(w0 w:World):Prop where
 os:w.os=w0.os
 tape:w.tape=w0.tape
 output:w.output=w0.output
 size:w0.heap.size<=w.heap.size
 blk:∀k,k<w0.heap.size->(∀b q,ι0 b=some (some q)->q.r≠k)->w.heap[k]?=w0.heap[k]?
def Fr.refl(ι0:Inj)(w:World):Fr ι0 w w:=⟨rfl,rfl,rfl,aQ _,λ_ _ _=>rfl⟩
def roI(ι0:Inj)(ro:Nat):Inj:=λb=>cond (Nat.blt b ro) none (ι0 b)
def pI{ι0:Inj}{ro b:Nat}{r:Option Rf}(h:roI ι0 ro b=some r):ι0 b=some r:=by
 unfold roI at h;cases a:Nat.blt b ro with
 | true=>simp[a]at h
 | false=>simpa[a]using h
def Nw{ι0:Inj}{ro b:Nat}{r:Option Rf}(h:roI ι0 ro b=some r):ro<=b:=by
 unfold roI at h;rcases aF b ro with a | a
 ·rw[show Nat.blt b ro=true from dT a]at h;cases h
 ·exact a
def BQ{ι0:Inj}{ro b:Nat}{r:Option Rf}(h:ι0 b=some r)(a:ro<=b):roI ι0 ro b=some r:=by
 have:Nat.blt b ro=false:=by
  cases hx:Nat.blt b ro with
  | false=>rfl
  | true=>have:b<ro:=aH hx;omega
 simp[roI,this,h]
def GL(R:Inj)(w:World):Prop:=∃L:List (Nat×Obj),UF L/\(∀x∈L,w.heap[x.1]?=some x.2)/\∀x∈L,∀b q,R b=some (some q)->q.r≠x.1
def GL.mono{R F:Inj}{w:World}(h:GL R w)(W:∀b q,F b=some (some q)->(∃E C,R E=some (some C)/\C.r=q.r)\/w.heap.size<=q.r):GL F w:=by
 obtain⟨L,U,J,Q⟩:=h;refine⟨L,U,J,λx hx b q X=>?_⟩;rcases W b q X with⟨E,C,G,O⟩ | G
 ·rw[<-O];exact Q x hx E C G
 ·have hs:x.1<w.heap.size:=by
   rcases aF x.1 w.heap.size with h | h
   ·exact h
   ·have:=J x hx;rw[xO h]at this;cases this
  omega
structure Base where
 w:World
 D:List Deferred:=[]
structure Inv(n:Nat)(ι0:Inj)(w0:Base)(ι:Inj)(s:St)(a:Act)(w:World):Prop where
 size:a.tmps.size=n
 defers:a.defers=w0.D
 tmps:TR ι s.T a.tmps
 mem:WR ι s.H s.nb w
 ext:∀b q,ι0 b=some q->ι b=some q\/s.rb<=b
 new:∀b q,ι b=some (some q)->(∃q',ι0 b=some (some q')/\q'.r=q.r)\/w0.w.heap.size<=q.r
 fr:Fr (roI ι0 s.ro) w0.w w
 low:∀b r,ι0 b=some r->b<s.lo
 fz:∀b q,ι b=some (some q)->q.fz=true->b<s.ro
 gl:GL (roI ι0 s.ro) w0.w
def Inv.glHere{n:Nat}{ι0 ι:Inj}{w0:Base}{s:St}{a:Act}{w:World}(h:Inv n ι0 w0 ι s a w){R:Inj}(U:∀b q,R b=some (some q)->ι b=some (some q)/\s.ro<=b):GL R w:=by
 obtain⟨L,Q,F,E⟩:=h.gl;have hs:∀x∈L,x.1<w0.w.heap.size:=by
  intro x hx;rcases aF x.1 w0.w.heap.size with h | h
  ·exact h
  ·have:=F x hx;rw[xO h]at this;cases this
 refine⟨L,Q,λx hx=>?_,λx hx b q X=>?_⟩
 ·rw[h.fr.blk x.1 (hs x hx) (E x hx)];exact F x hx
 ·obtain⟨G,J⟩:=U b q X;rcases h.new b q G with⟨O,C,W⟩ | C
  ·rw[<-W];exact E x hx b O (BQ C J)
  ·have:=hs x hx;omega
def upd(ι:Inj)(b:Nat)(r:Option Rf):Inj:=λc=>if c=b then some r else ι c
def pQ{ι:Inj}{b:Nat}{r:Option Rf}(h:ι b=none):∀c q,ι c=some q->upd ι b r c=some q:=by
 intro c q hc;unfold upd;split
 ·rename_i e;subst e;rw[h]at hc;cases hc
 ·exact hc
def TR.mono{ι C:Inj}(h:∀b r,ι b=some r->C b=some r){T:List (Nat×Option V)}{E:Array Value}(F:TR ι T E):TR C T E:=
 λt v G=>let⟨x,h1,h2⟩:=F t v G;⟨x,h1,VR.mono h _ _ h2⟩
def TR.put{ι:Inj}{T:List (Nat×Option V)}{a:Act}{d:Nat}{v:Option V}{x:Value}(F:TR ι T a.tmps)(hd:d<a.tmps.size)
  (J:∀u,v=some u->VR ι u x):TR ι ((d,v)::T) (a.put (some d) x).tmps:=by
 intro t u C;rw[aR]at C;simp only[Act.put];split at C
 ·rename_i e;subst e;simp only[ar]at C;exact⟨x,by simp[hd],J u C⟩
 ·rename_i E;obtain⟨y,G,O⟩:=F t u C;exact⟨y,by rw[S3 E];exact G,O⟩
def setObj(w:World)(r:Nat)(o:Obj):World:={ w with heap:=w.heap.setIfInBounds r o }
def lW(w:World)(o:Obj):(w.alloc o).heap[w.heap.size]?=some o:=by
 show(w.heap.push o)[w.heap.size]?=some o;simp
def jI(w:World)(o:Obj){k:Nat}(h:k≠w.heap.size):(w.alloc o).heap[k]?=w.heap[k]?:=by
 show(w.heap.push o)[k]?=_;rw[Array.getElem?_push,ab h]
def uk{w:World}{r:Nat}{o:Obj}(h:w.heap[r]?=some o):r<w.heap.size:=by
 rcases aF r w.heap.size with a | a
 ·exact a
 ·simp[xO a]at h
def WR.draws{ι:Inj}{H:List (Nat×Blk)}{nb:Nat}{w:World}(h:WR ι H nb w)(n:Nat):WR ι H nb { w with drawn:=n }:=
 ⟨h.inj,h.low,h.dom,h.blk⟩
def rR{w:World}{r k:Nat}(o:Obj)(h:r≠k):(setObj w r o).heap[k]?=w.heap[k]?:=by
 simp[setObj,S3 h]
def WR.write{ι:Inj}{H:List (Nat×Blk)}{nb b:Nat}{q:Rf}{w:World}{blk:Blk}{o:Obj}(h:WR ι H nb w)(G:ι b=some (some q))(O:q.fz=false)(Q:BR ι q blk o):
  WR ι ((b,blk)::H) nb (setObj w q.r o):=by
 have U:=h.dom b q G;refine⟨h.inj,h.low,λc q hc=>by simpa[setObj]using h.dom c q hc,λc C E hd=>?_⟩;rw[aR]at E;split at E
 ·rename_i e;subst e;simp only[ar]at E;subst E;exact .inl ⟨q,o,G,by simp[setObj,U],Q⟩
 ·rename_i F;exact(h.blk c C E hd).map rfl (λp hp=>rR o λe=>(h.inj b c q p G hp e).elim F λJ=>by rw[O]at J;cases J.1) (λ_ _ x=>x) (λ_ x=>x)
def WR.alloc{ι:Inj}{H:List (Nat×Blk)}{nb C f:Nat}{q:Rf}{w:World}{blk:Blk}{o:Obj}(h:WR ι H nb w)(W:ι f=none)(hn:nb<=C)(U:f<C)
  (Y:q.r=w.heap.size) (Z:BR (upd ι f (some q)) q blk o):WR (upd ι f (some q)) ((f,blk)::H) C (w.alloc o):=by
 have O:=pQ (r:=some q) W;refine⟨λb b' r r' E F hr=>?_,λc p hc=>?_,λc p hc=>?_,λc G J hd=>?_⟩
 ·unfold upd at E F;split at E<;>split at F
  ·rename_i X e2;exact .inl (X.trans e2.symm)
  ·simp only[ar]at E;subst E;have:=h.dom _ _ F;omega
  ·simp only[ar]at F;subst F;have:=h.dom _ _ E;omega
  ·exact h.inj _ _ _ _ E F hr
 ·unfold upd at hc;split at hc
  ·rename_i e;subst e;exact U
  ·have:=h.low _ _ hc;omega
 ·unfold upd at hc;split at hc
  ·simp only[ar]at hc;subst hc;simp;omega
  ·have:=h.dom _ _ hc;simp;omega
 ·rw[aR]at J;split at J
  ·rename_i e;subst e;simp only[ar]at J;subst J;exact .inl ⟨q,o,by simp[upd],by rw[Y];exact lW w o,Z⟩
  ·rename_i Q;refine(h.blk c G J hd).map (by simp[upd,Ne.symm Q]) (λp hp=>?_) (λ_ _ x=>BR.mono O x) (λ_ x=>x);have:=h.dom _ _ hp;exact jI w o (by omega)
def Fr.draws{ι0:Inj}{w0 w:World}(h:Fr ι0 w0 w)(n:Nat):Fr ι0 w0 { w with drawn:=n }:=⟨h.os,h.tape,h.output,h.size,h.blk⟩
def Fr.alloc{ι0:Inj}{w0 w:World}(h:Fr ι0 w0 w)(o:Obj):Fr ι0 w0 (w.alloc o):=by
 refine⟨h.os,h.tape,h.output,by have:=h.size;simp;omega,λk E C=>?_⟩;have:=h.size;rw[jI w o (by omega)];exact h.blk k E C
def Fr.write{ι0:Inj}{w0 w:World}(h:Fr ι0 w0 w){r:Nat}(F:(∃b q,ι0 b=some (some q)/\q.r=r)\/w0.heap.size<=r)(o:Obj):Fr ι0 w0 (setObj w r o):=by
 refine⟨h.os,h.tape,h.output,by simpa[setObj]using h.size,λk J G=>?_⟩;have C:r≠k:=by
  rintro rfl;rcases F with⟨b,q,E,O⟩ | F
  ·exact G b q E O
  ·omega
 simp only[setObj,S3 C];exact h.blk k J G
def bB{w:World}{r o:Nat}{a:Array Value}{e:TypeId}{fr:Nat×Nat}(h:w.heap[r]?=some (.cells a e fr)):
  w.cell? ⟨r,o,none⟩=a[o]?:=by
 simp[World.cell?,h]
def qC{w:World}{r o:Nat}{a:Array Value}{e:TypeId}{fr:Nat×Nat}(h:w.heap[r]?=some (.cells a e fr))(c:NF fr a.size)(b:o<a.size):
  w.frozen? ⟨r,o,none⟩=false:=by
 have:=c o b;simp only[World.frozen?,h];by_cases d:fr.1<=o<;>by_cases f:o<fr.2<;>simp_all
def DY{w:World}{r o:Nat}{v:Value}{b:Array Value}{e:TypeId}{fr:Nat×Nat}(h:w.heap[r]?=some (.cells b e fr)):
  w.setCell ⟨r,o,none⟩ v=setObj w r (.cells (b.setIfInBounds o v) e fr):=by
 unfold World.setCell setObj;congr 1;apply Sv;intro k;rw[Array.getElem?_modify,SE];have c:=uk h;by_cases a:r=k
 ·subst a;rw[ae rfl,ae rfl,ae c,h];simp
 ·rw[ab a,ab a]
def Ab(w:World)(r:Nat)(o a:Obj):setObj (setObj w r o) r a=setObj w r a:=by
 simp[setObj]
def Ff{w:World}{r:Nat}{o:Obj}(h:w.heap[r]?=some o):setObj w r o=w:=by
 unfold setObj;congr 1;apply Sv;intro k;rw[SE];by_cases a:r=k
 ·subst a;rw[ae rfl,ae (uk h),h]
 ·rw[ab a]
def yp{w:World}{r:Nat}{o a:Obj}(h:w.heap[r]?=some o):(setObj w r a).heap[r]?=some a:=by
 have b:=uk h;simp[setObj,b]
end Go.Abs
