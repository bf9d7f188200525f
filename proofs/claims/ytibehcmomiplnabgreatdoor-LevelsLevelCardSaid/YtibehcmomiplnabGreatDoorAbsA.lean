
import Derived.Tactics
import Derived.Below
import Derived.Test.YtibehcmomiplnabGreatDoorGlob
set_option linter.unusedSimpArgs false
set_option linter.unusedVariables false
set_option linter.defProp false
namespace Go
abbrev aa:=List UInt8
abbrev mO:=@Array.ext'
abbrev XJ:=@Array.ext_getElem?
abbrev um:=@Array.getD_eq_getD_getElem?
abbrev Yg:=@Array.getElem?_append_left
abbrev ZN:=@Array.getElem?_eq_getElem
abbrev ym:=@Array.getElem?_eq_none
abbrev aaL:=@Array.getElem?_replicate
abbrev Xh:=@Array.getElem?_setIfInBounds
abbrev XD:=@Array.getElem?_setIfInBounds_ne
abbrev sa:=@Array.getElem?_toList
abbrev PG:=@Array.length_toList
abbrev VG:=@Array.mapM_eq_mapM_toList
abbrev JI:=@Array.map_empty
abbrev AO:=@Array.toList_append
abbrev xY:=@BEq.rfl
abbrev OP:=@BitVec.toNat_and
abbrev yd:=@BitVec.toNat_ofNat
abbrev FL:=@Bool.and_eq_false_iff
abbrev aD:=@Bool.and_eq_true
abbrev BP:=@Bool.and_false
abbrev BX:=@Bool.and_true
abbrev mL:=@Bool.eq_iff_iff
abbrev yh:=@Bool.false_and
abbrev bI:=@Bool.false_eq_true
abbrev qK:=@Bool.false_or
abbrev KH:=@Bool.not_eq_true
abbrev ko:=@Bool.not_eq_true'
abbrev kH:=@Bool.not_false
abbrev dU:=@Bool.not_true
abbrev qt:=@Bool.or_eq_false_iff
abbrev jk:=@Bool.or_eq_true
abbrev xT:=@Bool.or_false
abbrev rG:=@Bool.true_and
abbrev FT:=@Bool.true_or
abbrev QL:=@ByteArray.ext
abbrev QA:=@Classical.byContradiction
abbrev KD:=@Classical.em
abbrev wh:=@Go.Code.wp_mono
abbrev KP:=@Go.DataW.trod_int
abbrev Oj:=@Decidable.not_not
abbrev lk:=@Eq.trans
abbrev NN:=@Int.dvd_of_emod_eq_zero
abbrev OU:=@Int.emod_lt_of_pos
abbrev O6:=@Int.emod_nonneg
abbrev ql:=@Int.le_refl
abbrev CP:=@Int.mul_comm
abbrev Vm:=@Int.mul_le_mul_of_nonneg_right
abbrev K3:=@Int.natCast_mul
abbrev Nx:=@Int.sub_add_cancel
abbrev VW:=@Int.tdiv_eq_ediv_of_nonneg
abbrev Qz:=@Int.tmod_eq_emod
abbrev O1:=@Int.tmod_eq_emod_of_nonneg
abbrev co:=@Int.toNat_natCast
abbrev Ko:=@Int.toNat_of_nonneg
abbrev C0:=@Int.zero_sub
abbrev LE:=@Go.IntKind.wrap_i64
abbrev Hv:=@List.all_append
abbrev oL:=@List.all_cons
abbrev cb:=@List.all_eq_true
abbrev rf:=@List.any_append
abbrev qG:=@List.any_cons
abbrev ud:=@List.any_eq_false
abbrev vk:=@List.any_eq_true
abbrev gx:=@List.append_assoc
abbrev mi:=@List.append_nil
abbrev J6:=@List.cons.injEq
abbrev fK:=@List.cons_append
abbrev Q7:=@List.countP_cons
abbrev Lm:=@List.drop_append
abbrev km:=@List.drop_drop
abbrev qj:=@List.drop_eq_getElem_cons
abbrev kW:=@List.drop_eq_nil_of_le
abbrev HC:=@List.drop_left'
abbrev tg:=@List.drop_length
abbrev pP:=@List.drop_succ_cons
abbrev Bi:=@List.drop_take
abbrev cM:=@List.drop_zero
abbrev vi:=@List.eq_nil_of_length_eq_zero
abbrev CS:=@List.ext_getElem?
abbrev RJ:=@List.filter_append
abbrev VU:=@List.filter_cons_of_neg
abbrev Vf:=@List.filter_cons_of_pos
abbrev KW:=@List.filter_filter
abbrev FK:=@List.findSome?_cons
abbrev VV:=@List.findSome?_eq_none_iff
abbrev Kz:=@List.flatMap_append
abbrev pV:=@List.flatMap_cons
abbrev K6:=@List.foldl_append
abbrev xW:=@List.foldl_cons
abbrev JY:=@List.foldl_nil
abbrev G5:=@List.getD_eq_getElem?_getD
abbrev qp:=@List.getElem?_append_left
abbrev s9:=@List.getElem?_append_right
abbrev K9:=@List.getElem?_cons_succ
abbrev mV:=@List.getElem?_cons_zero
abbrev mQ:=@List.getElem?_drop
abbrev ba:=@List.getElem?_eq_getElem
abbrev gS:=@List.getElem?_eq_none
abbrev qk:=@List.getElem?_eq_some_iff
abbrev nV:=@List.getElem?_map
abbrev Ij:=@List.getElem?_set_self
abbrev IB:=@List.getElem?_take
abbrev m7:=@List.getElem?_take_of_lt
abbrev tG:=@List.getElem_mem
abbrev qU:=@List.head?_cons
abbrev Fe:=@List.isEmpty_eq_false_iff
abbrev aV:=@List.length_append
abbrev aI:=@List.length_cons
abbrev cg:=@List.length_drop
abbrev D8:=@List.length_filter_le
abbrev Es:=@List.length_filter_lt_length_iff_exists
abbrev vF:=@List.length_map
abbrev bU:=@List.length_nil
abbrev H6:=@List.length_pos_of_mem
abbrev xI:=@List.length_reverse
abbrev IH:=@List.length_set
abbrev dN:=@List.length_take
abbrev AN:=@List.mapM_cons
abbrev Iy:=@List.map_append
abbrev gW:=@List.map_cons
abbrev vK:=@List.map_map
abbrev md:=@List.mem_append
abbrev ck:=@List.mem_cons
abbrev fV:=@List.mem_cons_of_mem
abbrev kY:=@List.mem_cons_self
abbrev na:=@List.mem_filter
abbrev Jl:=@List.mem_flatMap
abbrev eY:=@List.mem_map
abbrev fR:=@List.mem_of_getElem?
abbrev Oq:=@List.mem_or_eq_of_mem_set
abbrev il:=@List.mem_range
abbrev vD:=@List.mem_range'_1
abbrev HO:=@List.mem_reverse
abbrev nh:=@List.mem_singleton
abbrev eo:=@List.nil_append
abbrev Jk:=@List.nodup_append
abbrev Bt:=@List.nodup_cons
abbrev nB:=@List.not_mem_nil
abbrev Aj:=@List.range'_succ
abbrev vA:=@List.replicate_succ
abbrev Bj:=@List.reverse_reverse
abbrev NG:=@List.set_eq_take_append_cons_drop
abbrev It:=@List.singleton_append
abbrev A8:=@List.size_toArray
abbrev tu:=@List.take_add_one
abbrev Ih:=@List.take_append
abbrev vJ:=@List.take_append_drop
abbrev xA:=@List.take_append_of_le_length
abbrev Ar:=@List.take_left
abbrev oC:=@List.take_length
abbrev kr:=@List.take_of_length_le
abbrev ox:=@List.take_succ_cons
abbrev Q6:=@List.take_succ_eq_append_getElem
abbrev D7:=@List.take_take
abbrev oq:=@List.take_zero
abbrev iy:=@Nat.add_assoc
abbrev qP:=@Nat.add_comm
abbrev iV:=@Nat.add_mul
abbrev zI:=@Nat.add_right_cancel_iff
abbrev Jm:=@Nat.add_sub_cancel
abbrev IS:=@Nat.add_sub_cancel_left
abbrev dj:=@Nat.add_zero
abbrev kx:=@Nat.beq_eq
abbrev dc:=@Nat.ble_eq_true_of_le
abbrev Ii:=@Nat.div_le_self
abbrev HM:=@Nat.div_mul_le_self
abbrev vG:=@Nat.div_one
abbrev bO:=@Nat.eq_of_beq_eq_true
abbrev DW:=@Nat.eq_zero_or_pos
abbrev ED:=@Nat.le_add_right
abbrev I0:=@Nat.le_max_left
abbrev aR:=@Nat.le_of_ble_eq_true
abbrev Au:=@Nat.le_of_eq
abbrev bi:=@Nat.le_refl
abbrev tY:=@Nat.le_trans
abbrev EI:=@Nat.le_zero
abbrev Je:=@Nat.lt_irrefl
abbrev re:=@Nat.lt_of_lt_of_le
abbrev aN:=@Nat.lt_or_ge
abbrev IF:=@Nat.lt_trichotomy
abbrev vM:=@Nat.min_eq_left
abbrev Iu:=@Nat.min_le_right
abbrev mB:=@Nat.mod_eq_of_lt
abbrev ua:=@Nat.mod_lt
abbrev IZ:=@Nat.mul_assoc
abbrev xw:=@Nat.mul_comm
abbrev zy:=@Nat.mul_le_mul
abbrev qX:=@Nat.mul_le_mul_right
abbrev tz:=@Nat.mul_one
abbrev Em:=@Nat.ne_of_lt
abbrev DU:=@Nat.one_le_pow
abbrev zM:=@Nat.one_mul
abbrev Ab:=@Nat.or_assoc
abbrev EQ:=@Nat.or_comm
abbrev xq:=@Nat.or_lt_two_pow
abbrev mK:=@Nat.pow_le_pow_right
abbrev vz:=@Nat.pow_succ
abbrev E4:=@Nat.pow_zero
abbrev Ep:=@Nat.sub_self
abbrev uo:=@Nat.sub_zero
abbrev Dw:=@Nat.succ_mul
abbrev zS:=@Nat.testBit_or
abbrev dw:=@Nat.zero_add
abbrev lc:=@Nat.zero_le
abbrev Ee:=@Nat.zero_mul
abbrev iO9:=@Nat.zero_testBit
abbrev HQ:=@Go.Oper.apart_spec
abbrev Fa:=@Option.bind_eq_some_iff
abbrev AV:=@Option.getD_some
abbrev Dx:=@Option.isSome_iff_exists
abbrev zl:=@Option.isSome_none
abbrev IC:=@Option.map_eq_some_iff
abbrev ke:=@Option.map_none
abbrev fQ:=@Option.map_some
abbrev I4:=@Option.none_or
abbrev bE:=@Option.some.inj
abbrev aw:=@Option.some.injEq
abbrev bP:=@Prod.mk.injEq
abbrev aE:=@Go.Result.andThen_ok
abbrev Aa:=@Go.Result.ok.injEq
abbrev ay:=@Go.Sem.run_bind
abbrev aH:=@Go.Sem.run_pure
abbrev qY:=@Sum.inr.injEq
abbrev ii:=@UInt8.toNat_inj
abbrev IN:=@UInt8.toNat_ofNat'
abbrev An:=@Go.World.alloc_eq
abbrev IM:=@Go.World.cells?_some
abbrev xy:=@and_congr_right
abbrev vv:=@and_true
abbrev aL:=@beq_eq_false_iff_ne
abbrev bA:=@beq_iff_eq
abbrev Ac:=@beq_self_eq_true
abbrev Am:=@bne_iff_ne
abbrev fU:=@bne_self_eq_false
abbrev af:=@cond_false
abbrev ah:=@cond_true
abbrev cf:=@congrArg
abbrev jr:=@decide_eq_decide
abbrev au:=@decide_eq_false
abbrev vX:=@decide_eq_false_iff_not
abbrev ar:=@decide_eq_true
abbrev cK:=@decide_eq_true_eq
abbrev pM:=@decide_false
abbrev qV:=@decide_true
abbrev sQ:=@exists_congr
abbrev AB:=@false_and
abbrev Et:=@forall_eq_or_imp
abbrev aF:=@if_false
abbrev ab:=@if_neg
abbrev ae:=@if_pos
abbrev aS:=@if_true
abbrev H7:=@not_false_eq_true
abbrev xj:=@not_true_eq_false
abbrev ov:=@or_false
abbrev AD:=@Go.run_loadCells_list
abbrev zj:=@Go.run_newObj
abbrev bu:=@Go.run_underlying
abbrev lL:=@true_and
end Go
namespace Go.Abs
inductive Lf where
 | i (k:IntKind)
 | bo
 | s
 deriving Inhabited,DecidableEq
@[reducible] def Lf.den:Lf->Type
 | .i _=>Int
 | .bo=>Bool
 | .s=>aa
@[reducible] def den:List Lf->Type
 | []=>Unit
 | [a]=>a.den
 | a::b::l=>a.den×den (b::l)
inductive V where
 | unk
 | pr (z b j o:Nat)
 | ws (b:Nat)
 | rs (z b j n:Nat) (cap:Option Nat)
 | b (x:Bool)
 | i (k:IntKind) (n:Int)
 | s (l:aa)
 | pn
 | p (b o:Nat)
 | sn
 | sl (b o len:Nat) (cap:Option Nat)
 | fn (f:Nat) (cap:List V)
 | nf
 | ni
 | it (t:Nat) (v:V)
 | ag (l:List V)
 | ai (k:IntKind) (n:Nat) (l:List Int)
 | tp (l:List V)
 | mp (b:Nat)
 deriving Inhabited
structure Rf where
 r:Nat
 n:Nat:=0
 k:Nat:=0
 o:Nat:=0
 fz:Bool:=false
abbrev Rf.of(r n k:Nat):Rf:=⟨r,n,k,0,false⟩
abbrev Inj:=Nat->Option (Option Rf)
def fnW(K f:Nat)(a:Array Value):Value:=
 match Nat.blt f K with
 | true=>.func (.func f) #[] a
 | false=>.func (.func (f - K)) a #[]
def fnV(f:Nat)(a:Array Value):Value:=fnW 1000000 f a
def Zl(K f:Nat)(a:Array Value):∃g b c,fnW K f a=.func (.func g) b c:=by
 unfold fnW;split
 ·exact⟨_,_,_,rfl⟩
 ·exact⟨_,_,_,rfl⟩
def BY(f:Nat)(a:Array Value):∃g b c,fnV f a=.func (.func g) b c:=Zl _ f a
def Xy{K f:Nat}(h:Nat.blt f K=true)(a:Array Value):fnW K f a=.func (.func f) #[] a:=by
 unfold fnW;rw[h]
def IG{f:Nat}(h:Nat.blt f 1000000=true)(a:Array Value):fnV f a=.func (.func f) #[] a:=Xy h a
def TN(K f:Nat)(a:Array Value):fnW K (f+K) a=.func (.func f) a #[]:=by
 unfold fnW;cases h:Nat.blt (f+K) K with
 | true=>have:f+K<K:=aR h;omega
 | false=>simp
def Tu(f:Nat)(a:Array Value):fnV (f+1000000) a=.func (.func f) a #[]:=TN _ f a
def fnFW(K f:Nat):Nat:=match Nat.blt f K with | true=>f | false=>f - K
def fnAW{α:Type}(K f:Nat)(args cap:List α):List α:=match Nat.blt f K with | true=>args++cap | false=>cap++args
def fnF(f:Nat):Nat:=fnFW 1000000 f
def fnA{α:Type}(f:Nat)(args cap:List α):List α:=fnAW 1000000 f args cap
def Un(c:Option Nat)(k:Nat):Prop:=∀m,c=some m->k=m
def lY{k:Nat}:Un none k:=λ_ h=>by cases h
def uU{k:Nat}:Un (some k) k:=λ_ h=>by cases h;rfl
mutual
def VR(ι:Inj):V->Value->Prop
 | .b x,v=>v=.bool x
 | .i k n,v=>v=.int k n
 | .s l,v=>v=.string ⟨l.toArray⟩
 | .pn,v=>v=.pointer none
 | .p b o,v=>∃q,ι b=some (some q)/\v=.pointer (some ⟨q.r,o,none⟩)
 | .sn,v=>v=.slice none 0 0
 | .sl b o len cap,v=>∃q c,ι b=some (some q)/\(∀n,cap=some n->c=n)/\len<=c/\v=.slice (some ⟨q.r,o,none⟩) len c
 | .unk,v=>v.cells=#[v]/\v.oneCell'=true
 | .pr z b j o,v=>∃q,ι b=some (some q)/\v=.pointer (some ⟨q.r,q.o+(j*z+o),none⟩)
 | .ws b,v=>(∃q,ι b=some (some q)/\v=.slice (some ⟨q.r,q.o,none⟩) q.n q.k)\/(ι b=some none/\∃a,v=.slice a 0 0)
 | .rs z b j n e,v=>(∃q c o,ι b=some (some q)/\(n<=c/\Un e c)/\(0<n->o=q.o+j*z)/\v=.slice (some ⟨q.r,o,none⟩) n c)\/(ι b=some none/\(n=0/\Un e 0)/\∃a,v=.slice a 0 0)
 | .fn f cap,v=>∃d,v=fnV f d/\VRs ι cap d.toList
 | .nf,v=>v=.nilFunc
 | .ni,v=>v=.nilIface
 | .it t x,v=>∃y,v=.iface t y/\VR ι x y
 | .ag l,v=>∃d:Array Value,v=.agg d/\VRs ι l d.toList
 | .ai k n l,v=>l.length=n/\v=.agg (l.map (Value.int k)).toArray
 | .tp l,v=>∃d:Array Value,v=.tuple d/\VRs ι l d.toList
 | .mp b,v=>∃q,ι b=some (some q)/\v=.map (some q.r)
def VRs(ι:Inj):List V->List Value->Prop
 | [],a=>a=[]
 | x::l,a=>∃y b,a=y::b/\VR ι x y/\VRs ι l b
end
mutual
def VR.mono{ι F:Inj}(h:∀b r,ι b=some r->F b=some r):∀(v:V) (x:Value),VR ι v x->VR F v x
 | .b _,_,hx | .i _ _,_,hx | .s _,_,hx | .pn,_,hx | .sn,_,hx | .nf,_,hx | .ni,_,hx | .ai _ _ _,_,hx | .unk,_,hx=>by simpa[VR]using hx
 | .p b o,x,hx | .pr z b j o,x,hx | .mp b,x,hx=>by
  simp only[VR]at hx ⊢;obtain⟨r,C,E⟩:=hx;exact⟨r,h _ _ C,E⟩
 | .ws b,x,hx=>by
  simp only[VR]at hx ⊢;rcases hx with⟨q,C,E⟩ | ⟨C,E⟩
  ·exact .inl ⟨q,h _ _ C,E⟩
  ·exact .inr ⟨h _ _ C,E⟩
 | .rs z b j n _,x,hx=>by
  simp only[VR]at hx ⊢;rcases hx with⟨q,c,o,C,E⟩ | ⟨C,E⟩
  ·exact .inl ⟨q,c,o,h _ _ C,E⟩
  ·exact .inr ⟨h _ _ C,E⟩
 | .sl b o len cap,x,hx=>by
  simp only[VR]at hx ⊢;obtain⟨r,c,C,E⟩:=hx;exact⟨r,c,h _ _ C,E⟩
 | .fn f cap,x,hx=>by
  simp only[VR]at hx ⊢;obtain⟨G,C,E⟩:=hx;exact⟨G,C,VRs.mono h _ _ E⟩
 | .it t v,x,hx=>by
  simp only[VR]at hx ⊢;obtain⟨y,C,E⟩:=hx;exact⟨y,C,VR.mono h _ _ E⟩
 | .ag l,x,hx=>by
  simp only[VR]at hx ⊢;obtain⟨G,C,E⟩:=hx;exact⟨G,C,VRs.mono h _ _ E⟩
 | .tp l,x,hx=>by
  simp only[VR]at hx ⊢;obtain⟨G,C,E⟩:=hx;exact⟨G,C,VRs.mono h _ _ E⟩
def VRs.mono{ι C:Inj}(h:∀b r,ι b=some r->C b=some r):∀(l:List V) (E:List Value),VRs ι l E->VRs C l E
 | [],_,hx=>by simpa[VRs]using hx
 | v::l,E,hx=>by
  simp only[VRs]at hx ⊢;obtain⟨y,J,F,O,G⟩:=hx;exact⟨y,J,F,VR.mono h _ _ O,VRs.mono h _ _ G⟩
end
def VRs.length{ι:Inj}:∀{l:List V} {xs:List Value},VRs ι l xs->xs.length=l.length
 | [],_,h=>by simp only[VRs]at h;simp[h]
 | _::_,_,h=>by
  simp only[VRs]at h;obtain⟨y,E,rfl,_,C⟩:=h;simp[VRs.length C]
def VRs.get{ι:Inj}:∀{l:List V} {xs:List Value} {j:Nat} {v:V},VRs ι l xs->l[j]?=some v->∃x,xs[j]?=some x/\VR ι v x
 | [],_,_,_,_,C=>by simp at C
 | _::_,_,0,_,h,C=>by
  simp only[VRs]at h;obtain⟨y,G,rfl,F,_⟩:=h;simp only[mV,aw]at C;subst C;exact⟨y,by simp,F⟩
 | _::_,_,j+1,_,h,C=>by
  simp only[VRs]at h;obtain⟨y,G,rfl,_,E⟩:=h;simp only[K9]at C ⊢;exact VRs.get E C
def VRs.of_get{ι:Inj}:∀{l:List V} {C:List Value},C.length=l.length->(∀(j:Nat) (v:V) (x:Value),l[j]?=some v->C[j]?=some x->VR ι v x)->VRs ι l C
 | [],C,E,_=>by simp only[VRs];exact vi (by simpa using E)
 | v::l,[],E,_=>by simp at E
 | v::l,x::C,E,h=>by
  simp only[VRs];refine⟨x,C,rfl,h 0 v x (by simp) (by simp),VRs.of_get (by simpa using E) λj F G J O=>h (j+1) F G (by simpa using J) (by simpa using O)⟩
def VRs.append{ι:Inj}:∀{l:List V} {xs:List Value} {m:List V} {E:List Value},VRs ι l xs->VRs ι m E->VRs ι (l++m) (xs++E)
 | [],_,_,_,h,C=>by simp only[VRs]at h;subst h;simpa using C
 | _::_,_,_,_,h,C=>by
  simp only[VRs]at h;obtain⟨y,E,rfl,G,F⟩:=h;simp only[fK,VRs];exact⟨y,_,rfl,G,VRs.append F C⟩
def VRs.drop{ι:Inj}:∀{l:List V} {xs:List Value} (n:Nat),VRs ι l xs->VRs ι (l.drop n) (xs.drop n)
 | _,_,0,h=>by simpa using h
 | [],_,_+1,h=>by simp only[VRs]at h;subst h;simp[VRs]
 | _::_,_,n+1,h=>by
  simp only[VRs]at h;obtain⟨y,E,rfl,_,C⟩:=h;simpa using VRs.drop n C
def VRs.take{ι:Inj}:∀{l:List V} {xs:List Value} (n:Nat),VRs ι l xs->VRs ι (l.take n) (xs.take n)
 | _,_,0,_=>by simp[VRs]
 | [],_,_+1,h=>by simp only[VRs]at h;subst h;simp[VRs]
 | _::_,_,n+1,h=>by
  simp only[VRs]at h;obtain⟨y,F,rfl,E,C⟩:=h;simp only[ox,VRs];exact⟨y,_,rfl,E,VRs.take n C⟩
def VRs.set{ι:Inj}:∀{l:List V} {xs:List Value} (n:Nat) {v:V} {x:Value},VRs ι l xs->VR ι v x->VRs ι (l.set n v) (xs.set n x)
 | [],_,_,_,_,h,_=>by simp only[VRs]at h;subst h;simp[VRs]
 | _::_,_,0,_,_,h,E=>by
  simp only[VRs]at h;obtain⟨y,G,rfl,_,C⟩:=h;simp only[List.set_cons_zero,VRs];exact⟨_,_,rfl,E,C⟩
 | _::_,_,n+1,_,_,h,E=>by
  simp only[VRs]at h;obtain⟨y,G,rfl,F,C⟩:=h;simp only[List.set_cons_succ,VRs];exact⟨_,_,rfl,F,VRs.set n C E⟩
def VRs.ints{ι:Inj}(k:IntKind):∀(l:List Int),VRs ι (l.map (V.i k)) (l.map (Value.int k))
 | []=>by simp[VRs]
 | n::l=>by simp only[gW,VRs];exact⟨_,_,rfl,by simp[VR],VRs.ints k l⟩
def Lf.toV:(a:Lf)->a.den->V
 | .i k,n=>.i k n
 | .bo,x=>.b x
 | .s,l=>.s l
def Lf.val:(a:Lf)->a.den->Value
 | .i k,n=>.int k n
 | .bo,x=>.bool x
 | .s,l=>.string ⟨l.toArray⟩
def cells:(t:List Lf)->den t->List V
 | [],_=>[]
 | [a],x=>[a.toV x]
 | a::b::l,x=>a.toV x.1::cells (b::l) x.2
def vals:(t:List Lf)->den t->List Value
 | [],_=>[]
 | [a],x=>[a.val x]
 | a::b::l,x=>a.val x.1::vals (b::l) x.2
def Lf.ok(ι:Inj):∀(a:Lf) (x:a.den),VR ι (a.toV x) (a.val x)
 | .i _,_=>by simp[Lf.toV,Lf.val,VR]
 | .bo,_=>by simp[Lf.toV,Lf.val,VR]
 | .s,_=>by simp[Lf.toV,Lf.val,VR]
def Lf.ok_iff(ι:Inj):∀(a:Lf) (x:a.den) (y:Value),VR ι (a.toV x) y↔y=a.val x
 | .i _,_,_=>by simp[Lf.toV,Lf.val,VR]
 | .bo,_,_=>by simp[Lf.toV,Lf.val,VR]
 | .s,_,_=>by simp[Lf.toV,Lf.val,VR]
def qD(ι:Inj):∀(t:List Lf) (x:den t) (c:List Value),VRs ι (cells t x) c↔c=vals t x
 | [],_,c=>by simp[cells,vals,VRs]
 | [a],x,c=>by
  simp only[cells,vals,VRs];constructor
  ·rintro⟨y,d,rfl,h,rfl⟩;rw[(a.ok_iff ι x y).1 h]
  ·rintro rfl;exact⟨_,_,rfl,a.ok ι x,rfl⟩
 | a::b::l,x,c=>by
  simp only[cells,vals,VRs];constructor
  ·rintro⟨y,d,rfl,h,e⟩;rw[(a.ok_iff ι _ y).1 h,(qD ι (b::l) x.2 d).1 e]
  ·rintro rfl;exact⟨_,_,rfl,a.ok ι _,(qD ι (b::l) x.2 _).2 rfl⟩
def mu:∀(t:List Lf) (x:den t),(cells t x).length=t.length
 | [],_=>rfl
 | [_],_=>rfl
 | _::b::l,x=>by simp[cells,mu (b::l) x.2]
def iK:∀(t:List Lf) (x:den t),(vals t x).length=t.length
 | [],_=>rfl
 | [_],_=>rfl
 | _::b::l,x=>by simp[vals,iK (b::l) x.2]
inductive Blk where
 | dead
 | rows (t:List Lf) (l:List (den t))
 | cells (l:List V)
 | ints (k:IntKind) (n:Nat) (l:List Int)
 | iter (s:aa) (pos:Nat)
 | mp (k:IntKind) (l:List (Int×Nat))
 deriving Inhabited
def NF(fr:Nat×Nat)(n:Nat):Prop:=∀j,j<n->¬(fr.1<=j/\j<fr.2)
def BR(ι:Inj)(q:Rf):Blk->Obj->Prop
 | .dead,_=>True
 | .rows t l,o=>∃a e fr,o=.cells a e fr/\l.length=q.n/\q.n<=q.k/\q.o+q.k*t.length<=a.size/\(a.toList.drop q.o).take (l.length*t.length)=l.flatMap (vals t)/\(q.fz=true\/NF fr a.size)
 | .cells l,o=>∃a e fr,o=.cells a e fr/\VRs ι l a.toList/\NF fr a.size
 | .ints k n l,o=>∃e fr,o=.cells (l.map (Value.int k)).toArray e fr/\l.length=n/\NF fr n
 | .iter s pos,o=>o=.stringIter ⟨s.toArray⟩ pos
 | .mp k l,o=>∃c b,o=.map c b/\c.toList.map (λe=>(e.key,e.val))=l.map λp=>(Value.int k p.1,fnV p.2 #[])
def BR.mono{ι E:Inj}{q:Rf}(h:∀b r,ι b=some r->E b=some r):∀{blk:Blk} {o:Obj},BR ι q blk o->BR E q blk o
 | .dead,_,_=>trivial
 | .rows t l,o,C=>C
 | .cells l,o,C=>by
  obtain⟨O,e,fr,G,J,F⟩:=C;exact⟨O,e,fr,G,VRs.mono h _ _ J,F⟩
 | .ints k n l,o,C=>C
 | .iter s pos,o,C=>C
 | .mp k l,o,C=>C
def look{α:Type}:List (Nat×α)->Nat->Option α
 | [],_=>none
 | (k,v)::l,n=>cond (Nat.beq k n) (some v) (look l n)
def bh{α:Type}(k:Nat)(v:α)(l:List (Nat×α))(n:Nat):look ((k,v)::l) n=if k=n then some v else look l n:=by
 simp only[look];by_cases h:k=n
 ·subst h;simp
 ·have:Nat.beq k n=false:=by
   cases a:Nat.beq k n
   ·rfl
   ·exact absurd (bO a) h
  simp[this,h]
structure St where
 T:List (Nat×Option V)
 H:List (Nat×Blk)
 nb:Nat
 lo:Nat:=0
 ro:Nat:=0
 rb:Nat:=0
 deriving Inhabited
def TR(ι:Inj)(T:List (Nat×Option V))(a:Array Value):Prop:=
 ∀t v,look T t=some (some v)->∃x,a[t]?=some x/\VR ι v x
def BW(ι:Inj)(w:World)(b:Nat)(blk:Blk):Prop:=
 (∃q o,ι b=some (some q)/\w.heap[q.r]?=some o/\BR ι q blk o)\/(ι b=some none/\∃t,blk=.rows t [])
structure WR(ι:Inj)(H:List (Nat×Blk))(nb:Nat)(w:World):Prop where
 inj:∀b b' q q',ι b=some (some q)->ι b'=some (some q')->q.r=q'.r->b=b'\/(q.fz=true/\q'.fz=true)
 low:∀b q,ι b=some q->b<nb
 dom:∀b q,ι b=some (some q)->q.r<w.heap.size
 blk:∀b blk,look H b=some blk->blk≠.dead->BW ι w b blk
def BW.real{ι:Inj}{w:World}{b:Nat}{blk:Blk}(h:BW ι w b blk)(C:∀t,blk≠.rows t []):∃q o,ι b=some (some q)/\w.heap[q.r]?=some o/\BR ι q blk o:=by
 rcases h with h | ⟨_,t,h⟩
 ·exact h
 ·exact absurd h (C t)
def BW.map{ι E:Inj}{w w':World}{b J:Nat}{blk C:Blk}(h:BW ι w b blk)(O:E J=ι b)(X:∀q,ι b=some (some q)->w'.heap[q.r]?=w.heap[q.r]?)
  (U:∀q o,BR ι q blk o->BR E q C o) (W:∀t,blk=.rows t []->C=.rows t []):BW E w' J C:=by
 rcases h with⟨q,o,F,G,Q⟩ | ⟨F,t,G⟩
 ·exact .inl ⟨q,o,by rw[O,F],by rw[X q F,G],U q o Q⟩
 ·exact .inr ⟨by rw[O,F],t,W t G⟩
structure Fr(ι0:Inj)(w0 w:World):Prop where
 os:w.os=w0.os
 tape:w.tape=w0.tape
 output:w.output=w0.output
 size:w0.heap.size<=w.heap.size
 blk:∀k,k<w0.heap.size->(∀b q,ι0 b=some (some q)->q.r≠k)->w.heap[k]?=w0.heap[k]?
def Fr.refl(ι0:Inj)(w:World):Fr ι0 w w:=⟨rfl,rfl,rfl,bi _,λ_ _ _=>rfl⟩
def roI(ι0:Inj)(ro:Nat):Inj:=λb=>cond (Nat.blt b ro) none (ι0 b)
def sG{ι0:Inj}{ro b:Nat}{r:Option Rf}(h:roI ι0 ro b=some r):ι0 b=some r:=by
 unfold roI at h;cases a:Nat.blt b ro with
 | true=>simp[a]at h
 | false=>simpa[a]using h
def OA{ι0:Inj}{ro b:Nat}{r:Option Rf}(h:roI ι0 ro b=some r):ro<=b:=by
 unfold roI at h;rcases aN b ro with a | a
 ·rw[show Nat.blt b ro=true from dc a]at h;cases h
 ·exact a
def HI{ι0:Inj}{ro b:Nat}{r:Option Rf}(h:ι0 b=some r)(a:ro<=b):roI ι0 ro b=some r:=by
 have:Nat.blt b ro=false:=by
  cases hx:Nat.blt b ro with
  | false=>rfl
  | true=>have:b<ro:=aR hx;omega
 simp[roI,this,h]
def GL(R:Inj)(w:World):Prop:=∃L:List (Nat×Obj),Y7 L/\(∀x∈L,w.heap[x.1]?=some x.2)/\∀x∈L,∀b q,R b=some (some q)->q.r≠x.1
def GL.mono{R G:Inj}{w:World}(h:GL R w)(U:∀b q,G b=some (some q)->(∃E C,R E=some (some C)/\C.r=q.r)\/w.heap.size<=q.r):GL G w:=by
 obtain⟨L,X,J,O⟩:=h;refine⟨L,X,J,λx hx b q Q=>?_⟩;rcases U b q Q with⟨E,C,F,W⟩ | F
 ·rw[<-W];exact O x hx E C F
 ·have hs:x.1<w.heap.size:=by
   rcases aN x.1 w.heap.size with h | h
   ·exact h
   ·have:=J x hx;rw[ym h]at this;cases this
  omega
structure Base where
 w:World
 D:List Deferred:=[]
structure Inv(n:Nat)(ι0:Inj)(w0:Base)(ι:Inj)(s:St)(a:Act)(w:World):Prop where
 size:a.tmps.size=n
 defers:a.defers=w0.D
 tmps:TR ι s.T a.tmps
 mem:WR ι s.H s.nb w
 ext:∀b q,ι0 b=some q->ι b=some q\/s.rb<=b
 new:∀b q,ι b=some (some q)->(∃q',ι0 b=some (some q')/\q'.r=q.r)\/w0.w.heap.size<=q.r
 fr:Fr (roI ι0 s.ro) w0.w w
 low:∀b r,ι0 b=some r->b<s.lo
 fz:∀b q,ι b=some (some q)->q.fz=true->b<s.ro
 gl:GL (roI ι0 s.ro) w0.w
def Inv.glHere{n:Nat}{ι0 ι:Inj}{w0:Base}{s:St}{a:Act}{w:World}(h:Inv n ι0 w0 ι s a w){R:Inj}(Q:∀b q,R b=some (some q)->ι b=some (some q)/\s.ro<=b):GL R w:=by
 obtain⟨L,X,F,C⟩:=h.gl;have hs:∀x∈L,x.1<w0.w.heap.size:=by
  intro x hx;rcases aN x.1 w0.w.heap.size with h | h
  ·exact h
  ·have:=F x hx;rw[ym h]at this;cases this
 refine⟨L,X,λx hx=>?_,λx hx b q O=>?_⟩
 ·rw[h.fr.blk x.1 (hs x hx) (C x hx)];exact F x hx
 ·obtain⟨G,W⟩:=Q b q O;rcases h.new b q G with⟨J,E,U⟩ | E
  ·rw[<-U];exact C x hx b J (HI E W)
  ·have:=hs x hx;omega
def upd(ι:Inj)(b:Nat)(r:Option Rf):Inj:=λc=>if c=b then some r else ι c
def sO{ι:Inj}{b:Nat}{r:Option Rf}(h:ι b=none):∀c q,ι c=some q->upd ι b r c=some q:=by
 intro c q hc;unfold upd;split
 ·rename_i e;subst e;rw[h]at hc;cases hc
 ·exact hc
def TR.mono{ι C:Inj}(h:∀b r,ι b=some r->C b=some r){T:List (Nat×Option V)}{E:Array Value}(G:TR ι T E):TR C T E:=
 λt v F=>let⟨x,h1,h2⟩:=G t v F;⟨x,h1,VR.mono h _ _ h2⟩
def TR.put{ι:Inj}{T:List (Nat×Option V)}{a:Act}{d:Nat}{v:Option V}{x:Value}(G:TR ι T a.tmps)(Q:d<a.tmps.size)
  (F:∀u,v=some u->VR ι u x):TR ι ((d,v)::T) (a.put (some d) x).tmps:=by
 intro t u C;rw[bh]at C;simp only[Act.put];split at C
 ·rename_i e;subst e;simp only[aw]at C;exact⟨x,by simp[Q],F u C⟩
 ·rename_i E;obtain⟨y,J,O⟩:=G t u C;exact⟨y,by rw[XD E];exact J,O⟩
def setObj(w:World)(r:Nat)(o:Obj):World:={ w with heap:=w.heap.setIfInBounds r o }
def lA(w:World)(o:Obj):(w.alloc o).heap[w.heap.size]?=some o:=by
 show(w.heap.push o)[w.heap.size]?=some o;simp
def lq(w:World)(o:Obj){k:Nat}(h:k≠w.heap.size):(w.alloc o).heap[k]?=w.heap[k]?:=by
 show(w.heap.push o)[k]?=_;rw[Array.getElem?_push,ab h]
def rz{w:World}{r:Nat}{o:Obj}(h:w.heap[r]?=some o):r<w.heap.size:=by
 rcases aN r w.heap.size with a | a
 ·exact a
 ·simp[ym a]at h
def WR.draws{ι:Inj}{H:List (Nat×Blk)}{nb:Nat}{w:World}(h:WR ι H nb w)(n:Nat):WR ι H nb { w with drawn:=n }:=
 ⟨h.inj,h.low,h.dom,h.blk⟩
def uZ{w:World}{r k:Nat}(o:Obj)(h:r≠k):(setObj w r o).heap[k]?=w.heap[k]?:=by
 simp[setObj,XD h]
def WR.write{ι:Inj}{H:List (Nat×Blk)}{nb b:Nat}{q:Rf}{w:World}{blk:Blk}{o:Obj}(h:WR ι H nb w)(G:ι b=some (some q))(U:q.fz=false)(O:BR ι q blk o):
  WR ι ((b,blk)::H) nb (setObj w q.r o):=by
 have Q:=h.dom b q G;refine⟨h.inj,h.low,λc q hc=>by simpa[setObj]using h.dom c q hc,λc E C W=>?_⟩;rw[bh]at C;split at C
 ·rename_i e;subst e;simp only[aw]at C;subst C;exact .inl ⟨q,o,G,by simp[setObj,Q],O⟩
 ·rename_i F;exact(h.blk c E C W).map rfl (λp hp=>uZ o λe=>(h.inj b c q p G hp e).elim F λJ=>by rw[U]at J;cases J.1) (λ_ _ x=>x) (λ_ x=>x)
def WR.alloc{ι:Inj}{H:List (Nat×Blk)}{nb C f:Nat}{q:Rf}{w:World}{blk:Blk}{o:Obj}(h:WR ι H nb w)(X:ι f=none)(hn:nb<=C)(U:f<C)
  (hq:q.r=w.heap.size) (W:BR (upd ι f (some q)) q blk o):WR (upd ι f (some q)) ((f,blk)::H) C (w.alloc o):=by
 have G:=sO (r:=some q) X;refine⟨λb b' r r' E F Y=>?_,λc p hc=>?_,λc p hc=>?_,λc O J hd=>?_⟩
 ·unfold upd at E F;split at E<;>split at F
  ·rename_i e1 Z;exact .inl (e1.trans Z.symm)
  ·simp only[aw]at E;subst E;have:=h.dom _ _ F;omega
  ·simp only[aw]at F;subst F;have:=h.dom _ _ E;omega
  ·exact h.inj _ _ _ _ E F Y
 ·unfold upd at hc;split at hc
  ·rename_i e;subst e;exact U
  ·have:=h.low _ _ hc;omega
 ·unfold upd at hc;split at hc
  ·simp only[aw]at hc;subst hc;simp;omega
  ·have:=h.dom _ _ hc;simp;omega
 ·rw[bh]at J;split at J
  ·rename_i e;subst e;simp only[aw]at J;subst J;exact .inl ⟨q,o,by simp[upd],by rw[hq];exact lA w o,W⟩
  ·rename_i Q;refine(h.blk c O J hd).map (by simp[upd,Ne.symm Q]) (λp hp=>?_) (λ_ _ x=>BR.mono G x) (λ_ x=>x);have:=h.dom _ _ hp;exact lq w o (by omega)
def Fr.draws{ι0:Inj}{w0 w:World}(h:Fr ι0 w0 w)(n:Nat):Fr ι0 w0 { w with drawn:=n }:=⟨h.os,h.tape,h.output,h.size,h.blk⟩
def Fr.alloc{ι0:Inj}{w0 w:World}(h:Fr ι0 w0 w)(o:Obj):Fr ι0 w0 (w.alloc o):=by
 refine⟨h.os,h.tape,h.output,by have:=h.size;simp;omega,λk C E=>?_⟩;have:=h.size;rw[lq w o (by omega)];exact h.blk k C E
def Fr.write{ι0:Inj}{w0 w:World}(h:Fr ι0 w0 w){r:Nat}(G:(∃b q,ι0 b=some (some q)/\q.r=r)\/w0.heap.size<=r)(o:Obj):Fr ι0 w0 (setObj w r o):=by
 refine⟨h.os,h.tape,h.output,by simpa[setObj]using h.size,λk O F=>?_⟩;have C:r≠k:=by
  rintro rfl;rcases G with⟨b,q,E,J⟩ | G
  ·exact F b q E J
  ·omega
 simp only[setObj,XD C];exact h.blk k O F
def bB{w:World}{r o:Nat}{a:Array Value}{e:TypeId}{fr:Nat×Nat}(h:w.heap[r]?=some (.cells a e fr)):
  w.cell? ⟨r,o,none⟩=a[o]?:=by
 simp[World.cell?,h]
def tL{w:World}{r o:Nat}{a:Array Value}{e:TypeId}{fr:Nat×Nat}(h:w.heap[r]?=some (.cells a e fr))(c:NF fr a.size)(b:o<a.size):
  w.frozen? ⟨r,o,none⟩=false:=by
 have:=c o b;simp only[World.frozen?,h];by_cases d:fr.1<=o<;>by_cases f:o<fr.2<;>simp_all
def Hj{w:World}{r o:Nat}{v:Value}{b:Array Value}{e:TypeId}{fr:Nat×Nat}(h:w.heap[r]?=some (.cells b e fr)):
  w.setCell ⟨r,o,none⟩ v=setObj w r (.cells (b.setIfInBounds o v) e fr):=by
 unfold World.setCell setObj;congr 1;apply XJ;intro k;rw[Array.getElem?_modify,Xh];have c:=rz h;by_cases a:r=k
 ·subst a;rw[ae rfl,ae rfl,ae c,h];simp
 ·rw[ab a,ab a]
def Fo(w:World)(r:Nat)(o a:Obj):setObj (setObj w r o) r a=setObj w r a:=by
 simp[setObj]
def Jq{w:World}{r:Nat}{o:Obj}(h:w.heap[r]?=some o):setObj w r o=w:=by
 unfold setObj;congr 1;apply XJ;intro k;rw[Xh];by_cases a:r=k
 ·subst a;rw[ae rfl,ae (rz h),h]
 ·rw[ab a]
def Bq{w:World}{r:Nat}{o a:Obj}(h:w.heap[r]?=some o):(setObj w r a).heap[r]?=some a:=by
 have b:=rz h;simp[setObj,b]
end Go.Abs
