
import Derived.Tactics
import Derived.Below
import Derived.Test.YtibehcmomiplnaaGreatDoorGlob
set_option linter.unusedSimpArgs false
set_option linter.unusedVariables false
set_option linter.defProp false
namespace Go
abbrev aa:=List UInt8
abbrev lU:=@Array.ext'
abbrev TB:=@Array.ext_getElem?
abbrev rj:=@Array.getD_eq_getD_getElem?
abbrev Vg:=@Array.getElem?_append_left
abbrev XQ:=@Array.getElem?_eq_getElem
abbrev wo:=@Array.getElem?_eq_none
abbrev Xb:=@Array.getElem?_replicate
abbrev Vl:=@Array.getElem?_setIfInBounds
abbrev UC:=@Array.getElem?_setIfInBounds_ne
abbrev qB:=@Array.getElem?_toList
abbrev OZ:=@Array.length_toList
abbrev Tt:=@Array.mapM_eq_mapM_toList
abbrev HK:=@Array.map_empty
abbrev xJ:=@Array.toList_append
abbrev Jd:=@Bool.and_eq_false_iff
abbrev aA:=@Bool.and_eq_true
abbrev I1:=@Bool.and_false
abbrev yy:=@Bool.and_true
abbrev MK:=@Bool.eq_false_iff
abbrev uJ:=@Bool.eq_iff_iff
abbrev EM:=@Bool.false_and
abbrev bU:=@Bool.false_eq_true
abbrev tq:=@Bool.false_or
abbrev Iq:=@Bool.not_eq_true
abbrev kv:=@Bool.not_eq_true'
abbrev kV:=@Bool.not_false
abbrev dT:=@Bool.not_true
abbrev qZ:=@Bool.or_eq_false_iff
abbrev iG:=@Bool.or_eq_true
abbrev Ie:=@Bool.or_false
abbrev rc:=@Bool.true_and
abbrev Hz:=@Bool.true_or
abbrev N1:=@ByteArray.ext
abbrev S9:=@Classical.byContradiction
abbrev HH:=@Classical.em
abbrev uV:=@Go.Code.wp_mono
abbrev IB:=@Go.DataW.trod_int
abbrev OA:=@Decidable.not_not
abbrev MW:=@Int.dvd_of_emod_eq_zero
abbrev MV:=@Int.emod_lt_of_pos
abbrev Nk:=@Int.emod_nonneg
abbrev uz:=@Int.le_refl
abbrev zN:=@Int.mul_comm
abbrev SC:=@Int.mul_le_mul_of_nonneg_right
abbrev Iu:=@Int.natCast_mul
abbrev Ib:=@Int.natCast_nonneg
abbrev Pm:=@Int.sub_add_cancel
abbrev Sj:=@Int.tdiv_eq_ediv_of_nonneg
abbrev M6:=@Int.tmod_eq_emod
abbrev NX:=@Int.tmod_eq_emod_of_nonneg
abbrev bX:=@Int.toNat_natCast
abbrev IN:=@Int.toNat_of_nonneg
abbrev AZ:=@Int.zero_sub
abbrev HD:=@Go.IntKind.wrap_i64
abbrev E5:=@List.all_append
abbrev nH:=@List.all_cons
abbrev bO:=@List.all_eq_true
abbrev vR:=@List.any_append
abbrev vV:=@List.any_cons
abbrev sY:=@List.any_eq_false
abbrev tj:=@List.any_eq_true
abbrev fa:=@List.append_assoc
abbrev ko:=@List.append_nil
abbrev EV:=@List.cons.injEq
abbrev eX:=@List.cons_append
abbrev L2:=@List.countP_cons
abbrev Jb:=@List.drop_append
abbrev kZ:=@List.drop_drop
abbrev uN:=@List.drop_eq_getElem_cons
abbrev l9:=@List.drop_eq_nil_of_le
abbrev ES:=@List.drop_left'
abbrev AX:=@List.drop_length
abbrev oM:=@List.drop_succ_cons
abbrev zT:=@List.drop_take
abbrev dk:=@List.drop_zero
abbrev tu:=@List.eq_nil_of_length_eq_zero
abbrev AT:=@List.ext_getElem?
abbrev Pv:=@List.filter_append
abbrev Tu:=@List.filter_cons_of_neg
abbrev SQ:=@List.filter_cons_of_pos
abbrev Jw:=@List.filter_filter
abbrev EN:=@List.findSome?_cons
abbrev SS:=@List.findSome?_eq_none_iff
abbrev HI:=@List.flatMap_append
abbrev oQ:=@List.flatMap_cons
abbrev Ji:=@List.foldl_append
abbrev vW:=@List.foldl_cons
abbrev HB:=@List.foldl_nil
abbrev Fo:=@List.getD_eq_getElem?_getD
abbrev om:=@List.getElem?_append_left
abbrev rf:=@List.getElem?_append_right
abbrev E7:=@List.getElem?_cons_succ
abbrev lw:=@List.getElem?_cons_zero
abbrev lW:=@List.getElem?_drop
abbrev bq:=@List.getElem?_eq_getElem
abbrev gh:=@List.getElem?_eq_none
abbrev pY:=@List.getElem?_eq_some_iff
abbrev nF:=@List.getElem?_map
abbrev MC:=@List.getElem?_set_self
abbrev MZ:=@List.getElem?_take
abbrev ma:=@List.getElem?_take_of_lt
abbrev He:=@List.getElem_mem
abbrev pA:=@List.head?_cons
abbrev Dk:=@List.isEmpty_eq_false_iff
abbrev aH:=@List.length_append
abbrev aC:=@List.length_cons
abbrev cj:=@List.length_drop
abbrev Dl:=@List.length_filter_le
abbrev A7:=@List.length_filter_lt_length_iff_exists
abbrev vN:=@List.length_map
abbrev aX:=@List.length_nil
abbrev Gy:=@List.length_pos_of_mem
abbrev vI:=@List.length_reverse
abbrev Gg:=@List.length_set
abbrev cS:=@List.length_take
abbrev zk:=@List.mapM_cons
abbrev Gw:=@List.map_append
abbrev gJ:=@List.map_cons
abbrev uh:=@List.map_map
abbrev ln:=@List.mem_append
abbrev cN:=@List.mem_cons
abbrev fV:=@List.mem_cons_of_mem
abbrev nl:=@List.mem_cons_self
abbrev mf:=@List.mem_filter
abbrev eD:=@List.mem_map
abbrev fh:=@List.mem_of_getElem?
abbrev Pl:=@List.mem_or_eq_of_mem_set
abbrev gS:=@List.mem_range
abbrev tW:=@List.mem_range'_1
abbrev Hg:=@List.mem_reverse
abbrev tK:=@List.mem_singleton
abbrev dQ:=@List.nil_append
abbrev Gu:=@List.nodup_append
abbrev xM:=@List.nodup_cons
abbrev pC:=@List.not_mem_nil
abbrev xd:=@List.range'_succ
abbrev tC:=@List.replicate_succ
abbrev yB:=@List.reverse_reverse
abbrev K4:=@List.set_eq_take_append_cons_drop
abbrev zi:=@List.size_toArray
abbrev qJ:=@List.take_add_one
abbrev fS9:=@List.take_append
abbrev tH:=@List.take_append_drop
abbrev vn:=@List.take_append_of_le_length
abbrev FH:=@List.take_left
abbrev oq:=@List.take_length
abbrev jK:=@List.take_of_length_le
abbrev nq:=@List.take_succ_cons
abbrev PC:=@List.take_succ_eq_append_getElem
abbrev BV:=@List.take_take
abbrev nr:=@List.take_zero
abbrev gR:=@Nat.add_assoc
abbrev o8:=@Nat.add_comm
abbrev ij:=@Nat.add_mul
abbrev ym:=@Nat.add_right_cancel_iff
abbrev FU:=@Nat.add_sub_cancel
abbrev Ho:=@Nat.add_sub_cancel_left
abbrev dP:=@Nat.add_zero
abbrev jB:=@Nat.beq_eq
abbrev cr:=@Nat.ble_eq_true_of_le
abbrev Hj:=@Nat.div_le_self
abbrev G8:=@Nat.div_mul_le_self
abbrev tL:=@Nat.div_one
abbrev bB:=@Nat.eq_of_beq_eq_true
abbrev CY:=@Nat.eq_zero_or_pos
abbrev Bc:=@Nat.le_add_right
abbrev FX:=@Nat.le_max_left
abbrev aM:=@Nat.le_of_ble_eq_true
abbrev zr:=@Nat.le_of_eq
abbrev bg:=@Nat.le_refl
abbrev rK:=@Nat.le_trans
abbrev Bo:=@Nat.le_zero
abbrev Bt:=@Nat.lt_irrefl
abbrev pt:=@Nat.lt_of_lt_of_le
abbrev aN:=@Nat.lt_or_ge
abbrev Hl:=@Nat.lt_trichotomy
abbrev rL:=@Nat.min_eq_left
abbrev GH:=@Nat.min_le_right
abbrev rO:=@Nat.mod_eq_of_lt
abbrev rk:=@Nat.mod_lt
abbrev G0:=@Nat.mul_assoc
abbrev vj:=@Nat.mul_comm
abbrev xw:=@Nat.mul_le_mul
abbrev pa:=@Nat.mul_le_mul_right
abbrev rr:=@Nat.mul_one
abbrev Bj:=@Nat.ne_of_lt
abbrev Br:=@Nat.one_le_pow
abbrev xi:=@Nat.one_mul
abbrev Cf:=@Nat.or_comm
abbrev lL:=@Nat.pow_le_pow_right
abbrev ua:=@Nat.pow_succ
abbrev BO:=@Nat.pow_zero
abbrev Cd:=@Nat.sub_self
abbrev tX:=@Nat.sub_zero
abbrev CO:=@Nat.succ_mul
abbrev cU:=@Nat.zero_add
abbrev iK:=@Nat.zero_le
abbrev CN:=@Nat.zero_mul
abbrev F9:=@Go.Oper.apart_spec
abbrev C6:=@Option.bind_eq_some_iff
abbrev yf:=@Option.getD_some
abbrev CQ:=@Option.isSome_iff_exists
abbrev xk:=@Option.isSome_none
abbrev Gi:=@Option.map_eq_some_iff
abbrev jo:=@Option.map_none
abbrev fm:=@Option.map_some
abbrev Gx:=@Option.none_or
abbrev bp:=@Option.some.inj
abbrev ar:=@Option.some.injEq
abbrev bm:=@Prod.mk.injEq
abbrev aB:=@Go.Result.andThen_ok
abbrev xb:=@Go.Result.ok.injEq
abbrev ay:=@Go.Sem.run_bind
abbrev aE:=@Go.Sem.run_pure
abbrev vu:=@Sum.inr.inj
abbrev nh:=@Sum.inr.injEq
abbrev iL:=@UInt8.toNat_inj
abbrev FP:=@UInt8.toNat_ofNat'
abbrev xL:=@Go.World.alloc_eq
abbrev Ht:=@Go.World.cells?_some
abbrev vG:=@and_congr_right
abbrev ud:=@and_true
abbrev aL:=@beq_eq_false_iff_ne
abbrev bu:=@beq_iff_eq
abbrev lP:=@beq_self_eq_true
abbrev fG:=@bne_self_eq_false
abbrev ah:=@cond_false
abbrev aj:=@cond_true
abbrev cT:=@congrArg
abbrev oN:=@decide_eq_decide
abbrev aw:=@decide_eq_false
abbrev ug:=@decide_eq_false_iff_not
abbrev au:=@decide_eq_true
abbrev cb:=@decide_eq_true_eq
abbrev oJ:=@decide_false
abbrev pg:=@decide_true
abbrev qS:=@exists_congr
abbrev yR:=@false_and
abbrev Bh:=@forall_eq_or_imp
abbrev aG:=@if_false
abbrev ae:=@if_neg
abbrev af:=@if_pos
abbrev aQ:=@if_true
abbrev Hk:=@not_false_eq_true
abbrev vh:=@not_true_eq_false
abbrev GM:=@of_decide_eq_true
abbrev qw:=@or_false
abbrev za:=@Go.run_loadCells_list
abbrev xC:=@Go.run_newObj
abbrev ba:=@Go.run_underlying
abbrev kO:=@true_and
end Go
namespace Go.Abs
inductive Lf where
 | i (k:IntKind)
 | bo
 | s
 deriving Inhabited,DecidableEq
@[reducible] def Lf.den:Lf->Type
 | .i _=>Int
 | .bo=>Bool
 | .s=>aa
@[reducible] def den:List Lf->Type
 | []=>Unit
 | [a]=>a.den
 | a::b::l=>a.den×den (b::l)
inductive V where
 | unk
 | pr (z b j o:Nat)
 | ws (b:Nat)
 | rs (z b j n:Nat) (cap:Option Nat)
 | b (x:Bool)
 | i (k:IntKind) (n:Int)
 | s (l:aa)
 | pn
 | p (b o:Nat)
 | sn
 | sl (b o len:Nat) (cap:Option Nat)
 | fn (f:Nat) (cap:List V)
 | nf
 | ni
 | it (t:Nat) (v:V)
 | ag (l:List V)
 | ai (k:IntKind) (n:Nat) (l:List Int)
 | tp (l:List V)
 | mp (b:Nat)
 deriving Inhabited
structure Rf where
 r:Nat
 n:Nat:=0
 k:Nat:=0
 o:Nat:=0
 fz:Bool:=false
abbrev Rf.of(r n k:Nat):Rf:=⟨r,n,k,0,false⟩
abbrev Inj:=Nat->Option (Option Rf)
def fnW(K f:Nat)(a:Array Value):Value:=
 match Nat.blt f K with
 | true=>.func (.func f) #[] a
 | false=>.func (.func (f - K)) a #[]
def fnV(f:Nat)(a:Array Value):Value:=fnW 1000000 f a
def V7(K f:Nat)(a:Array Value):∃g b c,fnW K f a=.func (.func g) b c:=by
 unfold fnW;split
 ·exact⟨_,_,_,rfl⟩
 ·exact⟨_,_,_,rfl⟩
def AG(f:Nat)(a:Array Value):∃g b c,fnV f a=.func (.func g) b c:=V7 _ f a
def Vw{K f:Nat}(h:Nat.blt f K=true)(a:Array Value):fnW K f a=.func (.func f) #[] a:=by
 unfold fnW;rw[h]
def GG{f:Nat}(h:Nat.blt f 1000000=true)(a:Array Value):fnV f a=.func (.func f) #[] a:=Vw h a
def Rz(K f:Nat)(a:Array Value):fnW K (f+K) a=.func (.func f) a #[]:=by
 unfold fnW;cases h:Nat.blt (f+K) K with
 | true=>have:f+K<K:=aM h;omega
 | false=>simp
def QL(f:Nat)(a:Array Value):fnV (f+1000000) a=.func (.func f) a #[]:=Rz _ f a
def fnFW(K f:Nat):Nat:=match Nat.blt f K with | true=>f | false=>f - K
def fnAW{α:Type}(K f:Nat)(args cap:List α):List α:=match Nat.blt f K with | true=>args++cap | false=>cap++args
def fnF(f:Nat):Nat:=fnFW 1000000 f
def fnA{α:Type}(f:Nat)(args cap:List α):List α:=fnAW 1000000 f args cap
def P2(c:Option Nat)(k:Nat):Prop:=∀m,c=some m->k=m
def kW{k:Nat}:P2 none k:=λ_ h=>by cases h
def sP{k:Nat}:P2 (some k) k:=λ_ h=>by cases h;rfl
mutual
def VR(ι:Inj):V->Value->Prop
 | .b x,v=>v=.bool x
 | .i k n,v=>v=.int k n
 | .s l,v=>v=.string ⟨l.toArray⟩
 | .pn,v=>v=.pointer none
 | .p b o,v=>∃q,ι b=some (some q)/\v=.pointer (some ⟨q.r,o,none⟩)
 | .sn,v=>v=.slice none 0 0
 | .sl b o len cap,v=>∃q c,ι b=some (some q)/\(∀n,cap=some n->c=n)/\len<=c/\v=.slice (some ⟨q.r,o,none⟩) len c
 | .unk,v=>v.cells=#[v]/\v.oneCell'=true
 | .pr z b j o,v=>∃q,ι b=some (some q)/\v=.pointer (some ⟨q.r,q.o+(j*z+o),none⟩)
 | .ws b,v=>(∃q,ι b=some (some q)/\v=.slice (some ⟨q.r,q.o,none⟩) q.n q.k)\/(ι b=some none/\∃a,v=.slice a 0 0)
 | .rs z b j n e,v=>(∃q c o,ι b=some (some q)/\(n<=c/\P2 e c)/\(0<n->o=q.o+j*z)/\v=.slice (some ⟨q.r,o,none⟩) n c)\/(ι b=some none/\(n=0/\P2 e 0)/\∃a,v=.slice a 0 0)
 | .fn f cap,v=>∃d,v=fnV f d/\VRs ι cap d.toList
 | .nf,v=>v=.nilFunc
 | .ni,v=>v=.nilIface
 | .it t x,v=>∃y,v=.iface t y/\VR ι x y
 | .ag l,v=>∃d:Array Value,v=.agg d/\VRs ι l d.toList
 | .ai k n l,v=>l.length=n/\v=.agg (l.map (Value.int k)).toArray
 | .tp l,v=>∃d:Array Value,v=.tuple d/\VRs ι l d.toList
 | .mp b,v=>∃q,ι b=some (some q)/\v=.map (some q.r)
def VRs(ι:Inj):List V->List Value->Prop
 | [],a=>a=[]
 | x::l,a=>∃y b,a=y::b/\VR ι x y/\VRs ι l b
end
mutual
def VR.mono{ι F:Inj}(h:∀b r,ι b=some r->F b=some r):∀(v:V) (x:Value),VR ι v x->VR F v x
 | .b _,_,hx | .i _ _,_,hx | .s _,_,hx | .pn,_,hx | .sn,_,hx | .nf,_,hx | .ni,_,hx | .ai _ _ _,_,hx | .unk,_,hx=>by simpa[VR]using hx
 | .p b o,x,hx | .pr z b j o,x,hx | .mp b,x,hx=>by
  simp only[VR]at hx ⊢;obtain⟨r,C,E⟩:=hx;exact⟨r,h _ _ C,E⟩
 | .ws b,x,hx=>by
  simp only[VR]at hx ⊢;rcases hx with⟨q,C,E⟩ | ⟨C,E⟩
  ·exact .inl ⟨q,h _ _ C,E⟩
  ·exact .inr ⟨h _ _ C,E⟩
 | .rs z b j n _,x,hx=>by
  simp only[VR]at hx ⊢;rcases hx with⟨q,c,o,C,E⟩ | ⟨C,E⟩
  ·exact .inl ⟨q,c,o,h _ _ C,E⟩
  ·exact .inr ⟨h _ _ C,E⟩
 | .sl b o len cap,x,hx=>by
  simp only[VR]at hx ⊢;obtain⟨r,c,C,E⟩:=hx;exact⟨r,c,h _ _ C,E⟩
 | .fn f cap,x,hx=>by
  simp only[VR]at hx ⊢;obtain⟨G,C,E⟩:=hx;exact⟨G,C,VRs.mono h _ _ E⟩
 | .it t v,x,hx=>by
  simp only[VR]at hx ⊢;obtain⟨y,C,E⟩:=hx;exact⟨y,C,VR.mono h _ _ E⟩
 | .ag l,x,hx=>by
  simp only[VR]at hx ⊢;obtain⟨G,C,E⟩:=hx;exact⟨G,C,VRs.mono h _ _ E⟩
 | .tp l,x,hx=>by
  simp only[VR]at hx ⊢;obtain⟨G,C,E⟩:=hx;exact⟨G,C,VRs.mono h _ _ E⟩
def VRs.mono{ι C:Inj}(h:∀b r,ι b=some r->C b=some r):∀(l:List V) (E:List Value),VRs ι l E->VRs C l E
 | [],_,hx=>by simpa[VRs]using hx
 | v::l,E,hx=>by
  simp only[VRs]at hx ⊢;obtain⟨y,O,F,J,G⟩:=hx;exact⟨y,O,F,VR.mono h _ _ J,VRs.mono h _ _ G⟩
end
def VRs.length{ι:Inj}:∀{l:List V} {xs:List Value},VRs ι l xs->xs.length=l.length
 | [],_,h=>by simp only[VRs]at h;simp[h]
 | _::_,_,h=>by
  simp only[VRs]at h;obtain⟨y,E,rfl,_,C⟩:=h;simp[VRs.length C]
def VRs.get{ι:Inj}:∀{l:List V} {xs:List Value} {j:Nat} {v:V},VRs ι l xs->l[j]?=some v->∃x,xs[j]?=some x/\VR ι v x
 | [],_,_,_,_,C=>by simp at C
 | _::_,_,0,_,h,C=>by
  simp only[VRs]at h;obtain⟨y,F,rfl,G,_⟩:=h;simp only[lw,ar]at C;subst C;exact⟨y,by simp,G⟩
 | _::_,_,j+1,_,h,C=>by
  simp only[VRs]at h;obtain⟨y,F,rfl,_,E⟩:=h;simp only[E7]at C ⊢;exact VRs.get E C
def VRs.of_get{ι:Inj}:∀{l:List V} {C:List Value},C.length=l.length->(∀(j:Nat) (v:V) (x:Value),l[j]?=some v->C[j]?=some x->VR ι v x)->VRs ι l C
 | [],C,E,_=>by simp only[VRs];exact tu (by simpa using E)
 | v::l,[],E,_=>by simp at E
 | v::l,x::C,E,h=>by
  simp only[VRs];refine⟨x,C,rfl,h 0 v x (by simp) (by simp),VRs.of_get (by simpa using E) λj G J F O=>h (j+1) G J (by simpa using F) (by simpa using O)⟩
def VRs.append{ι:Inj}:∀{l:List V} {xs:List Value} {m:List V} {E:List Value},VRs ι l xs->VRs ι m E->VRs ι (l++m) (xs++E)
 | [],_,_,_,h,C=>by simp only[VRs]at h;subst h;simpa using C
 | _::_,_,_,_,h,C=>by
  simp only[VRs]at h;obtain⟨y,E,rfl,G,F⟩:=h;simp only[eX,VRs];exact⟨y,_,rfl,G,VRs.append F C⟩
def VRs.drop{ι:Inj}:∀{l:List V} {xs:List Value} (n:Nat),VRs ι l xs->VRs ι (l.drop n) (xs.drop n)
 | _,_,0,h=>by simpa using h
 | [],_,_+1,h=>by simp only[VRs]at h;subst h;simp[VRs]
 | _::_,_,n+1,h=>by
  simp only[VRs]at h;obtain⟨y,E,rfl,_,C⟩:=h;simpa using VRs.drop n C
def VRs.take{ι:Inj}:∀{l:List V} {xs:List Value} (n:Nat),VRs ι l xs->VRs ι (l.take n) (xs.take n)
 | _,_,0,_=>by simp[VRs]
 | [],_,_+1,h=>by simp only[VRs]at h;subst h;simp[VRs]
 | _::_,_,n+1,h=>by
  simp only[VRs]at h;obtain⟨y,F,rfl,E,C⟩:=h;simp only[nq,VRs];exact⟨y,_,rfl,E,VRs.take n C⟩
def VRs.set{ι:Inj}:∀{l:List V} {xs:List Value} (n:Nat) {v:V} {x:Value},VRs ι l xs->VR ι v x->VRs ι (l.set n v) (xs.set n x)
 | [],_,_,_,_,h,_=>by simp only[VRs]at h;subst h;simp[VRs]
 | _::_,_,0,_,_,h,C=>by
  simp only[VRs]at h;obtain⟨y,F,rfl,_,E⟩:=h;simp only[List.set_cons_zero,VRs];exact⟨_,_,rfl,C,E⟩
 | _::_,_,n+1,_,_,h,C=>by
  simp only[VRs]at h;obtain⟨y,F,rfl,G,E⟩:=h;simp only[List.set_cons_succ,VRs];exact⟨_,_,rfl,G,VRs.set n E C⟩
def VRs.ints{ι:Inj}(k:IntKind):∀(l:List Int),VRs ι (l.map (V.i k)) (l.map (Value.int k))
 | []=>by simp[VRs]
 | n::l=>by simp only[gJ,VRs];exact⟨_,_,rfl,by simp[VR],VRs.ints k l⟩
def Lf.toV:(a:Lf)->a.den->V
 | .i k,n=>.i k n
 | .bo,x=>.b x
 | .s,l=>.s l
def Lf.val:(a:Lf)->a.den->Value
 | .i k,n=>.int k n
 | .bo,x=>.bool x
 | .s,l=>.string ⟨l.toArray⟩
def cells:(t:List Lf)->den t->List V
 | [],_=>[]
 | [a],x=>[a.toV x]
 | a::b::l,x=>a.toV x.1::cells (b::l) x.2
def vals:(t:List Lf)->den t->List Value
 | [],_=>[]
 | [a],x=>[a.val x]
 | a::b::l,x=>a.val x.1::vals (b::l) x.2
def Lf.ok(ι:Inj):∀(a:Lf) (x:a.den),VR ι (a.toV x) (a.val x)
 | .i _,_=>by simp[Lf.toV,Lf.val,VR]
 | .bo,_=>by simp[Lf.toV,Lf.val,VR]
 | .s,_=>by simp[Lf.toV,Lf.val,VR]
def Lf.ok_iff(ι:Inj):∀(a:Lf) (x:a.den) (y:Value),VR ι (a.toV x) y↔y=a.val x
 | .i _,_,_=>by simp[Lf.toV,Lf.val,VR]
 | .bo,_,_=>by simp[Lf.toV,Lf.val,VR]
 | .s,_,_=>by simp[Lf.toV,Lf.val,VR]
def og(ι:Inj):∀(t:List Lf) (x:den t) (c:List Value),VRs ι (cells t x) c↔c=vals t x
 | [],_,c=>by simp[cells,vals,VRs]
 | [a],x,c=>by
  simp only[cells,vals,VRs];constructor
  ·rintro⟨y,d,rfl,h,rfl⟩;rw[(a.ok_iff ι x y).1 h]
  ·rintro rfl;exact⟨_,_,rfl,a.ok ι x,rfl⟩
 | a::b::l,x,c=>by
  simp only[cells,vals,VRs];constructor
  ·rintro⟨y,d,rfl,h,e⟩;rw[(a.ok_iff ι _ y).1 h,(og ι (b::l) x.2 d).1 e]
  ·rintro rfl;exact⟨_,_,rfl,a.ok ι _,(og ι (b::l) x.2 _).2 rfl⟩
def lu:∀(t:List Lf) (x:den t),(cells t x).length=t.length
 | [],_=>rfl
 | [_],_=>rfl
 | _::b::l,x=>by simp[cells,lu (b::l) x.2]
def ia:∀(t:List Lf) (x:den t),(vals t x).length=t.length
 | [],_=>rfl
 | [_],_=>rfl
 | _::b::l,x=>by simp[vals,ia (b::l) x.2]
inductive Blk where
 | dead
 | rows (t:List Lf) (l:List (den t))
 | cells (l:List V)
 | ints (k:IntKind) (n:Nat) (l:List Int)
 | iter (s:aa) (pos:Nat)
 | mp (k:IntKind) (l:List (Int×Nat))
 deriving Inhabited
def NF(fr:Nat×Nat)(n:Nat):Prop:=∀j,j<n->¬(fr.1<=j/\j<fr.2)
def BR(ι:Inj)(q:Rf):Blk->Obj->Prop
 | .dead,_=>True
 | .rows t l,o=>∃a e fr,o=.cells a e fr/\l.length=q.n/\q.n<=q.k/\q.o+q.k*t.length<=a.size/\(a.toList.drop q.o).take (l.length*t.length)=l.flatMap (vals t)/\(q.fz=true\/NF fr a.size)
 | .cells l,o=>∃a e fr,o=.cells a e fr/\VRs ι l a.toList/\NF fr a.size
 | .ints k n l,o=>∃e fr,o=.cells (l.map (Value.int k)).toArray e fr/\l.length=n/\NF fr n
 | .iter s pos,o=>o=.stringIter ⟨s.toArray⟩ pos
 | .mp k l,o=>∃c b,o=.map c b/\c.toList.map (λe=>(e.key,e.val))=l.map λp=>(Value.int k p.1,fnV p.2 #[])
def BR.mono{ι E:Inj}{q:Rf}(h:∀b r,ι b=some r->E b=some r):∀{blk:Blk} {o:Obj},BR ι q blk o->BR E q blk o
 | .dead,_,_=>trivial
 | .rows t l,o,C=>C
 | .cells l,o,C=>by
  obtain⟨F,e,fr,G,O,J⟩:=C;exact⟨F,e,fr,G,VRs.mono h _ _ O,J⟩
 | .ints k n l,o,C=>C
 | .iter s pos,o,C=>C
 | .mp k l,o,C=>C
def look{α:Type}:List (Nat×α)->Nat->Option α
 | [],_=>none
 | (k,v)::l,n=>cond (Nat.beq k n) (some v) (look l n)
def aV{α:Type}(k:Nat)(v:α)(l:List (Nat×α))(n:Nat):look ((k,v)::l) n=if k=n then some v else look l n:=by
 simp only[look];by_cases h:k=n
 ·subst h;simp
 ·have:Nat.beq k n=false:=by
   cases a:Nat.beq k n
   ·rfl
   ·exact absurd (bB a) h
  simp[this,h]
structure St where
 T:List (Nat×Option V)
 H:List (Nat×Blk)
 nb:Nat
 lo:Nat:=0
 ro:Nat:=0
 rb:Nat:=0
 deriving Inhabited
def TR(ι:Inj)(T:List (Nat×Option V))(a:Array Value):Prop:=
 ∀t v,look T t=some (some v)->∃x,a[t]?=some x/\VR ι v x
def BW(ι:Inj)(w:World)(b:Nat)(blk:Blk):Prop:=
 (∃q o,ι b=some (some q)/\w.heap[q.r]?=some o/\BR ι q blk o)\/(ι b=some none/\∃t,blk=.rows t [])
structure WR(ι:Inj)(H:List (Nat×Blk))(nb:Nat)(w:World):Prop where
 inj:∀b b' q q',ι b=some (some q)->ι b'=some (some q')->q.r=q'.r->b=b'\/(q.fz=true/\q'.fz=true)
 low:∀b q,ι b=some q->b<nb
 dom:∀b q,ι b=some (some q)->q.r<w.heap.size
 blk:∀b blk,look H b=some blk->blk≠.dead->BW ι w b blk
def BW.real{ι:Inj}{w:World}{b:Nat}{blk:Blk}(h:BW ι w b blk)(C:∀t,blk≠.rows t []):∃q o,ι b=some (some q)/\w.heap[q.r]?=some o/\BR ι q blk o:=by
 rcases h with h | ⟨_,t,h⟩
 ·exact h
 ·exact absurd h (C t)
def BW.map{ι E:Inj}{w w':World}{b O:Nat}{blk C:Blk}(h:BW ι w b blk)(J:E O=ι b)(U:∀q,ι b=some (some q)->w'.heap[q.r]?=w.heap[q.r]?)
  (W:∀q o,BR ι q blk o->BR E q C o) (Q:∀t,blk=.rows t []->C=.rows t []):BW E w' O C:=by
 rcases h with⟨q,o,F,G,X⟩ | ⟨F,t,G⟩
 ·exact .inl ⟨q,o,by rw[J,F],by rw[U q F,G],W q o X⟩
 ·exact .inr ⟨by rw[J,F],t,Q t G⟩
structure Fr(ι0:Inj)(w0 w:World):Prop where
 os:w.os=w0.os
 tape:w.tape=w0.tape
 output:w.output=w0.output
 size:w0.heap.size<=w.heap.size
 blk:∀k,k<w0.heap.size->(∀b q,ι0 b=some (some q)->q.r≠k)->w.heap[k]?=w0.heap[k]?
def Fr.refl(ι0:Inj)(w:World):Fr ι0 w w:=⟨rfl,rfl,rfl,bg _,λ_ _ _=>rfl⟩
def roI(ι0:Inj)(ro:Nat):Inj:=λb=>cond (Nat.blt b ro) none (ι0 b)
def qT{ι0:Inj}{ro b:Nat}{r:Option Rf}(h:roI ι0 ro b=some r):ι0 b=some r:=by
 unfold roI at h;cases a:Nat.blt b ro with
 | true=>simp[a]at h
 | false=>simpa[a]using h
def NR{ι0:Inj}{ro b:Nat}{r:Option Rf}(h:roI ι0 ro b=some r):ro<=b:=by
 unfold roI at h;rcases aN b ro with a | a
 ·rw[show Nat.blt b ro=true from cr a]at h;cases h
 ·exact a
def DK{ι0:Inj}{ro b:Nat}{r:Option Rf}(h:ι0 b=some r)(a:ro<=b):roI ι0 ro b=some r:=by
 have:Nat.blt b ro=false:=by
  cases hx:Nat.blt b ro with
  | false=>rfl
  | true=>have:b<ro:=aM hx;omega
 simp[roI,this,h]
def GL(R:Inj)(w:World):Prop:=∃L:List (Nat×Obj),Xu L/\(∀x∈L,w.heap[x.1]?=some x.2)/\∀x∈L,∀b q,R b=some (some q)->q.r≠x.1
def GL.mono{R F:Inj}{w:World}(h:GL R w)(W:∀b q,F b=some (some q)->(∃E C,R E=some (some C)/\C.r=q.r)\/w.heap.size<=q.r):GL F w:=by
 obtain⟨L,Q,G,U⟩:=h;refine⟨L,Q,G,λx hx b q O=>?_⟩;rcases W b q O with⟨E,C,J,X⟩ | J
 ·rw[<-X];exact U x hx E C J
 ·have hs:x.1<w.heap.size:=by
   rcases aN x.1 w.heap.size with h | h
   ·exact h
   ·have:=G x hx;rw[wo h]at this;cases this
  omega
structure Base where
 w:World
 D:List Deferred:=[]
structure Inv(n:Nat)(ι0:Inj)(w0:Base)(ι:Inj)(s:St)(a:Act)(w:World):Prop where
 size:a.tmps.size=n
 defers:a.defers=w0.D
 tmps:TR ι s.T a.tmps
 mem:WR ι s.H s.nb w
 ext:∀b q,ι0 b=some q->ι b=some q\/s.rb<=b
 new:∀b q,ι b=some (some q)->(∃q',ι0 b=some (some q')/\q'.r=q.r)\/w0.w.heap.size<=q.r
 fr:Fr (roI ι0 s.ro) w0.w w
 low:∀b r,ι0 b=some r->b<s.lo
 fz:∀b q,ι b=some (some q)->q.fz=true->b<s.ro
 gl:GL (roI ι0 s.ro) w0.w
def Inv.glHere{n:Nat}{ι0 ι:Inj}{w0:Base}{s:St}{a:Act}{w:World}(h:Inv n ι0 w0 ι s a w){R:Inj}(Q:∀b q,R b=some (some q)->ι b=some (some q)/\s.ro<=b):GL R w:=by
 obtain⟨L,O,F,C⟩:=h.gl;have hs:∀x∈L,x.1<w0.w.heap.size:=by
  intro x hx;rcases aN x.1 w0.w.heap.size with h | h
  ·exact h
  ·have:=F x hx;rw[wo h]at this;cases this
 refine⟨L,O,λx hx=>?_,λx hx b q J=>?_⟩
 ·rw[h.fr.blk x.1 (hs x hx) (C x hx)];exact F x hx
 ·obtain⟨X,W⟩:=Q b q J;rcases h.new b q X with⟨G,E,U⟩ | E
  ·rw[<-U];exact C x hx b G (DK E W)
  ·have:=hs x hx;omega
def upd(ι:Inj)(b:Nat)(r:Option Rf):Inj:=λc=>if c=b then some r else ι c
def qt{ι:Inj}{b:Nat}{r:Option Rf}(h:ι b=none):∀c q,ι c=some q->upd ι b r c=some q:=by
 intro c q hc;unfold upd;split
 ·rename_i e;subst e;rw[h]at hc;cases hc
 ·exact hc
def TR.mono{ι C:Inj}(h:∀b r,ι b=some r->C b=some r){T:List (Nat×Option V)}{E:Array Value}(G:TR ι T E):TR C T E:=
 λt v F=>let⟨x,h1,h2⟩:=G t v F;⟨x,h1,VR.mono h _ _ h2⟩
def TR.put{ι:Inj}{T:List (Nat×Option V)}{a:Act}{d:Nat}{v:Option V}{x:Value}(J:TR ι T a.tmps)(Q:d<a.tmps.size)
  (G:∀u,v=some u->VR ι u x):TR ι ((d,v)::T) (a.put (some d) x).tmps:=by
 intro t u C;rw[aV]at C;simp only[Act.put];split at C
 ·rename_i e;subst e;simp only[ar]at C;exact⟨x,by simp[Q],G u C⟩
 ·rename_i E;obtain⟨y,F,O⟩:=J t u C;exact⟨y,by rw[UC E];exact F,O⟩
def setObj(w:World)(r:Nat)(o:Obj):World:={ w with heap:=w.heap.setIfInBounds r o }
def kq(w:World)(o:Obj):(w.alloc o).heap[w.heap.size]?=some o:=by
 show(w.heap.push o)[w.heap.size]?=some o;simp
def ku(w:World)(o:Obj){k:Nat}(h:k≠w.heap.size):(w.alloc o).heap[k]?=w.heap[k]?:=by
 show(w.heap.push o)[k]?=_;rw[Array.getElem?_push,ae h]
def qg{w:World}{r:Nat}{o:Obj}(h:w.heap[r]?=some o):r<w.heap.size:=by
 rcases aN r w.heap.size with a | a
 ·exact a
 ·simp[wo a]at h
def WR.draws{ι:Inj}{H:List (Nat×Blk)}{nb:Nat}{w:World}(h:WR ι H nb w)(n:Nat):WR ι H nb { w with drawn:=n }:=
 ⟨h.inj,h.low,h.dom,h.blk⟩
def tc{w:World}{r k:Nat}(o:Obj)(h:r≠k):(setObj w r o).heap[k]?=w.heap[k]?:=by
 simp[setObj,UC h]
def WR.write{ι:Inj}{H:List (Nat×Blk)}{nb b:Nat}{q:Rf}{w:World}{blk:Blk}{o:Obj}(h:WR ι H nb w)(F:ι b=some (some q))(Q:q.fz=false)(U:BR ι q blk o):
  WR ι ((b,blk)::H) nb (setObj w q.r o):=by
 have O:=h.dom b q F;refine⟨h.inj,h.low,λc q hc=>by simpa[setObj]using h.dom c q hc,λc E C W=>?_⟩;rw[aV]at C;split at C
 ·rename_i e;subst e;simp only[ar]at C;subst C;exact .inl ⟨q,o,F,by simp[setObj,O],U⟩
 ·rename_i G;exact(h.blk c E C W).map rfl (λp hp=>tc o λe=>(h.inj b c q p F hp e).elim G λJ=>by rw[Q]at J;cases J.1) (λ_ _ x=>x) (λ_ x=>x)
def WR.alloc{ι:Inj}{H:List (Nat×Blk)}{nb C f:Nat}{q:Rf}{w:World}{blk:Blk}{o:Obj}(h:WR ι H nb w)(Y:ι f=none)(hn:nb<=C)(Q:f<C)
  (Z:q.r=w.heap.size) (ho:BR (upd ι f (some q)) q blk o):WR (upd ι f (some q)) ((f,blk)::H) C (w.alloc o):=by
 have O:=qt (r:=some q) Y;refine⟨λb b' r r' E F X=>?_,λc p hc=>?_,λc p hc=>?_,λc J G hd=>?_⟩
 ·unfold upd at E F;split at E<;>split at F
  ·rename_i W e2;exact .inl (W.trans e2.symm)
  ·simp only[ar]at E;subst E;have:=h.dom _ _ F;omega
  ·simp only[ar]at F;subst F;have:=h.dom _ _ E;omega
  ·exact h.inj _ _ _ _ E F X
 ·unfold upd at hc;split at hc
  ·rename_i e;subst e;exact Q
  ·have:=h.low _ _ hc;omega
 ·unfold upd at hc;split at hc
  ·simp only[ar]at hc;subst hc;simp;omega
  ·have:=h.dom _ _ hc;simp;omega
 ·rw[aV]at G;split at G
  ·rename_i e;subst e;simp only[ar]at G;subst G;exact .inl ⟨q,o,by simp[upd],by rw[Z];exact kq w o,ho⟩
  ·rename_i U;refine(h.blk c J G hd).map (by simp[upd,Ne.symm U]) (λp hp=>?_) (λ_ _ x=>BR.mono O x) (λ_ x=>x);have:=h.dom _ _ hp;exact ku w o (by omega)
def Fr.draws{ι0:Inj}{w0 w:World}(h:Fr ι0 w0 w)(n:Nat):Fr ι0 w0 { w with drawn:=n }:=⟨h.os,h.tape,h.output,h.size,h.blk⟩
def Fr.alloc{ι0:Inj}{w0 w:World}(h:Fr ι0 w0 w)(o:Obj):Fr ι0 w0 (w.alloc o):=by
 refine⟨h.os,h.tape,h.output,by have:=h.size;simp;omega,λk E C=>?_⟩;have:=h.size;rw[ku w o (by omega)];exact h.blk k E C
def Fr.write{ι0:Inj}{w0 w:World}(h:Fr ι0 w0 w){r:Nat}(G:(∃b q,ι0 b=some (some q)/\q.r=r)\/w0.heap.size<=r)(o:Obj):Fr ι0 w0 (setObj w r o):=by
 refine⟨h.os,h.tape,h.output,by simpa[setObj]using h.size,λk J F=>?_⟩;have E:r≠k:=by
  rintro rfl;rcases G with⟨b,q,C,O⟩ | G
  ·exact F b q C O
  ·omega
 simp only[setObj,UC E];exact h.blk k J F
def bh{w:World}{r o:Nat}{a:Array Value}{e:TypeId}{fr:Nat×Nat}(h:w.heap[r]?=some (.cells a e fr)):
  w.cell? ⟨r,o,none⟩=a[o]?:=by
 simp[World.cell?,h]
def rA{w:World}{r o:Nat}{a:Array Value}{e:TypeId}{fr:Nat×Nat}(h:w.heap[r]?=some (.cells a e fr))(b:NF fr a.size)(c:o<a.size):
  w.frozen? ⟨r,o,none⟩=false:=by
 have:=b o c;simp only[World.frozen?,h];by_cases d:fr.1<=o<;>by_cases f:o<fr.2<;>simp_all
def Ff{w:World}{r o:Nat}{v:Value}{b:Array Value}{e:TypeId}{fr:Nat×Nat}(h:w.heap[r]?=some (.cells b e fr)):
  w.setCell ⟨r,o,none⟩ v=setObj w r (.cells (b.setIfInBounds o v) e fr):=by
 unfold World.setCell setObj;congr 1;apply TB;intro k;rw[Array.getElem?_modify,Vl];have c:=qg h;by_cases a:r=k
 ·subst a;rw[af rfl,af rfl,af c,h];simp
 ·rw[ae a,ae a]
def Ci(w:World)(r:Nat)(o a:Obj):setObj (setObj w r o) r a=setObj w r a:=by
 simp[setObj]
def F8{w:World}{r:Nat}{o:Obj}(h:w.heap[r]?=some o):setObj w r o=w:=by
 unfold setObj;congr 1;apply TB;intro k;rw[Vl];by_cases a:r=k
 ·subst a;rw[af rfl,af (qg h),h]
 ·rw[ae a]
def yH{w:World}{r:Nat}{o a:Obj}(h:w.heap[r]?=some o):(setObj w r a).heap[r]?=some a:=by
 have b:=qg h;simp[setObj,b]
end Go.Abs
