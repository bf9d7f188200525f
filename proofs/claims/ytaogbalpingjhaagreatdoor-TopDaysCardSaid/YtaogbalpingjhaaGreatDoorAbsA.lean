
/- The abstract values and the abstract memory of the interpreter, and how they relate to the model's own.
   Conditions: none; everything here is generic over the program. -/
import Derived.Tactics
import Derived.Below
import Derived.Test.YtaogbalpingjhaaGreatDoorGlob
set_option linter.unusedSimpArgs false
set_option linter.unusedVariables false
namespace Go
abbrev aa:=List UInt8
abbrev gz:=@Array.ext'
abbrev H4:=@Array.ext_getElem?
abbrev lB:=@Array.getD_eq_getD_getElem?
abbrev Ik:=@Array.getElem?_append_left
abbrev IZ:=@Array.getElem?_eq_getElem
abbrev rH:=@Array.getElem?_eq_none
abbrev I7:=@Array.getElem?_replicate
abbrev GX:=@Array.getElem?_setIfInBounds
abbrev Ho:=@Array.getElem?_setIfInBounds_ne
abbrev lk:=@Array.getElem?_toList
abbrev CM:=@Array.length_toList
abbrev Gv:=@Array.mapM_eq_mapM_toList
abbrev zr:=@Array.map_empty
abbrev qJ:=@Array.toList_append
abbrev xU:=@Bool.and_eq_false_iff
abbrev av:=@Bool.and_eq_true
abbrev CC:=@Bool.and_false
abbrev AV:=@Bool.and_true
abbrev DW:=@Bool.false_and
abbrev bT:=@Bool.false_eq_true
abbrev xH:=@Bool.false_or
abbrev A1:=@Bool.not_eq_true
abbrev kj:=@Bool.not_eq_true'
abbrev iJ:=@Bool.not_false
abbrev dJ:=@Bool.not_true
abbrev xM:=@Bool.or_eq_false_iff
abbrev eT:=@Bool.or_eq_true
abbrev qL:=@Bool.true_and
abbrev Ds:=@ByteArray.ext
abbrev yk:=@Classical.em
abbrev om:=@Go.Code.wp_mono
abbrev Gx:=@Int.dvd_of_emod_eq_zero
abbrev lT:=@Int.le_refl
abbrev GM:=@Int.mul_le_mul_of_nonneg_right
abbrev Bc:=@Int.natCast_mul
abbrev vN:=@Int.sub_add_cancel
abbrev Gw:=@Int.tdiv_eq_ediv_of_nonneg
abbrev bV:=@Int.toNat_natCast
abbrev zk:=@Go.IntKind.wrap_i64
abbrev kg:=@List.all_cons
abbrev bz:=@List.all_eq_true
abbrev nQ:=@List.any_eq_false
abbrev mC:=@List.any_eq_true
abbrev AA:=@List.append_assoc
abbrev xZ:=@List.append_nil
abbrev jr:=@List.cons_append
abbrev Cc:=@List.countP_cons
abbrev yg:=@List.drop_append
abbrev su:=@List.drop_drop
abbrev xN:=@List.drop_eq_getElem_cons
abbrev nv:=@List.drop_eq_nil_of_le
abbrev sZ:=@List.drop_succ_cons
abbrev vc:=@List.drop_take
abbrev ie:=@List.drop_zero
abbrev sH:=@List.eq_nil_of_length_eq_zero
abbrev vu:=@List.ext_getElem?
abbrev xO:=@List.filter_filter
abbrev xY:=@List.findSome?_cons
abbrev B7:=@List.flatMap_append
abbrev lE:=@List.flatMap_cons
abbrev yJ:=@List.foldl_append
abbrev pd:=@List.foldl_cons
abbrev ye:=@List.foldl_nil
abbrev yI:=@List.getD_eq_getElem?_getD
abbrev jl:=@List.getElem?_append_left
abbrev la:=@List.getElem?_append_right
abbrev xQ:=@List.getElem?_cons_succ
abbrev il:=@List.getElem?_cons_zero
abbrev iP:=@List.getElem?_drop
abbrev cn:=@List.getElem?_eq_getElem
abbrev dx:=@List.getElem?_eq_none
abbrev zq:=@List.getElem?_eq_some_iff
abbrev lw:=@List.getElem?_map
abbrev B8:=@List.getElem?_take
abbrev lS:=@List.getElem?_take_of_lt
abbrev y3:=@List.isEmpty_eq_false_iff
abbrev iQ:=@List.length_append
abbrev ci:=@List.length_cons
abbrev km:=@List.length_drop
abbrev Bi:=@List.length_filter_le
abbrev yE:=@List.length_filter_lt_length_iff_exists
abbrev yQ:=@List.length_map
abbrev jC:=@List.length_nil
abbrev AZ:=@List.length_pos_of_mem
abbrev tg:=@List.length_reverse
abbrev eH:=@List.length_take
abbrev xI:=@List.mapM_cons
abbrev fU:=@List.map_cons
abbrev uX:=@List.map_map
abbrev mN:=@List.mem_append
abbrev cY:=@List.mem_cons
abbrev iL:=@List.mem_cons_of_mem
abbrev A8:=@List.mem_cons_self
abbrev lM:=@List.mem_filter
abbrev eC:=@List.mem_map
abbrev gD:=@List.mem_of_getElem?
abbrev jZ:=@List.mem_range
abbrev vI:=@List.mem_range'_1
abbrev jt:=@List.nil_append
abbrev A6:=@List.nodup_append
abbrev qi:=@List.nodup_cons
abbrev mR:=@List.not_mem_nil
abbrev wv:=@List.range'_succ
abbrev oU:=@List.replicate_succ
abbrev rG:=@List.reverse_reverse
abbrev BV:=@List.set_eq_take_append_cons_drop
abbrev qD:=@List.size_toArray
abbrev m8:=@List.take_add_one
abbrev xj:=@List.take_append
abbrev qd:=@List.take_append_drop
abbrev o5:=@List.take_append_of_le_length
abbrev mZ:=@List.take_length
abbrev fO:=@List.take_of_length_le
abbrev lz:=@List.take_succ_cons
abbrev AS:=@List.take_succ_eq_append_getElem
abbrev uq:=@List.take_take
abbrev jR:=@List.take_zero
abbrev fN:=@Nat.add_assoc
abbrev oq:=@Nat.add_comm
abbrev dB:=@Nat.add_mul
abbrev rR:=@Nat.add_right_cancel_iff
abbrev wH:=@Nat.add_sub_cancel
abbrev wY:=@Nat.add_sub_cancel_left
abbrev dG:=@Nat.add_zero
abbrev eM:=@Nat.beq_eq
abbrev cZ:=@Nat.ble_eq_true_of_le
abbrev um:=@Nat.div_one
abbrev aS:=@Nat.eq_of_beq_eq_true
abbrev uz:=@Nat.eq_zero_or_pos
abbrev wG:=@Nat.le_max_left
abbrev ax:=@Nat.le_of_ble_eq_true
abbrev qj:=@Nat.le_of_eq
abbrev aL:=@Nat.le_refl
abbrev mT:=@Nat.le_trans
abbrev ui:=@Nat.le_zero
abbrev wy:=@Nat.lt_irrefl
abbrev jQ:=@Nat.lt_of_lt_of_le
abbrev aA:=@Nat.lt_or_ge
abbrev wT:=@Nat.lt_trichotomy
abbrev mY:=@Nat.min_eq_left
abbrev nh:=@Nat.mod_eq_of_lt
abbrev na:=@Nat.mod_lt
abbrev xx:=@Nat.mul_assoc
abbrev qE:=@Nat.mul_comm
abbrev qY:=@Nat.mul_le_mul
abbrev jV:=@Nat.mul_le_mul_right
abbrev o0:=@Nat.mul_one
abbrev ub:=@Nat.ne_of_lt
abbrev iE:=@Nat.pow_le_pow_right
abbrev oY:=@Nat.pow_succ
abbrev qN:=@Nat.sub_zero
abbrev bM:=@Nat.zero_add
abbrev mQ:=@Nat.zero_le
abbrev wW:=@Go.Oper.apart_spec
abbrev Ax:=@Option.bind_eq_some_iff
abbrev tL:=@Option.getD_some
abbrev tD:=@Option.isSome_iff_exists
abbrev qG:=@Option.isSome_none
abbrev ew:=@Option.map_none
abbrev cK:=@Option.map_some
abbrev wB:=@Option.none_or
abbrev aN:=@Option.some.inj
abbrev ae:=@Option.some.injEq
abbrev bX:=@Prod.mk.injEq
abbrev aq:=@Go.Result.andThen_ok
abbrev ri:=@Go.Result.ok.injEq
abbrev ak:=@Go.Sem.run_bind
abbrev au:=@Go.Sem.run_pure
abbrev gU:=@UInt8.toNat_inj
abbrev wN:=@UInt8.toNat_ofNat'
abbrev rX:=@Go.World.alloc_eq
abbrev oZ:=@and_congr_right
abbrev bW:=@beq_eq_false_iff_ne
abbrev bu:=@beq_iff_eq
abbrev lU:=@beq_self_eq_true
abbrev fh:=@bne_self_eq_false
abbrev af:=@cond_false
abbrev ar:=@cond_true
abbrev eN:=@congrArg
abbrev oL:=@decide_eq_decide
abbrev ay:=@decide_eq_false
abbrev ug:=@decide_eq_false_iff_not
abbrev az:=@decide_eq_true
abbrev bY:=@decide_eq_true_eq
abbrev kP:=@decide_false
abbrev kA:=@decide_true
abbrev kC:=@exists_congr
abbrev tG:=@forall_eq_or_imp
abbrev aE:=@if_false
abbrev ab:=@if_neg
abbrev ad:=@if_pos
abbrev aY:=@if_true
abbrev wM:=@not_false_eq_true
abbrev oK:=@not_true_eq_false
abbrev oI:=@or_false
abbrev qC:=@Go.run_loadCells_list
abbrev rY:=@Go.run_newObj
abbrev aH:=@Go.run_underlying
abbrev kT:=@true_and
end Go
namespace Go.Abs
inductive Lf where
 | i (k:IntKind)
 | bo
 | s
 deriving Inhabited,DecidableEq
@[reducible] def Lf.den:Lf->Type
 | .i _=>Int
 | .bo=>Bool
 | .s=>aa
@[reducible] def den:List Lf->Type
 | []=>Unit
 | [a]=>a.den
 | a::b::l=>a.den×den (b::l)
inductive V where
 | unk
 | pr (z b j o:Nat)
 | ws (b:Nat)
 | rs (z b j n:Nat) (cap:Option Nat)
 | b (x:Bool)
 | i (k:IntKind) (n:Int)
 | s (l:aa)
 | pn
 | p (b o:Nat)
 | sn
 | sl (b o len:Nat) (cap:Option Nat)
 | fn (f:Nat) (cap:List V)
 | nf
 | ni
 | it (t:Nat) (v:V)
 | ag (l:List V)
 | ai (k:IntKind) (n:Nat) (l:List Int)
 | tp (l:List V)
 | mp (b:Nat)
 deriving Inhabited
structure Rf where
 r:Nat
 n:Nat:=0
 k:Nat:=0
  /-- Of a block of rows: where the rows begin. -/
 o:Nat:=0
  /-- Is it only read? Then others may lie there, too. -/
 fz:Bool:=false
abbrev Rf.of (r n k:Nat):Rf:=⟨r,n,k,0,false⟩
abbrev Inj:=Nat->Option (Option Rf)
def fnW (K f:Nat) (a:Array Value):Value:=
 match Nat.blt f K with
 | true=>.func (.func f) #[] a
 | false=>.func (.func (f - K)) a #[]
def fnV (f:Nat) (a:Array Value):Value:=fnW 1000000 f a
theorem JR (K f:Nat) (a:Array Value):∃g b c,fnW K f a=.func (.func g) b c:=by
 unfold fnW;split
 ·exact ⟨_,_,_,rfl⟩
 ·exact ⟨_,_,_,rfl⟩
theorem tj (f:Nat) (a:Array Value):∃g b c,fnV f a=.func (.func g) b c:=JR _ f a
theorem G3 {K f:Nat} (h:Nat.blt f K=true) (a:Array Value):fnW K f a=.func (.func f) #[] a:=by
 unfold fnW;rw [h]
theorem xa {f:Nat} (h:Nat.blt f 1000000=true) (a:Array Value):fnV f a=.func (.func f) #[] a:=G3 h a
theorem E8 (K f:Nat) (a:Array Value):fnW K (f+K) a=.func (.func f) a #[]:=by
 unfold fnW;cases h:Nat.blt (f+K) K with
 | true=>have:f+K<K:=ax h;omega
 | false=>simp
theorem EK (f:Nat) (a:Array Value):fnV (f+1000000) a=.func (.func f) a #[]:=E8 _ f a
def fnFW (K f:Nat):Nat:=match Nat.blt f K with | true=>f | false=>f - K
def fnAW {α:Type} (K f:Nat) (args cap:List α):List α:=match Nat.blt f K with | true=>args++cap | false=>cap++args
def fnF (f:Nat):Nat:=fnFW 1000000 f
def fnA {α:Type} (f:Nat) (args cap:List α):List α:=fnAW 1000000 f args cap
def FL (c:Option Nat) (k:Nat):Prop:=∀m,c=some m->k=m
theorem fV {k:Nat}:FL none k:=λ_ h=>by cases h
theorem mf {k:Nat}:FL (some k) k:=λ_ h=>by cases h;rfl
mutual
def VR (ι:Inj):V->Value->Prop
 | .b x,v=>v=.bool x
 | .i k n,v=>v=.int k n
 | .s l,v=>v=.string ⟨l.toArray⟩
 | .pn,v=>v=.pointer none
 | .p b o,v=>∃q,ι b=some (some q)/\v=.pointer (some ⟨q.r,o,none⟩)
 | .sn,v=>v=.slice none 0 0
 | .sl b o len cap,v=>∃q c,ι b=some (some q)/\(∀n,cap=some n->c=n)/\len<=c/\v=.slice (some ⟨q.r,o,none⟩) len c
 | .unk,v=>v.cells=#[v]/\v.oneCell'=true
 | .pr z b j o,v=>∃q,ι b=some (some q)/\v=.pointer (some ⟨q.r,q.o+(j*z+o),none⟩)
 | .ws b,v=>(∃q,ι b=some (some q)/\v=.slice (some ⟨q.r,q.o,none⟩) q.n q.k)\/(ι b=some none/\∃a,v=.slice a 0 0)
 | .rs z b j n e,v=>(∃q c o,ι b=some (some q)/\(n<=c/\FL e c)/\(0<n->o=q.o+j*z)/\v=.slice (some ⟨q.r,o,none⟩) n c)\/(ι b=some none/\(n=0/\FL e 0)/\∃a,v=.slice a 0 0)
 | .fn f cap,v=>∃d,v=fnV f d/\VRs ι cap d.toList
 | .nf,v=>v=.nilFunc
 | .ni,v=>v=.nilIface
 | .it t x,v=>∃y,v=.iface t y/\VR ι x y
 | .ag l,v=>∃d:Array Value,v=.agg d/\VRs ι l d.toList
 | .ai k n l,v=>l.length=n/\v=.agg (l.map (Value.int k)).toArray
 | .tp l,v=>∃d:Array Value,v=.tuple d/\VRs ι l d.toList
 | .mp b,v=>∃q,ι b=some (some q)/\v=.map (some q.r)
def VRs (ι:Inj):List V->List Value->Prop
 | [],a=>a=[]
 | x::l,a=>∃y b,a=y::b/\VR ι x y/\VRs ι l b
end
mutual
theorem VR.mono {ι G:Inj} (h:∀b r,ι b=some r->G b=some r):∀(v:V) (x:Value),VR ι v x->VR G v x
 | .b _,_,A | .i _ _,_,A | .s _,_,A | .pn,_,A | .sn,_,A | .nf,_,A | .ni,_,A | .ai _ _ _,_,A | .unk,_,A=>by simpa [VR] using A
 | .p b o,x,A | .pr z b j o,x,A | .mp b,x,A=>by
  simp only [VR] at A ⊢;obtain ⟨r,C,E⟩:=A;exact ⟨r,h _ _ C,E⟩
 | .ws b,x,A=>by
  simp only [VR] at A ⊢;rcases A with ⟨q,C,E⟩ | ⟨C,E⟩
  ·exact .inl ⟨q,h _ _ C,E⟩
  ·exact .inr ⟨h _ _ C,E⟩
 | .rs z b j n _,x,A=>by
  simp only [VR] at A ⊢;rcases A with ⟨q,c,o,C,E⟩ | ⟨C,E⟩
  ·exact .inl ⟨q,c,o,h _ _ C,E⟩
  ·exact .inr ⟨h _ _ C,E⟩
 | .sl b o len cap,x,A=>by
  simp only [VR] at A ⊢;obtain ⟨r,c,C,E⟩:=A;exact ⟨r,c,h _ _ C,E⟩
 | .fn f cap,x,A=>by
  simp only [VR] at A ⊢;obtain ⟨F,C,E⟩:=A;exact ⟨F,C,VRs.mono h _ _ E⟩
 | .it t v,x,A=>by
  simp only [VR] at A ⊢;obtain ⟨y,C,E⟩:=A;exact ⟨y,C,VR.mono h _ _ E⟩
 | .ag l,x,A=>by
  simp only [VR] at A ⊢;obtain ⟨F,C,E⟩:=A;exact ⟨F,C,VRs.mono h _ _ E⟩
 | .tp l,x,A=>by
  simp only [VR] at A ⊢;obtain ⟨F,C,E⟩:=A;exact ⟨F,C,VRs.mono h _ _ E⟩
theorem VRs.mono {ι A:Inj} (h:∀b r,ι b=some r->A b=some r):∀(l:List V) (E:List Value),VRs ι l E->VRs A l E
 | [],_,C=>by simpa [VRs] using C
 | v::l,E,C=>by
  simp only [VRs] at C ⊢;obtain ⟨y,G,J,K,F⟩:=C;exact ⟨y,G,J,VR.mono h _ _ K,VRs.mono h _ _ F⟩
end
theorem VRs.length {ι:Inj}:∀{l:List V} {xs:List Value},VRs ι l xs->xs.length=l.length
 | [],_,h=>by simp only [VRs] at h;simp [h]
 | _::_,_,h=>by
  simp only [VRs] at h;obtain ⟨y,C,rfl,_,A⟩:=h;simp [VRs.length A]
theorem VRs.get {ι:Inj}:∀{l:List V} {xs:List Value} {j:Nat} {v:V},VRs ι l xs->l[j]?=some v->∃x,xs[j]?=some x/\VR ι v x
 | [],_,_,_,_,A=>by simp at A
 | _::_,_,0,_,h,A=>by
  simp only [VRs] at h;obtain ⟨y,F,rfl,E,_⟩:=h;simp only [il,ae] at A;subst A;exact ⟨y,by simp,E⟩
 | _::_,_,j+1,_,h,A=>by
  simp only [VRs] at h;obtain ⟨y,F,rfl,_,C⟩:=h;simp only [xQ] at A ⊢;exact VRs.get C A
theorem VRs.of_get {ι:Inj}:∀{l:List V} {A:List Value},A.length=l.length->(∀(j:Nat) (v:V) (x:Value),l[j]?=some v->A[j]?=some x->VR ι v x)->VRs ι l A
 | [],A,C,_=>by simp only [VRs];exact sH (by simpa using C)
 | v::l,[],C,_=>by simp at C
 | v::l,x::A,C,h=>by
  simp only [VRs];refine ⟨x,A,rfl,h 0 v x (by simp) (by simp),VRs.of_get (by simpa using C) λj G E F J=>h (j+1) G E (by simpa using F) (by simpa using J)⟩
theorem VRs.append {ι:Inj}:∀{l:List V} {xs:List Value} {m:List V} {C:List Value},VRs ι l xs->VRs ι m C->VRs ι (l++m) (xs++C)
 | [],_,_,_,h,A=>by simp only [VRs] at h;subst h;simpa using A
 | _::_,_,_,_,h,A=>by
  simp only [VRs] at h;obtain ⟨y,C,rfl,F,E⟩:=h;simp only [jr,VRs];exact ⟨y,_,rfl,F,VRs.append E A⟩
theorem VRs.drop {ι:Inj}:∀{l:List V} {xs:List Value} (n:Nat),VRs ι l xs->VRs ι (l.drop n) (xs.drop n)
 | _,_,0,h=>by simpa using h
 | [],_,_+1,h=>by simp only [VRs] at h;subst h;simp [VRs]
 | _::_,_,n+1,h=>by
  simp only [VRs] at h;obtain ⟨y,C,rfl,_,A⟩:=h;simpa using VRs.drop n A
theorem VRs.take {ι:Inj}:∀{l:List V} {xs:List Value} (n:Nat),VRs ι l xs->VRs ι (l.take n) (xs.take n)
 | _,_,0,_=>by simp [VRs]
 | [],_,_+1,h=>by simp only [VRs] at h;subst h;simp [VRs]
 | _::_,_,n+1,h=>by
  simp only [VRs] at h;obtain ⟨y,E,rfl,C,A⟩:=h;simp only [lz,VRs];exact ⟨y,_,rfl,C,VRs.take n A⟩
theorem VRs.set {ι:Inj}:∀{l:List V} {xs:List Value} (n:Nat) {v:V} {x:Value},VRs ι l xs->VR ι v x->VRs ι (l.set n v) (xs.set n x)
 | [],_,_,_,_,h,_=>by simp only [VRs] at h;subst h;simp [VRs]
 | _::_,_,0,_,_,h,C=>by
  simp only [VRs] at h;obtain ⟨y,F,rfl,_,A⟩:=h;simp only [List.set_cons_zero,VRs];exact ⟨_,_,rfl,C,A⟩
 | _::_,_,n+1,_,_,h,C=>by
  simp only [VRs] at h;obtain ⟨y,F,rfl,E,A⟩:=h;simp only [List.set_cons_succ,VRs];exact ⟨_,_,rfl,E,VRs.set n A C⟩
theorem VRs.ints {ι:Inj} (k:IntKind):∀(l:List Int),VRs ι (l.map (V.i k)) (l.map (Value.int k))
 | []=>by simp [VRs]
 | n::l=>by simp only [fU,VRs];exact ⟨_,_,rfl,by simp [VR],VRs.ints k l⟩
def Lf.toV:(a:Lf)->a.den->V
 | .i k,n=>.i k n
 | .bo,x=>.b x
 | .s,l=>.s l
def Lf.val:(a:Lf)->a.den->Value
 | .i k,n=>.int k n
 | .bo,x=>.bool x
 | .s,l=>.string ⟨l.toArray⟩
def cells:(t:List Lf)->den t->List V
 | [],_=>[]
 | [a],x=>[a.toV x]
 | a::b::l,x=>a.toV x.1::cells (b::l) x.2
def vals:(t:List Lf)->den t->List Value
 | [],_=>[]
 | [a],x=>[a.val x]
 | a::b::l,x=>a.val x.1::vals (b::l) x.2
theorem Lf.ok (ι:Inj):∀(a:Lf) (x:a.den),VR ι (a.toV x) (a.val x)
 | .i _,_=>by simp [Lf.toV,Lf.val,VR]
 | .bo,_=>by simp [Lf.toV,Lf.val,VR]
 | .s,_=>by simp [Lf.toV,Lf.val,VR]
theorem Lf.ok_iff (ι:Inj):∀(a:Lf) (x:a.den) (y:Value),VR ι (a.toV x) y↔y=a.val x
 | .i _,_,_=>by simp [Lf.toV,Lf.val,VR]
 | .bo,_,_=>by simp [Lf.toV,Lf.val,VR]
 | .s,_,_=>by simp [Lf.toV,Lf.val,VR]
theorem ip (ι:Inj):∀(t:List Lf) (x:den t) (c:List Value),VRs ι (cells t x) c↔c=vals t x
 | [],_,c=>by simp [cells,vals,VRs]
 | [a],x,c=>by
  simp only [cells,vals,VRs];constructor
  ·rintro ⟨y,d,rfl,h,rfl⟩;rw [(a.ok_iff ι x y).1 h]
  ·rintro rfl;exact ⟨_,_,rfl,a.ok ι x,rfl⟩
 | a::b::l,x,c=>by
  simp only [cells,vals,VRs];constructor
  ·rintro ⟨y,d,rfl,h,e⟩;rw [(a.ok_iff ι _ y).1 h,(ip ι (b::l) x.2 d).1 e]
  ·rintro rfl;exact ⟨_,_,rfl,a.ok ι _,(ip ι (b::l) x.2 _).2 rfl⟩
theorem gu:∀(t:List Lf) (x:den t),(cells t x).length=t.length
 | [],_=>rfl
 | [_],_=>rfl
 | _::b::l,x=>by simp [cells,gu (b::l) x.2]
theorem fK:∀(t:List Lf) (x:den t),(vals t x).length=t.length
 | [],_=>rfl
 | [_],_=>rfl
 | _::b::l,x=>by simp [vals,fK (b::l) x.2]
inductive Blk where
 | dead
 | rows (t:List Lf) (l:List (den t))
 | cells (l:List V)
 | ints (k:IntKind) (n:Nat) (l:List Int)
 | iter (s:aa) (pos:Nat)
 | mp (k:IntKind) (l:List (Int×Nat))
 deriving Inhabited
def NF (fr:Nat×Nat) (n:Nat):Prop:=∀j,j<n->¬(fr.1<=j/\j<fr.2)
def BR (ι:Inj) (q:Rf):Blk->Obj->Prop
 | .dead,_=>True
 | .rows t l,o=>∃a e fr,o=.cells a e fr/\l.length=q.n/\q.n<=q.k/\q.o+q.k*t.length<=a.size/\(a.toList.drop q.o).take (l.length*t.length)=l.flatMap (vals t)/\(q.fz=true\/NF fr a.size)
 | .cells l,o=>∃a e fr,o=.cells a e fr/\VRs ι l a.toList/\NF fr a.size
 | .ints k n l,o=>∃e fr,o=.cells (l.map (Value.int k)).toArray e fr/\l.length=n/\NF fr n
 | .iter s pos,o=>o=.stringIter ⟨s.toArray⟩ pos
 | .mp k l,o=>∃c b,o=.map c b/\c.toList.map (λe=>(e.key,e.val))=l.map λp=>(Value.int k p.1,fnV p.2 #[])
theorem BR.mono {ι C:Inj} {q:Rf} (h:∀b r,ι b=some r->C b=some r):∀{blk:Blk} {o:Obj},BR ι q blk o->BR C q blk o
 | .dead,_,_=>trivial
 | .rows t l,o,A=>A
 | .cells l,o,A=>by
  obtain ⟨G,e,fr,F,J,E⟩:=A;exact ⟨G,e,fr,F,VRs.mono h _ _ J,E⟩
 | .ints k n l,o,A=>A
 | .iter s pos,o,A=>A
 | .mp k l,o,A=>A
def look {α:Type}:List (Nat×α)->Nat->Option α
 | [],_=>none
 | (k,v)::l,n=>cond (Nat.beq k n) (some v) (look l n)
theorem aF {α:Type} (k:Nat) (v:α) (l:List (Nat×α)) (n:Nat):look ((k,v)::l) n=if k=n then some v else look l n:=by
 simp only [look];by_cases h:k=n
 ·subst h;simp
 ·have:Nat.beq k n=false:=by
   cases a:Nat.beq k n
   ·rfl
   ·exact absurd (aS a) h
  simp [this,h]
structure St where
 T:List (Nat×Option V)
 H:List (Nat×Blk)
 nb:Nat
  /-- So many blocks came in. -/
 lo:Nat:=0
  /-- The first so many of them are only read. -/
 ro:Nat:=0
  /-- From this one on they may be moved (blocks of rows, by append). -/
 rb:Nat:=0
 deriving Inhabited
def TR (ι:Inj) (T:List (Nat×Option V)) (a:Array Value):Prop:=
 ∀t v,look T t=some (some v)->∃x,a[t]?=some x/\VR ι v x
def BW (ι:Inj) (w:World) (b:Nat) (blk:Blk):Prop:=
 (∃q o,ι b=some (some q)/\w.heap[q.r]?=some o/\BR ι q blk o)\/(ι b=some none/\∃t,blk=.rows t [])
structure WR (ι:Inj) (H:List (Nat×Blk)) (nb:Nat) (w:World):Prop where
 inj:∀b b' q q',ι b=some (some q)->ι b'=some (some q')->q.r=q'.r->b=b'\/(q.fz=true/\q'.fz=true)
 low:∀b q,ι b=some q->b<nb
 dom:∀b q,ι b=some (some q)->q.r<w.heap.size
 blk:∀b blk,look H b=some blk->blk≠.dead->BW ι w b blk
theorem BW.real {ι:Inj} {w:World} {b:Nat} {blk:Blk} (h:BW ι w b blk) (A:∀t,blk≠.rows t []):∃q o,ι b=some (some q)/\w.heap[q.r]?=some o/\BR ι q blk o:=by
 rcases h with h | ⟨_,t,h⟩
 ·exact h
 ·exact absurd h (A t)
theorem BW.map {ι C:Inj} {w w':World} {b J:Nat} {blk A:Blk} (h:BW ι w b blk) (G:C J=ι b) (K:∀q,ι b=some (some q)->w'.heap[q.r]?=w.heap[q.r]?)
  (M:∀q o,BR ι q blk o->BR C q A o) (Q:∀t,blk=.rows t []->A=.rows t []):BW C w' J A:=by
 rcases h with ⟨q,o,E,F,O⟩ | ⟨E,t,F⟩
 ·exact .inl ⟨q,o,by rw [G,E],by rw [K q E,F],M q o O⟩
 ·exact .inr ⟨by rw [G,E],t,Q t F⟩
structure Fr (ι0:Inj) (w0 w:World):Prop where
 os:w.os=w0.os
 tape:w.tape=w0.tape
 output:w.output=w0.output
 size:w0.heap.size<=w.heap.size
 blk:∀k,k<w0.heap.size->(∀b q,ι0 b=some (some q)->q.r≠k)->w.heap[k]?=w0.heap[k]?
theorem Fr.refl (ι0:Inj) (w:World):Fr ι0 w w:=⟨rfl,rfl,rfl,aL _,λ_ _ _=>rfl⟩
def roI (ι0:Inj) (ro:Nat):Inj:=λb=>cond (Nat.blt b ro) none (ι0 b)
theorem kN {ι0:Inj} {ro b:Nat} {r:Option Rf} (h:roI ι0 ro b=some r):ι0 b=some r:=by
 unfold roI at h;cases a:Nat.blt b ro with
 | true=>simp [a] at h
 | false=>simpa [a] using h
theorem Dt {ι0:Inj} {ro b:Nat} {r:Option Rf} (h:roI ι0 ro b=some r):ro<=b:=by
 unfold roI at h;rcases aA b ro with a | a
 ·rw [show Nat.blt b ro=true from cZ a] at h;cases h
 ·exact a
theorem vF {ι0:Inj} {ro b:Nat} {r:Option Rf} (h:ι0 b=some r) (c:ro<=b):roI ι0 ro b=some r:=by
 have:Nat.blt b ro=false:=by
  cases a:Nat.blt b ro with
  | false=>rfl
  | true=>have:b<ro:=ax a;omega
 simp [roI,this,h]
def GL (R:Inj) (w:World):Prop:=∃L:List (Nat×Obj),Jf L/\(∀x∈L,w.heap[x.1]?=some x.2)/\∀x∈L,∀b q,R b=some (some q)->q.r≠x.1
theorem GL.mono {R F:Inj} {w:World} (h:GL R w) (M:∀b q,F b=some (some q)->(∃C A,R C=some (some A)/\A.r=q.r)\/w.heap.size<=q.r):GL F w:=by
 obtain ⟨L,O,G,K⟩:=h;refine ⟨L,O,G,λx J b q Q=>?_⟩;rcases M b q Q with ⟨C,A,E,U⟩ | E
 ·rw [<-U];exact K x J C A E
 ·have W:x.1<w.heap.size:=by
   rcases aA x.1 w.heap.size with h | h
   ·exact h
   ·have:=G x J;rw [rH h] at this;cases this
  omega
structure Base where
 w:World
 D:List Deferred:=[]
structure Inv (n:Nat) (ι0:Inj) (w0:Base) (ι:Inj) (s:St) (a:Act) (w:World):Prop where
 size:a.tmps.size=n
 defers:a.defers=w0.D
 tmps:TR ι s.T a.tmps
 mem:WR ι s.H s.nb w
 ext:∀b q,ι0 b=some q->ι b=some q\/s.rb<=b
 new:∀b q,ι b=some (some q)->(∃q',ι0 b=some (some q')/\q'.r=q.r)\/w0.w.heap.size<=q.r
 fr:Fr (roI ι0 s.ro) w0.w w
 low:∀b r,ι0 b=some r->b<s.lo
 fz:∀b q,ι b=some (some q)->q.fz=true->b<s.ro
 gl:GL (roI ι0 s.ro) w0.w
theorem Inv.glHere {n:Nat} {ι0 ι:Inj} {w0:Base} {s:St} {a:Act} {w:World} (h:Inv n ι0 w0 ι s a w) {R:Inj} (K:∀b q,R b=some (some q)->ι b=some (some q)/\s.ro<=b):GL R w:=by
 obtain ⟨L,M,G,C⟩:=h.gl;have F:∀x∈L,x.1<w0.w.heap.size:=by
  intro x A;rcases aA x.1 w0.w.heap.size with h | h
  ·exact h
  ·have:=G x A;rw [rH h] at this;cases this
 refine ⟨L,M,λx A=>?_,λx A b q O=>?_⟩
 ·rw [h.fr.blk x.1 (F x A) (C x A)];exact G x A
 ·obtain ⟨U,Q⟩:=K b q O;rcases h.new b q U with ⟨J,E,W⟩ | E
  ·rw [<-W];exact C x A b J (vF E Q)
  ·have:=F x A;omega
def upd (ι:Inj) (b:Nat) (r:Option Rf):Inj:=λc=>if c=b then some r else ι c
theorem kW {ι:Inj} {b:Nat} {r:Option Rf} (h:ι b=none):∀c q,ι c=some q->upd ι b r c=some q:=by
 intro c q hc;unfold upd;split
 ·rename_i e;subst e;rw [h] at hc;cases hc
 ·exact hc
theorem TR.mono {ι A:Inj} (h:∀b r,ι b=some r->A b=some r) {T:List (Nat×Option V)} {C:Array Value} (E:TR ι T C):TR A T C:=
 λt v F=>let ⟨x,h1,h2⟩:=E t v F;⟨x,h1,VR.mono h _ _ h2⟩
theorem TR.put {ι:Inj} {T:List (Nat×Option V)} {a:Act} {d:Nat} {v:Option V} {x:Value} (J:TR ι T a.tmps) (K:d<a.tmps.size)
  (F:∀u,v=some u->VR ι u x):TR ι ((d,v)::T) (a.put (some d) x).tmps:=by
 intro t u A;rw [aF] at A;simp only [Act.put];split at A
 ·rename_i e;subst e;simp only [ae] at A;exact ⟨x,by simp [K],F u A⟩
 ·rename_i C;obtain ⟨y,E,G⟩:=J t u A;exact ⟨y,by rw [Ho C];exact E,G⟩
def setObj (w:World) (r:Nat) (o:Obj):World:={ w with heap:=w.heap.setIfInBounds r o }
theorem fD (w:World) (o:Obj):(w.alloc o).heap[w.heap.size]?=some o:=by
 show (w.heap.push o)[w.heap.size]?=some o;simp
theorem fB (w:World) (o:Obj) {k:Nat} (h:k≠w.heap.size):(w.alloc o).heap[k]?=w.heap[k]?:=by
 show (w.heap.push o)[k]?=_;rw [Array.getElem?_push,ab h]
theorem mb {w:World} {r:Nat} {o:Obj} (h:w.heap[r]?=some o):r<w.heap.size:=by
 rcases aA r w.heap.size with a | a
 ·exact a
 ·simp [rH a] at h
theorem WR.draws {ι:Inj} {H:List (Nat×Blk)} {nb:Nat} {w:World} (h:WR ι H nb w) (n:Nat):WR ι H nb { w with drawn:=n }:=
 ⟨h.inj,h.low,h.dom,h.blk⟩
theorem mE {w:World} {r k:Nat} (o:Obj) (h:r≠k):(setObj w r o).heap[k]?=w.heap[k]?:=by
 simp [setObj,Ho h]
theorem WR.write {ι:Inj} {H:List (Nat×Blk)} {nb b:Nat} {q:Rf} {w:World} {blk:Blk} {o:Obj} (h:WR ι H nb w) (F:ι b=some (some q)) (M:q.fz=false) (J:BR ι q blk o):
  WR ι ((b,blk)::H) nb (setObj w q.r o):=by
 have K:=h.dom b q F;refine ⟨h.inj,h.low,λc q hc=>by simpa [setObj] using h.dom c q hc,λc A C O=>?_⟩;rw [aF] at C;split at C
 ·rename_i e;subst e;simp only [ae] at C;subst C;exact .inl ⟨q,o,F,by simp [setObj,K],J⟩
 ·rename_i E;exact (h.blk c A C O).map rfl (λp Q=>mE o λe=>(h.inj b c q p F Q e).elim E λG=>by rw [M] at G;cases G.1) (λ_ _ x=>x) (λ_ x=>x)
theorem WR.alloc {ι:Inj} {H:List (Nat×Blk)} {nb A f:Nat} {q:Rf} {w:World} {blk:Blk} {o:Obj} (h:WR ι H nb w) (U:ι f=none) (hn:nb<=A) (M:f<A)
  (X:q.r=w.heap.size) (Y:BR (upd ι f (some q)) q blk o):WR (upd ι f (some q)) ((f,blk)::H) A (w.alloc o):=by
 have F:=kW (r:=some q) U;refine ⟨λb b' r r' E C O=>?_,λc p hc=>?_,λc p hc=>?_,λc J G Q=>?_⟩
 ·unfold upd at E C;split at E<;>split at C
  ·rename_i e1 W;exact .inl (e1.trans W.symm)
  ·simp only [ae] at E;subst E;have:=h.dom _ _ C;omega
  ·simp only [ae] at C;subst C;have:=h.dom _ _ E;omega
  ·exact h.inj _ _ _ _ E C O
 ·unfold upd at hc;split at hc
  ·rename_i e;subst e;exact M
  ·have:=h.low _ _ hc;omega
 ·unfold upd at hc;split at hc
  ·simp only [ae] at hc;subst hc;simp;omega
  ·have:=h.dom _ _ hc;simp;omega
 ·rw [aF] at G;split at G
  ·rename_i e;subst e;simp only [ae] at G;subst G;exact .inl ⟨q,o,by simp [upd],by rw [X];exact fD w o,Y⟩
  ·rename_i K;refine (h.blk c J G Q).map (by simp [upd,Ne.symm K]) (λp Z=>?_) (λ_ _ x=>BR.mono F x) (λ_ x=>x);have:=h.dom _ _ Z;exact fB w o (by omega)
theorem Fr.draws {ι0:Inj} {w0 w:World} (h:Fr ι0 w0 w) (n:Nat):Fr ι0 w0 { w with drawn:=n }:=⟨h.os,h.tape,h.output,h.size,h.blk⟩
theorem Fr.alloc {ι0:Inj} {w0 w:World} (h:Fr ι0 w0 w) (o:Obj):Fr ι0 w0 (w.alloc o):=by
 refine ⟨h.os,h.tape,h.output,by have:=h.size;simp;omega,λk A C=>?_⟩;have:=h.size;rw [fB w o (by omega)];exact h.blk k A C
theorem Fr.write {ι0:Inj} {w0 w:World} (h:Fr ι0 w0 w) {r:Nat} (E:(∃b q,ι0 b=some (some q)/\q.r=r)\/w0.heap.size<=r) (o:Obj):Fr ι0 w0 (setObj w r o):=by
 refine ⟨h.os,h.tape,h.output,by simpa [setObj] using h.size,λk G F=>?_⟩;have A:r≠k:=by
  rintro rfl;rcases E with ⟨b,q,C,J⟩ | E
  ·exact F b q C J
  ·omega
 simp only [setObj,Ho A];exact h.blk k G F
theorem aO {w:World} {r o:Nat} {a:Array Value} {e:TypeId} {fr:Nat×Nat} (h:w.heap[r]?=some (.cells a e fr)):
  w.cell? ⟨r,o,none⟩=a[o]?:=by
 simp [World.cell?,h]
theorem lI {w:World} {r o:Nat} {a:Array Value} {e:TypeId} {fr:Nat×Nat} (h:w.heap[r]?=some (.cells a e fr)) (b:NF fr a.size) (c:o<a.size):
  w.frozen? ⟨r,o,none⟩=false:=by
 have:=b o c;simp only [World.frozen?,h];by_cases d:fr.1<=o<;>by_cases f:o<fr.2<;>simp_all
theorem vH {w:World} {r o:Nat} {v:Value} {b:Array Value} {e:TypeId} {fr:Nat×Nat} (h:w.heap[r]?=some (.cells b e fr)):
  w.setCell ⟨r,o,none⟩ v=setObj w r (.cells (b.setIfInBounds o v) e fr):=by
 unfold World.setCell setObj;congr 1;apply H4;intro k;rw [Array.getElem?_modify,GX];have c:=mb h;by_cases a:r=k
 ·subst a;rw [ad rfl,ad rfl,ad c,h];simp
 ·rw [ab a,ab a]
theorem ua (w:World) (r:Nat) (o a:Obj):setObj (setObj w r o) r a=setObj w r a:=by
 simp [setObj]
theorem wP {w:World} {r:Nat} {o:Obj} (h:w.heap[r]?=some o):setObj w r o=w:=by
 unfold setObj;congr 1;apply H4;intro k;rw [GX];by_cases a:r=k
 ·subst a;rw [ad rfl,ad (mb h),h]
 ·rw [ab a]
theorem qS {w:World} {r:Nat} {o a:Obj} (h:w.heap[r]?=some o):(setObj w r a).heap[r]?=some a:=by
 have b:=mb h;simp [setObj,b]
end Go.Abs
