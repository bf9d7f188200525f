/-
  TopFillings: the frame of its proof, printed by frame.py after the kit's skeleton; the walk is a certificate and a plain law.
  Conditions: none.
-/
import Derived.ProofKit
import Derived.ShutString
import Derived.ChangeOld
import Derived.Carry
import Derived.SevenTiedAt
import Derived.Stop.Joined
import Derived.Test.YtadejcglcffgbacGreatDoorTie
import Derived.Test.YtadejcglcffgbacGreatDoorCards
import Derived.Test.YtadejcglcffgbacGreatDoorCeFb
import Derived.Test.YtadejcglcffgbacGreatDoorLawSfb
import Derived.Test.YtadejcglcffgbacGreatDoorHGl
import Derived.Test.YtadejcglcffgbacGreatDoorAbsZE
set_option linter.unusedSimpArgs false
namespace Go.Proofs.YtadejcglcffgbacGreatDoor.topFillings
open Go.ChangeShapes Go.WideShapes Go.ChangeAt Go.RowKit
open Go.ChangeMaps (open_string shut_string)
set_option linter.unusedVariables false
theorem own:ownKnob Tryz.prog.godebug=none:=by kernel_rfl
theorem Jl:laidOutB Tryz.prog=true:=by kernel_rfl
theorem walk (y0:Abs.den [.i .u8,.bo,.i .u16,.i .u8,.i .u8,.i .u8,.i .u8,.i .u8,.i .u8,.i .u8]) (a1:Int) (w:World) (w0:Abs.ts [.i .u8,.bo,.i .u16,.i .u8,.i .u8,.i .u8,.i .u8,.i .u8,.i .u8,.i .u8] y0) (w1:(Lit.int .u16 a1).wf=true) (hg:Abs.GL Abs.dY w):
  Calls Tryz.prog 3 #[.agg (Abs.vals [.i .u8,.bo,.i .u16,.i .u8,.i .u8,.i .u8,.i .u8,.i .u8,.i .u8,.i .u8] y0).toArray,.int .u16 a1] w λe w'=>e=.returned (.bool true)/\Below w.heap.size w w':=
 (Go.Sh.pure_circatop_TopFillings 20000000 (y0.1,y0.2.1,y0.2.2.1,y0.2.2.2.1,y0.2.2.2.2.1,y0.2.2.2.2.2.1,y0.2.2.2.2.2.2.1,y0.2.2.2.2.2.2.2.1,y0.2.2.2.2.2.2.2.2.1,y0.2.2.2.2.2.2.2.2.2,a1) true (by
  have nat:∀(a:Int) (n:Nat),0<=a/\a<=(n:Int)->∃x:Nat,a=(x:Int)/\x<=n:=λa n h=>⟨a.toNat,by omega,by omega⟩
  obtain ⟨i0,e0,b0⟩:=nat y0.1 255 (bounds_u8 w0.1)
  obtain ⟨i2,e2,b2⟩:=nat y0.2.2.1 65535 (bounds_u16 w0.2.2.1)
  obtain ⟨i3,e3,b3⟩:=nat y0.2.2.2.1 255 (bounds_u8 w0.2.2.2.1)
  obtain ⟨i4,e4,b4⟩:=nat y0.2.2.2.2.1 255 (bounds_u8 w0.2.2.2.2.1)
  obtain ⟨i5,e5,b5⟩:=nat y0.2.2.2.2.2.1 255 (bounds_u8 w0.2.2.2.2.2.1)
  obtain ⟨i6,e6,b6⟩:=nat y0.2.2.2.2.2.2.1 255 (bounds_u8 w0.2.2.2.2.2.2.1)
  obtain ⟨i7,e7,b7⟩:=nat y0.2.2.2.2.2.2.2.1 255 (bounds_u8 w0.2.2.2.2.2.2.2.1)
  obtain ⟨i8,e8,b8⟩:=nat y0.2.2.2.2.2.2.2.2.1 255 (bounds_u8 w0.2.2.2.2.2.2.2.2.1)
  obtain ⟨i9,e9,b9⟩:=nat y0.2.2.2.2.2.2.2.2.2 255 (bounds_u8 w0.2.2.2.2.2.2.2.2.2)
  obtain ⟨i10,e10,b10⟩:=nat a1 65535 (bounds_u16 w1)
  show Go.Sh.cY 20000000 y0.1 y0.2.1 y0.2.2.1 y0.2.2.2.1 y0.2.2.2.2.1 y0.2.2.2.2.2.1 y0.2.2.2.2.2.2.1 y0.2.2.2.2.2.2.2.1 y0.2.2.2.2.2.2.2.2.1 y0.2.2.2.2.2.2.2.2.2 a1=some true
  rw [e0,e2,e3,e4,e5,e6,e7,e8,e9,e10]
  exact Go.Sh.ug i0 i2 i3 i4 i5 i6 i7 i8 i9 i10 y0.2.1 (by omega) (by omega) (by omega) (by omega) (by omega) (by omega) (by omega) (by omega) (by omega))).law
  ⟨_,_,rfl,⟨_,rfl,(Abs.jg _ [.i .u8,.bo,.i .u16,.i .u8,.i .u8,.i .u8,.i .u8,.i .u8,.i .u8,.i .u8] y0 _).2 rfl⟩,_,_,rfl,rfl,rfl⟩ hg
set_option maxRecDepth 100000 in
theorem lifted (os:Os) (started:os.Started) (H:Type) (enc:TypeId×Value->H):
  ReturnsInHanded {} Tryz.checked os 3 .any (λw args=>(Rows.topFillingsSpec.pre enc Tryz.prog Tryz.f3 Rows.topFillingsRow.domain false w args/\laidMetH Tryz.prog Rows.topFillingsRow.laid w)/\sizedMet enc Tryz.prog Tryz.f3 (OpenSpec.ofChange Rows.topFillingsSpec) false w args)
   (Rows.topFillingsSpec.post enc Tryz.prog Tryz.f3 false true false false):=by
 refine returnsInHanded_of_change_and (C:=Tryz.checked) (X:=λw _=>laidMetH Tryz.prog Rows.topFillingsRow.laid w) (λ_ _ _ hh h=>h.of_heap hh) own started (by kernel_rfl) Tryz.func3
  (ChangeSpec.witness_shaped (enc:=enc) (C:=Tryz.checked) (os:=os) (X:=λw _=>laidMetH Tryz.prog Rows.topFillingsRow.laid w) false (World.laidAll Tryz.prog os Rows.topFillingsRow.laid) #[.agg #[.int .u8 0,.bool false,.int .u16 0,.int .u8 0,.int .u8 0,.int .u8 0,.int .u8 0,.int .u8 0,.int .u8 0,.int .u8 0],.int .u16 0] 8 (World.laidAll_os _ _ _)
   (World.shaped_of_ZipB (by kernel_rfl) (by kernel_rfl)) (by kernel_rfl) (by kernel_rfl) (by kernel_rfl)
   (by rw [MakeChecks.laidMetH_plain _ _ _ (by kernel_rfl)];exact laidMet_laidAll _ (by kernel_rfl) (by kernel_rfl))) ?_
 intro W base args ds gs before hval0 hW hcnd _ hL _
 have hval:∀(j:Nat) t v,Tryz.f3.params[j]?=some t->args[j]?=some v->Value.okWide Tryz.prog W .any base t v:=hval0
 have hW':=hW
 obtain ⟨p,q,hA0,hV,rfl,hfz,hnd⟩:=hW
 have hA:DataW.TrodAll enc Tryz.prog W 0 (λ_=>true) true Tryz.f3.params.toList args.toList ds p:=hA0
 rw [Tryz.params3] at hA hval
 obtain ⟨v0,vs0,d0,ds0,p0,q0,hargs,rfl,rfl,h0,r0⟩:=trodAll_cons hA
 obtain ⟨v1,vs1,d1,ds1,p1,q1,rfl,rfl,rfl,h1,r1⟩:=trodAll_cons r0
 obtain ⟨rfl,rfl,rfl⟩:=trodAll_nil r1
 obtain rfl:args=#[v0,v1]:=by cases args;simp_all
 obtain ⟨rfl,rfl⟩:=trodVars_none hV
 have k0:=h0
 have lt0:∀x∈p0,x.block<W.heap.size:=by obtain ⟨m,hm⟩:=k0;exact DataW.trod_lt m _ _ _ hm
 obtain ⟨y0,e0,w0⟩:=Abs.EV (tr:=[.i .u8,.bo,.i .u16,.i .u8,.i .u8,.i .u8,.i .u8,.i .u8,.i .u8,.i .u8]) (d:=12) (by kernel_rfl) (by kernel_rfl) h0
 obtain rfl:=Abs.vS Tryz.underlying28 (hval 0 28 v0 rfl rfl) e0
 obtain ⟨a1,rfl,rfl,rfl,w1⟩:=open_int Tryz.underlying22 (hval 1 22 v1 rfl rfl) h1
 clear hA0 hval0
 have hgl:Abs.GL Abs.dY W:=by
  have hL':=hL
  rw [MakeChecks.laidMetH_plain _ _ _ (by kernel_rfl)] at hL'
  exact Abs.CU hL' (dK (show Rows.topFillingsRow.laid[8]?=some ("circa/seasons.spans",Rows.laid_circa_seasons_spans) from rfl)) (dK (show Rows.topFillingsRow.laid[7]?=some ("circa/months.lengths",Rows.laid_circa_months_lengths) from rfl)) (dK (show Rows.topFillingsRow.laid[6]?=some ("circa/years.steps",Rows.laid_circa_years_steps) from rfl)) (dK (show Rows.topFillingsRow.laid[5]?=some ("strconv.ErrSyntax",Rows.laid_strconv_ErrSyntax) from rfl)) (dK (show Rows.topFillingsRow.laid[9]?=some ("unicode/utf8.first",Rows.laid_unicode_utf8_first) from rfl)) (dK (show Rows.topFillingsRow.laid[3]?=some ("unicode/utf8.acceptRanges",Rows.laid_unicode_utf8_acceptRanges) from rfl)) (dK (show Rows.topFillingsRow.laid[2]?=some ("internal/strconv.uint64pow10",Rows.laid_internal_strconv_uint64pow10) from rfl))
 refine (walk y0 a1 W w0 w1 hgl).mono λe W' ⟨he,bel⟩=>?_
 subst he
 exact ⟨_,rfl,_,_,_,[],_,[],hW',trodAll_mk1 (shut_bool Tryz.underlying4 _),(trodAll_cons_mk (Below.trod Jl (by kernel_rfl) (of_decide_eq_true (by kernel_rfl)) k0 bel lt0) (trodAll_cons_mk (shut_int Tryz.underlying22 w1) trodAll_mk0)),rfl,bel.frame _,λh=>by cases h⟩
end Go.Proofs.YtadejcglcffgbacGreatDoor.topFillings
