/-
  LevelsLevel: the frame of its proof, printed by frame.py after the kit's skeleton; the walk is a certificate and a plain law.
  Conditions: none.
-/
import Derived.ProofKit
import Derived.ShutString
import Derived.ChangeOld
import Derived.Carry
import Derived.SevenTiedAt
import Derived.Stop.Joined
import Derived.Test.YtibehcmomiplnabGreatDoorTie
import Derived.Test.YtibehcmomiplnabGreatDoorCards
import Derived.Test.YtibehcmomiplnabGreatDoorCeVb
import Derived.Test.YtibehcmomiplnabGreatDoorLawSvd
import Derived.Test.YtibehcmomiplnabGreatDoorHGl
import Derived.Test.YtibehcmomiplnabGreatDoorAbsZE
set_option linter.unusedSimpArgs false
set_option linter.unusedVariables false
set_option linter.defProp false
namespace Go.Proofs.YtibehcmomiplnabGreatDoor.levelsLevel
open Go.ChangeShapes Go.WideShapes Go.ChangeAt Go.RowKit
open Go.ChangeMaps (open_string shut_string)
theorem own:ownKnob Tryz.prog.godebug=none:=by kernel_rfl
theorem Xd:laidOutB Tryz.prog=true:=by kernel_rfl
theorem walk (a0:Int) (x0:Value) (l0:List (Abs.den [.i .u8,.bo,.i .u16,.i .u8,.i .u8,.i .u8,.i .u8,.i .u8,.i .u8,.i .u8,.i .u8,.i .u8,.bo,.i .u16,.i .u8,.i .u8,.i .u8,.i .u8,.i .u8,.i .u8,.i .u8])) (ρ0:Option Abs.Rf) (b0 c0 g0:Int) (w:World) (wa0:(Lit.int .u8 a0).wf=true) (wb0:(Lit.int .u8 b0).wf=true) (wc0:(Lit.int .u8 c0).wf=true) (wg0:(Lit.int .u8 g0).wf=true) (w0:∀y∈l0,Abs.vP [.i .u8,.bo,.i .u16,.i .u8,.i .u8,.i .u8,.i .u8,.i .u8,.i .u8,.i .u8,.i .u8,.i .u8,.bo,.i .u16,.i .u8,.i .u8,.i .u8,.i .u8,.i .u8,.i .u8,.i .u8] y) (m0:l0.length<=maxLen) (z0:Abs.BD w x0 [.i .u8,.bo,.i .u16,.i .u8,.i .u8,.i .u8,.i .u8,.i .u8,.i .u8,.i .u8,.i .u8,.i .u8,.bo,.i .u16,.i .u8,.i .u8,.i .u8,.i .u8,.i .u8,.i .u8,.i .u8] l0 ρ0) (hg:Abs.GL Abs.iI w):
  Calls Tryz.prog 3 #[.agg #[.int .u8 a0,x0,.int .u8 b0,.int .u8 c0,.int .u8 g0]] w λe w'=>e=.returned (.bool true)/\Below w.heap.size w w':=
 Go.Abs.Fj.law ((Go.Sh.c3 20000000).ok (a0,b0,c0,g0,l0) true (Go.Sh.BH (Go.Sh.rC wa0) (Go.Sh.rC wb0) (Go.Sh.rC wc0) (Go.Sh.rC wg0) (λy hy=>Go.Sh.abE (w0 y hy)))) rfl rfl (ι0:=Abs.Ag [ρ0]) (Abs.ZS z0)
  ⟨_,_,rfl,⟨#[.int .u8 a0,x0,.int .u8 b0,.int .u8 c0,.int .u8 g0],rfl,⟨_,_,rfl,rfl,_,_,rfl,z0.vr rfl,_,_,rfl,rfl,_,_,rfl,rfl,_,_,rfl,rfl,rfl⟩⟩,rfl⟩
set_option maxRecDepth 100000 in
theorem lifted (os:Os) (started:os.Started) (H:Type) (enc:TypeId×Value->H):
  ReturnsInHanded {} Tryz.checked os 3 .any (λw args=>(Rows.levelsLevelSpec.pre enc Tryz.prog Tryz.f3 Rows.levelsLevelRow.domain false w args/\laidMetH Tryz.prog Rows.levelsLevelRow.laid w)/\sizedMet enc Tryz.prog Tryz.f3 (OpenSpec.ofChange Rows.levelsLevelSpec) false w args)
   (Rows.levelsLevelSpec.post enc Tryz.prog Tryz.f3 false true false false):=by
 refine returnsInHanded_of_change_and (C:=Tryz.checked) (X:=λw _=>laidMetH Tryz.prog Rows.levelsLevelRow.laid w) (λ_ _ _ hh h=>h.of_heap hh) own started (by kernel_rfl) Tryz.func3
  (ChangeSpec.witness_shaped (enc:=enc) (C:=Tryz.checked) (os:=os) (X:=λw _=>laidMetH Tryz.prog Rows.levelsLevelRow.laid w) false (World.laidAll Tryz.prog os Rows.levelsLevelRow.laid) #[.agg #[.int .u8 0,.slice none 0 0,.int .u8 0,.int .u8 0,.int .u8 0]] 8 (World.laidAll_os _ _ _)
   (World.shaped_of_ZipB (by kernel_rfl) (by kernel_rfl)) (by kernel_rfl) (by kernel_rfl) (by kernel_rfl)
   (by rw [MakeChecks.laidMetH_plain _ _ _ (by kernel_rfl)];exact laidMet_laidAll _ (by kernel_rfl) (by kernel_rfl))) ?_
 intro W base args ds gs before hval0 hW hcnd _ hL _
 have hval:∀(j:Nat) t v,Tryz.f3.params[j]?=some t->args[j]?=some v->Value.okWide Tryz.prog W .any base t v:=hval0
 have hW':=hW
 obtain ⟨p,q,hA0,hV,rfl,hfz,hnd⟩:=hW
 have hA:DataW.TrodAll enc Tryz.prog W 0 (λ_=>true) true Tryz.f3.params.toList args.toList ds p:=hA0
 rw [Tryz.params3] at hA hval
 obtain ⟨v0,vs0,d0,ds0,p0,q0,hargs,rfl,rfl,h0,r0⟩:=trodAll_cons hA
 obtain ⟨rfl,rfl,rfl⟩:=trodAll_nil r0
 obtain rfl:args=#[v0]:=by cases args;simp_all
 obtain ⟨rfl,rfl⟩:=trodVars_none hV
 have k0:=h0
 have lt0:∀x∈p0,x.block<W.heap.size:=by obtain ⟨m,hm⟩:=k0;exact DataW.trod_lt m _ _ _ hm
 obtain ⟨a0,x0,l0,ρ0,b0,c0,g0,rfl,wa0,wb0,wc0,wg0,w0,m0,z0⟩:=Abs.Sj (tr:=[.i .u8,.bo,.i .u16,.i .u8,.i .u8,.i .u8,.i .u8,.i .u8,.i .u8,.i .u8,.i .u8,.i .u8,.bo,.i .u16,.i .u8,.i .u8,.i .u8,.i .u8,.i .u8,.i .u8,.i .u8]) (d:=12) (k2:=.u8) (k3:=.u8) Tryz.underlying25 Tryz.underlying5 Tryz.underlying22 (by kernel_rfl) (by kernel_rfl) Tryz.underlying5 (by kernel_rfl) (by kernel_rfl) (by kernel_rfl) (by kernel_rfl) (by kernel_rfl) (by decide) (hval 0 25 v0 rfl rfl) h0
 clear hA0 hval0
 have hgl:Abs.GL Abs.iI W:=by
  have hL':=hL
  rw [MakeChecks.laidMetH_plain _ _ _ (by kernel_rfl)] at hL'
  exact Abs.M3 hL' (fR (show Rows.levelsLevelRow.laid[8]?=some ("circa/seasons.spans",Rows.laid_circa_seasons_spans) from rfl)) (fR (show Rows.levelsLevelRow.laid[7]?=some ("circa/months.lengths",Rows.laid_circa_months_lengths) from rfl)) (fR (show Rows.levelsLevelRow.laid[6]?=some ("circa/years.steps",Rows.laid_circa_years_steps) from rfl)) (fR (show Rows.levelsLevelRow.laid[5]?=some ("strconv.ErrSyntax",Rows.laid_strconv_ErrSyntax) from rfl)) (fR (show Rows.levelsLevelRow.laid[9]?=some ("unicode/utf8.first",Rows.laid_unicode_utf8_first) from rfl)) (fR (show Rows.levelsLevelRow.laid[3]?=some ("unicode/utf8.acceptRanges",Rows.laid_unicode_utf8_acceptRanges) from rfl))
 refine (walk a0 x0 l0 ρ0 b0 c0 g0 W wa0 wb0 wc0 wg0 w0 m0 z0 hgl).mono λe W' ⟨he,bel⟩=>?_
 subst he
 exact ⟨_,rfl,_,_,_,[],_,[],hW',trodAll_mk1 (shut_bool Tryz.underlying4 _),(trodAll_cons_mk (Below.trod Xd (by kernel_rfl) (of_decide_eq_true (by kernel_rfl)) k0 bel lt0) trodAll_mk0),rfl,bel.frame _,λh=>by cases h⟩
end Go.Proofs.YtibehcmomiplnabGreatDoor.levelsLevel
