/-
  TopDays: the frame of its proof, printed by frame.py after the kit's skeleton; the walk is a certificate and a plain law.
  Conditions: none.
-/
import Derived.ProofKit
import Derived.ShutString
import Derived.ChangeOld
import Derived.Carry
import Derived.SevenTiedAt
import Derived.Stop.Joined
import Derived.Test.YtaogbalpingjhaaGreatDoorTie
import Derived.Test.YtaogbalpingjhaaGreatDoorCards
import Derived.Test.YtaogbalpingjhaaGreatDoorCeTb
import Derived.Test.YtaogbalpingjhaaGreatDoorLawTzb
import Derived.Test.YtaogbalpingjhaaGreatDoorHGl
import Derived.Test.YtaogbalpingjhaaGreatDoorAbsZE
set_option linter.unusedSimpArgs false
namespace Go.Proofs.YtaogbalpingjhaaGreatDoor.topDays
open Go.ChangeShapes Go.WideShapes Go.ChangeAt Go.RowKit
open Go.ChangeMaps (open_string shut_string)
set_option linter.unusedVariables false
theorem own:ownKnob Tryz.prog.godebug=none:=by kernel_rfl
theorem HM:laidOutB Tryz.prog=true:=by kernel_rfl
theorem walk (y0:Abs.den [.i .u8,.bo,.i .u16,.i .u8,.i .u8,.i .u8,.i .u8,.i .u8,.i .u8,.i .u8]) (w:World) (w0:Abs.rD [.i .u8,.bo,.i .u16,.i .u8,.i .u8,.i .u8,.i .u8,.i .u8,.i .u8,.i .u8] y0) (hg:Abs.GL Abs.dH w):
  Calls Tryz.prog 4 #[.agg (Abs.vals [.i .u8,.bo,.i .u16,.i .u8,.i .u8,.i .u8,.i .u8,.i .u8,.i .u8,.i .u8] y0).toArray] w λe w'=>e=.returned (.bool true)/\Below w.heap.size w w':=
 (Go.Sh.pure_circatop_TopDays 20000000 (y0.1,y0.2.1,y0.2.2.1,y0.2.2.2.1,y0.2.2.2.2.1,y0.2.2.2.2.2.1,y0.2.2.2.2.2.2.1,y0.2.2.2.2.2.2.2.1,y0.2.2.2.2.2.2.2.2.1,y0.2.2.2.2.2.2.2.2.2) true (Go.Sh.Am y0.2.1 ⟨Go.Sh.wk w0.1,Go.Sh.IN w0.2.2.1,Go.Sh.wk w0.2.2.2.1,Go.Sh.wk w0.2.2.2.2.1,Go.Sh.wk w0.2.2.2.2.2.1,Go.Sh.wk w0.2.2.2.2.2.2.1,Go.Sh.wk w0.2.2.2.2.2.2.2.1,Go.Sh.wk w0.2.2.2.2.2.2.2.2.1,Go.Sh.wk w0.2.2.2.2.2.2.2.2.2⟩)).law
  ⟨_,_,rfl,⟨_,rfl,(Abs.ip _ [.i .u8,.bo,.i .u16,.i .u8,.i .u8,.i .u8,.i .u8,.i .u8,.i .u8,.i .u8] y0 _).2 rfl⟩,rfl⟩ hg
set_option maxRecDepth 100000 in
theorem lifted (os:Os) (started:os.Started) (H:Type) (enc:TypeId×Value->H):
  ReturnsInHanded {} Tryz.checked os 4 .any (λw args=>(Rows.topDaysSpec.pre enc Tryz.prog Tryz.f4 Rows.topDaysRow.domain false w args/\laidMetH Tryz.prog Rows.topDaysRow.laid w)/\sizedMet enc Tryz.prog Tryz.f4 (OpenSpec.ofChange Rows.topDaysSpec) false w args)
   (Rows.topDaysSpec.post enc Tryz.prog Tryz.f4 false true false false):=by
 refine returnsInHanded_of_change_and (C:=Tryz.checked) (X:=λw _=>laidMetH Tryz.prog Rows.topDaysRow.laid w) (λ_ _ _ hh h=>h.of_heap hh) own started (by kernel_rfl) Tryz.func4
  (ChangeSpec.witness_shaped (enc:=enc) (C:=Tryz.checked) (os:=os) (X:=λw _=>laidMetH Tryz.prog Rows.topDaysRow.laid w) false (World.laidAll Tryz.prog os Rows.topDaysRow.laid) #[.agg #[.int .u8 0,.bool false,.int .u16 0,.int .u8 0,.int .u8 0,.int .u8 0,.int .u8 0,.int .u8 0,.int .u8 0,.int .u8 0]] 8 (World.laidAll_os _ _ _)
   (World.shaped_of_ZipB (by kernel_rfl) (by kernel_rfl)) (by kernel_rfl) (by kernel_rfl) (by kernel_rfl)
   (by rw [MakeChecks.laidMetH_plain _ _ _ (by kernel_rfl)];exact laidMet_laidAll _ (by kernel_rfl) (by kernel_rfl))) ?_
 intro W base args ds gs before hval0 hW hcnd _ hL _
 have hval:∀(j:Nat) t v,Tryz.f4.params[j]?=some t->args[j]?=some v->Value.okWide Tryz.prog W .any base t v:=hval0
 have hW':=hW
 obtain ⟨p,q,hA0,hV,rfl,hfz,hnd⟩:=hW
 have hA:DataW.TrodAll enc Tryz.prog W 0 (λ_=>true) true Tryz.f4.params.toList args.toList ds p:=hA0
 rw [Tryz.params4] at hA hval
 obtain ⟨v0,vs0,d0,ds0,p0,q0,hargs,rfl,rfl,h0,r0⟩:=trodAll_cons hA
 obtain ⟨rfl,rfl,rfl⟩:=trodAll_nil r0
 obtain rfl:args=#[v0]:=by cases args;simp_all
 obtain ⟨rfl,rfl⟩:=trodVars_none hV
 have k0:=h0
 have lt0:∀x∈p0,x.block<W.heap.size:=by obtain ⟨m,hm⟩:=k0;exact DataW.trod_lt m _ _ _ hm
 obtain ⟨y0,e0,w0⟩:=Abs.CP (tr:=[.i .u8,.bo,.i .u16,.i .u8,.i .u8,.i .u8,.i .u8,.i .u8,.i .u8,.i .u8]) (d:=12) (by kernel_rfl) (by kernel_rfl) h0
 obtain rfl:=Abs.tu Tryz.underlying28 (hval 0 28 v0 rfl rfl) e0
 clear hA0 hval0
 have hgl:Abs.GL Abs.dH W:=by
  have hL':=hL
  rw [MakeChecks.laidMetH_plain _ _ _ (by kernel_rfl)] at hL'
  exact Abs.Aj hL' (gD (show Rows.topDaysRow.laid[8]?=some ("circa/seasons.spans",Rows.laid_circa_seasons_spans) from rfl)) (gD (show Rows.topDaysRow.laid[7]?=some ("circa/months.lengths",Rows.laid_circa_months_lengths) from rfl)) (gD (show Rows.topDaysRow.laid[6]?=some ("circa/years.steps",Rows.laid_circa_years_steps) from rfl)) (gD (show Rows.topDaysRow.laid[5]?=some ("strconv.ErrSyntax",Rows.laid_strconv_ErrSyntax) from rfl)) (gD (show Rows.topDaysRow.laid[9]?=some ("unicode/utf8.first",Rows.laid_unicode_utf8_first) from rfl)) (gD (show Rows.topDaysRow.laid[3]?=some ("unicode/utf8.acceptRanges",Rows.laid_unicode_utf8_acceptRanges) from rfl))
 refine (walk y0 W w0 hgl).mono λe W' ⟨he,bel⟩=>?_
 subst he
 exact ⟨_,rfl,_,_,_,[],_,[],hW',trodAll_mk1 (shut_bool Tryz.underlying4 _),(trodAll_cons_mk (Below.trod HM (by kernel_rfl) (of_decide_eq_true (by kernel_rfl)) k0 bel lt0) trodAll_mk0),rfl,bel.frame _,λh=>by cases h⟩
end Go.Proofs.YtaogbalpingjhaaGreatDoor.topDays
