/-
  ParsersLevel: the frame of its proof, printed by frame.py after the kit's skeleton; the walk is a certificate and a plain law.
  Conditions: none.
-/
import Derived.ProofKit
import Derived.ShutString
import Derived.ChangeOld
import Derived.Carry
import Derived.SevenTiedAt
import Derived.Stop.Joined
import Derived.Test.YthemneooekobkaaGreatDoorTie
import Derived.Test.YthemneooekobkaaGreatDoorCards
import Derived.Test.YthemneooekobkaaGreatDoorCePb
import Derived.Test.YthemneooekobkaaGreatDoorLawPzd
import Derived.Test.YthemneooekobkaaGreatDoorHGl
import Derived.Test.YthemneooekobkaaGreatDoorAbsZE
set_option linter.unusedSimpArgs false
namespace Go.Proofs.YthemneooekobkaaGreatDoor.parsersLevel
open Go.ChangeShapes Go.WideShapes Go.ChangeAt Go.RowKit
open Go.ChangeMaps (open_string shut_string)
set_option linter.unusedVariables false
theorem own:ownKnob Tryz.prog.godebug=none:=by kernel_rfl
theorem PS:laidOutB Tryz.prog=true:=by kernel_rfl
theorem walk (y0:Abs.den [.i .u8,.bo,.i .u16,.i .u8,.i .u8,.i .u8,.i .u8,.i .u8,.i .u8,.i .u8]) (a1:ByteArray) (w:World) (w0:Abs.tV [.i .u8,.bo,.i .u16,.i .u8,.i .u8,.i .u8,.i .u8,.i .u8,.i .u8,.i .u8] y0) (w1:a1.size<=maxLen) (hg:Abs.GL Abs.iM w):
  Calls Tryz.prog 3 #[.agg (Abs.vals [.i .u8,.bo,.i .u16,.i .u8,.i .u8,.i .u8,.i .u8,.i .u8,.i .u8,.i .u8] y0).toArray,.string a1] w λe w'=>e=.returned (.bool true)/\Below w.heap.size w w':=
 (Go.Sh.pure_circalaw20_ParsersLevel 20000000 (y0.1,y0.2.1,y0.2.2.1,y0.2.2.2.1,y0.2.2.2.2.1,y0.2.2.2.2.2.1,y0.2.2.2.2.2.2.1,y0.2.2.2.2.2.2.2.1,y0.2.2.2.2.2.2.2.2.1,y0.2.2.2.2.2.2.2.2.2,a1.data.toList) true (Go.Sh.ua y0.2.1 ⟨Go.Sh.AA w0.1,Go.Sh.Q7 w0.2.2.1,Go.Sh.AA w0.2.2.2.1,Go.Sh.AA w0.2.2.2.2.1,Go.Sh.AA w0.2.2.2.2.2.1,Go.Sh.AA w0.2.2.2.2.2.2.1,Go.Sh.AA w0.2.2.2.2.2.2.2.1,Go.Sh.AA w0.2.2.2.2.2.2.2.2.1,Go.Sh.AA w0.2.2.2.2.2.2.2.2.2⟩ a1.data.toList)).law
  ⟨_,_,rfl,⟨_,rfl,(Abs.kA _ [.i .u8,.bo,.i .u16,.i .u8,.i .u8,.i .u8,.i .u8,.i .u8,.i .u8,.i .u8] y0 _).2 rfl⟩,_,_,rfl,rfl,rfl⟩ hg
set_option maxRecDepth 100000 in
theorem lifted (os:Os) (started:os.Started) (H:Type) (enc:TypeId×Value->H):
  ReturnsInHanded {} Tryz.checked os 3 .any (λw args=>(Rows.parsersLevelSpec.pre enc Tryz.prog Tryz.f3 Rows.parsersLevelRow.domain false w args/\laidMetH Tryz.prog Rows.parsersLevelRow.laid w)/\sizedMet enc Tryz.prog Tryz.f3 (OpenSpec.ofChange Rows.parsersLevelSpec) false w args)
   (Rows.parsersLevelSpec.post enc Tryz.prog Tryz.f3 false true false false):=by
 refine returnsInHanded_of_change_and (C:=Tryz.checked) (X:=λw _=>laidMetH Tryz.prog Rows.parsersLevelRow.laid w) (λ_ _ _ hh h=>h.of_heap hh) own started (by kernel_rfl) Tryz.func3
  (ChangeSpec.witness_shaped (enc:=enc) (C:=Tryz.checked) (os:=os) (X:=λw _=>laidMetH Tryz.prog Rows.parsersLevelRow.laid w) false (World.laidAll Tryz.prog os Rows.parsersLevelRow.laid) #[.agg #[.int .u8 0,.bool false,.int .u16 0,.int .u8 0,.int .u8 0,.int .u8 0,.int .u8 0,.int .u8 0,.int .u8 0,.int .u8 0],.string ⟨#[]⟩] 8 (World.laidAll_os _ _ _)
   (World.shaped_of_ZipB (by kernel_rfl) (by kernel_rfl)) (by kernel_rfl) (by kernel_rfl) (by kernel_rfl)
   (by rw [MakeChecks.laidMetH_plain _ _ _ (by kernel_rfl)];exact laidMet_laidAll _ (by kernel_rfl) (by kernel_rfl))) ?_
 intro W base args ds gs before hval0 hW hcnd _ hL _
 have hval:∀(j:Nat) t v,Tryz.f3.params[j]?=some t->args[j]?=some v->Value.okWide Tryz.prog W .any base t v:=hval0
 have hW':=hW
 obtain ⟨p,q,hA0,hV,rfl,hfz,hnd⟩:=hW
 have hA:DataW.TrodAll enc Tryz.prog W 0 (λ_=>true) true Tryz.f3.params.toList args.toList ds p:=hA0
 rw [Tryz.params3] at hA hval
 obtain ⟨v0,vs0,d0,ds0,p0,q0,hargs,rfl,rfl,h0,r0⟩:=trodAll_cons hA
 obtain ⟨v1,vs1,d1,ds1,p1,q1,rfl,rfl,rfl,h1,r1⟩:=trodAll_cons r0
 obtain ⟨rfl,rfl,rfl⟩:=trodAll_nil r1
 obtain rfl:args=#[v0,v1]:=by cases args;simp_all
 obtain ⟨rfl,rfl⟩:=trodVars_none hV
 have k0:=h0
 have lt0:∀x∈p0,x.block<W.heap.size:=by obtain ⟨m,hm⟩:=k0;exact DataW.trod_lt m _ _ _ hm
 obtain ⟨y0,e0,w0⟩:=Abs.Jj (tr:=[.i .u8,.bo,.i .u16,.i .u8,.i .u8,.i .u8,.i .u8,.i .u8,.i .u8,.i .u8]) (d:=12) (by kernel_rfl) (by kernel_rfl) h0
 obtain rfl:=Abs.xJ Tryz.underlying28 (hval 0 28 v0 rfl rfl) e0
 obtain ⟨a1,rfl,rfl,rfl,w1⟩:=open_string Tryz.underlying9 (hval 1 9 v1 rfl rfl) h1
 clear hA0 hval0
 have hgl:Abs.GL Abs.iM W:=by
  have hL':=hL
  rw [MakeChecks.laidMetH_plain _ _ _ (by kernel_rfl)] at hL'
  exact Abs.Fj hL' (fD (show Rows.parsersLevelRow.laid[8]?=some ("circa/seasons.spans",Rows.laid_circa_seasons_spans) from rfl)) (fD (show Rows.parsersLevelRow.laid[7]?=some ("circa/months.lengths",Rows.laid_circa_months_lengths) from rfl)) (fD (show Rows.parsersLevelRow.laid[6]?=some ("circa/years.steps",Rows.laid_circa_years_steps) from rfl)) (fD (show Rows.parsersLevelRow.laid[5]?=some ("strconv.ErrSyntax",Rows.laid_strconv_ErrSyntax) from rfl)) (fD (show Rows.parsersLevelRow.laid[9]?=some ("unicode/utf8.first",Rows.laid_unicode_utf8_first) from rfl)) (fD (show Rows.parsersLevelRow.laid[3]?=some ("unicode/utf8.acceptRanges",Rows.laid_unicode_utf8_acceptRanges) from rfl))
 refine (walk y0 a1 W w0 w1 hgl).mono λe W' ⟨he,bel⟩=>?_
 subst he
 exact ⟨_,rfl,_,_,_,[],_,[],hW',trodAll_mk1 (shut_bool Tryz.underlying4 _),(trodAll_cons_mk (Below.trod PS (by kernel_rfl) (of_decide_eq_true (by kernel_rfl)) k0 bel lt0) (trodAll_cons_mk (shut_string Tryz.underlying9 w1) trodAll_mk0)),rfl,bel.frame _,λh=>by cases h⟩
end Go.Proofs.YthemneooekobkaaGreatDoor.parsersLevel
