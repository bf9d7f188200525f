/-
  LevelsText: the frame of its proof, printed by frame.py after the kit's skeleton; the walk is a certificate and a plain law.
  Conditions: none.
-/
import Derived.ProofKit
import Derived.ShutString
import Derived.ChangeOld
import Derived.Carry
import Derived.SevenTiedAt
import Derived.Stop.Joined
import Derived.Test.YthemneooekobkabGreatDoorTie
import Derived.Test.YthemneooekobkabGreatDoorCards
import Derived.Test.YthemneooekobkabGreatDoorCeQb
import Derived.Test.YthemneooekobkabGreatDoorLawQzd
import Derived.Test.YthemneooekobkabGreatDoorHGl
import Derived.Test.YthemneooekobkabGreatDoorAbsZE
set_option linter.unusedSimpArgs false
namespace Go.Proofs.YthemneooekobkabGreatDoor.levelsText
open Go.ChangeShapes Go.WideShapes Go.ChangeAt Go.RowKit
open Go.ChangeMaps (open_string shut_string)
set_option linter.unusedVariables false
theorem own:ownKnob Tryz.prog.godebug=none:=by kernel_rfl
theorem walk (a0:ByteArray) (a1:Int) (w:World) (w0:a0.size<=maxLen) (w1:(Lit.int .i64 a1).wf=true) (hg:Abs.GL Abs.ie w):
  Calls Tryz.prog 4 #[.string a0,.int .i64 a1] w λe w'=>e=.returned (.bool true)/\Below w.heap.size w w':=
 (Go.Sh.pure_circalaw22_LevelsText 20000000 (a0.data.toList,a1) true (Go.Sh.Az a0.data.toList a1)).law
  ⟨_,_,rfl,rfl,_,_,rfl,rfl,rfl⟩ hg
set_option maxRecDepth 100000 in
theorem lifted (os:Os) (started:os.Started) (H:Type) (enc:TypeId×Value->H):
  ReturnsInHanded {} Tryz.checked os 4 .any (λw args=>(Rows.levelsTextSpec.pre enc Tryz.prog Tryz.f4 Rows.levelsTextRow.domain false w args/\laidMetH Tryz.prog Rows.levelsTextRow.laid w)/\sizedMet enc Tryz.prog Tryz.f4 (OpenSpec.ofChange Rows.levelsTextSpec) false w args)
   (Rows.levelsTextSpec.post enc Tryz.prog Tryz.f4 false true false false):=by
 refine returnsInHanded_of_change_and (C:=Tryz.checked) (X:=λw _=>laidMetH Tryz.prog Rows.levelsTextRow.laid w) (λ_ _ _ hh h=>h.of_heap hh) own started (by kernel_rfl) Tryz.func4
  (ChangeSpec.witness_shaped (enc:=enc) (C:=Tryz.checked) (os:=os) (X:=λw _=>laidMetH Tryz.prog Rows.levelsTextRow.laid w) false (World.laidAll Tryz.prog os Rows.levelsTextRow.laid) #[.string ⟨#[]⟩,.int .i64 0] 8 (World.laidAll_os _ _ _)
   (World.shaped_of_ZipB (by kernel_rfl) (by kernel_rfl)) (by kernel_rfl) (by kernel_rfl) (by kernel_rfl)
   (by rw [MakeChecks.laidMetH_plain _ _ _ (by kernel_rfl)];exact laidMet_laidAll _ (by kernel_rfl) (by kernel_rfl))) ?_
 intro W base args ds gs before hval0 hW hcnd _ hL _
 have hval:∀(j:Nat) t v,Tryz.f4.params[j]?=some t->args[j]?=some v->Value.okWide Tryz.prog W .any base t v:=hval0
 have hW':=hW
 obtain ⟨p,q,hA0,hV,rfl,hfz,hnd⟩:=hW
 have hA:DataW.TrodAll enc Tryz.prog W 0 (λ_=>true) true Tryz.f4.params.toList args.toList ds p:=hA0
 rw [Tryz.params4] at hA hval
 obtain ⟨v0,vs0,d0,ds0,p0,q0,hargs,rfl,rfl,h0,r0⟩:=trodAll_cons hA
 obtain ⟨v1,vs1,d1,ds1,p1,q1,rfl,rfl,rfl,h1,r1⟩:=trodAll_cons r0
 obtain ⟨rfl,rfl,rfl⟩:=trodAll_nil r1
 obtain rfl:args=#[v0,v1]:=by cases args;simp_all
 obtain ⟨rfl,rfl⟩:=trodVars_none hV
 obtain ⟨a0,rfl,rfl,rfl,w0⟩:=open_string Tryz.underlying9 (hval 0 9 v0 rfl rfl) h0
 obtain ⟨a1,rfl,rfl,rfl,w1⟩:=open_int Tryz.underlying3 (hval 1 3 v1 rfl rfl) h1
 clear hA0 hval0
 have hgl:Abs.GL Abs.ie W:=by
  have hL':=hL
  rw [MakeChecks.laidMetH_plain _ _ _ (by kernel_rfl)] at hL'
  exact Abs.IX hL' (gM (show Rows.levelsTextRow.laid[8]?=some ("circa/seasons.spans",Rows.laid_circa_seasons_spans) from rfl)) (gM (show Rows.levelsTextRow.laid[7]?=some ("circa/months.lengths",Rows.laid_circa_months_lengths) from rfl)) (gM (show Rows.levelsTextRow.laid[6]?=some ("circa/years.steps",Rows.laid_circa_years_steps) from rfl)) (gM (show Rows.levelsTextRow.laid[5]?=some ("strconv.ErrSyntax",Rows.laid_strconv_ErrSyntax) from rfl)) (gM (show Rows.levelsTextRow.laid[9]?=some ("unicode/utf8.first",Rows.laid_unicode_utf8_first) from rfl)) (gM (show Rows.levelsTextRow.laid[3]?=some ("unicode/utf8.acceptRanges",Rows.laid_unicode_utf8_acceptRanges) from rfl))
 refine (walk a0 a1 W w0 w1 hgl).mono λe W' ⟨he,bel⟩=>?_
 subst he
 exact ⟨_,rfl,_,_,_,[],_,[],hW',trodAll_mk1 (shut_bool Tryz.underlying4 _),(trodAll_cons_mk (shut_string Tryz.underlying9 w0) (trodAll_cons_mk (shut_int Tryz.underlying3 w1) trodAll_mk0)),rfl,bel.frame _,λh=>by cases h⟩
end Go.Proofs.YthemneooekobkabGreatDoor.levelsText
