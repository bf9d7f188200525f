/-
  TopMarks: the frame of its proof, printed by frame.py after the kit's skeleton; the walk is a certificate and a plain law.
  Conditions: none.
-/
import Derived.ProofKit
import Derived.ShutString
import Derived.ChangeOld
import Derived.Carry
import Derived.SevenTiedAt
import Derived.Stop.Joined
import Derived.Test.YtaogbalpingjhaaGreatDoorTie
import Derived.Test.YtaogbalpingjhaaGreatDoorCards
import Derived.Test.YtaogbalpingjhaaGreatDoorCeSb
import Derived.Test.YtaogbalpingjhaaGreatDoorLawSzc
import Derived.Test.YtaogbalpingjhaaGreatDoorHGl
import Derived.Test.YtaogbalpingjhaaGreatDoorAbsZE
set_option linter.unusedSimpArgs false
namespace Go.Proofs.YtaogbalpingjhaaGreatDoor.topMarks
open Go.ChangeShapes Go.WideShapes Go.ChangeAt Go.RowKit
open Go.ChangeMaps (open_string shut_string)
set_option linter.unusedVariables false
theorem own:ownKnob Tryz.prog.godebug=none:=by kernel_rfl
theorem Bd:laidOutB Tryz.prog=true:=by kernel_rfl
theorem walk (y0:Abs.den [.i .u8,.bo,.i .u16,.i .u8,.i .u8,.i .u8,.i .u8,.i .u8,.i .u8,.i .u8]) (a1 a2:List Int) (w:World) (w0:Abs.uy [.i .u8,.bo,.i .u16,.i .u8,.i .u8,.i .u8,.i .u8,.i .u8,.i .u8,.i .u8] y0) (l1:a1.length=3) (w1:∀x∈a1,(Lit.int .u8 x).wf=true) (l2:a2.length=3) (w2:∀x∈a2,(Lit.int .u8 x).wf=true) (hg:Abs.GL Abs.fP w):
  Calls Tryz.prog 3 #[.agg (Abs.vals [.i .u8,.bo,.i .u16,.i .u8,.i .u8,.i .u8,.i .u8,.i .u8,.i .u8,.i .u8] y0).toArray,.agg (a1.map (Value.int .u8)).toArray,.agg (a2.map (Value.int .u8)).toArray] w λe w'=>e=.returned (.bool true)/\Below w.heap.size w w':=
 (Go.Sh.pure_circatop_TopMarks 20000000 (y0.1,y0.2.1,y0.2.2.1,y0.2.2.2.1,y0.2.2.2.2.1,y0.2.2.2.2.2.1,y0.2.2.2.2.2.2.1,y0.2.2.2.2.2.2.2.1,y0.2.2.2.2.2.2.2.2.1,y0.2.2.2.2.2.2.2.2.2,a1,a2) true (Go.Sh.FB y0.2.1 ⟨Go.Sh.Aq w0.1,Go.Sh.RX w0.2.2.1,Go.Sh.Aq w0.2.2.2.1,Go.Sh.Aq w0.2.2.2.2.1,Go.Sh.Aq w0.2.2.2.2.2.1,Go.Sh.Aq w0.2.2.2.2.2.2.1,Go.Sh.Aq w0.2.2.2.2.2.2.2.1,Go.Sh.Aq w0.2.2.2.2.2.2.2.2.1,Go.Sh.Aq w0.2.2.2.2.2.2.2.2.2⟩ l1 l2 (λx hx=>(bounds_u8 (w1 x hx)).1) λx hx=>(bounds_u8 (w2 x hx)).1)).law
  ⟨_,_,rfl,⟨_,rfl,(Abs.kr _ [.i .u8,.bo,.i .u16,.i .u8,.i .u8,.i .u8,.i .u8,.i .u8,.i .u8,.i .u8] y0 _).2 rfl⟩,_,_,rfl,⟨l1,rfl⟩,_,_,rfl,⟨l2,rfl⟩,rfl⟩ hg
set_option maxRecDepth 100000 in
theorem lifted (os:Os) (started:os.Started) (H:Type) (enc:TypeId×Value->H):
  ReturnsInHanded {} Tryz.checked os 3 .any (λw args=>(Rows.topMarksSpec.pre enc Tryz.prog Tryz.f3 Rows.topMarksRow.domain false w args/\laidMetH Tryz.prog Rows.topMarksRow.laid w)/\sizedMet enc Tryz.prog Tryz.f3 (OpenSpec.ofChange Rows.topMarksSpec) false w args)
   (Rows.topMarksSpec.post enc Tryz.prog Tryz.f3 false true false false):=by
 refine returnsInHanded_of_change_and (C:=Tryz.checked) (X:=λw _=>laidMetH Tryz.prog Rows.topMarksRow.laid w) (λ_ _ _ hh h=>h.of_heap hh) own started (by kernel_rfl) Tryz.func3
  (ChangeSpec.witness_shaped (enc:=enc) (C:=Tryz.checked) (os:=os) (X:=λw _=>laidMetH Tryz.prog Rows.topMarksRow.laid w) false (World.laidAll Tryz.prog os Rows.topMarksRow.laid) #[.agg #[.int .u8 0,.bool false,.int .u16 0,.int .u8 0,.int .u8 0,.int .u8 0,.int .u8 0,.int .u8 0,.int .u8 0,.int .u8 0],.agg #[.int .u8 0,.int .u8 0,.int .u8 0],.agg #[.int .u8 0,.int .u8 0,.int .u8 0]] 8 (World.laidAll_os _ _ _)
   (World.shaped_of_ZipB (by kernel_rfl) (by kernel_rfl)) (by kernel_rfl) (by kernel_rfl) (by kernel_rfl)
   (by rw [MakeChecks.laidMetH_plain _ _ _ (by kernel_rfl)];exact laidMet_laidAll _ (by kernel_rfl) (by kernel_rfl))) ?_
 intro W base args ds gs before hval0 hW hcnd _ hL _
 have hval:∀(j:Nat) t v,Tryz.f3.params[j]?=some t->args[j]?=some v->Value.okWide Tryz.prog W .any base t v:=hval0
 have hW':=hW
 obtain ⟨p,q,hA0,hV,rfl,hfz,hnd⟩:=hW
 have hA:DataW.TrodAll enc Tryz.prog W 0 (λ_=>true) true Tryz.f3.params.toList args.toList ds p:=hA0
 rw [Tryz.params3] at hA hval
 obtain ⟨v0,vs0,d0,ds0,p0,q0,hargs,rfl,rfl,h0,r0⟩:=trodAll_cons hA
 obtain ⟨v1,vs1,d1,ds1,p1,q1,rfl,rfl,rfl,h1,r1⟩:=trodAll_cons r0
 obtain ⟨v2,vs2,d2,ds2,p2,q2,rfl,rfl,rfl,h2,r2⟩:=trodAll_cons r1
 obtain ⟨rfl,rfl,rfl⟩:=trodAll_nil r2
 obtain rfl:args=#[v0,v1,v2]:=by cases args;simp_all
 obtain ⟨rfl,rfl⟩:=trodVars_none hV
 have k0:=h0
 have lt0:∀x∈p0,x.block<W.heap.size:=by obtain ⟨m,hm⟩:=k0;exact DataW.trod_lt m _ _ _ hm
 obtain ⟨y0,e0,w0⟩:=Abs.Ju (tr:=[.i .u8,.bo,.i .u16,.i .u8,.i .u8,.i .u8,.i .u8,.i .u8,.i .u8,.i .u8]) (d:=12) (by kernel_rfl) (by kernel_rfl) h0
 obtain rfl:=Abs.yz Tryz.underlying28 (hval 0 28 v0 rfl rfl) e0
 have k1:=h1
 obtain ⟨a1,l1,rfl,rfl,w1⟩:=Abs.n6 Tryz.underlying26 Tryz.underlying5 (by kernel_rfl) (by kernel_rfl) (hval 1 26 v1 rfl rfl) h1
 have k2:=h2
 obtain ⟨a2,l2,rfl,rfl,w2⟩:=Abs.n6 Tryz.underlying26 Tryz.underlying5 (by kernel_rfl) (by kernel_rfl) (hval 2 26 v2 rfl rfl) h2
 clear hA0 hval0
 have hgl:Abs.GL Abs.fP W:=by
  have hL':=hL
  rw [MakeChecks.laidMetH_plain _ _ _ (by kernel_rfl)] at hL'
  exact Abs.Gv hL' (fY (show Rows.topMarksRow.laid[8]?=some ("circa/seasons.spans",Rows.laid_circa_seasons_spans) from rfl)) (fY (show Rows.topMarksRow.laid[7]?=some ("circa/months.lengths",Rows.laid_circa_months_lengths) from rfl)) (fY (show Rows.topMarksRow.laid[6]?=some ("circa/years.steps",Rows.laid_circa_years_steps) from rfl)) (fY (show Rows.topMarksRow.laid[5]?=some ("strconv.ErrSyntax",Rows.laid_strconv_ErrSyntax) from rfl)) (fY (show Rows.topMarksRow.laid[9]?=some ("unicode/utf8.first",Rows.laid_unicode_utf8_first) from rfl)) (fY (show Rows.topMarksRow.laid[3]?=some ("unicode/utf8.acceptRanges",Rows.laid_unicode_utf8_acceptRanges) from rfl))
 refine (walk y0 a1 a2 W w0 l1 w1 l2 w2 hgl).mono λe W' ⟨he,bel⟩=>?_
 subst he
 exact ⟨_,rfl,_,_,_,[],_,[],hW',trodAll_mk1 (shut_bool Tryz.underlying4 _),(trodAll_cons_mk (Below.trod Bd (by kernel_rfl) (xL (by kernel_rfl)) k0 bel lt0) (trodAll_cons_mk (Below.trod Bd (by kernel_rfl) (xL (by kernel_rfl)) k1 bel (λ_ h=>by cases h)) (trodAll_cons_mk (Below.trod Bd (by kernel_rfl) (xL (by kernel_rfl)) k2 bel (λ_ h=>by cases h)) trodAll_mk0))),rfl,bel.frame _,λh=>by cases h⟩
end Go.Proofs.YtaogbalpingjhaaGreatDoor.topMarks
