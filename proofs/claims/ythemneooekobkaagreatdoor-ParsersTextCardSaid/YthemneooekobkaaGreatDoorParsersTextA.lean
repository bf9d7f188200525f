/-
  ParsersText: the frame of its proof, printed by frame.py after the kit's skeleton; the walk is a certificate and a plain law.
  Conditions: none.
-/
import Derived.ProofKit
import Derived.ShutString
import Derived.ChangeOld
import Derived.Carry
import Derived.SevenTiedAt
import Derived.Stop.Joined
import Derived.Test.YthemneooekobkaaGreatDoorTie
import Derived.Test.YthemneooekobkaaGreatDoorCards
import Derived.Test.YthemneooekobkaaGreatDoorCePb
import Derived.Test.YthemneooekobkaaGreatDoorLawPzd
import Derived.Test.YthemneooekobkaaGreatDoorHGl
import Derived.Test.YthemneooekobkaaGreatDoorAbsZE
set_option linter.unusedSimpArgs false
namespace Go.Proofs.YthemneooekobkaaGreatDoor.parsersText
open Go.ChangeShapes Go.WideShapes Go.ChangeAt Go.RowKit
open Go.ChangeMaps (open_string shut_string)
set_option linter.unusedVariables false
theorem own:ownKnob Tryz.prog.godebug=none:=by kernel_rfl
theorem UU:laidOutB Tryz.prog=true:=by kernel_rfl
theorem walk (a0:Int) (x0:Value) (l0:List (Abs.den [.i .u8,.bo,.i .u16,.i .u8,.i .u8,.i .u8,.i .u8,.i .u8,.i .u8,.i .u8,.i .u8,.i .u8,.bo,.i .u16,.i .u8,.i .u8,.i .u8,.i .u8,.i .u8,.i .u8,.i .u8])) (ρ0:Option Abs.Rf) (b0 c0 g0:Int) (w:World) (wa0:(Lit.int .u8 a0).wf=true) (wb0:(Lit.int .u8 b0).wf=true) (wc0:(Lit.int .u8 c0).wf=true) (wg0:(Lit.int .u8 g0).wf=true) (w0:∀y∈l0,Abs.tg [.i .u8,.bo,.i .u16,.i .u8,.i .u8,.i .u8,.i .u8,.i .u8,.i .u8,.i .u8,.i .u8,.i .u8,.bo,.i .u16,.i .u8,.i .u8,.i .u8,.i .u8,.i .u8,.i .u8,.i .u8] y) (m0:l0.length<=maxLen) (z0:Abs.zj w x0 [.i .u8,.bo,.i .u16,.i .u8,.i .u8,.i .u8,.i .u8,.i .u8,.i .u8,.i .u8,.i .u8,.i .u8,.bo,.i .u16,.i .u8,.i .u8,.i .u8,.i .u8,.i .u8,.i .u8,.i .u8] l0 ρ0) (hg:Abs.GL Abs.jI w):
  Calls Tryz.prog 4 #[.agg #[.int .u8 a0,x0,.int .u8 b0,.int .u8 c0,.int .u8 g0]] w λe w'=>e=.returned (.bool true)/\Below w.heap.size w w':=
 Go.Abs.BM.law ((Go.Sh.c4 20000000).ok (a0,b0,c0,g0,l0) true (Go.Sh.ze (Go.Sh.pL wa0) (Go.Sh.pL wb0) (Go.Sh.pL wc0) (Go.Sh.pL wg0) (λy hy=>Go.Sh.Xb (w0 y hy)))) rfl rfl (ι0:=Abs.xc [ρ0]) (Abs.XG z0)
  ⟨_,_,rfl,⟨#[.int .u8 a0,x0,.int .u8 b0,.int .u8 c0,.int .u8 g0],rfl,⟨_,_,rfl,rfl,_,_,rfl,z0.vr rfl,_,_,rfl,rfl,_,_,rfl,rfl,_,_,rfl,rfl,rfl⟩⟩,rfl⟩
set_option maxRecDepth 100000 in
theorem lifted (os:Os) (started:os.Started) (H:Type) (enc:TypeId×Value->H):
  ReturnsInHanded {} Tryz.checked os 4 .any (λw args=>(Rows.parsersTextSpec.pre enc Tryz.prog Tryz.f4 Rows.parsersTextRow.domain false w args/\laidMetH Tryz.prog Rows.parsersTextRow.laid w)/\sizedMet enc Tryz.prog Tryz.f4 (OpenSpec.ofChange Rows.parsersTextSpec) false w args)
   (Rows.parsersTextSpec.post enc Tryz.prog Tryz.f4 false true false false):=by
 refine returnsInHanded_of_change_and (C:=Tryz.checked) (X:=λw _=>laidMetH Tryz.prog Rows.parsersTextRow.laid w) (λ_ _ _ hh h=>h.of_heap hh) own started (by kernel_rfl) Tryz.func4
  (ChangeSpec.witness_shaped (enc:=enc) (C:=Tryz.checked) (os:=os) (X:=λw _=>laidMetH Tryz.prog Rows.parsersTextRow.laid w) false (World.laidAll Tryz.prog os Rows.parsersTextRow.laid) #[.agg #[.int .u8 0,.slice none 0 0,.int .u8 0,.int .u8 0,.int .u8 0]] 8 (World.laidAll_os _ _ _)
   (World.shaped_of_ZipB (by kernel_rfl) (by kernel_rfl)) (by kernel_rfl) (by kernel_rfl) (by kernel_rfl)
   (by rw [MakeChecks.laidMetH_plain _ _ _ (by kernel_rfl)];exact laidMet_laidAll _ (by kernel_rfl) (by kernel_rfl))) ?_
 intro W base args ds gs before hval0 hW hcnd _ hL _
 have hval:∀(j:Nat) t v,Tryz.f4.params[j]?=some t->args[j]?=some v->Value.okWide Tryz.prog W .any base t v:=hval0
 have hW':=hW
 obtain ⟨p,q,hA0,hV,rfl,hfz,hnd⟩:=hW
 have hA:DataW.TrodAll enc Tryz.prog W 0 (λ_=>true) true Tryz.f4.params.toList args.toList ds p:=hA0
 rw [Tryz.params4] at hA hval
 obtain ⟨v0,vs0,d0,ds0,p0,q0,hargs,rfl,rfl,h0,r0⟩:=trodAll_cons hA
 obtain ⟨rfl,rfl,rfl⟩:=trodAll_nil r0
 obtain rfl:args=#[v0]:=by cases args;simp_all
 obtain ⟨rfl,rfl⟩:=trodVars_none hV
 have k0:=h0
 have lt0:∀x∈p0,x.block<W.heap.size:=by obtain ⟨m,hm⟩:=k0;exact DataW.trod_lt m _ _ _ hm
 obtain ⟨a0,x0,l0,ρ0,b0,c0,g0,rfl,wa0,wb0,wc0,wg0,w0,m0,z0⟩:=Abs.PQ (tr:=[.i .u8,.bo,.i .u16,.i .u8,.i .u8,.i .u8,.i .u8,.i .u8,.i .u8,.i .u8,.i .u8,.i .u8,.bo,.i .u16,.i .u8,.i .u8,.i .u8,.i .u8,.i .u8,.i .u8,.i .u8]) (d:=12) (k2:=.u8) (k3:=.u8) Tryz.underlying53 Tryz.underlying5 Tryz.underlying51 (by kernel_rfl) (by kernel_rfl) Tryz.underlying5 (by kernel_rfl) (by kernel_rfl) (by kernel_rfl) (by kernel_rfl) (by kernel_rfl) (by decide) (hval 0 53 v0 rfl rfl) h0
 clear hA0 hval0
 have hgl:Abs.GL Abs.jI W:=by
  have hL':=hL
  rw [MakeChecks.laidMetH_plain _ _ _ (by kernel_rfl)] at hL'
  exact Abs.JF hL' (eW (show Rows.parsersTextRow.laid[8]?=some ("circa/seasons.spans",Rows.laid_circa_seasons_spans) from rfl)) (eW (show Rows.parsersTextRow.laid[7]?=some ("circa/months.lengths",Rows.laid_circa_months_lengths) from rfl)) (eW (show Rows.parsersTextRow.laid[6]?=some ("circa/years.steps",Rows.laid_circa_years_steps) from rfl)) (eW (show Rows.parsersTextRow.laid[5]?=some ("strconv.ErrSyntax",Rows.laid_strconv_ErrSyntax) from rfl)) (eW (show Rows.parsersTextRow.laid[9]?=some ("unicode/utf8.first",Rows.laid_unicode_utf8_first) from rfl)) (eW (show Rows.parsersTextRow.laid[3]?=some ("unicode/utf8.acceptRanges",Rows.laid_unicode_utf8_acceptRanges) from rfl))
 refine (walk a0 x0 l0 ρ0 b0 c0 g0 W wa0 wb0 wc0 wg0 w0 m0 z0 hgl).mono λe W' ⟨he,bel⟩=>?_
 subst he
 exact ⟨_,rfl,_,_,_,[],_,[],hW',trodAll_mk1 (shut_bool Tryz.underlying4 _),(trodAll_cons_mk (Below.trod UU (by kernel_rfl) (of_decide_eq_true (by kernel_rfl)) k0 bel lt0) trodAll_mk0),rfl,bel.frame _,λh=>by cases h⟩
end Go.Proofs.YthemneooekobkaaGreatDoor.parsersText
