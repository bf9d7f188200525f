/-
  PrintersAlike: the frame of its proof, printed by frame.py after the kit's skeleton; the walk is a certificate and a plain law.
  Conditions: none.
-/
import Derived.ProofKit
import Derived.ShutString
import Derived.ChangeOld
import Derived.Carry
import Derived.SevenTiedAt
import Derived.Stop.Joined
import Derived.Test.YtibehcmomiplnaaGreatDoorTie
import Derived.Test.YtibehcmomiplnaaGreatDoorCards
import Derived.Test.YtibehcmomiplnaaGreatDoorCeRb
import Derived.Test.YtibehcmomiplnaaGreatDoorLawSrc
import Derived.Test.YtibehcmomiplnaaGreatDoorHGl
import Derived.Test.YtibehcmomiplnaaGreatDoorAbsZE
set_option linter.unusedSimpArgs false
namespace Go.Proofs.YtibehcmomiplnaaGreatDoor.printersAlike
open Go.ChangeShapes Go.WideShapes Go.ChangeAt Go.RowKit
open Go.ChangeMaps (open_string shut_string)
set_option linter.unusedVariables false
theorem own:ownKnob Tryz.prog.godebug=none:=by kernel_rfl
theorem MQ:laidOutB Tryz.prog=true:=by kernel_rfl
theorem walk (a0:Int) (x0:Value) (l0:List (Abs.den [.i .u8,.bo,.i .u16,.i .u8,.i .u8,.i .u8,.i .u8,.i .u8,.i .u8,.i .u8,.i .u8,.i .u8,.bo,.i .u16,.i .u8,.i .u8,.i .u8,.i .u8,.i .u8,.i .u8,.i .u8])) (ρ0:Option Abs.Rf) (b0 c0 g0:Int) (a1:Int) (x1:Value) (l1:List (Abs.den [.i .u8,.bo,.i .u16,.i .u8,.i .u8,.i .u8,.i .u8,.i .u8,.i .u8,.i .u8,.i .u8,.i .u8,.bo,.i .u16,.i .u8,.i .u8,.i .u8,.i .u8,.i .u8,.i .u8,.i .u8])) (ρ1:Option Abs.Rf) (b1 c1 g1:Int) (a2:Int) (w:World) (wa0:(Lit.int .u8 a0).wf=true) (wb0:(Lit.int .u8 b0).wf=true) (wc0:(Lit.int .u8 c0).wf=true) (wg0:(Lit.int .u8 g0).wf=true) (w0:∀y∈l0,Abs.sW [.i .u8,.bo,.i .u16,.i .u8,.i .u8,.i .u8,.i .u8,.i .u8,.i .u8,.i .u8,.i .u8,.i .u8,.bo,.i .u16,.i .u8,.i .u8,.i .u8,.i .u8,.i .u8,.i .u8,.i .u8] y) (m0:l0.length<=maxLen) (z0:Abs.wt w x0 [.i .u8,.bo,.i .u16,.i .u8,.i .u8,.i .u8,.i .u8,.i .u8,.i .u8,.i .u8,.i .u8,.i .u8,.bo,.i .u16,.i .u8,.i .u8,.i .u8,.i .u8,.i .u8,.i .u8,.i .u8] l0 ρ0) (wa1:(Lit.int .u8 a1).wf=true) (wb1:(Lit.int .u8 b1).wf=true) (wc1:(Lit.int .u8 c1).wf=true) (wg1:(Lit.int .u8 g1).wf=true) (w1:∀y∈l1,Abs.sW [.i .u8,.bo,.i .u16,.i .u8,.i .u8,.i .u8,.i .u8,.i .u8,.i .u8,.i .u8,.i .u8,.i .u8,.bo,.i .u16,.i .u8,.i .u8,.i .u8,.i .u8,.i .u8,.i .u8,.i .u8] y) (m1:l1.length<=maxLen) (z1:Abs.wt w x1 [.i .u8,.bo,.i .u16,.i .u8,.i .u8,.i .u8,.i .u8,.i .u8,.i .u8,.i .u8,.i .u8,.i .u8,.bo,.i .u16,.i .u8,.i .u8,.i .u8,.i .u8,.i .u8,.i .u8,.i .u8] l1 ρ1) (w2:(Lit.int .u8 a2).wf=true) (hg:Abs.GL Abs.gX w):
  Calls Tryz.prog 3 #[.agg #[.int .u8 a0,x0,.int .u8 b0,.int .u8 c0,.int .u8 g0],.agg #[.int .u8 a1,x1,.int .u8 b1,.int .u8 c1,.int .u8 g1],.int .u8 a2] w λe w'=>e=.returned (.bool true)/\Below w.heap.size w w':=
 Go.Abs.BI.law ((Go.Sh.c3 20000000).ok (a0,b0,c0,g0,a1,b1,c1,g1,a2,l0,l1) true (Go.Sh.wq (Go.Sh.nU wa0) (Go.Sh.nU wb0) (Go.Sh.nU wc0) (Go.Sh.nU wg0) (Go.Sh.nU wa1) (Go.Sh.nU wb1) (Go.Sh.nU wc1) (Go.Sh.nU wg1) a2 (λy hy=>Go.Sh.SO (w0 y hy)) (λy hy=>Go.Sh.SO (w1 y hy)))) rfl rfl (ι0:=Abs.yO [ρ0,ρ1]) (Abs.VZ z0 z1)
  ⟨_,_,rfl,⟨#[.int .u8 a0,x0,.int .u8 b0,.int .u8 c0,.int .u8 g0],rfl,⟨_,_,rfl,rfl,_,_,rfl,z0.vr rfl,_,_,rfl,rfl,_,_,rfl,rfl,_,_,rfl,rfl,rfl⟩⟩,_,_,rfl,⟨#[.int .u8 a1,x1,.int .u8 b1,.int .u8 c1,.int .u8 g1],rfl,⟨_,_,rfl,rfl,_,_,rfl,z1.vr rfl,_,_,rfl,rfl,_,_,rfl,rfl,_,_,rfl,rfl,rfl⟩⟩,_,_,rfl,rfl,rfl⟩
set_option maxRecDepth 100000 in
theorem lifted (os:Os) (started:os.Started) (H:Type) (enc:TypeId×Value->H):
  ReturnsInHanded {} Tryz.checked os 3 .any (λw args=>(Rows.printersAlikeSpec.pre enc Tryz.prog Tryz.f3 Rows.printersAlikeRow.domain false w args/\laidMetH Tryz.prog Rows.printersAlikeRow.laid w)/\sizedMet enc Tryz.prog Tryz.f3 (OpenSpec.ofChange Rows.printersAlikeSpec) false w args)
   (Rows.printersAlikeSpec.post enc Tryz.prog Tryz.f3 false true false false):=by
 refine returnsInHanded_of_change_and (C:=Tryz.checked) (X:=λw _=>laidMetH Tryz.prog Rows.printersAlikeRow.laid w) (λ_ _ _ hh h=>h.of_heap hh) own started (by kernel_rfl) Tryz.func3
  (ChangeSpec.witness_shaped (enc:=enc) (C:=Tryz.checked) (os:=os) (X:=λw _=>laidMetH Tryz.prog Rows.printersAlikeRow.laid w) false (World.laidAll Tryz.prog os Rows.printersAlikeRow.laid) #[.agg #[.int .u8 0,.slice none 0 0,.int .u8 0,.int .u8 0,.int .u8 0],.agg #[.int .u8 0,.slice none 0 0,.int .u8 0,.int .u8 0,.int .u8 0],.int .u8 0] 8 (World.laidAll_os _ _ _)
   (World.shaped_of_ZipB (by kernel_rfl) (by kernel_rfl)) (by kernel_rfl) (by kernel_rfl) (by kernel_rfl)
   (by rw [MakeChecks.laidMetH_plain _ _ _ (by kernel_rfl)];exact laidMet_laidAll _ (by kernel_rfl) (by kernel_rfl))) ?_
 intro W base args ds gs before hval0 hW hcnd _ hL _
 have hval:∀(j:Nat) t v,Tryz.f3.params[j]?=some t->args[j]?=some v->Value.okWide Tryz.prog W .any base t v:=hval0
 have hW':=hW
 obtain ⟨p,q,hA0,hV,rfl,hfz,hnd⟩:=hW
 have hA:DataW.TrodAll enc Tryz.prog W 0 (λ_=>true) true Tryz.f3.params.toList args.toList ds p:=hA0
 rw [Tryz.params3] at hA hval
 obtain ⟨v0,vs0,d0,ds0,p0,q0,hargs,rfl,rfl,h0,r0⟩:=trodAll_cons hA
 obtain ⟨v1,vs1,d1,ds1,p1,q1,rfl,rfl,rfl,h1,r1⟩:=trodAll_cons r0
 obtain ⟨v2,vs2,d2,ds2,p2,q2,rfl,rfl,rfl,h2,r2⟩:=trodAll_cons r1
 obtain ⟨rfl,rfl,rfl⟩:=trodAll_nil r2
 obtain rfl:args=#[v0,v1,v2]:=by cases args;simp_all
 obtain ⟨rfl,rfl⟩:=trodVars_none hV
 have k0:=h0
 have lt0:∀x∈p0,x.block<W.heap.size:=by obtain ⟨m,hm⟩:=k0;exact DataW.trod_lt m _ _ _ hm
 obtain ⟨a0,x0,l0,ρ0,b0,c0,g0,rfl,wa0,wb0,wc0,wg0,w0,m0,z0⟩:=Abs.IS (tr:=[.i .u8,.bo,.i .u16,.i .u8,.i .u8,.i .u8,.i .u8,.i .u8,.i .u8,.i .u8,.i .u8,.i .u8,.bo,.i .u16,.i .u8,.i .u8,.i .u8,.i .u8,.i .u8,.i .u8,.i .u8]) (d:=12) (k2:=.u8) (k3:=.u8) Tryz.underlying25 Tryz.underlying5 Tryz.underlying22 (by kernel_rfl) (by kernel_rfl) Tryz.underlying5 (by kernel_rfl) (by kernel_rfl) (by kernel_rfl) (by kernel_rfl) (by kernel_rfl) (by decide) (hval 0 25 v0 rfl rfl) h0
 have k1:=h1
 have lt1:∀x∈p1,x.block<W.heap.size:=by obtain ⟨m,hm⟩:=k1;exact DataW.trod_lt m _ _ _ hm
 obtain ⟨a1,x1,l1,ρ1,b1,c1,g1,rfl,wa1,wb1,wc1,wg1,w1,m1,z1⟩:=Abs.IS (tr:=[.i .u8,.bo,.i .u16,.i .u8,.i .u8,.i .u8,.i .u8,.i .u8,.i .u8,.i .u8,.i .u8,.i .u8,.bo,.i .u16,.i .u8,.i .u8,.i .u8,.i .u8,.i .u8,.i .u8,.i .u8]) (d:=12) (k2:=.u8) (k3:=.u8) Tryz.underlying25 Tryz.underlying5 Tryz.underlying22 (by kernel_rfl) (by kernel_rfl) Tryz.underlying5 (by kernel_rfl) (by kernel_rfl) (by kernel_rfl) (by kernel_rfl) (by kernel_rfl) (by decide) (hval 1 25 v1 rfl rfl) h1
 obtain ⟨a2,rfl,rfl,rfl,w2⟩:=open_int Tryz.underlying5 (hval 2 5 v2 rfl rfl) h2
 clear hA0 hval0
 have hgl:Abs.GL Abs.gX W:=by
  have hL':=hL
  rw [MakeChecks.laidMetH_plain _ _ _ (by kernel_rfl)] at hL'
  exact Abs.Kw hL' (fh (show Rows.printersAlikeRow.laid[8]?=some ("circa/seasons.spans",Rows.laid_circa_seasons_spans) from rfl)) (fh (show Rows.printersAlikeRow.laid[7]?=some ("circa/months.lengths",Rows.laid_circa_months_lengths) from rfl)) (fh (show Rows.printersAlikeRow.laid[6]?=some ("circa/years.steps",Rows.laid_circa_years_steps) from rfl)) (fh (show Rows.printersAlikeRow.laid[5]?=some ("strconv.ErrSyntax",Rows.laid_strconv_ErrSyntax) from rfl)) (fh (show Rows.printersAlikeRow.laid[9]?=some ("unicode/utf8.first",Rows.laid_unicode_utf8_first) from rfl)) (fh (show Rows.printersAlikeRow.laid[3]?=some ("unicode/utf8.acceptRanges",Rows.laid_unicode_utf8_acceptRanges) from rfl))
 refine (walk a0 x0 l0 ρ0 b0 c0 g0 a1 x1 l1 ρ1 b1 c1 g1 a2 W wa0 wb0 wc0 wg0 w0 m0 z0 wa1 wb1 wc1 wg1 w1 m1 z1 w2 hgl).mono λe W' ⟨he,bel⟩=>?_
 subst he
 exact ⟨_,rfl,_,_,_,[],_,[],hW',trodAll_mk1 (shut_bool Tryz.underlying4 _),(trodAll_cons_mk (Below.trod MQ (by kernel_rfl) (GM (by kernel_rfl)) k0 bel lt0) (trodAll_cons_mk (Below.trod MQ (by kernel_rfl) (GM (by kernel_rfl)) k1 bel lt1) (trodAll_cons_mk (shut_int Tryz.underlying5 w2) trodAll_mk0))),rfl,bel.frame _,λh=>by cases h⟩
end Go.Proofs.YtibehcmomiplnaaGreatDoor.printersAlike
