/-
  ExprsCheck: the frame of its proof, printed by frame.py after the kit's skeleton; the walk is a certificate and a plain law.
  Conditions: none.
-/
import Derived.Test.YtlampgohpnchdaaGreatDoorRows
import Derived.WalkKit
import Derived.ProofKit
import Derived.OpenShut
import Derived.ShutString
import Derived.ChangeOld
import Derived.Below
import Derived.Carry
import Derived.Lay
import Derived.LaidMore
import Derived.SevenTiedAt
import Derived.Stop.Joined
import Derived.Test.YtlampgohpnchdaaGreatDoorTie
import Derived.Test.YtlampgohpnchdaaGreatDoorCards
import Derived.Test.YtlampgohpnchdaaGreatDoorCeE
import Derived.Test.YtlampgohpnchdaaGreatDoorLawEzb
import Derived.Test.YtlampgohpnchdaaGreatDoorHGl
import Derived.Test.YtlampgohpnchdaaGreatDoorAbsS
import Derived.Test.YtlampgohpnchdaaGreatDoorAbsY
import Derived.Test.YtlampgohpnchdaaGreatDoorAbsZ
import Derived.Test.YtlampgohpnchdaaGreatDoorAbsZE
namespace Go.Proofs.YtlampgohpnchdaaGreatDoor.exprsCheck
open Go.ChangeShapes Go.WideShapes Go.ChangeAt Go.RowKit
open Go.ChangeMaps (open_string shut_string)
set_option linter.unusedVariables false
theorem own:ownKnob Tryz.prog.godebug=none:=by kernel_rfl
theorem zD:laidOutB Tryz.prog=true:=by kernel_rfl
theorem walk (a0:Int) (x0:Value) (l0:List (Abs.den [.i .u8,.bo,.i .u16,.i .u8,.i .u8,.i .u8,.i .u8,.i .u8,.i .u8,.i .u8,.i .u8,.i .u8,.bo,.i .u16,.i .u8,.i .u8,.i .u8,.i .u8,.i .u8,.i .u8,.i .u8])) (ρ0:Option Abs.Rf) (b0 c0 g0:Int) (x1:Value) (l1:List (Abs.den [.i .u8,.i .u8,.bo,.bo,.s,.i .i64,.i .i64,.s,.s,.i .u8,.i .u8,.i .u8])) (ρ1:Option Abs.Rf) (w:World) (wa0:(Lit.int .u8 a0).wf=true) (wb0:(Lit.int .u8 b0).wf=true) (wc0:(Lit.int .u8 c0).wf=true) (wg0:(Lit.int .u8 g0).wf=true) (w0:∀y∈l0,Abs.kE [.i .u8,.bo,.i .u16,.i .u8,.i .u8,.i .u8,.i .u8,.i .u8,.i .u8,.i .u8,.i .u8,.i .u8,.bo,.i .u16,.i .u8,.i .u8,.i .u8,.i .u8,.i .u8,.i .u8,.i .u8] y) (m0:l0.length<=maxLen) (z0:Abs.mV w x0 [.i .u8,.bo,.i .u16,.i .u8,.i .u8,.i .u8,.i .u8,.i .u8,.i .u8,.i .u8,.i .u8,.i .u8,.bo,.i .u16,.i .u8,.i .u8,.i .u8,.i .u8,.i .u8,.i .u8,.i .u8] l0 ρ0) (w1:∀y∈l1,Abs.kE [.i .u8,.i .u8,.bo,.bo,.s,.i .i64,.i .i64,.s,.s,.i .u8,.i .u8,.i .u8] y) (m1:l1.length<=maxLen) (z1:Abs.mV w x1 [.i .u8,.i .u8,.bo,.bo,.s,.i .i64,.i .i64,.s,.s,.i .u8,.i .u8,.i .u8] l1 ρ1) (hg:Abs.GL Abs.fI w):
  Calls Tryz.prog 4 #[.agg #[.int .u8 a0,x0,.int .u8 b0,.int .u8 c0,.int .u8 g0],x1] w λe w'=>e=.returned (.bool true)/\Below w.heap.size w w':=
 Go.Abs.ru.law ((Go.Sh.c4 20000000).ok (a0,b0,c0,g0,l0,l1) true (Go.Sh.qY (Go.Sh.iy wa0) (Go.Sh.iy wb0) (Go.Sh.iy wc0) (Go.Sh.iy wg0) (λy hy=>Go.Sh.ET (w0 y hy)) (λy hy=>Go.Sh.FM (w1 y hy)))) rfl rfl (ι0:=Abs.oW [ρ0,ρ1]) (Abs.Ev z0 z1)
  ⟨_,_,rfl,⟨#[.int .u8 a0,x0,.int .u8 b0,.int .u8 c0,.int .u8 g0],rfl,⟨_,_,rfl,rfl,_,_,rfl,z0.vr rfl,_,_,rfl,rfl,_,_,rfl,rfl,_,_,rfl,rfl,rfl⟩⟩,_,_,rfl,z1.vr rfl,rfl⟩
set_option maxRecDepth 100000 in
theorem lifted (os:Os) (started:os.Started) (H:Type) (enc:TypeId×Value->H):
  ReturnsInHanded {} Tryz.checked os 4 .any (λw args=>(Rows.exprsCheckSpec.pre enc Tryz.prog Tryz.f4 Rows.exprsCheckRow.domain false w args/\laidMetH Tryz.prog Rows.exprsCheckRow.laid w)/\sizedMet enc Tryz.prog Tryz.f4 (OpenSpec.ofChange Rows.exprsCheckSpec) false w args)
   (Rows.exprsCheckSpec.post enc Tryz.prog Tryz.f4 false true false false):=by
 refine returnsInHanded_of_change_and (C:=Tryz.checked) (X:=λw _=>laidMetH Tryz.prog Rows.exprsCheckRow.laid w) (λ_ _ _ hh h=>h.of_heap hh) own started (by kernel_rfl) Tryz.func4
  (ChangeSpec.witness_shaped (enc:=enc) (C:=Tryz.checked) (os:=os) (X:=λw _=>laidMetH Tryz.prog Rows.exprsCheckRow.laid w) false (World.laidAll Tryz.prog os Rows.exprsCheckRow.laid) #[.agg #[.int .u8 0,.slice none 0 0,.int .u8 0,.int .u8 0,.int .u8 0],.slice none 0 0] 8 (World.laidAll_os _ _ _)
   (World.shaped_of_ZipB (by kernel_rfl) (by kernel_rfl)) (by kernel_rfl) (by kernel_rfl) (by kernel_rfl)
   (by rw [MakeChecks.laidMetH_plain _ _ _ (by kernel_rfl)];exact laidMet_laidAll _ (by kernel_rfl) (by kernel_rfl))) ?_
 intro W base args ds gs before hval0 hW hcnd _ hL _
 have hval:∀(j:Nat) t v,Tryz.f4.params[j]?=some t->args[j]?=some v->Value.okWide Tryz.prog W .any base t v:=hval0
 have hW':=hW
 obtain ⟨p,q,hA0,hV,rfl,hfz,hnd⟩:=hW
 have hA:DataW.TrodAll enc Tryz.prog W 0 (λ_=>true) true Tryz.f4.params.toList args.toList ds p:=hA0
 rw [Tryz.params4] at hA hval
 obtain ⟨v0,vs0,d0,ds0,p0,q0,hargs,rfl,rfl,h0,r0⟩:=trodAll_cons hA
 obtain ⟨v1,vs1,d1,ds1,p1,q1,rfl,rfl,rfl,h1,r1⟩:=trodAll_cons r0
 obtain ⟨rfl,rfl,rfl⟩:=trodAll_nil r1
 obtain rfl:args=#[v0,v1]:=by cases args;simp_all
 obtain ⟨rfl,rfl⟩:=trodVars_none hV
 have k0:=h0
 have lt0:∀x∈p0,x.block<W.heap.size:=by obtain ⟨m,hm⟩:=k0;exact DataW.trod_lt m _ _ _ hm
 obtain ⟨a0,x0,l0,ρ0,b0,c0,g0,rfl,wa0,wb0,wc0,wg0,w0,m0,z0⟩:=Abs.A6 (tr:=[.i .u8,.bo,.i .u16,.i .u8,.i .u8,.i .u8,.i .u8,.i .u8,.i .u8,.i .u8,.i .u8,.i .u8,.bo,.i .u16,.i .u8,.i .u8,.i .u8,.i .u8,.i .u8,.i .u8,.i .u8]) (d:=12) (k2:=.u8) (k3:=.u8) Tryz.underlying25 Tryz.underlying5 Tryz.underlying22 (by kernel_rfl) (by kernel_rfl) Tryz.underlying5 (by kernel_rfl) (by kernel_rfl) (by kernel_rfl) (by kernel_rfl) (by kernel_rfl) (by decide) (hval 0 25 v0 rfl rfl) h0
 have k1:=h1
 have lt1:∀x∈p1,x.block<W.heap.size:=by obtain ⟨m,hm⟩:=k1;exact DataW.trod_lt m _ _ _ hm
 obtain ⟨l1,ρ1,w1,m1,z1⟩:=Abs.qS (tr:=[.i .u8,.i .u8,.bo,.bo,.s,.i .i64,.i .i64,.s,.s,.i .u8,.i .u8,.i .u8]) (d:=12) Tryz.underlying44 (by kernel_rfl) (by kernel_rfl) (by kernel_rfl) (by decide) (Abs.sA Tryz.underlying44 (hval 1 44 v1 rfl rfl)) h1
 clear hA0 hval0
 have hgl:Abs.GL Abs.fI W:=by
  have hL':=hL
  rw [MakeChecks.laidMetH_plain _ _ _ (by kernel_rfl)] at hL'
  exact Abs.xe hL' (List.mem_of_getElem? (show Rows.exprsCheckRow.laid[8]?=some ("circa/seasons.spans",Rows.laid_circa_seasons_spans) from rfl)) (List.mem_of_getElem? (show Rows.exprsCheckRow.laid[7]?=some ("circa/months.lengths",Rows.laid_circa_months_lengths) from rfl)) (List.mem_of_getElem? (show Rows.exprsCheckRow.laid[6]?=some ("circa/years.steps",Rows.laid_circa_years_steps) from rfl)) (List.mem_of_getElem? (show Rows.exprsCheckRow.laid[5]?=some ("strconv.ErrSyntax",Rows.laid_strconv_ErrSyntax) from rfl))
 refine (walk a0 x0 l0 ρ0 b0 c0 g0 v1 l1 ρ1 W wa0 wb0 wc0 wg0 w0 m0 z0 w1 m1 z1 hgl).mono λe W' ⟨he,bel⟩=>?_
 subst he
 exact ⟨_,rfl,_,_,_,[],_,[],hW',trodAll_mk1 (shut_bool Tryz.underlying4 _),(trodAll_cons_mk (Below.trod zD (by kernel_rfl) (of_decide_eq_true (by kernel_rfl)) k0 bel lt0) (trodAll_cons_mk (Below.trod zD (by kernel_rfl) (of_decide_eq_true (by kernel_rfl)) k1 bel lt1) trodAll_mk0)),rfl,bel.frame _,λh=>by cases h⟩
end Go.Proofs.YtlampgohpnchdaaGreatDoor.exprsCheck
