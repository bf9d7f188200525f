/-
  LevelsDate: the frame of its proof, printed by frame.py after the kit's skeleton; the walk is a certificate and a plain law.
  Conditions: none.
-/
import Derived.ProofKit
import Derived.ShutString
import Derived.ChangeOld
import Derived.Carry
import Derived.SevenTiedAt
import Derived.Stop.Joined
import Derived.Test.YthemneooekobkabGreatDoorTie
import Derived.Test.YthemneooekobkabGreatDoorCards
import Derived.Test.YthemneooekobkabGreatDoorCeQb
import Derived.Test.YthemneooekobkabGreatDoorLawQzd
import Derived.Test.YthemneooekobkabGreatDoorHGl
import Derived.Test.YthemneooekobkabGreatDoorAbsZE
set_option linter.unusedSimpArgs false
namespace Go.Proofs.YthemneooekobkabGreatDoor.levelsDate
open Go.ChangeShapes Go.WideShapes Go.ChangeAt Go.RowKit
open Go.ChangeMaps (open_string shut_string)
set_option linter.unusedVariables false
theorem own:ownKnob Tryz.prog.godebug=none:=by kernel_rfl
theorem K5:laidOutB Tryz.prog=true:=by kernel_rfl
theorem walk (y0:Abs.den [.i .u8,.bo,.i .u16,.i .u8,.i .u8,.i .u8,.i .u8,.i .u8,.i .u8,.i .u8]) (y1:Abs.den [.bo,.bo,.s,.i .i64,.i .i64,.s,.s,.i .u8,.i .u8,.i .u8]) (a2:Int) (w:World) (w0:Abs.vP [.i .u8,.bo,.i .u16,.i .u8,.i .u8,.i .u8,.i .u8,.i .u8,.i .u8,.i .u8] y0) (w1:Abs.vP [.bo,.bo,.s,.i .i64,.i .i64,.s,.s,.i .u8,.i .u8,.i .u8] y1) (w2:(Lit.int .u8 a2).wf=true) (hg:Abs.GL Abs.gY w):
  Calls Tryz.prog 5 #[.agg (Abs.vals [.i .u8,.bo,.i .u16,.i .u8,.i .u8,.i .u8,.i .u8,.i .u8,.i .u8,.i .u8] y0).toArray,.agg (Abs.vals [.bo,.bo,.s,.i .i64,.i .i64,.s,.s,.i .u8,.i .u8,.i .u8] y1).toArray,.int .u8 a2] w λe w'=>e=.returned (.bool true)/\Below w.heap.size w w':=
 (Go.Sh.pure_circalaw22_LevelsDate 20000000 (y0.1,y0.2.1,y0.2.2.1,y0.2.2.2.1,y0.2.2.2.2.1,y0.2.2.2.2.2.1,y0.2.2.2.2.2.2.1,y0.2.2.2.2.2.2.2.1,y0.2.2.2.2.2.2.2.2.1,y0.2.2.2.2.2.2.2.2.2,(y1.1,y1.2.1,y1.2.2.1,y1.2.2.2.1,y1.2.2.2.2.1,y1.2.2.2.2.2.1,y1.2.2.2.2.2.2.1,y1.2.2.2.2.2.2.2.1,y1.2.2.2.2.2.2.2.2.1,y1.2.2.2.2.2.2.2.2.2),a2) true (Go.Sh.Bc y0.2.1 ⟨Go.Sh.yV w0.1,Go.Sh.VH w0.2.2.1,Go.Sh.yV w0.2.2.2.1,Go.Sh.yV w0.2.2.2.2.1,Go.Sh.yV w0.2.2.2.2.2.1,Go.Sh.yV w0.2.2.2.2.2.2.1,Go.Sh.yV w0.2.2.2.2.2.2.2.1,Go.Sh.yV w0.2.2.2.2.2.2.2.2.1,Go.Sh.yV w0.2.2.2.2.2.2.2.2.2⟩ (y1.1,y1.2.1,y1.2.2.1,y1.2.2.2.1,y1.2.2.2.2.1,y1.2.2.2.2.2.1,y1.2.2.2.2.2.2.1,y1.2.2.2.2.2.2.2.1,y1.2.2.2.2.2.2.2.2.1,y1.2.2.2.2.2.2.2.2.2) ⟨(Go.Sh.yV w1.2.2.2.2.2.2.2.1).1,(Go.Sh.yV w1.2.2.2.2.2.2.2.2.1).1,(Go.Sh.yV w1.2.2.2.2.2.2.2.2.2).1⟩ a2)).law
  ⟨_,_,rfl,⟨_,rfl,(Abs.kO _ [.i .u8,.bo,.i .u16,.i .u8,.i .u8,.i .u8,.i .u8,.i .u8,.i .u8,.i .u8] y0 _).2 rfl⟩,_,_,rfl,⟨_,rfl,(Abs.kO _ [.bo,.bo,.s,.i .i64,.i .i64,.s,.s,.i .u8,.i .u8,.i .u8] y1 _).2 rfl⟩,_,_,rfl,rfl,rfl⟩ hg
set_option maxRecDepth 100000 in
theorem lifted (os:Os) (started:os.Started) (H:Type) (enc:TypeId×Value->H):
  ReturnsInHanded {} Tryz.checked os 5 .any (λw args=>(Rows.levelsDateSpec.pre enc Tryz.prog Tryz.f5 Rows.levelsDateRow.domain false w args/\laidMetH Tryz.prog Rows.levelsDateRow.laid w)/\sizedMet enc Tryz.prog Tryz.f5 (OpenSpec.ofChange Rows.levelsDateSpec) false w args)
   (Rows.levelsDateSpec.post enc Tryz.prog Tryz.f5 false true false false):=by
 refine returnsInHanded_of_change_and (C:=Tryz.checked) (X:=λw _=>laidMetH Tryz.prog Rows.levelsDateRow.laid w) (λ_ _ _ hh h=>h.of_heap hh) own started (by kernel_rfl) Tryz.func5
  (ChangeSpec.witness_shaped (enc:=enc) (C:=Tryz.checked) (os:=os) (X:=λw _=>laidMetH Tryz.prog Rows.levelsDateRow.laid w) false (World.laidAll Tryz.prog os Rows.levelsDateRow.laid) #[.agg #[.int .u8 0,.bool false,.int .u16 0,.int .u8 0,.int .u8 0,.int .u8 0,.int .u8 0,.int .u8 0,.int .u8 0,.int .u8 0],.agg #[.bool false,.bool false,.string ⟨#[]⟩,.int .i64 0,.int .i64 0,.string ⟨#[]⟩,.string ⟨#[]⟩,.int .u8 0,.int .u8 0,.int .u8 0],.int .u8 0] 8 (World.laidAll_os _ _ _)
   (World.shaped_of_ZipB (by kernel_rfl) (by kernel_rfl)) (by kernel_rfl) (by kernel_rfl) (by kernel_rfl)
   (by rw [MakeChecks.laidMetH_plain _ _ _ (by kernel_rfl)];exact laidMet_laidAll _ (by kernel_rfl) (by kernel_rfl))) ?_
 intro W base args ds gs before hval0 hW hcnd _ hL _
 have hval:∀(j:Nat) t v,Tryz.f5.params[j]?=some t->args[j]?=some v->Value.okWide Tryz.prog W .any base t v:=hval0
 have hW':=hW
 obtain ⟨p,q,hA0,hV,rfl,hfz,hnd⟩:=hW
 have hA:DataW.TrodAll enc Tryz.prog W 0 (λ_=>true) true Tryz.f5.params.toList args.toList ds p:=hA0
 rw [Tryz.params5] at hA hval
 obtain ⟨v0,vs0,d0,ds0,p0,q0,hargs,rfl,rfl,h0,r0⟩:=trodAll_cons hA
 obtain ⟨v1,vs1,d1,ds1,p1,q1,rfl,rfl,rfl,h1,r1⟩:=trodAll_cons r0
 obtain ⟨v2,vs2,d2,ds2,p2,q2,rfl,rfl,rfl,h2,r2⟩:=trodAll_cons r1
 obtain ⟨rfl,rfl,rfl⟩:=trodAll_nil r2
 obtain rfl:args=#[v0,v1,v2]:=by cases args;simp_all
 obtain ⟨rfl,rfl⟩:=trodVars_none hV
 have k0:=h0
 have lt0:∀x∈p0,x.block<W.heap.size:=by obtain ⟨m,hm⟩:=k0;exact DataW.trod_lt m _ _ _ hm
 obtain ⟨y0,e0,w0⟩:=Abs.Dt (tr:=[.i .u8,.bo,.i .u16,.i .u8,.i .u8,.i .u8,.i .u8,.i .u8,.i .u8,.i .u8]) (d:=12) (by kernel_rfl) (by kernel_rfl) h0
 obtain rfl:=Abs.tZ Tryz.underlying54 (hval 0 54 v0 rfl rfl) e0
 have k1:=h1
 have lt1:∀x∈p1,x.block<W.heap.size:=by obtain ⟨m,hm⟩:=k1;exact DataW.trod_lt m _ _ _ hm
 obtain ⟨y1,e1,w1⟩:=Abs.Dt (tr:=[.bo,.bo,.s,.i .i64,.i .i64,.s,.s,.i .u8,.i .u8,.i .u8]) (d:=12) (by kernel_rfl) (by kernel_rfl) h1
 obtain rfl:=Abs.tZ Tryz.underlying27 (hval 1 27 v1 rfl rfl) e1
 obtain ⟨a2,rfl,rfl,rfl,w2⟩:=open_int Tryz.underlying5 (hval 2 5 v2 rfl rfl) h2
 clear hA0 hval0
 have hgl:Abs.GL Abs.gY W:=by
  have hL':=hL
  rw [MakeChecks.laidMetH_plain _ _ _ (by kernel_rfl)] at hL'
  exact Abs.I3 hL' (fS (show Rows.levelsDateRow.laid[8]?=some ("circa/seasons.spans",Rows.laid_circa_seasons_spans) from rfl)) (fS (show Rows.levelsDateRow.laid[7]?=some ("circa/months.lengths",Rows.laid_circa_months_lengths) from rfl)) (fS (show Rows.levelsDateRow.laid[6]?=some ("circa/years.steps",Rows.laid_circa_years_steps) from rfl)) (fS (show Rows.levelsDateRow.laid[5]?=some ("strconv.ErrSyntax",Rows.laid_strconv_ErrSyntax) from rfl)) (fS (show Rows.levelsDateRow.laid[9]?=some ("unicode/utf8.first",Rows.laid_unicode_utf8_first) from rfl)) (fS (show Rows.levelsDateRow.laid[3]?=some ("unicode/utf8.acceptRanges",Rows.laid_unicode_utf8_acceptRanges) from rfl))
 refine (walk y0 y1 a2 W w0 w1 w2 hgl).mono λe W' ⟨he,bel⟩=>?_
 subst he
 exact ⟨_,rfl,_,_,_,[],_,[],hW',trodAll_mk1 (shut_bool Tryz.underlying4 _),(trodAll_cons_mk (Below.trod K5 (by kernel_rfl) (By (by kernel_rfl)) k0 bel lt0) (trodAll_cons_mk (Below.trod K5 (by kernel_rfl) (By (by kernel_rfl)) k1 bel lt1) (trodAll_cons_mk (shut_int Tryz.underlying5 w2) trodAll_mk0))),rfl,bel.frame _,λh=>by cases h⟩
end Go.Proofs.YthemneooekobkabGreatDoor.levelsDate
