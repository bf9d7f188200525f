/-
  BoundsParse: the frame of its proof, printed by frame.py after the kit's skeleton; the walk is a certificate and a plain law.
  Conditions: none.
-/
import Derived.Test.YtplhepcdmkbioaaGreatDoorRows
import Derived.WalkKit
import Derived.ProofKit
import Derived.OpenShut
import Derived.ShutString
import Derived.ChangeOld
import Derived.Below
import Derived.Carry
import Derived.Lay
import Derived.LaidMore
import Derived.SevenTiedAt
import Derived.Stop.Joined
import Derived.Test.YtplhepcdmkbioaaGreatDoorTie
import Derived.Test.YtplhepcdmkbioaaGreatDoorCards
import Derived.Test.YtplhepcdmkbioaaGreatDoorCeBa
import Derived.Test.YtplhepcdmkbioaaGreatDoorLawBzb
import Derived.Test.YtplhepcdmkbioaaGreatDoorHGl
import Derived.Test.YtplhepcdmkbioaaGreatDoorAbsS
import Derived.Test.YtplhepcdmkbioaaGreatDoorAbsY
import Derived.Test.YtplhepcdmkbioaaGreatDoorAbsZ
namespace Go.Proofs.YtplhepcdmkbioaaGreatDoor.boundsParse
open Go.ChangeShapes Go.WideShapes Go.ChangeAt Go.RowKit
open Go.ChangeMaps (open_string shut_string)
set_option linter.unusedVariables false
theorem own:ownKnob Tryz.prog.godebug=none:=by kernel_rfl
theorem D6:laidOutB Tryz.prog=true:=by kernel_rfl
theorem walk (a0:ByteArray) (y1:Abs.den [.i .u8,.i .u8,.bo,.i .u16,.i .u8,.i .u8,.i .u8,.i .u8,.i .u8,.i .u8,.i .u8]) (w:World) (w0:a0.size<=maxLen) (w1:Abs.pd [.i .u8,.i .u8,.bo,.i .u16,.i .u8,.i .u8,.i .u8,.i .u8,.i .u8,.i .u8,.i .u8] y1) (hg:Abs.GL Abs.eu w):
  Calls Tryz.prog 3 #[.string a0,.agg (Abs.vals [.i .u8,.i .u8,.bo,.i .u16,.i .u8,.i .u8,.i .u8,.i .u8,.i .u8,.i .u8,.i .u8] y1).toArray] w λe w'=>e=.returned (.bool true)/\Below w.heap.size w w':=
 (Go.Sh.pure_circalaw17_BoundsParse 20000000 (a0.data.toList,y1.1,y1.2.1,y1.2.2.1,y1.2.2.2.1,y1.2.2.2.2.1,y1.2.2.2.2.2.1,y1.2.2.2.2.2.2.1,y1.2.2.2.2.2.2.2.1,y1.2.2.2.2.2.2.2.2.1,y1.2.2.2.2.2.2.2.2.2.1,y1.2.2.2.2.2.2.2.2.2.2) true (by
  have nat:∀(a:Int) (n:Nat),0<=a/\a<=(n:Int)->∃x:Nat,a=(x:Int)/\x<=n:=λa n h=>⟨a.toNat,by omega,by omega⟩
  obtain ⟨i1,e1,b1⟩:=nat y1.1 255 (bounds_u8 w1.1)
  obtain ⟨i2,e2,b2⟩:=nat y1.2.1 255 (bounds_u8 w1.2.1)
  obtain ⟨i4,e4,b4⟩:=nat y1.2.2.2.1 65535 (bounds_u16 w1.2.2.2.1)
  obtain ⟨i5,e5,b5⟩:=nat y1.2.2.2.2.1 255 (bounds_u8 w1.2.2.2.2.1)
  obtain ⟨i6,e6,b6⟩:=nat y1.2.2.2.2.2.1 255 (bounds_u8 w1.2.2.2.2.2.1)
  obtain ⟨i7,e7,b7⟩:=nat y1.2.2.2.2.2.2.1 255 (bounds_u8 w1.2.2.2.2.2.2.1)
  obtain ⟨i8,e8,b8⟩:=nat y1.2.2.2.2.2.2.2.1 255 (bounds_u8 w1.2.2.2.2.2.2.2.1)
  obtain ⟨i9,e9,b9⟩:=nat y1.2.2.2.2.2.2.2.2.1 255 (bounds_u8 w1.2.2.2.2.2.2.2.2.1)
  obtain ⟨i10,e10,b10⟩:=nat y1.2.2.2.2.2.2.2.2.2.1 255 (bounds_u8 w1.2.2.2.2.2.2.2.2.2.1)
  obtain ⟨i11,e11,b11⟩:=nat y1.2.2.2.2.2.2.2.2.2.2 255 (bounds_u8 w1.2.2.2.2.2.2.2.2.2.2)
  show Go.Sh.cb 20000000 a0.data.toList y1.1 y1.2.1 y1.2.2.1 y1.2.2.2.1 y1.2.2.2.2.1 y1.2.2.2.2.2.1 y1.2.2.2.2.2.2.1 y1.2.2.2.2.2.2.2.1 y1.2.2.2.2.2.2.2.2.1 y1.2.2.2.2.2.2.2.2.2.1 y1.2.2.2.2.2.2.2.2.2.2=some true
  rw [e1,e2,e4,e5,e6,e7,e8,e9,e10,e11]
  exact Go.Sh.pV a0.data.toList i1 i2 i4 i5 i6 i7 i8 i9 i10 i11 y1.2.2.1 (by omega) (by omega) (by omega) (by omega) (by omega) (by omega))).law
  ⟨_,_,rfl,rfl,_,_,rfl,⟨_,rfl,(Abs.ic _ [.i .u8,.i .u8,.bo,.i .u16,.i .u8,.i .u8,.i .u8,.i .u8,.i .u8,.i .u8,.i .u8] y1 _).2 rfl⟩,rfl⟩ hg
set_option maxRecDepth 100000 in
theorem lifted (os:Os) (started:os.Started) (H:Type) (enc:TypeId×Value->H):
  ReturnsInHanded {} Tryz.checked os 3 .any (λw args=>(Rows.boundsParseSpec.pre enc Tryz.prog Tryz.f3 Rows.boundsParseRow.domain false w args/\laidMetH Tryz.prog Rows.boundsParseRow.laid w)/\sizedMet enc Tryz.prog Tryz.f3 (OpenSpec.ofChange Rows.boundsParseSpec) false w args)
   (Rows.boundsParseSpec.post enc Tryz.prog Tryz.f3 false true false false):=by
 refine returnsInHanded_of_change_and (C:=Tryz.checked) (X:=λw _=>laidMetH Tryz.prog Rows.boundsParseRow.laid w) (λ_ _ _ hh h=>h.of_heap hh) own started (by kernel_rfl) Tryz.func3
  (ChangeSpec.witness_shaped (enc:=enc) (C:=Tryz.checked) (os:=os) (X:=λw _=>laidMetH Tryz.prog Rows.boundsParseRow.laid w) false (World.laidAll Tryz.prog os Rows.boundsParseRow.laid) #[.string ⟨#[]⟩,.agg #[.int .u8 0,.int .u8 0,.bool false,.int .u16 0,.int .u8 0,.int .u8 0,.int .u8 0,.int .u8 0,.int .u8 0,.int .u8 0,.int .u8 0]] 8 (World.laidAll_os _ _ _)
   (World.shaped_of_ZipB (by kernel_rfl) (by kernel_rfl)) (by kernel_rfl) (by kernel_rfl) (by kernel_rfl)
   (by rw [MakeChecks.laidMetH_plain _ _ _ (by kernel_rfl)];exact laidMet_laidAll _ (by kernel_rfl) (by kernel_rfl))) ?_
 intro W base args ds gs before hval0 hW hcnd _ hL _
 have hval:∀(j:Nat) t v,Tryz.f3.params[j]?=some t->args[j]?=some v->Value.okWide Tryz.prog W .any base t v:=hval0
 have hW':=hW
 obtain ⟨p,q,hA0,hV,rfl,hfz,hnd⟩:=hW
 have hA:DataW.TrodAll enc Tryz.prog W 0 (λ_=>true) true Tryz.f3.params.toList args.toList ds p:=hA0
 rw [Tryz.params3] at hA hval
 obtain ⟨v0,vs0,d0,ds0,p0,q0,hargs,rfl,rfl,h0,r0⟩:=trodAll_cons hA
 obtain ⟨v1,vs1,d1,ds1,p1,q1,rfl,rfl,rfl,h1,r1⟩:=trodAll_cons r0
 obtain ⟨rfl,rfl,rfl⟩:=trodAll_nil r1
 obtain rfl:args=#[v0,v1]:=by cases args;simp_all
 obtain ⟨rfl,rfl⟩:=trodVars_none hV
 obtain ⟨a0,rfl,rfl,rfl,w0⟩:=open_string Tryz.underlying9 (hval 0 9 v0 rfl rfl) h0
 have k1:=h1
 have lt1:∀x∈p1,x.block<W.heap.size:=by obtain ⟨m,hm⟩:=k1;exact DataW.trod_lt m _ _ _ hm
 obtain ⟨y1,e1,w1⟩:=Abs.yn (tr:=[.i .u8,.i .u8,.bo,.i .u16,.i .u8,.i .u8,.i .u8,.i .u8,.i .u8,.i .u8,.i .u8]) (d:=12) (by kernel_rfl) (by kernel_rfl) h1
 obtain rfl:=Abs.rC Tryz.underlying30 (hval 1 30 v1 rfl rfl) e1
 clear hA0 hval0
 have hgl:Abs.GL Abs.eu W:=by
  have hL':=hL
  rw [MakeChecks.laidMetH_plain _ _ _ (by kernel_rfl)] at hL'
  exact Abs.wc hL' (List.mem_of_getElem? (show Rows.boundsParseRow.laid[8]?=some ("circa/seasons.spans",Rows.laid_circa_seasons_spans) from rfl)) (List.mem_of_getElem? (show Rows.boundsParseRow.laid[7]?=some ("circa/months.lengths",Rows.laid_circa_months_lengths) from rfl)) (List.mem_of_getElem? (show Rows.boundsParseRow.laid[6]?=some ("circa/years.steps",Rows.laid_circa_years_steps) from rfl)) (List.mem_of_getElem? (show Rows.boundsParseRow.laid[5]?=some ("strconv.ErrSyntax",Rows.laid_strconv_ErrSyntax) from rfl))
 refine (walk a0 y1 W w0 w1 hgl).mono λe W' ⟨he,bel⟩=>?_
 subst he
 exact ⟨_,rfl,_,_,_,[],_,[],hW',trodAll_mk1 (shut_bool Tryz.underlying4 _),(trodAll_cons_mk (shut_string Tryz.underlying9 w0) (trodAll_cons_mk (Below.trod D6 (by kernel_rfl) (of_decide_eq_true (by kernel_rfl)) k1 bel lt1) trodAll_mk0)),rfl,bel.frame _,λh=>by cases h⟩
end Go.Proofs.YtplhepcdmkbioaaGreatDoor.boundsParse
