/- Each function of the program computes its plain function: the certificates.
   Conditions: none. Printed by the bench tool gen.py. -/
import Derived.Test.YtbghdnhhpanidaaGreatDoorShY
import Derived.Test.YtbghdnhhpanidaaGreatDoorProg
import Derived.Test.YtbghdnhhpanidaaGreatDoorAbsX
import Derived.Test.YtbghdnhhpanidaaGreatDoorAbsU
import Derived.Test.YtbghdnhhpanidaaGreatDoorAbsW
import Derived.KernelRfl
import Derived.Test.YtbghdnhhpanidaaGreatDoorShelf
set_option linter.unusedVariables false
set_option linter.unusedSimpArgs false
set_option maxRecDepth 100000
namespace Go.Sh
open Go.Abs Go.Proofs

/-! circa/circalaw14.four -/
noncomputable def arg_circalaw14_four (a : Int) : List V := [.i .u16 a]
noncomputable def una_circalaw14_four (l : List V) : Option (Int) := match l with
  | [.i .u16 a0] => some a0
  | _ => none
theorem una_ok_circalaw14_four : ∀ l a, una_circalaw14_four l = some a → l = arg_circalaw14_four a := by
  intro l a h
  unfold una_circalaw14_four at h
  split at h
  · cases h; rfl
  · cases h
noncomputable def enc_circalaw14_four (r : List UInt8) : V := .s r
noncomputable def unr_circalaw14_four (v : V) : Option (List UInt8) := match v with
  | .s r0 => some r0
  | _ => none
theorem unr_ok_circalaw14_four : ∀ v r, unr_circalaw14_four v = some r → v = enc_circalaw14_four r := by
  intro v r h
  unfold unr_circalaw14_four at h
  split at h
  · cases h; rfl
  · cases h
noncomputable def e_circalaw14_four (n : Nat) : Ent := pureE 23 una_circalaw14_four (fun a => circalaw14_four n a) enc_circalaw14_four
noncomputable def t_circalaw14_four (l : List V) (_ : List (Nat × Blk)) : Bool := isS (una_circalaw14_four l)
noncomputable def Es_circalaw14_four (_n : Nat) : List Ent := []
theorem Es_ok_circalaw14_four (n : Nat) : ∀ x ∈ Es_circalaw14_four n, EntOK Tryz.prog x := by
  intro x hx
  simp [Es_circalaw14_four] at hx
noncomputable def Ls_circalaw14_four (_n : Nat) : List Sub := []
theorem subs_circalaw14_four (n : Nat) : SubOK Tryz.prog 41 (Ls_circalaw14_four n) (acOf Tryz.f23) := SubOK_of _ (by
  have e : subs (acOf Tryz.f23) = [] := by kernel_rfl
  rw [e]; intro p hp; cases hp)
theorem cert_circalaw14_four (n : Nat) (a0 : Int) : run Tryz.prog (Es_circalaw14_four n) (Ls_circalaw14_four n) Tryz.f23.ntmps (acOf Tryz.f23) ⟨argsT [.i .u16 a0] 0, [], 0, 0, 0, 0⟩ (finK Tryz.prog Tryz.f23.results.toList (retX unr_circalaw14_four)) = circalaw14_four n a0 := by kernel_rfl
theorem pure_circalaw14_four (n : Nat) : ∀ a r, circalaw14_four n a = some r → PureOK Tryz.prog 23 (arg_circalaw14_four a) (enc_circalaw14_four r) := fun a r h => pureX_ok unr_ok_circalaw14_four (Es_ok_circalaw14_four n) Tryz.func23 rfl (acOf_code _) (subs_circalaw14_four n) rfl ((cert_circalaw14_four n a).trans h)
theorem ok_circalaw14_four (n : Nat) : EntOK Tryz.prog (e_circalaw14_four n) := pureE_ok Tryz.call23 una_ok_circalaw14_four (fun _ => rfl) (pure_circalaw14_four n)

/-! circa/circaref14.has -/
noncomputable def arg_circaref14_has (a : List UInt8 × Int × Int) : List V := [.s a.1, .i .u8 a.2.1, .i .u8 a.2.2]
noncomputable def una_circaref14_has (l : List V) : Option (List UInt8 × Int × Int) := match l with
  | [.s a0, .i .u8 a1, .i .u8 a2] => some (a0, a1, a2)
  | _ => none
theorem una_ok_circaref14_has : ∀ l a, una_circaref14_has l = some a → l = arg_circaref14_has a := by
  intro l a h
  unfold una_circaref14_has at h
  split at h
  · cases h; rfl
  · cases h
noncomputable def enc_circaref14_has (r : Int) : V := .i .i64 r
noncomputable def unr_circaref14_has (v : V) : Option (Int) := match v with
  | .i .i64 r0 => some r0
  | _ => none
theorem unr_ok_circaref14_has : ∀ v r, unr_circaref14_has v = some r → v = enc_circaref14_has r := by
  intro v r h
  unfold unr_circaref14_has at h
  split at h
  · cases h; rfl
  · cases h
noncomputable def e_circaref14_has (n : Nat) : Ent := pureE 29 una_circaref14_has (fun a => circaref14_has n a.1 a.2.1 a.2.2) enc_circaref14_has
noncomputable def t_circaref14_has (l : List V) (_ : List (Nat × Blk)) : Bool := isS (una_circaref14_has l)
noncomputable def Es_circaref14_has (_n : Nat) : List Ent := []
theorem Es_ok_circaref14_has (n : Nat) : ∀ x ∈ Es_circaref14_has n, EntOK Tryz.prog x := by
  intro x hx
  simp [Es_circaref14_has] at hx
noncomputable def an_circaref14_has_l0 : Ann := ⟨[0, 1, 2, 7, 8], [], 0, []⟩
noncomputable def emb_circaref14_has_l0 (x : List UInt8 × Int × Int × Int × Int) : St := ⟨[(0, some (.s x.1)), (1, some (.i .u8 x.2.1)), (2, some (.i .u8 x.2.2.1)), (7, some (.i .i64 x.2.2.2.1)), (8, some (.i .i64 x.2.2.2.2))], [], 0, 0, 0, 0⟩
noncomputable def un_circaref14_has_l0 (s : St) : Option (List UInt8 × Int × Int × Int × Int) := match s with
  | ⟨[(0, some (.s x0)), (1, some (.i .u8 x1)), (2, some (.i .u8 x2)), (7, some (.i .i64 x3)), (8, some (.i .i64 x4))], [], 0, 0, 0, 0⟩ => some (x0, x1, x2, x3, x4)
  | _ => none
theorem un_ok_circaref14_has_l0 : ∀ s x, un_circaref14_has_l0 s = some x → s = emb_circaref14_has_l0 x := by
  intro s x h
  unfold un_circaref14_has_l0 at h
  split at h
  · cases h; rfl
  · cases h
noncomputable def ax_circaref14_has_l0 : Ex → Ann := fun ex => match ex with
  | .exit 0 => ⟨[7], [], 0, []⟩
  | _ => ⟨[], [], 0, []⟩
noncomputable def out_circaref14_has_l0 (y : Int) : Ex × St := (.exit 0, ⟨[(7, some (.i .i64 y))], [], 0, 0, 0, 0⟩)
noncomputable def outK_circaref14_has_l0 (α : Type) (y : Int) (k : Ex → St → Option α) : Option α := (k (.exit 0) ⟨[(7, some (.i .i64 y))], [], 0, 0, 0, 0⟩)
theorem outK_ok_circaref14_has_l0 : ∀ α y k, outK_circaref14_has_l0 α y k = k (out_circaref14_has_l0 y).1 (out_circaref14_has_l0 y).2 := by
  intro α y k
  rfl
noncomputable def ux_circaref14_has_l0 (ex : Ex) (s : St) : Option (Int) := match ex, s with
  | .exit 0, ⟨[(7, some (.i .i64 y0))], [], 0, 0, 0, 0⟩ => some y0
  | _, _ => none
theorem ux_ok_circaref14_has_l0 : ∀ ex s y, ux_circaref14_has_l0 ex s = some y → (ex, s) = out_circaref14_has_l0 y := by
  intro ex s y h
  unfold ux_circaref14_has_l0 at h
  split at h
  · cases h; rfl
  · cases h
noncomputable def Ls_circaref14_has (n : Nat) : List Sub := [subE 0 an_circaref14_has_l0 un_circaref14_has_l0 (fun x => iterL (circaref14_has_l0 n) n x) outK_circaref14_has_l0]
noncomputable def sac_circaref14_has_l0 : AC := getS (subs (acOf Tryz.f29)) 0
noncomputable def ac_circaref14_has_l0 : AC := AC.body sac_circaref14_has_l0
theorem subs_circaref14_has_l0 (n : Nat) : SubOK Tryz.prog 30 (Ls_circaref14_has n) ac_circaref14_has_l0 := SubOK_of _ (by
  have e : subs ac_circaref14_has_l0 = [] := by kernel_rfl
  rw [e]; intro p hp; cases hp)
theorem body_circaref14_has_l0 (n : Nat) : ∀ x, run Tryz.prog (Es_circaref14_has n) (Ls_circaref14_has n) 30 ac_circaref14_has_l0 (emb_circaref14_has_l0 x) (roundK an_circaref14_has_l0 un_circaref14_has_l0 ax_circaref14_has_l0 ux_circaref14_has_l0) = circaref14_has_l0 n x := fun _ => by kernel_rfl
theorem sub1_circaref14_has_l0 (n : Nat) : ∀ (α : Type) (s : St) (k : Ex → St → Option α) (z : α), (subE 0 an_circaref14_has_l0 un_circaref14_has_l0 (fun x => iterL (circaref14_has_l0 n) n x) outK_circaref14_has_l0).e α s k = some z → SemC Tryz.prog 30 (sac_circaref14_has_l0).code s fun ex s' => k ex s' = some z := by
  intro α s k z h
  have e : sac_circaref14_has_l0 = .loop ac_circaref14_has_l0 := by kernel_rfl
  rw [e]
  exact subE_ok (m := 0) (f := fun x => iterL (circaref14_has_l0 n) n x) (out := out_circaref14_has_l0) outK_ok_circaref14_has_l0 un_ok_circaref14_has_l0 (fun x y hy => loop_ok (Es_ok_circaref14_has n) (subs_circaref14_has_l0 n) un_ok_circaref14_has_l0 ux_ok_circaref14_has_l0 (body_circaref14_has_l0 n) n x y hy) h
theorem sub_circaref14_has_l0 (n : Nat) : SubSt Tryz.prog 30 (Ls_circaref14_has n) 0 sac_circaref14_has_l0 := fun α s k z => sub1_circaref14_has_l0 n α s k z
theorem subs_circaref14_has (n : Nat) : SubOK Tryz.prog 30 (Ls_circaref14_has n) (acOf Tryz.f29) := SubOK_of _ (by
  have e : subs (acOf Tryz.f29) = [(0, sac_circaref14_has_l0)] := by kernel_rfl
  rw [e]; intro p hp
  simp only [List.mem_cons, List.not_mem_nil, or_false] at hp
  · rw [hp]; exact sub_circaref14_has_l0 n
  )
theorem cert_circaref14_has (n : Nat) (a0 : List UInt8) (a1 : Int) (a2 : Int) : run Tryz.prog (Es_circaref14_has n) (Ls_circaref14_has n) Tryz.f29.ntmps (acOf Tryz.f29) ⟨argsT [.s a0, .i .u8 a1, .i .u8 a2] 0, [], 0, 0, 0, 0⟩ (finK Tryz.prog Tryz.f29.results.toList (retX unr_circaref14_has)) = circaref14_has n a0 a1 a2 := by kernel_rfl
theorem pure_circaref14_has (n : Nat) : ∀ a r, circaref14_has n a.1 a.2.1 a.2.2 = some r → PureOK Tryz.prog 29 (arg_circaref14_has a) (enc_circaref14_has r) := fun a r h => pureX_ok unr_ok_circaref14_has (Es_ok_circaref14_has n) Tryz.func29 rfl (acOf_code _) (subs_circaref14_has n) rfl ((cert_circaref14_has n a.1 a.2.1 a.2.2).trans h)
theorem ok_circaref14_has (n : Nat) : EntOK Tryz.prog (e_circaref14_has n) := pureE_ok Tryz.call29 una_ok_circaref14_has (fun _ => rfl) (pure_circaref14_has n)

/-! circa/circaref14.Magnitude -/
noncomputable def arg_circaref14_Magnitude (a : List UInt8 × Int) : List V := [.s a.1, .i .i64 a.2]
noncomputable def una_circaref14_Magnitude (l : List V) : Option (List UInt8 × Int) := match l with
  | [.s a0, .i .i64 a1] => some (a0, a1)
  | _ => none
theorem una_ok_circaref14_Magnitude : ∀ l a, una_circaref14_Magnitude l = some a → l = arg_circaref14_Magnitude a := by
  intro l a h
  unfold una_circaref14_Magnitude at h
  split at h
  · cases h; rfl
  · cases h
noncomputable def enc_circaref14_Magnitude (r : Int × Int) : V := .tp [.i .i64 r.1, .i .i64 r.2]
noncomputable def unr_circaref14_Magnitude (v : V) : Option (Int × Int) := match v with
  | .tp [.i .i64 r0, .i .i64 r1] => some (r0, r1)
  | _ => none
theorem unr_ok_circaref14_Magnitude : ∀ v r, unr_circaref14_Magnitude v = some r → v = enc_circaref14_Magnitude r := by
  intro v r h
  unfold unr_circaref14_Magnitude at h
  split at h
  · cases h; rfl
  · cases h
noncomputable def e_circaref14_Magnitude (n : Nat) : Ent := pureE 22 una_circaref14_Magnitude (fun a => circaref14_Magnitude n a.1 a.2) enc_circaref14_Magnitude
noncomputable def t_circaref14_Magnitude (l : List V) (_ : List (Nat × Blk)) : Bool := isS (una_circaref14_Magnitude l)
noncomputable def Es_circaref14_Magnitude (_n : Nat) : List Ent := []
theorem Es_ok_circaref14_Magnitude (n : Nat) : ∀ x ∈ Es_circaref14_Magnitude n, EntOK Tryz.prog x := by
  intro x hx
  simp [Es_circaref14_Magnitude] at hx
noncomputable def an_circaref14_Magnitude_l0 : Ann := ⟨[0, 1, 6, 7], [], 0, []⟩
noncomputable def emb_circaref14_Magnitude_l0 (x : List UInt8 × Int × Int × Int) : St := ⟨[(0, some (.s x.1)), (1, some (.i .i64 x.2.1)), (6, some (.i .i64 x.2.2.1)), (7, some (.i .i64 x.2.2.2))], [], 0, 0, 0, 0⟩
noncomputable def un_circaref14_Magnitude_l0 (s : St) : Option (List UInt8 × Int × Int × Int) := match s with
  | ⟨[(0, some (.s x0)), (1, some (.i .i64 x1)), (6, some (.i .i64 x2)), (7, some (.i .i64 x3))], [], 0, 0, 0, 0⟩ => some (x0, x1, x2, x3)
  | _ => none
theorem un_ok_circaref14_Magnitude_l0 : ∀ s x, un_circaref14_Magnitude_l0 s = some x → s = emb_circaref14_Magnitude_l0 x := by
  intro s x h
  unfold un_circaref14_Magnitude_l0 at h
  split at h
  · cases h; rfl
  · cases h
noncomputable def ax_circaref14_Magnitude_l0 : Ex → Ann := fun ex => match ex with
  | .ret => ⟨[4, 5], [], 0, []⟩
  | .exit 0 => ⟨[6], [], 0, []⟩
  | _ => ⟨[], [], 0, []⟩
noncomputable def out_circaref14_Magnitude_l0 (y : (Int × Int) ⊕ Int) : Ex × St := (Sum.casesOn (motive := fun _ => Ex × St) y (fun a0 => (.ret, ⟨[(4, some (.i .i64 a0.1)), (5, some (.i .i64 a0.2))], [], 0, 0, 0, 0⟩)) (fun b0 => (.exit 0, ⟨[(6, some (.i .i64 b0))], [], 0, 0, 0, 0⟩)))
noncomputable def outK_circaref14_Magnitude_l0 (α : Type) (y : (Int × Int) ⊕ Int) (k : Ex → St → Option α) : Option α := (Sum.casesOn (motive := fun _ => Option α) y (fun a0 => (k (.ret) ⟨[(4, some (.i .i64 a0.1)), (5, some (.i .i64 a0.2))], [], 0, 0, 0, 0⟩)) (fun b0 => (k (.exit 0) ⟨[(6, some (.i .i64 b0))], [], 0, 0, 0, 0⟩)))
theorem outK_ok_circaref14_Magnitude_l0 : ∀ α y k, outK_circaref14_Magnitude_l0 α y k = k (out_circaref14_Magnitude_l0 y).1 (out_circaref14_Magnitude_l0 y).2 := by
  intro α y k
  rcases y with y | y <;> rfl
noncomputable def ux_circaref14_Magnitude_l0 (ex : Ex) (s : St) : Option ((Int × Int) ⊕ Int) := match ex, s with
  | .ret, ⟨[(4, some (.i .i64 y0)), (5, some (.i .i64 y1))], [], 0, 0, 0, 0⟩ => some (.inl (y0, y1))
  | .exit 0, ⟨[(6, some (.i .i64 y0))], [], 0, 0, 0, 0⟩ => some (.inr y0)
  | _, _ => none
theorem ux_ok_circaref14_Magnitude_l0 : ∀ ex s y, ux_circaref14_Magnitude_l0 ex s = some y → (ex, s) = out_circaref14_Magnitude_l0 y := by
  intro ex s y h
  unfold ux_circaref14_Magnitude_l0 at h
  split at h
  · cases h; rfl
  · cases h; rfl
  · cases h
noncomputable def Ls_circaref14_Magnitude (n : Nat) : List Sub := [subE 0 an_circaref14_Magnitude_l0 un_circaref14_Magnitude_l0 (fun x => iterL (circaref14_Magnitude_l0 n) n x) outK_circaref14_Magnitude_l0]
noncomputable def sac_circaref14_Magnitude_l0 : AC := getS (subs (acOf Tryz.f22)) 0
noncomputable def ac_circaref14_Magnitude_l0 : AC := AC.body sac_circaref14_Magnitude_l0
theorem subs_circaref14_Magnitude_l0 (n : Nat) : SubOK Tryz.prog 32 (Ls_circaref14_Magnitude n) ac_circaref14_Magnitude_l0 := SubOK_of _ (by
  have e : subs ac_circaref14_Magnitude_l0 = [] := by kernel_rfl
  rw [e]; intro p hp; cases hp)
theorem body_circaref14_Magnitude_l0 (n : Nat) : ∀ x, run Tryz.prog (Es_circaref14_Magnitude n) (Ls_circaref14_Magnitude n) 32 ac_circaref14_Magnitude_l0 (emb_circaref14_Magnitude_l0 x) (roundK an_circaref14_Magnitude_l0 un_circaref14_Magnitude_l0 ax_circaref14_Magnitude_l0 ux_circaref14_Magnitude_l0) = circaref14_Magnitude_l0 n x := fun _ => by kernel_rfl
theorem sub1_circaref14_Magnitude_l0 (n : Nat) : ∀ (α : Type) (s : St) (k : Ex → St → Option α) (z : α), (subE 0 an_circaref14_Magnitude_l0 un_circaref14_Magnitude_l0 (fun x => iterL (circaref14_Magnitude_l0 n) n x) outK_circaref14_Magnitude_l0).e α s k = some z → SemC Tryz.prog 32 (sac_circaref14_Magnitude_l0).code s fun ex s' => k ex s' = some z := by
  intro α s k z h
  have e : sac_circaref14_Magnitude_l0 = .loop ac_circaref14_Magnitude_l0 := by kernel_rfl
  rw [e]
  exact subE_ok (m := 0) (f := fun x => iterL (circaref14_Magnitude_l0 n) n x) (out := out_circaref14_Magnitude_l0) outK_ok_circaref14_Magnitude_l0 un_ok_circaref14_Magnitude_l0 (fun x y hy => loop_ok (Es_ok_circaref14_Magnitude n) (subs_circaref14_Magnitude_l0 n) un_ok_circaref14_Magnitude_l0 ux_ok_circaref14_Magnitude_l0 (body_circaref14_Magnitude_l0 n) n x y hy) h
theorem sub_circaref14_Magnitude_l0 (n : Nat) : SubSt Tryz.prog 32 (Ls_circaref14_Magnitude n) 0 sac_circaref14_Magnitude_l0 := fun α s k z => sub1_circaref14_Magnitude_l0 n α s k z
theorem subs_circaref14_Magnitude (n : Nat) : SubOK Tryz.prog 32 (Ls_circaref14_Magnitude n) (acOf Tryz.f22) := SubOK_of _ (by
  have e : subs (acOf Tryz.f22) = [(0, sac_circaref14_Magnitude_l0)] := by kernel_rfl
  rw [e]; intro p hp
  simp only [List.mem_cons, List.not_mem_nil, or_false] at hp
  · rw [hp]; exact sub_circaref14_Magnitude_l0 n
  )
theorem cert_circaref14_Magnitude (n : Nat) (a0 : List UInt8) (a1 : Int) : run Tryz.prog (Es_circaref14_Magnitude n) (Ls_circaref14_Magnitude n) Tryz.f22.ntmps (acOf Tryz.f22) ⟨argsT [.s a0, .i .i64 a1] 0, [], 0, 0, 0, 0⟩ (finK Tryz.prog Tryz.f22.results.toList (retX unr_circaref14_Magnitude)) = circaref14_Magnitude n a0 a1 := by kernel_rfl
theorem pure_circaref14_Magnitude (n : Nat) : ∀ a r, circaref14_Magnitude n a.1 a.2 = some r → PureOK Tryz.prog 22 (arg_circaref14_Magnitude a) (enc_circaref14_Magnitude r) := fun a r h => pureX_ok unr_ok_circaref14_Magnitude (Es_ok_circaref14_Magnitude n) Tryz.func22 rfl (acOf_code _) (subs_circaref14_Magnitude n) rfl ((cert_circaref14_Magnitude n a.1 a.2).trans h)
theorem ok_circaref14_Magnitude (n : Nat) : EntOK Tryz.prog (e_circaref14_Magnitude n) := pureE_ok Tryz.call22 una_ok_circaref14_Magnitude (fun _ => rfl) (pure_circaref14_Magnitude n)

/-! circa/circaref14.Check -/
noncomputable def arg_circaref14_Check (a : Bool × Bool × List UInt8 × Int × Int) : List V := [.ag [.b a.1, .b a.2.1, .s a.2.2.1, .i .i64 a.2.2.2.1, .i .i64 a.2.2.2.2]]
noncomputable def una_circaref14_Check (l : List V) : Option (Bool × Bool × List UInt8 × Int × Int) := match l with
  | [.ag [.b a0, .b a1, .s a2, .i .i64 a3, .i .i64 a4]] => some (a0, a1, a2, a3, a4)
  | _ => none
theorem una_ok_circaref14_Check : ∀ l a, una_circaref14_Check l = some a → l = arg_circaref14_Check a := by
  intro l a h
  unfold una_circaref14_Check at h
  split at h
  · cases h; rfl
  · cases h
noncomputable def enc_circaref14_Check (r : Int) : V := .i .i64 r
noncomputable def unr_circaref14_Check (v : V) : Option (Int) := match v with
  | .i .i64 r0 => some r0
  | _ => none
theorem unr_ok_circaref14_Check : ∀ v r, unr_circaref14_Check v = some r → v = enc_circaref14_Check r := by
  intro v r h
  unfold unr_circaref14_Check at h
  split at h
  · cases h; rfl
  · cases h
noncomputable def e_circaref14_Check (n : Nat) : Ent := pureE 11 una_circaref14_Check (fun a => circaref14_Check n a.1 a.2.1 a.2.2.1 a.2.2.2.1 a.2.2.2.2) enc_circaref14_Check
noncomputable def t_circaref14_Check (l : List V) (_ : List (Nat × Blk)) : Bool := isS (una_circaref14_Check l)
noncomputable def Es_circaref14_Check (n : Nat) : List Ent := [e_circaref14_has n, e_circaref14_Magnitude n]
theorem Es_ok_circaref14_Check (n : Nat) : ∀ x ∈ Es_circaref14_Check n, EntOK Tryz.prog x := by
  intro x hx
  simp only [Es_circaref14_Check, List.mem_cons, List.not_mem_nil, or_false] at hx
  rcases hx with hx | hx
  · rw [hx]; exact ok_circaref14_has n
  · rw [hx]; exact ok_circaref14_Magnitude n
noncomputable def Ls_circaref14_Check (_n : Nat) : List Sub := []
theorem subs_circaref14_Check (n : Nat) : SubOK Tryz.prog 114 (Ls_circaref14_Check n) (acOf Tryz.f11) := SubOK_of _ (by
  have e : subs (acOf Tryz.f11) = [] := by kernel_rfl
  rw [e]; intro p hp; cases hp)
theorem cert_circaref14_Check (n : Nat) (a0 : Bool) (a1 : Bool) (a2 : List UInt8) (a3 : Int) (a4 : Int) : run Tryz.prog (Es_circaref14_Check n) (Ls_circaref14_Check n) Tryz.f11.ntmps (acOf Tryz.f11) ⟨argsT [.ag [.b a0, .b a1, .s a2, .i .i64 a3, .i .i64 a4]] 0, [], 0, 0, 0, 0⟩ (finK Tryz.prog Tryz.f11.results.toList (retX unr_circaref14_Check)) = circaref14_Check n a0 a1 a2 a3 a4 := by kernel_rfl
theorem pure_circaref14_Check (n : Nat) : ∀ a r, circaref14_Check n a.1 a.2.1 a.2.2.1 a.2.2.2.1 a.2.2.2.2 = some r → PureOK Tryz.prog 11 (arg_circaref14_Check a) (enc_circaref14_Check r) := fun a r h => pureX_ok unr_ok_circaref14_Check (Es_ok_circaref14_Check n) Tryz.func11 rfl (acOf_code _) (subs_circaref14_Check n) rfl ((cert_circaref14_Check n a.1 a.2.1 a.2.2.1 a.2.2.2.1 a.2.2.2.2).trans h)
theorem ok_circaref14_Check (n : Nat) : EntOK Tryz.prog (e_circaref14_Check n) := pureE_ok Tryz.call11 una_ok_circaref14_Check (fun _ => rfl) (pure_circaref14_Check n)

/-! (circa/circalaw14.Y).Of -/
noncomputable def arg_circalaw14_Y_Of (a : Int × Bool × Int × Int × Int) : List V := [.ag [.i .u8 a.1, .b a.2.1, .i .u16 a.2.2.1, .i .u8 a.2.2.2.1, .i .u8 a.2.2.2.2]]
noncomputable def una_circalaw14_Y_Of (l : List V) : Option (Int × Bool × Int × Int × Int) := match l with
  | [.ag [.i .u8 a0, .b a1, .i .u16 a2, .i .u8 a3, .i .u8 a4]] => some (a0, a1, a2, a3, a4)
  | _ => none
theorem una_ok_circalaw14_Y_Of : ∀ l a, una_circalaw14_Y_Of l = some a → l = arg_circalaw14_Y_Of a := by
  intro l a h
  unfold una_circalaw14_Y_Of at h
  split at h
  · cases h; rfl
  · cases h
noncomputable def enc_circalaw14_Y_Of (r : Bool × Bool × List UInt8 × Int × Int) : V := .ag [.b r.1, .b r.2.1, .s r.2.2.1, .i .i64 r.2.2.2.1, .i .i64 r.2.2.2.2]
noncomputable def unr_circalaw14_Y_Of (v : V) : Option (Bool × Bool × List UInt8 × Int × Int) := match v with
  | .ag [.b r0, .b r1, .s r2, .i .i64 r3, .i .i64 r4] => some (r0, r1, r2, r3, r4)
  | _ => none
theorem unr_ok_circalaw14_Y_Of : ∀ v r, unr_circalaw14_Y_Of v = some r → v = enc_circalaw14_Y_Of r := by
  intro v r h
  unfold unr_circalaw14_Y_Of at h
  split at h
  · cases h; rfl
  · cases h
noncomputable def e_circalaw14_Y_Of (n : Nat) : Ent := pureE 8 una_circalaw14_Y_Of (fun a => circalaw14_Y_Of n a.1 a.2.1 a.2.2.1 a.2.2.2.1 a.2.2.2.2) enc_circalaw14_Y_Of
noncomputable def t_circalaw14_Y_Of (l : List V) (_ : List (Nat × Blk)) : Bool := isS (una_circalaw14_Y_Of l)
noncomputable def Es_circalaw14_Y_Of (n : Nat) : List Ent := [e_circalaw14_four n, e_circaref14_Check n]
theorem Es_ok_circalaw14_Y_Of (n : Nat) : ∀ x ∈ Es_circalaw14_Y_Of n, EntOK Tryz.prog x := by
  intro x hx
  simp only [Es_circalaw14_Y_Of, List.mem_cons, List.not_mem_nil, or_false] at hx
  rcases hx with hx | hx
  · rw [hx]; exact ok_circalaw14_four n
  · rw [hx]; exact ok_circaref14_Check n
noncomputable def an_circalaw14_Y_Of_l0 : Ann := ⟨[2, 3, 4, 5, 6, 7], [1, 50], 162, []⟩
noncomputable def emb_circalaw14_Y_Of_l0 (x : Int × Int × List UInt8 × Int × Bool × Bool × List UInt8 × Int × Int × Bool × Bool × List UInt8 × Int × Int) : St := ⟨[(2, some (.p 1 0)), (3, some (.p 50 0)), (4, some (.i .i64 x.1)), (5, some (.i .i64 x.2.1)), (6, some (.s x.2.2.1)), (7, some (.i .i64 x.2.2.2.1))], [(1, .cells [.b x.2.2.2.2.1, .b x.2.2.2.2.2.1, .s x.2.2.2.2.2.2.1, .i .i64 x.2.2.2.2.2.2.2.1, .i .i64 x.2.2.2.2.2.2.2.2.1]), (50, .cells [.b x.2.2.2.2.2.2.2.2.2.1, .b x.2.2.2.2.2.2.2.2.2.2.1, .s x.2.2.2.2.2.2.2.2.2.2.2.1, .i .i64 x.2.2.2.2.2.2.2.2.2.2.2.2.1, .i .i64 x.2.2.2.2.2.2.2.2.2.2.2.2.2])], 162, 0, 0, 0⟩
noncomputable def un_circalaw14_Y_Of_l0 (s : St) : Option (Int × Int × List UInt8 × Int × Bool × Bool × List UInt8 × Int × Int × Bool × Bool × List UInt8 × Int × Int) := match s with
  | ⟨[(2, some (.p 1 0)), (3, some (.p 50 0)), (4, some (.i .i64 x0)), (5, some (.i .i64 x1)), (6, some (.s x2)), (7, some (.i .i64 x3))], [(1, .cells [.b x4, .b x5, .s x6, .i .i64 x7, .i .i64 x8]), (50, .cells [.b x9, .b x10, .s x11, .i .i64 x12, .i .i64 x13])], 162, 0, 0, 0⟩ => some (x0, x1, x2, x3, x4, x5, x6, x7, x8, x9, x10, x11, x12, x13)
  | _ => none
theorem un_ok_circalaw14_Y_Of_l0 : ∀ s x, un_circalaw14_Y_Of_l0 s = some x → s = emb_circalaw14_Y_Of_l0 x := by
  intro s x h
  unfold un_circalaw14_Y_Of_l0 at h
  split at h
  · cases h; rfl
  · cases h
noncomputable def ax_circalaw14_Y_Of_l0 : Ex → Ann := fun ex => match ex with
  | .exit 1 => ⟨[2, 3, 6], [1, 50], 162, []⟩
  | _ => ⟨[], [], 0, []⟩
noncomputable def out_circalaw14_Y_Of_l0 (y : (List UInt8 × Bool × Bool × List UInt8 × Int × Int × Bool × Bool × List UInt8 × Int × Int)) : Ex × St := (.exit 1, ⟨[(2, some (.p 1 0)), (3, some (.p 50 0)), (6, some (.s y.1))], [(1, .cells [.b y.2.1, .b y.2.2.1, .s y.2.2.2.1, .i .i64 y.2.2.2.2.1, .i .i64 y.2.2.2.2.2.1]), (50, .cells [.b y.2.2.2.2.2.2.1, .b y.2.2.2.2.2.2.2.1, .s y.2.2.2.2.2.2.2.2.1, .i .i64 y.2.2.2.2.2.2.2.2.2.1, .i .i64 y.2.2.2.2.2.2.2.2.2.2])], 162, 0, 0, 0⟩)
noncomputable def outK_circalaw14_Y_Of_l0 (α : Type) (y : (List UInt8 × Bool × Bool × List UInt8 × Int × Int × Bool × Bool × List UInt8 × Int × Int)) (k : Ex → St → Option α) : Option α := (k (.exit 1) ⟨[(2, some (.p 1 0)), (3, some (.p 50 0)), (6, some (.s y.1))], [(1, .cells [.b y.2.1, .b y.2.2.1, .s y.2.2.2.1, .i .i64 y.2.2.2.2.1, .i .i64 y.2.2.2.2.2.1]), (50, .cells [.b y.2.2.2.2.2.2.1, .b y.2.2.2.2.2.2.2.1, .s y.2.2.2.2.2.2.2.2.1, .i .i64 y.2.2.2.2.2.2.2.2.2.1, .i .i64 y.2.2.2.2.2.2.2.2.2.2])], 162, 0, 0, 0⟩)
theorem outK_ok_circalaw14_Y_Of_l0 : ∀ α y k, outK_circalaw14_Y_Of_l0 α y k = k (out_circalaw14_Y_Of_l0 y).1 (out_circalaw14_Y_Of_l0 y).2 := by
  intro α y k
  rfl
noncomputable def ux_circalaw14_Y_Of_l0 (ex : Ex) (s : St) : Option ((List UInt8 × Bool × Bool × List UInt8 × Int × Int × Bool × Bool × List UInt8 × Int × Int)) := match ex, s with
  | .exit 1, ⟨[(2, some (.p 1 0)), (3, some (.p 50 0)), (6, some (.s y0))], [(1, .cells [.b y1, .b y2, .s y3, .i .i64 y4, .i .i64 y5]), (50, .cells [.b y6, .b y7, .s y8, .i .i64 y9, .i .i64 y10])], 162, 0, 0, 0⟩ => some (y0, y1, y2, y3, y4, y5, y6, y7, y8, y9, y10)
  | _, _ => none
theorem ux_ok_circalaw14_Y_Of_l0 : ∀ ex s y, ux_circalaw14_Y_Of_l0 ex s = some y → (ex, s) = out_circalaw14_Y_Of_l0 y := by
  intro ex s y h
  unfold ux_circalaw14_Y_Of_l0 at h
  split at h
  · cases h; rfl
  · cases h
noncomputable def Ls_circalaw14_Y_Of (n : Nat) : List Sub := [subE 0 an_circalaw14_Y_Of_l0 un_circalaw14_Y_Of_l0 (fun x => iterL (circalaw14_Y_Of_l0 n) n x) outK_circalaw14_Y_Of_l0]
noncomputable def sac_circalaw14_Y_Of_l0 : AC := getS (subs (acOf Tryz.f8)) 0
noncomputable def ac_circalaw14_Y_Of_l0 : AC := AC.body sac_circalaw14_Y_Of_l0
theorem subs_circalaw14_Y_Of_l0 (n : Nat) : SubOK Tryz.prog 120 (Ls_circalaw14_Y_Of n) ac_circalaw14_Y_Of_l0 := SubOK_of _ (by
  have e : subs ac_circalaw14_Y_Of_l0 = [] := by kernel_rfl
  rw [e]; intro p hp; cases hp)
theorem body_circalaw14_Y_Of_l0 (n : Nat) : ∀ x, run Tryz.prog (Es_circalaw14_Y_Of n) (Ls_circalaw14_Y_Of n) 120 ac_circalaw14_Y_Of_l0 (emb_circalaw14_Y_Of_l0 x) (roundK an_circalaw14_Y_Of_l0 un_circalaw14_Y_Of_l0 ax_circalaw14_Y_Of_l0 ux_circalaw14_Y_Of_l0) = circalaw14_Y_Of_l0 n x := fun _ => by kernel_rfl
theorem sub1_circalaw14_Y_Of_l0 (n : Nat) : ∀ (α : Type) (s : St) (k : Ex → St → Option α) (z : α), (subE 0 an_circalaw14_Y_Of_l0 un_circalaw14_Y_Of_l0 (fun x => iterL (circalaw14_Y_Of_l0 n) n x) outK_circalaw14_Y_Of_l0).e α s k = some z → SemC Tryz.prog 120 (sac_circalaw14_Y_Of_l0).code s fun ex s' => k ex s' = some z := by
  intro α s k z h
  have e : sac_circalaw14_Y_Of_l0 = .loop ac_circalaw14_Y_Of_l0 := by kernel_rfl
  rw [e]
  exact subE_ok (m := 0) (f := fun x => iterL (circalaw14_Y_Of_l0 n) n x) (out := out_circalaw14_Y_Of_l0) outK_ok_circalaw14_Y_Of_l0 un_ok_circalaw14_Y_Of_l0 (fun x y hy => loop_ok (Es_ok_circalaw14_Y_Of n) (subs_circalaw14_Y_Of_l0 n) un_ok_circalaw14_Y_Of_l0 ux_ok_circalaw14_Y_Of_l0 (body_circalaw14_Y_Of_l0 n) n x y hy) h
theorem sub_circalaw14_Y_Of_l0 (n : Nat) : SubSt Tryz.prog 120 (Ls_circalaw14_Y_Of n) 0 sac_circalaw14_Y_Of_l0 := fun α s k z => sub1_circalaw14_Y_Of_l0 n α s k z
theorem subs_circalaw14_Y_Of (n : Nat) : SubOK Tryz.prog 120 (Ls_circalaw14_Y_Of n) (acOf Tryz.f8) := SubOK_of _ (by
  have e : subs (acOf Tryz.f8) = [(0, sac_circalaw14_Y_Of_l0)] := by kernel_rfl
  rw [e]; intro p hp
  simp only [List.mem_cons, List.not_mem_nil, or_false] at hp
  · rw [hp]; exact sub_circalaw14_Y_Of_l0 n
  )
theorem cert_circalaw14_Y_Of (n : Nat) (a0 : Int) (a1 : Bool) (a2 : Int) (a3 : Int) (a4 : Int) : run Tryz.prog (Es_circalaw14_Y_Of n) (Ls_circalaw14_Y_Of n) Tryz.f8.ntmps (acOf Tryz.f8) ⟨argsT [.ag [.i .u8 a0, .b a1, .i .u16 a2, .i .u8 a3, .i .u8 a4]] 0, [], 0, 0, 0, 0⟩ (finK Tryz.prog Tryz.f8.results.toList (retX unr_circalaw14_Y_Of)) = circalaw14_Y_Of n a0 a1 a2 a3 a4 := by kernel_rfl
theorem pure_circalaw14_Y_Of (n : Nat) : ∀ a r, circalaw14_Y_Of n a.1 a.2.1 a.2.2.1 a.2.2.2.1 a.2.2.2.2 = some r → PureOK Tryz.prog 8 (arg_circalaw14_Y_Of a) (enc_circalaw14_Y_Of r) := fun a r h => pureX_ok unr_ok_circalaw14_Y_Of (Es_ok_circalaw14_Y_Of n) Tryz.func8 rfl (acOf_code _) (subs_circalaw14_Y_Of n) rfl ((cert_circalaw14_Y_Of n a.1 a.2.1 a.2.2.1 a.2.2.2.1 a.2.2.2.2).trans h)
theorem ok_circalaw14_Y_Of (n : Nat) : EntOK Tryz.prog (e_circalaw14_Y_Of n) := pureE_ok Tryz.call8 una_ok_circalaw14_Y_Of (fun _ => rfl) (pure_circalaw14_Y_Of n)

noncomputable def e_ext_113 (_n : Nat) : Ent := indexE 113
theorem ok_ext_113 (n : Nat) : EntOK Tryz.prog (e_ext_113 n) := indexE_ok Tryz.func113 (by kernel_rfl) (by kernel_rfl) (by kernel_rfl) (by kernel_rfl)

/-! internal/stringslite.IndexByte -/
noncomputable def arg_int_stringslite_IndexByte (a : List UInt8 × Int) : List V := [.s a.1, .i .u8 a.2]
noncomputable def una_int_stringslite_IndexByte (l : List V) : Option (List UInt8 × Int) := match l with
  | [.s a0, .i .u8 a1] => some (a0, a1)
  | _ => none
theorem una_ok_int_stringslite_IndexByte : ∀ l a, una_int_stringslite_IndexByte l = some a → l = arg_int_stringslite_IndexByte a := by
  intro l a h
  unfold una_int_stringslite_IndexByte at h
  split at h
  · cases h; rfl
  · cases h
noncomputable def enc_int_stringslite_IndexByte (r : Int) : V := .i .i64 r
noncomputable def unr_int_stringslite_IndexByte (v : V) : Option (Int) := match v with
  | .i .i64 r0 => some r0
  | _ => none
theorem unr_ok_int_stringslite_IndexByte : ∀ v r, unr_int_stringslite_IndexByte v = some r → v = enc_int_stringslite_IndexByte r := by
  intro v r h
  unfold unr_int_stringslite_IndexByte at h
  split at h
  · cases h; rfl
  · cases h
noncomputable def e_int_stringslite_IndexByte (n : Nat) : Ent := pureE 97 una_int_stringslite_IndexByte (fun a => int_stringslite_IndexByte n a.1 a.2) enc_int_stringslite_IndexByte
noncomputable def t_int_stringslite_IndexByte (l : List V) (_ : List (Nat × Blk)) : Bool := isS (una_int_stringslite_IndexByte l)
noncomputable def Es_int_stringslite_IndexByte (n : Nat) : List Ent := [e_ext_113 n]
theorem Es_ok_int_stringslite_IndexByte (n : Nat) : ∀ x ∈ Es_int_stringslite_IndexByte n, EntOK Tryz.prog x := by
  intro x hx
  simp only [Es_int_stringslite_IndexByte, List.mem_cons, List.not_mem_nil, or_false] at hx
  · rw [hx]; exact ok_ext_113 n
noncomputable def Ls_int_stringslite_IndexByte (_n : Nat) : List Sub := []
theorem subs_int_stringslite_IndexByte (n : Nat) : SubOK Tryz.prog 8 (Ls_int_stringslite_IndexByte n) (acOf Tryz.f97) := SubOK_of _ (by
  have e : subs (acOf Tryz.f97) = [] := by kernel_rfl
  rw [e]; intro p hp; cases hp)
theorem cert_int_stringslite_IndexByte (n : Nat) (a0 : List UInt8) (a1 : Int) : run Tryz.prog (Es_int_stringslite_IndexByte n) (Ls_int_stringslite_IndexByte n) Tryz.f97.ntmps (acOf Tryz.f97) ⟨argsT [.s a0, .i .u8 a1] 0, [], 0, 0, 0, 0⟩ (finK Tryz.prog Tryz.f97.results.toList (retX unr_int_stringslite_IndexByte)) = int_stringslite_IndexByte n a0 a1 := by kernel_rfl
theorem pure_int_stringslite_IndexByte (n : Nat) : ∀ a r, int_stringslite_IndexByte n a.1 a.2 = some r → PureOK Tryz.prog 97 (arg_int_stringslite_IndexByte a) (enc_int_stringslite_IndexByte r) := fun a r h => pureX_ok unr_ok_int_stringslite_IndexByte (Es_ok_int_stringslite_IndexByte n) Tryz.func97 rfl (acOf_code _) (subs_int_stringslite_IndexByte n) rfl ((cert_int_stringslite_IndexByte n a.1 a.2).trans h)
theorem ok_int_stringslite_IndexByte (n : Nat) : EntOK Tryz.prog (e_int_stringslite_IndexByte n) := pureE_ok Tryz.call97 una_ok_int_stringslite_IndexByte (fun _ => rfl) (pure_int_stringslite_IndexByte n)

/-! strings.IndexByte -/
noncomputable def arg_strings_IndexByte (a : List UInt8 × Int) : List V := [.s a.1, .i .u8 a.2]
noncomputable def una_strings_IndexByte (l : List V) : Option (List UInt8 × Int) := match l with
  | [.s a0, .i .u8 a1] => some (a0, a1)
  | _ => none
theorem una_ok_strings_IndexByte : ∀ l a, una_strings_IndexByte l = some a → l = arg_strings_IndexByte a := by
  intro l a h
  unfold una_strings_IndexByte at h
  split at h
  · cases h; rfl
  · cases h
noncomputable def enc_strings_IndexByte (r : Int) : V := .i .i64 r
noncomputable def unr_strings_IndexByte (v : V) : Option (Int) := match v with
  | .i .i64 r0 => some r0
  | _ => none
theorem unr_ok_strings_IndexByte : ∀ v r, unr_strings_IndexByte v = some r → v = enc_strings_IndexByte r := by
  intro v r h
  unfold unr_strings_IndexByte at h
  split at h
  · cases h; rfl
  · cases h
noncomputable def e_strings_IndexByte (n : Nat) : Ent := pureE 78 una_strings_IndexByte (fun a => strings_IndexByte n a.1 a.2) enc_strings_IndexByte
noncomputable def t_strings_IndexByte (l : List V) (_ : List (Nat × Blk)) : Bool := isS (una_strings_IndexByte l)
noncomputable def Es_strings_IndexByte (n : Nat) : List Ent := [e_int_stringslite_IndexByte n]
theorem Es_ok_strings_IndexByte (n : Nat) : ∀ x ∈ Es_strings_IndexByte n, EntOK Tryz.prog x := by
  intro x hx
  simp only [Es_strings_IndexByte, List.mem_cons, List.not_mem_nil, or_false] at hx
  · rw [hx]; exact ok_int_stringslite_IndexByte n
noncomputable def Ls_strings_IndexByte (_n : Nat) : List Sub := []
theorem subs_strings_IndexByte (n : Nat) : SubOK Tryz.prog 8 (Ls_strings_IndexByte n) (acOf Tryz.f78) := SubOK_of _ (by
  have e : subs (acOf Tryz.f78) = [] := by kernel_rfl
  rw [e]; intro p hp; cases hp)
theorem cert_strings_IndexByte (n : Nat) (a0 : List UInt8) (a1 : Int) : run Tryz.prog (Es_strings_IndexByte n) (Ls_strings_IndexByte n) Tryz.f78.ntmps (acOf Tryz.f78) ⟨argsT [.s a0, .i .u8 a1] 0, [], 0, 0, 0, 0⟩ (finK Tryz.prog Tryz.f78.results.toList (retX unr_strings_IndexByte)) = strings_IndexByte n a0 a1 := by kernel_rfl
theorem pure_strings_IndexByte (n : Nat) : ∀ a r, strings_IndexByte n a.1 a.2 = some r → PureOK Tryz.prog 78 (arg_strings_IndexByte a) (enc_strings_IndexByte r) := fun a r h => pureX_ok unr_ok_strings_IndexByte (Es_ok_strings_IndexByte n) Tryz.func78 rfl (acOf_code _) (subs_strings_IndexByte n) rfl ((cert_strings_IndexByte n a.1 a.2).trans h)
theorem ok_strings_IndexByte (n : Nat) : EntOK Tryz.prog (e_strings_IndexByte n) := pureE_ok Tryz.call78 una_ok_strings_IndexByte (fun _ => rfl) (pure_strings_IndexByte n)

/-! unicode/utf8.ValidRune -/
noncomputable def arg_unicode_utf8_ValidRune (a : Int) : List V := [.i .i32 a]
noncomputable def una_unicode_utf8_ValidRune (l : List V) : Option (Int) := match l with
  | [.i .i32 a0] => some a0
  | _ => none
theorem una_ok_unicode_utf8_ValidRune : ∀ l a, una_unicode_utf8_ValidRune l = some a → l = arg_unicode_utf8_ValidRune a := by
  intro l a h
  unfold una_unicode_utf8_ValidRune at h
  split at h
  · cases h; rfl
  · cases h
noncomputable def enc_unicode_utf8_ValidRune (r : Bool) : V := .b r
noncomputable def unr_unicode_utf8_ValidRune (v : V) : Option (Bool) := match v with
  | .b r0 => some r0
  | _ => none
theorem unr_ok_unicode_utf8_ValidRune : ∀ v r, unr_unicode_utf8_ValidRune v = some r → v = enc_unicode_utf8_ValidRune r := by
  intro v r h
  unfold unr_unicode_utf8_ValidRune at h
  split at h
  · cases h; rfl
  · cases h
noncomputable def e_unicode_utf8_ValidRune (n : Nat) : Ent := pureE 102 una_unicode_utf8_ValidRune (fun a => unicode_utf8_ValidRune n a) enc_unicode_utf8_ValidRune
noncomputable def t_unicode_utf8_ValidRune (l : List V) (_ : List (Nat × Blk)) : Bool := isS (una_unicode_utf8_ValidRune l)
noncomputable def Es_unicode_utf8_ValidRune (_n : Nat) : List Ent := []
theorem Es_ok_unicode_utf8_ValidRune (n : Nat) : ∀ x ∈ Es_unicode_utf8_ValidRune n, EntOK Tryz.prog x := by
  intro x hx
  simp [Es_unicode_utf8_ValidRune] at hx
noncomputable def Ls_unicode_utf8_ValidRune (_n : Nat) : List Sub := []
theorem subs_unicode_utf8_ValidRune (n : Nat) : SubOK Tryz.prog 17 (Ls_unicode_utf8_ValidRune n) (acOf Tryz.f102) := SubOK_of _ (by
  have e : subs (acOf Tryz.f102) = [] := by kernel_rfl
  rw [e]; intro p hp; cases hp)
theorem cert_unicode_utf8_ValidRune (n : Nat) (a0 : Int) : run Tryz.prog (Es_unicode_utf8_ValidRune n) (Ls_unicode_utf8_ValidRune n) Tryz.f102.ntmps (acOf Tryz.f102) ⟨argsT [.i .i32 a0] 0, [], 0, 0, 0, 0⟩ (finK Tryz.prog Tryz.f102.results.toList (retX unr_unicode_utf8_ValidRune)) = unicode_utf8_ValidRune n a0 := by kernel_rfl
theorem pure_unicode_utf8_ValidRune (n : Nat) : ∀ a r, unicode_utf8_ValidRune n a = some r → PureOK Tryz.prog 102 (arg_unicode_utf8_ValidRune a) (enc_unicode_utf8_ValidRune r) := fun a r h => pureX_ok unr_ok_unicode_utf8_ValidRune (Es_ok_unicode_utf8_ValidRune n) Tryz.func102 rfl (acOf_code _) (subs_unicode_utf8_ValidRune n) rfl ((cert_unicode_utf8_ValidRune n a).trans h)
theorem ok_unicode_utf8_ValidRune (n : Nat) : EntOK Tryz.prog (e_unicode_utf8_ValidRune n) := pureE_ok Tryz.call102 una_ok_unicode_utf8_ValidRune (fun _ => rfl) (pure_unicode_utf8_ValidRune n)

/-! strings.IndexRune -/
noncomputable def arg_strings_IndexRune (a : List UInt8 × Int) : List V := [.s a.1, .i .i32 a.2]
noncomputable def una_strings_IndexRune (l : List V) : Option (List UInt8 × Int) := match l with
  | [.s a0, .i .i32 a1] => some (a0, a1)
  | _ => none
theorem una_ok_strings_IndexRune : ∀ l a, una_strings_IndexRune l = some a → l = arg_strings_IndexRune a := by
  intro l a h
  unfold una_strings_IndexRune at h
  split at h
  · cases h; rfl
  · cases h
noncomputable def enc_strings_IndexRune (r : Int) : V := .i .i64 r
noncomputable def unr_strings_IndexRune (v : V) : Option (Int) := match v with
  | .i .i64 r0 => some r0
  | _ => none
theorem unr_ok_strings_IndexRune : ∀ v r, unr_strings_IndexRune v = some r → v = enc_strings_IndexRune r := by
  intro v r h
  unfold unr_strings_IndexRune at h
  split at h
  · cases h; rfl
  · cases h
noncomputable def e_strings_IndexRune (n : Nat) : Ent := pureE 85 una_strings_IndexRune (fun a => strings_IndexRune n a.1 a.2) enc_strings_IndexRune
noncomputable def t_strings_IndexRune (l : List V) (_ : List (Nat × Blk)) : Bool := isS (una_strings_IndexRune l)
noncomputable def Es_strings_IndexRune (n : Nat) : List Ent := [e_strings_IndexByte n, e_unicode_utf8_ValidRune n]
theorem Es_ok_strings_IndexRune (n : Nat) : ∀ x ∈ Es_strings_IndexRune n, EntOK Tryz.prog x := by
  intro x hx
  simp only [Es_strings_IndexRune, List.mem_cons, List.not_mem_nil, or_false] at hx
  rcases hx with hx | hx
  · rw [hx]; exact ok_strings_IndexByte n
  · rw [hx]; exact ok_unicode_utf8_ValidRune n
noncomputable def an_strings_IndexRune_l0 : Ann := ⟨[175], [0], 1, []⟩
noncomputable def emb_strings_IndexRune_l0 (x : List UInt8 × Nat) : St := ⟨[(175, some (.p 0 0))], [(0, .iter x.1 x.2)], 1, 0, 0, 0⟩
noncomputable def un_strings_IndexRune_l0 (s : St) : Option (List UInt8 × Nat) := match s with
  | ⟨[(175, some (.p 0 0))], [(0, .iter x0 x1)], 1, 0, 0, 0⟩ => some (x0, x1)
  | _ => none
theorem un_ok_strings_IndexRune_l0 : ∀ s x, un_strings_IndexRune_l0 s = some x → s = emb_strings_IndexRune_l0 x := by
  intro s x h
  unfold un_strings_IndexRune_l0 at h
  split at h
  · cases h; rfl
  · cases h
noncomputable def ax_strings_IndexRune_l0 : Ex → Ann := fun ex => match ex with
  | .ret => ⟨[4], [], 1, []⟩
  | .exit 9 => ⟨[], [], 1, []⟩
  | _ => ⟨[], [], 0, []⟩
noncomputable def out_strings_IndexRune_l0 (y : Int ⊕ Unit) : Ex × St := (Sum.casesOn (motive := fun _ => Ex × St) y (fun a0 => (.ret, ⟨[(4, some (.i .i64 a0))], [], 1, 0, 0, 0⟩)) (fun b0 => (.exit 9, ⟨[], [], 1, 0, 0, 0⟩)))
noncomputable def outK_strings_IndexRune_l0 (α : Type) (y : Int ⊕ Unit) (k : Ex → St → Option α) : Option α := (Sum.casesOn (motive := fun _ => Option α) y (fun a0 => (k (.ret) ⟨[(4, some (.i .i64 a0))], [], 1, 0, 0, 0⟩)) (fun b0 => (k (.exit 9) ⟨[], [], 1, 0, 0, 0⟩)))
theorem outK_ok_strings_IndexRune_l0 : ∀ α y k, outK_strings_IndexRune_l0 α y k = k (out_strings_IndexRune_l0 y).1 (out_strings_IndexRune_l0 y).2 := by
  intro α y k
  rcases y with y | y <;> rfl
noncomputable def ux_strings_IndexRune_l0 (ex : Ex) (s : St) : Option (Int ⊕ Unit) := match ex, s with
  | .ret, ⟨[(4, some (.i .i64 y0))], [], 1, 0, 0, 0⟩ => some (.inl y0)
  | .exit 9, ⟨[], [], 1, 0, 0, 0⟩ => some (.inr ())
  | _, _ => none
theorem ux_ok_strings_IndexRune_l0 : ∀ ex s y, ux_strings_IndexRune_l0 ex s = some y → (ex, s) = out_strings_IndexRune_l0 y := by
  intro ex s y h
  unfold ux_strings_IndexRune_l0 at h
  split at h
  · cases h; rfl
  · cases h; rfl
  · cases h
noncomputable def an_strings_IndexRune_l2 : Ann := ⟨[0, 7, 8, 9, 12], [], 128, []⟩
noncomputable def emb_strings_IndexRune_l2 (x : List UInt8 × List UInt8 × Int × Int × Int) : St := ⟨[(0, some (.s x.1)), (7, some (.s x.2.1)), (8, some (.i .i64 x.2.2.1)), (9, some (.i .i64 x.2.2.2.1)), (12, some (.i .i64 x.2.2.2.2))], [], 128, 0, 0, 0⟩
noncomputable def un_strings_IndexRune_l2 (s : St) : Option (List UInt8 × List UInt8 × Int × Int × Int) := match s with
  | ⟨[(0, some (.s x0)), (7, some (.s x1)), (8, some (.i .i64 x2)), (9, some (.i .i64 x3)), (12, some (.i .i64 x4))], [], 128, 0, 0, 0⟩ => some (x0, x1, x2, x3, x4)
  | _ => none
theorem un_ok_strings_IndexRune_l2 : ∀ s x, un_strings_IndexRune_l2 s = some x → s = emb_strings_IndexRune_l2 x := by
  intro s x h
  unfold un_strings_IndexRune_l2 at h
  split at h
  · cases h; rfl
  · cases h
noncomputable def ax_strings_IndexRune_l2 : Ex → Ann := fun ex => match ex with
  | .exit 3 => ⟨[8, 9], [], 128, []⟩
  | _ => ⟨[], [], 0, []⟩
noncomputable def out_strings_IndexRune_l2 (y : (Int × Int)) : Ex × St := (.exit 3, ⟨[(8, some (.i .i64 y.1)), (9, some (.i .i64 y.2))], [], 128, 0, 0, 0⟩)
noncomputable def outK_strings_IndexRune_l2 (α : Type) (y : (Int × Int)) (k : Ex → St → Option α) : Option α := (k (.exit 3) ⟨[(8, some (.i .i64 y.1)), (9, some (.i .i64 y.2))], [], 128, 0, 0, 0⟩)
theorem outK_ok_strings_IndexRune_l2 : ∀ α y k, outK_strings_IndexRune_l2 α y k = k (out_strings_IndexRune_l2 y).1 (out_strings_IndexRune_l2 y).2 := by
  intro α y k
  rfl
noncomputable def ux_strings_IndexRune_l2 (ex : Ex) (s : St) : Option ((Int × Int)) := match ex, s with
  | .exit 3, ⟨[(8, some (.i .i64 y0)), (9, some (.i .i64 y1))], [], 128, 0, 0, 0⟩ => some (y0, y1)
  | _, _ => none
theorem ux_ok_strings_IndexRune_l2 : ∀ ex s y, ux_strings_IndexRune_l2 ex s = some y → (ex, s) = out_strings_IndexRune_l2 y := by
  intro ex s y h
  unfold ux_strings_IndexRune_l2 at h
  split at h
  · cases h; rfl
  · cases h
noncomputable def an_strings_IndexRune_l2a : Ann := ⟨[0, 7, 8, 9, 12], [], 56, []⟩
noncomputable def emb_strings_IndexRune_l2a (x : List UInt8 × List UInt8 × Int × Int × Int) : St := ⟨[(0, some (.s x.1)), (7, some (.s x.2.1)), (8, some (.i .i64 x.2.2.1)), (9, some (.i .i64 x.2.2.2.1)), (12, some (.i .i64 x.2.2.2.2))], [], 56, 0, 0, 0⟩
noncomputable def un_strings_IndexRune_l2a (s : St) : Option (List UInt8 × List UInt8 × Int × Int × Int) := match s with
  | ⟨[(0, some (.s x0)), (7, some (.s x1)), (8, some (.i .i64 x2)), (9, some (.i .i64 x3)), (12, some (.i .i64 x4))], [], 56, 0, 0, 0⟩ => some (x0, x1, x2, x3, x4)
  | _ => none
theorem un_ok_strings_IndexRune_l2a : ∀ s x, un_strings_IndexRune_l2a s = some x → s = emb_strings_IndexRune_l2a x := by
  intro s x h
  unfold un_strings_IndexRune_l2a at h
  split at h
  · cases h; rfl
  · cases h
noncomputable def ax_strings_IndexRune_l2a : Ex → Ann := fun ex => match ex with
  | .exit 3 => ⟨[8, 9], [], 56, []⟩
  | _ => ⟨[], [], 0, []⟩
noncomputable def out_strings_IndexRune_l2a (y : (Int × Int)) : Ex × St := (.exit 3, ⟨[(8, some (.i .i64 y.1)), (9, some (.i .i64 y.2))], [], 56, 0, 0, 0⟩)
noncomputable def outK_strings_IndexRune_l2a (α : Type) (y : (Int × Int)) (k : Ex → St → Option α) : Option α := (k (.exit 3) ⟨[(8, some (.i .i64 y.1)), (9, some (.i .i64 y.2))], [], 56, 0, 0, 0⟩)
theorem outK_ok_strings_IndexRune_l2a : ∀ α y k, outK_strings_IndexRune_l2a α y k = k (out_strings_IndexRune_l2a y).1 (out_strings_IndexRune_l2a y).2 := by
  intro α y k
  rfl
noncomputable def ux_strings_IndexRune_l2a (ex : Ex) (s : St) : Option ((Int × Int)) := match ex, s with
  | .exit 3, ⟨[(8, some (.i .i64 y0)), (9, some (.i .i64 y1))], [], 56, 0, 0, 0⟩ => some (y0, y1)
  | _, _ => none
theorem ux_ok_strings_IndexRune_l2a : ∀ ex s y, ux_strings_IndexRune_l2a ex s = some y → (ex, s) = out_strings_IndexRune_l2a y := by
  intro ex s y h
  unfold ux_strings_IndexRune_l2a at h
  split at h
  · cases h; rfl
  · cases h
noncomputable def an_strings_IndexRune_l1 : Ann := ⟨[0, 7, 8, 9], [], 0, []⟩
noncomputable def emb_strings_IndexRune_l1 (x : List UInt8 × List UInt8 × Int × Int) : St := ⟨[(0, some (.s x.1)), (7, some (.s x.2.1)), (8, some (.i .i64 x.2.2.1)), (9, some (.i .i64 x.2.2.2))], [], 0, 0, 0, 0⟩
noncomputable def un_strings_IndexRune_l1 (s : St) : Option (List UInt8 × List UInt8 × Int × Int) := match s with
  | ⟨[(0, some (.s x0)), (7, some (.s x1)), (8, some (.i .i64 x2)), (9, some (.i .i64 x3))], [], 0, 0, 0, 0⟩ => some (x0, x1, x2, x3)
  | _ => none
theorem un_ok_strings_IndexRune_l1 : ∀ s x, un_strings_IndexRune_l1 s = some x → s = emb_strings_IndexRune_l1 x := by
  intro s x h
  unfold un_strings_IndexRune_l1 at h
  split at h
  · cases h; rfl
  · cases h
noncomputable def ax_strings_IndexRune_l1 : Ex → Ann := fun ex => match ex with
  | .ret => ⟨[4], [], 0, []⟩
  | .exit 1 => ⟨[], [], 0, []⟩
  | _ => ⟨[], [], 0, []⟩
noncomputable def out_strings_IndexRune_l1 (y : Int ⊕ Unit) : Ex × St := (Sum.casesOn (motive := fun _ => Ex × St) y (fun a0 => (.ret, ⟨[(4, some (.i .i64 a0))], [], 0, 0, 0, 0⟩)) (fun b0 => (.exit 1, ⟨[], [], 0, 0, 0, 0⟩)))
noncomputable def outK_strings_IndexRune_l1 (α : Type) (y : Int ⊕ Unit) (k : Ex → St → Option α) : Option α := (Sum.casesOn (motive := fun _ => Option α) y (fun a0 => (k (.ret) ⟨[(4, some (.i .i64 a0))], [], 0, 0, 0, 0⟩)) (fun b0 => (k (.exit 1) ⟨[], [], 0, 0, 0, 0⟩)))
theorem outK_ok_strings_IndexRune_l1 : ∀ α y k, outK_strings_IndexRune_l1 α y k = k (out_strings_IndexRune_l1 y).1 (out_strings_IndexRune_l1 y).2 := by
  intro α y k
  rcases y with y | y <;> rfl
noncomputable def ux_strings_IndexRune_l1 (ex : Ex) (s : St) : Option (Int ⊕ Unit) := match ex, s with
  | .ret, ⟨[(4, some (.i .i64 y0))], [], 0, 0, 0, 0⟩ => some (.inl y0)
  | .exit 1, ⟨[], [], 0, 0, 0, 0⟩ => some (.inr ())
  | _, _ => none
theorem ux_ok_strings_IndexRune_l1 : ∀ ex s y, ux_strings_IndexRune_l1 ex s = some y → (ex, s) = out_strings_IndexRune_l1 y := by
  intro ex s y h
  unfold ux_strings_IndexRune_l1 at h
  split at h
  · cases h; rfl
  · cases h; rfl
  · cases h
noncomputable def Ls_strings_IndexRune (n : Nat) : List Sub := [subE 0 an_strings_IndexRune_l0 un_strings_IndexRune_l0 (fun x => iterL (strings_IndexRune_l0 n) n x) outK_strings_IndexRune_l0, altS (subE 2 an_strings_IndexRune_l2 un_strings_IndexRune_l2 (fun x => iterL (strings_IndexRune_l2 n) n x) outK_strings_IndexRune_l2) (readsS an_strings_IndexRune_l2 un_strings_IndexRune_l2) (subE 2 an_strings_IndexRune_l2a un_strings_IndexRune_l2a (fun x => iterL (strings_IndexRune_l2a n) n x) outK_strings_IndexRune_l2a), subE 1 an_strings_IndexRune_l1 un_strings_IndexRune_l1 (fun x => iterL (strings_IndexRune_l1 n) n x) outK_strings_IndexRune_l1]
noncomputable def sac_strings_IndexRune_l0 : AC := getS (subs (acOf Tryz.f85)) 0
noncomputable def ac_strings_IndexRune_l0 : AC := AC.body sac_strings_IndexRune_l0
theorem subs_strings_IndexRune_l0 (n : Nat) : SubOK Tryz.prog 187 (Ls_strings_IndexRune n) ac_strings_IndexRune_l0 := SubOK_of _ (by
  have e : subs ac_strings_IndexRune_l0 = [] := by kernel_rfl
  rw [e]; intro p hp; cases hp)
theorem body_strings_IndexRune_l0 (n : Nat) : ∀ x, run Tryz.prog (Es_strings_IndexRune n) (Ls_strings_IndexRune n) 187 ac_strings_IndexRune_l0 (emb_strings_IndexRune_l0 x) (roundK an_strings_IndexRune_l0 un_strings_IndexRune_l0 ax_strings_IndexRune_l0 ux_strings_IndexRune_l0) = strings_IndexRune_l0 n x := fun _ => by kernel_rfl
theorem sub1_strings_IndexRune_l0 (n : Nat) : ∀ (α : Type) (s : St) (k : Ex → St → Option α) (z : α), (subE 0 an_strings_IndexRune_l0 un_strings_IndexRune_l0 (fun x => iterL (strings_IndexRune_l0 n) n x) outK_strings_IndexRune_l0).e α s k = some z → SemC Tryz.prog 187 (sac_strings_IndexRune_l0).code s fun ex s' => k ex s' = some z := by
  intro α s k z h
  have e : sac_strings_IndexRune_l0 = .loop ac_strings_IndexRune_l0 := by kernel_rfl
  rw [e]
  exact subE_ok (m := 0) (f := fun x => iterL (strings_IndexRune_l0 n) n x) (out := out_strings_IndexRune_l0) outK_ok_strings_IndexRune_l0 un_ok_strings_IndexRune_l0 (fun x y hy => loop_ok (Es_ok_strings_IndexRune n) (subs_strings_IndexRune_l0 n) un_ok_strings_IndexRune_l0 ux_ok_strings_IndexRune_l0 (body_strings_IndexRune_l0 n) n x y hy) h
theorem sub_strings_IndexRune_l0 (n : Nat) : SubSt Tryz.prog 187 (Ls_strings_IndexRune n) 0 sac_strings_IndexRune_l0 := fun α s k z => sub1_strings_IndexRune_l0 n α s k z
noncomputable def sac_strings_IndexRune_l1 : AC := getS (subs (acOf Tryz.f85)) 1
noncomputable def ac_strings_IndexRune_l1 : AC := AC.body sac_strings_IndexRune_l1
noncomputable def sac_strings_IndexRune_l2 : AC := getS (subs ac_strings_IndexRune_l1) 2
noncomputable def ac_strings_IndexRune_l2 : AC := AC.body sac_strings_IndexRune_l2
theorem subs_strings_IndexRune_l2 (n : Nat) : SubOK Tryz.prog 187 (Ls_strings_IndexRune n) ac_strings_IndexRune_l2 := SubOK_of _ (by
  have e : subs ac_strings_IndexRune_l2 = [] := by kernel_rfl
  rw [e]; intro p hp; cases hp)
theorem body_strings_IndexRune_l2 (n : Nat) : ∀ x, run Tryz.prog (Es_strings_IndexRune n) (Ls_strings_IndexRune n) 187 ac_strings_IndexRune_l2 (emb_strings_IndexRune_l2 x) (roundK an_strings_IndexRune_l2 un_strings_IndexRune_l2 ax_strings_IndexRune_l2 ux_strings_IndexRune_l2) = strings_IndexRune_l2 n x := fun _ => by kernel_rfl
theorem sub1_strings_IndexRune_l2 (n : Nat) : ∀ (α : Type) (s : St) (k : Ex → St → Option α) (z : α), (subE 2 an_strings_IndexRune_l2 un_strings_IndexRune_l2 (fun x => iterL (strings_IndexRune_l2 n) n x) outK_strings_IndexRune_l2).e α s k = some z → SemC Tryz.prog 187 (sac_strings_IndexRune_l2).code s fun ex s' => k ex s' = some z := by
  intro α s k z h
  have e : sac_strings_IndexRune_l2 = .loop ac_strings_IndexRune_l2 := by kernel_rfl
  rw [e]
  exact subE_ok (m := 2) (f := fun x => iterL (strings_IndexRune_l2 n) n x) (out := out_strings_IndexRune_l2) outK_ok_strings_IndexRune_l2 un_ok_strings_IndexRune_l2 (fun x y hy => loop_ok (Es_ok_strings_IndexRune n) (subs_strings_IndexRune_l2 n) un_ok_strings_IndexRune_l2 ux_ok_strings_IndexRune_l2 (body_strings_IndexRune_l2 n) n x y hy) h
theorem body_strings_IndexRune_l2a (n : Nat) : ∀ x, run Tryz.prog (Es_strings_IndexRune n) (Ls_strings_IndexRune n) 187 ac_strings_IndexRune_l2 (emb_strings_IndexRune_l2a x) (roundK an_strings_IndexRune_l2a un_strings_IndexRune_l2a ax_strings_IndexRune_l2a ux_strings_IndexRune_l2a) = strings_IndexRune_l2a n x := fun _ => by kernel_rfl
theorem sub1_strings_IndexRune_l2a (n : Nat) : ∀ (α : Type) (s : St) (k : Ex → St → Option α) (z : α), (subE 2 an_strings_IndexRune_l2a un_strings_IndexRune_l2a (fun x => iterL (strings_IndexRune_l2a n) n x) outK_strings_IndexRune_l2a).e α s k = some z → SemC Tryz.prog 187 (sac_strings_IndexRune_l2).code s fun ex s' => k ex s' = some z := by
  intro α s k z h
  have e : sac_strings_IndexRune_l2 = .loop ac_strings_IndexRune_l2 := by kernel_rfl
  rw [e]
  exact subE_ok (m := 2) (f := fun x => iterL (strings_IndexRune_l2a n) n x) (out := out_strings_IndexRune_l2a) outK_ok_strings_IndexRune_l2a un_ok_strings_IndexRune_l2a (fun x y hy => loop_ok (Es_ok_strings_IndexRune n) (subs_strings_IndexRune_l2 n) un_ok_strings_IndexRune_l2a ux_ok_strings_IndexRune_l2a (body_strings_IndexRune_l2a n) n x y hy) h
theorem sub_strings_IndexRune_l2 (n : Nat) : SubSt Tryz.prog 187 (Ls_strings_IndexRune n) 2 sac_strings_IndexRune_l2 := fun α s k z => altS_ok (sub1_strings_IndexRune_l2 n α s k z) (sub1_strings_IndexRune_l2a n α s k z)
theorem subs_strings_IndexRune_l1 (n : Nat) : SubOK Tryz.prog 187 (Ls_strings_IndexRune n) ac_strings_IndexRune_l1 := SubOK_of _ (by
  have e : subs ac_strings_IndexRune_l1 = [(2, sac_strings_IndexRune_l2)] := by kernel_rfl
  rw [e]; intro p hp
  simp only [List.mem_cons, List.not_mem_nil, or_false] at hp
  · rw [hp]; exact sub_strings_IndexRune_l2 n
  )
theorem body_strings_IndexRune_l1 (n : Nat) : ∀ x, run Tryz.prog (Es_strings_IndexRune n) (Ls_strings_IndexRune n) 187 ac_strings_IndexRune_l1 (emb_strings_IndexRune_l1 x) (roundK an_strings_IndexRune_l1 un_strings_IndexRune_l1 ax_strings_IndexRune_l1 ux_strings_IndexRune_l1) = strings_IndexRune_l1 n x := fun _ => by kernel_rfl
theorem sub1_strings_IndexRune_l1 (n : Nat) : ∀ (α : Type) (s : St) (k : Ex → St → Option α) (z : α), (subE 1 an_strings_IndexRune_l1 un_strings_IndexRune_l1 (fun x => iterL (strings_IndexRune_l1 n) n x) outK_strings_IndexRune_l1).e α s k = some z → SemC Tryz.prog 187 (sac_strings_IndexRune_l1).code s fun ex s' => k ex s' = some z := by
  intro α s k z h
  have e : sac_strings_IndexRune_l1 = .loop ac_strings_IndexRune_l1 := by kernel_rfl
  rw [e]
  exact subE_ok (m := 1) (f := fun x => iterL (strings_IndexRune_l1 n) n x) (out := out_strings_IndexRune_l1) outK_ok_strings_IndexRune_l1 un_ok_strings_IndexRune_l1 (fun x y hy => loop_ok (Es_ok_strings_IndexRune n) (subs_strings_IndexRune_l1 n) un_ok_strings_IndexRune_l1 ux_ok_strings_IndexRune_l1 (body_strings_IndexRune_l1 n) n x y hy) h
theorem sub_strings_IndexRune_l1 (n : Nat) : SubSt Tryz.prog 187 (Ls_strings_IndexRune n) 1 sac_strings_IndexRune_l1 := fun α s k z => sub1_strings_IndexRune_l1 n α s k z
noncomputable def sac_strings_IndexRune_l3 : AC := getS (subs (acOf Tryz.f85)) 3
theorem nosub_strings_IndexRune_l3 (n : Nat) : SubSt Tryz.prog 187 (Ls_strings_IndexRune n) 3 sac_strings_IndexRune_l3 := by
  intro α s k z h
  simp [subOf, Ls_strings_IndexRune, subE, altS, Nat.beq] at h
theorem subs_strings_IndexRune (n : Nat) : SubOK Tryz.prog 187 (Ls_strings_IndexRune n) (acOf Tryz.f85) := SubOK_of _ (by
  have e : subs (acOf Tryz.f85) = [(0, sac_strings_IndexRune_l0), (1, sac_strings_IndexRune_l1), (3, sac_strings_IndexRune_l3)] := by kernel_rfl
  rw [e]; intro p hp
  simp only [List.mem_cons, List.not_mem_nil, or_false] at hp
  rcases hp with hp | hp | hp
  · rw [hp]; exact sub_strings_IndexRune_l0 n
  · rw [hp]; exact sub_strings_IndexRune_l1 n
  · rw [hp]; exact nosub_strings_IndexRune_l3 n
  )
theorem cert_strings_IndexRune (n : Nat) (a0 : List UInt8) (a1 : Int) : run Tryz.prog (Es_strings_IndexRune n) (Ls_strings_IndexRune n) Tryz.f85.ntmps (acOf Tryz.f85) ⟨argsT [.s a0, .i .i32 a1] 0, [], 0, 0, 0, 0⟩ (finK Tryz.prog Tryz.f85.results.toList (retX unr_strings_IndexRune)) = strings_IndexRune n a0 a1 := by kernel_rfl
theorem pure_strings_IndexRune (n : Nat) : ∀ a r, strings_IndexRune n a.1 a.2 = some r → PureOK Tryz.prog 85 (arg_strings_IndexRune a) (enc_strings_IndexRune r) := fun a r h => pureX_ok unr_ok_strings_IndexRune (Es_ok_strings_IndexRune n) Tryz.func85 rfl (acOf_code _) (subs_strings_IndexRune n) rfl ((cert_strings_IndexRune n a.1 a.2).trans h)
theorem ok_strings_IndexRune (n : Nat) : EntOK Tryz.prog (e_strings_IndexRune n) := pureE_ok Tryz.call85 una_ok_strings_IndexRune (fun _ => rfl) (pure_strings_IndexRune n)

/-! strings.ContainsRune -/
noncomputable def arg_strings_ContainsRune (a : List UInt8 × Int) : List V := [.s a.1, .i .i32 a.2]
noncomputable def una_strings_ContainsRune (l : List V) : Option (List UInt8 × Int) := match l with
  | [.s a0, .i .i32 a1] => some (a0, a1)
  | _ => none
theorem una_ok_strings_ContainsRune : ∀ l a, una_strings_ContainsRune l = some a → l = arg_strings_ContainsRune a := by
  intro l a h
  unfold una_strings_ContainsRune at h
  split at h
  · cases h; rfl
  · cases h
noncomputable def enc_strings_ContainsRune (r : Bool) : V := .b r
noncomputable def unr_strings_ContainsRune (v : V) : Option (Bool) := match v with
  | .b r0 => some r0
  | _ => none
theorem unr_ok_strings_ContainsRune : ∀ v r, unr_strings_ContainsRune v = some r → v = enc_strings_ContainsRune r := by
  intro v r h
  unfold unr_strings_ContainsRune at h
  split at h
  · cases h; rfl
  · cases h
noncomputable def e_strings_ContainsRune (n : Nat) : Ent := pureE 59 una_strings_ContainsRune (fun a => strings_ContainsRune n a.1 a.2) enc_strings_ContainsRune
noncomputable def t_strings_ContainsRune (l : List V) (_ : List (Nat × Blk)) : Bool := isS (una_strings_ContainsRune l)
noncomputable def Es_strings_ContainsRune (n : Nat) : List Ent := [e_strings_IndexRune n]
theorem Es_ok_strings_ContainsRune (n : Nat) : ∀ x ∈ Es_strings_ContainsRune n, EntOK Tryz.prog x := by
  intro x hx
  simp only [Es_strings_ContainsRune, List.mem_cons, List.not_mem_nil, or_false] at hx
  · rw [hx]; exact ok_strings_IndexRune n
noncomputable def Ls_strings_ContainsRune (_n : Nat) : List Sub := []
theorem subs_strings_ContainsRune (n : Nat) : SubOK Tryz.prog 9 (Ls_strings_ContainsRune n) (acOf Tryz.f59) := SubOK_of _ (by
  have e : subs (acOf Tryz.f59) = [] := by kernel_rfl
  rw [e]; intro p hp; cases hp)
theorem cert_strings_ContainsRune (n : Nat) (a0 : List UInt8) (a1 : Int) : run Tryz.prog (Es_strings_ContainsRune n) (Ls_strings_ContainsRune n) Tryz.f59.ntmps (acOf Tryz.f59) ⟨argsT [.s a0, .i .i32 a1] 0, [], 0, 0, 0, 0⟩ (finK Tryz.prog Tryz.f59.results.toList (retX unr_strings_ContainsRune)) = strings_ContainsRune n a0 a1 := by kernel_rfl
theorem pure_strings_ContainsRune (n : Nat) : ∀ a r, strings_ContainsRune n a.1 a.2 = some r → PureOK Tryz.prog 59 (arg_strings_ContainsRune a) (enc_strings_ContainsRune r) := fun a r h => pureX_ok unr_ok_strings_ContainsRune (Es_ok_strings_ContainsRune n) Tryz.func59 rfl (acOf_code _) (subs_strings_ContainsRune n) rfl ((cert_strings_ContainsRune n a.1 a.2).trans h)
theorem ok_strings_ContainsRune (n : Nat) : EntOK Tryz.prog (e_strings_ContainsRune n) := pureE_ok Tryz.call59 una_ok_strings_ContainsRune (fun _ => rfl) (pure_strings_ContainsRune n)

/-! circa/yearforms.only$1 -/
noncomputable def arg_yearforms_only_1 (a : Int × List UInt8) : List V := [.i .i32 a.1, .p 0 0]
noncomputable def H0_yearforms_only_1 (a : Int × List UInt8) : List (Nat × Blk) := [(0, .cells [.s a.2])]
noncomputable def una_yearforms_only_1 (l : List V) (H : List (Nat × Blk)) : Option ((Int × List UInt8) × List Nat) := match l with
  | [.i .i32 a0, .p b0 0] => (match Abs.look H b0 with
    | some (.cells [.s a1]) => (cond (Abs.distinct [b0] && true) (some ((a0, a1), [b0])) none)
    | _ => none)
  | _ => none
theorem una_ok_yearforms_only_1 : ∀ l H a ρ, una_yearforms_only_1 l H = some (a, ρ) → ρ.length = 1 ∧ ρ.Nodup ∧ l = V.rens ρ (arg_yearforms_only_1 a) ∧ ∀ b blk, Abs.look (H0_yearforms_only_1 a) b = some blk → Abs.look H (getN ρ b) = some (blk.ren ρ) := by
  intro l H a ρ h
  unfold una_yearforms_only_1 at h
  split at h
  · split at h
    · rename_i e0
      obtain ⟨hd, h⟩ := cond_some h
      simp only [Bool.and_eq_true] at hd
      obtain ⟨hd, _⟩ := hd
      cases h
      exact ⟨rfl, distinct_ok hd, rfl, eachH_look ⟨e0, trivial⟩⟩
    · cases h
  · cases h
noncomputable def out_yearforms_only_1 (r : Bool) : FOut := (⟨false, .b r, [], []⟩ : FOut)
noncomputable def outK_yearforms_only_1 (α : Type) (r : Bool) (k : FOut → Option α) : Option α := (k ⟨false, .b r, [], []⟩)
theorem outK_ok_yearforms_only_1 : ∀ α r k, outK_yearforms_only_1 α r k = k (out_yearforms_only_1 r) := by
  intro α r k
  rfl
noncomputable def unr_yearforms_only_1 (pan : Bool) (v : V) (H : List (Nat × Blk)) (nw : List Nat) : Option (Bool) := match pan, v, H, nw with
  | false, .b r0, [], [] => some r0
  | _, _, _, _ => none
theorem unr_ok_yearforms_only_1 : ∀ pan v H nw r, unr_yearforms_only_1 pan v H nw = some r → (out_yearforms_only_1 r).pan = pan ∧ (out_yearforms_only_1 r).news = nw ∧ v = V.ren (upTo 0 1 ++ (out_yearforms_only_1 r).news) (out_yearforms_only_1 r).val ∧ H = renH (upTo 0 1 ++ (out_yearforms_only_1 r).news) (out_yearforms_only_1 r).H := by
  intro pan v H nw r h
  unfold unr_yearforms_only_1 at h
  split at h
  · cases h; exact ⟨rfl, rfl, rfl, rfl⟩
  · cases h
theorem hv_yearforms_only_1 : ∀ r, V.lt (1 + (out_yearforms_only_1 r).news.length) (out_yearforms_only_1 r).val = true := fun r => (by rfl)
theorem hc_yearforms_only_1 : ∀ r, chkH (1 + (out_yearforms_only_1 r).news.length) (out_yearforms_only_1 r).H = true := fun r => (by rfl)
theorem hk_yearforms_only_1 : ∀ r, hasKeys (out_yearforms_only_1 r).H 1 (0 + (out_yearforms_only_1 r).news.length) = true := fun r => (by rfl)
noncomputable def e_yearforms_only_1 (n : Nat) : Ent := funE 58 1 una_yearforms_only_1 (fun a => yearforms_only_1 n a.1 a.2) outK_yearforms_only_1
noncomputable def t_yearforms_only_1 (l : List V) (H : List (Nat × Blk)) : Bool := isS (una_yearforms_only_1 l H)
noncomputable def Es_yearforms_only_1 (n : Nat) : List Ent := [e_strings_ContainsRune n]
theorem Es_ok_yearforms_only_1 (n : Nat) : ∀ x ∈ Es_yearforms_only_1 n, EntOK Tryz.prog x := by
  intro x hx
  simp only [Es_yearforms_only_1, List.mem_cons, List.not_mem_nil, or_false] at hx
  · rw [hx]; exact ok_strings_ContainsRune n
noncomputable def Ls_yearforms_only_1 (_n : Nat) : List Sub := []
theorem subs_yearforms_only_1 (n : Nat) : SubOK Tryz.prog 8 (Ls_yearforms_only_1 n) (acOf Tryz.f58) := SubOK_of _ (by
  have e : subs (acOf Tryz.f58) = [] := by kernel_rfl
  rw [e]; intro p hp; cases hp)
theorem cert_yearforms_only_1 (n : Nat) (a0 : Int) (a1 : List UInt8) : run Tryz.prog (Es_yearforms_only_1 n) (Ls_yearforms_only_1 n) Tryz.f58.ntmps (acOf Tryz.f58) ⟨argsT [.i .i32 a0, .p 0 0] 0, [(0, .cells [.s a1])], 1, 1, 1, 1⟩ (finK Tryz.prog Tryz.f58.results.toList (funX [] 1 1 1 unr_yearforms_only_1)) = yearforms_only_1 n a0 a1 := by kernel_rfl
theorem fun_yearforms_only_1 (n : Nat) : ∀ a r, yearforms_only_1 n a.1 a.2 = some r → FunOK Tryz.prog 58 (arg_yearforms_only_1 a) (H0_yearforms_only_1 a) 1 1 1 (out_yearforms_only_1 r) := fun a r h => funX_ok (ws := []) unr_ok_yearforms_only_1 hv_yearforms_only_1 (fun r b blk hl => (chkH_look (hc_yearforms_only_1 r) b blk hl).2) (fun r => chkH_keys (hc_yearforms_only_1 r)) (by decide) (Es_ok_yearforms_only_1 n) Tryz.func58 rfl (acOf_code _) (subs_yearforms_only_1 n) rfl rfl ((cert_yearforms_only_1 n a.1 a.2).trans h)
theorem ok_yearforms_only_1 (n : Nat) : EntOK Tryz.prog (e_yearforms_only_1 n) := funE_ok (m := 1) (ro := 1) (rb := 1) (out := out_yearforms_only_1) (arg := arg_yearforms_only_1) (H0 := H0_yearforms_only_1) Tryz.call58 (by decide) (by decide) outK_ok_yearforms_only_1 una_ok_yearforms_only_1 (fun _ => rfl) (fun a => chkH_look (m := 1) (H := H0_yearforms_only_1 a) rfl) (fun _ => rfl) (fun r => chkH_keys (hc_yearforms_only_1 r)) (fun r b blk h => (chkH_look (hc_yearforms_only_1 r) b blk h).2) (fun r b h1 h2 => hasKeys_ok (hk_yearforms_only_1 r) b h1 (by omega)) hv_yearforms_only_1 (fun_yearforms_only_1 n)

/-! strings.indexFunc -/
noncomputable def arg_strings_indexFunc (a : List UInt8 × Bool × List UInt8) : List V := [.s a.1, .fn 58 [.p 0 0], .b a.2.1]
noncomputable def H0_strings_indexFunc (a : List UInt8 × Bool × List UInt8) : List (Nat × Blk) := [(0, .cells [.s a.2.2])]
noncomputable def una_strings_indexFunc (l : List V) (H : List (Nat × Blk)) : Option ((List UInt8 × Bool × List UInt8) × List Nat) := match l with
  | [.s a0, .fn 58 [.p b0 0], .b a1] => (match Abs.look H b0 with
    | some (.cells [.s a2]) => (cond (Abs.distinct [b0] && true) (some ((a0, a1, a2), [b0])) none)
    | _ => none)
  | _ => none
theorem una_ok_strings_indexFunc : ∀ l H a ρ, una_strings_indexFunc l H = some (a, ρ) → ρ.length = 1 ∧ ρ.Nodup ∧ l = V.rens ρ (arg_strings_indexFunc a) ∧ ∀ b blk, Abs.look (H0_strings_indexFunc a) b = some blk → Abs.look H (getN ρ b) = some (blk.ren ρ) := by
  intro l H a ρ h
  unfold una_strings_indexFunc at h
  split at h
  · split at h
    · rename_i e0
      obtain ⟨hd, h⟩ := cond_some h
      simp only [Bool.and_eq_true] at hd
      obtain ⟨hd, _⟩ := hd
      cases h
      exact ⟨rfl, distinct_ok hd, rfl, eachH_look ⟨e0, trivial⟩⟩
    · cases h
  · cases h
noncomputable def out_strings_indexFunc (r : Int) : FOut := (⟨false, .i .i64 r, [], []⟩ : FOut)
noncomputable def outK_strings_indexFunc (α : Type) (r : Int) (k : FOut → Option α) : Option α := (k ⟨false, .i .i64 r, [], []⟩)
theorem outK_ok_strings_indexFunc : ∀ α r k, outK_strings_indexFunc α r k = k (out_strings_indexFunc r) := by
  intro α r k
  rfl
noncomputable def unr_strings_indexFunc (pan : Bool) (v : V) (H : List (Nat × Blk)) (nw : List Nat) : Option (Int) := match pan, v, H, nw with
  | false, .i .i64 r0, [], [] => some r0
  | _, _, _, _ => none
theorem unr_ok_strings_indexFunc : ∀ pan v H nw r, unr_strings_indexFunc pan v H nw = some r → (out_strings_indexFunc r).pan = pan ∧ (out_strings_indexFunc r).news = nw ∧ v = V.ren (upTo 0 1 ++ (out_strings_indexFunc r).news) (out_strings_indexFunc r).val ∧ H = renH (upTo 0 1 ++ (out_strings_indexFunc r).news) (out_strings_indexFunc r).H := by
  intro pan v H nw r h
  unfold unr_strings_indexFunc at h
  split at h
  · cases h; exact ⟨rfl, rfl, rfl, rfl⟩
  · cases h
theorem hv_strings_indexFunc : ∀ r, V.lt (1 + (out_strings_indexFunc r).news.length) (out_strings_indexFunc r).val = true := fun r => (by rfl)
theorem hc_strings_indexFunc : ∀ r, chkH (1 + (out_strings_indexFunc r).news.length) (out_strings_indexFunc r).H = true := fun r => (by rfl)
theorem hk_strings_indexFunc : ∀ r, hasKeys (out_strings_indexFunc r).H 1 (0 + (out_strings_indexFunc r).news.length) = true := fun r => (by rfl)
noncomputable def e_strings_indexFunc (n : Nat) : Ent := funE 84 1 una_strings_indexFunc (fun a => strings_indexFunc n a.1 a.2.1 a.2.2) outK_strings_indexFunc
noncomputable def t_strings_indexFunc (l : List V) (H : List (Nat × Blk)) : Bool := isS (una_strings_indexFunc l H)
noncomputable def Es_strings_indexFunc (n : Nat) : List Ent := [e_yearforms_only_1 n]
theorem Es_ok_strings_indexFunc (n : Nat) : ∀ x ∈ Es_strings_indexFunc n, EntOK Tryz.prog x := by
  intro x hx
  simp only [Es_strings_indexFunc, List.mem_cons, List.not_mem_nil, or_false] at hx
  · rw [hx]; exact ok_yearforms_only_1 n
noncomputable def an_strings_indexFunc_l0 : Ann := ⟨[1, 2, 10], [0, 1], 2, []⟩
noncomputable def emb_strings_indexFunc_l0 (x : Bool × List UInt8 × List UInt8 × Nat) : St := ⟨[(1, some (.fn 58 [.p 0 0])), (2, some (.b x.1)), (10, some (.p 1 0))], [(0, .cells [.s x.2.1]), (1, .iter x.2.2.1 x.2.2.2)], 2, 1, 1, 1⟩
noncomputable def un_strings_indexFunc_l0 (s : St) : Option (Bool × List UInt8 × List UInt8 × Nat) := match s with
  | ⟨[(1, some (.fn 58 [.p 0 0])), (2, some (.b x0)), (10, some (.p 1 0))], [(0, .cells [.s x1]), (1, .iter x2 x3)], 2, 1, 1, 1⟩ => some (x0, x1, x2, x3)
  | _ => none
theorem un_ok_strings_indexFunc_l0 : ∀ s x, un_strings_indexFunc_l0 s = some x → s = emb_strings_indexFunc_l0 x := by
  intro s x h
  unfold un_strings_indexFunc_l0 at h
  split at h
  · cases h; rfl
  · cases h
noncomputable def ax_strings_indexFunc_l0 : Ex → Ann := fun ex => match ex with
  | .ret => ⟨[6], [], 2, []⟩
  | .exit 0 => ⟨[], [], 2, []⟩
  | _ => ⟨[], [], 0, []⟩
noncomputable def out_strings_indexFunc_l0 (y : Int ⊕ Unit) : Ex × St := (Sum.casesOn (motive := fun _ => Ex × St) y (fun a0 => (.ret, ⟨[(6, some (.i .i64 a0))], [], 2, 1, 1, 1⟩)) (fun b0 => (.exit 0, ⟨[], [], 2, 1, 1, 1⟩)))
noncomputable def outK_strings_indexFunc_l0 (α : Type) (y : Int ⊕ Unit) (k : Ex → St → Option α) : Option α := (Sum.casesOn (motive := fun _ => Option α) y (fun a0 => (k (.ret) ⟨[(6, some (.i .i64 a0))], [], 2, 1, 1, 1⟩)) (fun b0 => (k (.exit 0) ⟨[], [], 2, 1, 1, 1⟩)))
theorem outK_ok_strings_indexFunc_l0 : ∀ α y k, outK_strings_indexFunc_l0 α y k = k (out_strings_indexFunc_l0 y).1 (out_strings_indexFunc_l0 y).2 := by
  intro α y k
  rcases y with y | y <;> rfl
noncomputable def ux_strings_indexFunc_l0 (ex : Ex) (s : St) : Option (Int ⊕ Unit) := match ex, s with
  | .ret, ⟨[(6, some (.i .i64 y0))], [], 2, 1, 1, 1⟩ => some (.inl y0)
  | .exit 0, ⟨[], [], 2, 1, 1, 1⟩ => some (.inr ())
  | _, _ => none
theorem ux_ok_strings_indexFunc_l0 : ∀ ex s y, ux_strings_indexFunc_l0 ex s = some y → (ex, s) = out_strings_indexFunc_l0 y := by
  intro ex s y h
  unfold ux_strings_indexFunc_l0 at h
  split at h
  · cases h; rfl
  · cases h; rfl
  · cases h
noncomputable def Ls_strings_indexFunc (n : Nat) : List Sub := [subE 0 an_strings_indexFunc_l0 un_strings_indexFunc_l0 (fun x => iterL (strings_indexFunc_l0 n) n x) outK_strings_indexFunc_l0]
noncomputable def sac_strings_indexFunc_l0 : AC := getS (subs (acOf Tryz.f84)) 0
noncomputable def ac_strings_indexFunc_l0 : AC := AC.body sac_strings_indexFunc_l0
theorem subs_strings_indexFunc_l0 (n : Nat) : SubOK Tryz.prog 21 (Ls_strings_indexFunc n) ac_strings_indexFunc_l0 := SubOK_of _ (by
  have e : subs ac_strings_indexFunc_l0 = [] := by kernel_rfl
  rw [e]; intro p hp; cases hp)
theorem body_strings_indexFunc_l0 (n : Nat) : ∀ x, run Tryz.prog (Es_strings_indexFunc n) (Ls_strings_indexFunc n) 21 ac_strings_indexFunc_l0 (emb_strings_indexFunc_l0 x) (roundK an_strings_indexFunc_l0 un_strings_indexFunc_l0 ax_strings_indexFunc_l0 ux_strings_indexFunc_l0) = strings_indexFunc_l0 n x := fun _ => by kernel_rfl
theorem sub1_strings_indexFunc_l0 (n : Nat) : ∀ (α : Type) (s : St) (k : Ex → St → Option α) (z : α), (subE 0 an_strings_indexFunc_l0 un_strings_indexFunc_l0 (fun x => iterL (strings_indexFunc_l0 n) n x) outK_strings_indexFunc_l0).e α s k = some z → SemC Tryz.prog 21 (sac_strings_indexFunc_l0).code s fun ex s' => k ex s' = some z := by
  intro α s k z h
  have e : sac_strings_indexFunc_l0 = .loop ac_strings_indexFunc_l0 := by kernel_rfl
  rw [e]
  exact subE_ok (m := 0) (f := fun x => iterL (strings_indexFunc_l0 n) n x) (out := out_strings_indexFunc_l0) outK_ok_strings_indexFunc_l0 un_ok_strings_indexFunc_l0 (fun x y hy => loop_ok (Es_ok_strings_indexFunc n) (subs_strings_indexFunc_l0 n) un_ok_strings_indexFunc_l0 ux_ok_strings_indexFunc_l0 (body_strings_indexFunc_l0 n) n x y hy) h
theorem sub_strings_indexFunc_l0 (n : Nat) : SubSt Tryz.prog 21 (Ls_strings_indexFunc n) 0 sac_strings_indexFunc_l0 := fun α s k z => sub1_strings_indexFunc_l0 n α s k z
theorem subs_strings_indexFunc (n : Nat) : SubOK Tryz.prog 21 (Ls_strings_indexFunc n) (acOf Tryz.f84) := SubOK_of _ (by
  have e : subs (acOf Tryz.f84) = [(0, sac_strings_indexFunc_l0)] := by kernel_rfl
  rw [e]; intro p hp
  simp only [List.mem_cons, List.not_mem_nil, or_false] at hp
  · rw [hp]; exact sub_strings_indexFunc_l0 n
  )
theorem cert_strings_indexFunc (n : Nat) (a0 : List UInt8) (a1 : Bool) (a2 : List UInt8) : run Tryz.prog (Es_strings_indexFunc n) (Ls_strings_indexFunc n) Tryz.f84.ntmps (acOf Tryz.f84) ⟨argsT [.s a0, .fn 58 [.p 0 0], .b a1] 0, [(0, .cells [.s a2])], 1, 1, 1, 1⟩ (finK Tryz.prog Tryz.f84.results.toList (funX [] 1 1 1 unr_strings_indexFunc)) = strings_indexFunc n a0 a1 a2 := by kernel_rfl
theorem fun_strings_indexFunc (n : Nat) : ∀ a r, strings_indexFunc n a.1 a.2.1 a.2.2 = some r → FunOK Tryz.prog 84 (arg_strings_indexFunc a) (H0_strings_indexFunc a) 1 1 1 (out_strings_indexFunc r) := fun a r h => funX_ok (ws := []) unr_ok_strings_indexFunc hv_strings_indexFunc (fun r b blk hl => (chkH_look (hc_strings_indexFunc r) b blk hl).2) (fun r => chkH_keys (hc_strings_indexFunc r)) (by decide) (Es_ok_strings_indexFunc n) Tryz.func84 rfl (acOf_code _) (subs_strings_indexFunc n) rfl rfl ((cert_strings_indexFunc n a.1 a.2.1 a.2.2).trans h)
theorem ok_strings_indexFunc (n : Nat) : EntOK Tryz.prog (e_strings_indexFunc n) := funE_ok (m := 1) (ro := 1) (rb := 1) (out := out_strings_indexFunc) (arg := arg_strings_indexFunc) (H0 := H0_strings_indexFunc) Tryz.call84 (by decide) (by decide) outK_ok_strings_indexFunc una_ok_strings_indexFunc (fun _ => rfl) (fun a => chkH_look (m := 1) (H := H0_strings_indexFunc a) rfl) (fun _ => rfl) (fun r => chkH_keys (hc_strings_indexFunc r)) (fun r b blk h => (chkH_look (hc_strings_indexFunc r) b blk h).2) (fun r b h1 h2 => hasKeys_ok (hk_strings_indexFunc r) b h1 (by omega)) hv_strings_indexFunc (fun_strings_indexFunc n)

/-! strings.IndexFunc -/
noncomputable def arg_strings_IndexFunc (a : List UInt8 × List UInt8) : List V := [.s a.1, .fn 58 [.p 0 0]]
noncomputable def H0_strings_IndexFunc (a : List UInt8 × List UInt8) : List (Nat × Blk) := [(0, .cells [.s a.2])]
noncomputable def una_strings_IndexFunc (l : List V) (H : List (Nat × Blk)) : Option ((List UInt8 × List UInt8) × List Nat) := match l with
  | [.s a0, .fn 58 [.p b0 0]] => (match Abs.look H b0 with
    | some (.cells [.s a1]) => (cond (Abs.distinct [b0] && true) (some ((a0, a1), [b0])) none)
    | _ => none)
  | _ => none
theorem una_ok_strings_IndexFunc : ∀ l H a ρ, una_strings_IndexFunc l H = some (a, ρ) → ρ.length = 1 ∧ ρ.Nodup ∧ l = V.rens ρ (arg_strings_IndexFunc a) ∧ ∀ b blk, Abs.look (H0_strings_IndexFunc a) b = some blk → Abs.look H (getN ρ b) = some (blk.ren ρ) := by
  intro l H a ρ h
  unfold una_strings_IndexFunc at h
  split at h
  · split at h
    · rename_i e0
      obtain ⟨hd, h⟩ := cond_some h
      simp only [Bool.and_eq_true] at hd
      obtain ⟨hd, _⟩ := hd
      cases h
      exact ⟨rfl, distinct_ok hd, rfl, eachH_look ⟨e0, trivial⟩⟩
    · cases h
  · cases h
noncomputable def out_strings_IndexFunc (r : Int) : FOut := (⟨false, .i .i64 r, [], []⟩ : FOut)
noncomputable def outK_strings_IndexFunc (α : Type) (r : Int) (k : FOut → Option α) : Option α := (k ⟨false, .i .i64 r, [], []⟩)
theorem outK_ok_strings_IndexFunc : ∀ α r k, outK_strings_IndexFunc α r k = k (out_strings_IndexFunc r) := by
  intro α r k
  rfl
noncomputable def unr_strings_IndexFunc (pan : Bool) (v : V) (H : List (Nat × Blk)) (nw : List Nat) : Option (Int) := match pan, v, H, nw with
  | false, .i .i64 r0, [], [] => some r0
  | _, _, _, _ => none
theorem unr_ok_strings_IndexFunc : ∀ pan v H nw r, unr_strings_IndexFunc pan v H nw = some r → (out_strings_IndexFunc r).pan = pan ∧ (out_strings_IndexFunc r).news = nw ∧ v = V.ren (upTo 0 1 ++ (out_strings_IndexFunc r).news) (out_strings_IndexFunc r).val ∧ H = renH (upTo 0 1 ++ (out_strings_IndexFunc r).news) (out_strings_IndexFunc r).H := by
  intro pan v H nw r h
  unfold unr_strings_IndexFunc at h
  split at h
  · cases h; exact ⟨rfl, rfl, rfl, rfl⟩
  · cases h
theorem hv_strings_IndexFunc : ∀ r, V.lt (1 + (out_strings_IndexFunc r).news.length) (out_strings_IndexFunc r).val = true := fun r => (by rfl)
theorem hc_strings_IndexFunc : ∀ r, chkH (1 + (out_strings_IndexFunc r).news.length) (out_strings_IndexFunc r).H = true := fun r => (by rfl)
theorem hk_strings_IndexFunc : ∀ r, hasKeys (out_strings_IndexFunc r).H 1 (0 + (out_strings_IndexFunc r).news.length) = true := fun r => (by rfl)
noncomputable def e_strings_IndexFunc (n : Nat) : Ent := funE 57 1 una_strings_IndexFunc (fun a => strings_IndexFunc n a.1 a.2) outK_strings_IndexFunc
noncomputable def t_strings_IndexFunc (l : List V) (H : List (Nat × Blk)) : Bool := isS (una_strings_IndexFunc l H)
noncomputable def Es_strings_IndexFunc (n : Nat) : List Ent := [e_strings_indexFunc n]
theorem Es_ok_strings_IndexFunc (n : Nat) : ∀ x ∈ Es_strings_IndexFunc n, EntOK Tryz.prog x := by
  intro x hx
  simp only [Es_strings_IndexFunc, List.mem_cons, List.not_mem_nil, or_false] at hx
  · rw [hx]; exact ok_strings_indexFunc n
noncomputable def Ls_strings_IndexFunc (_n : Nat) : List Sub := []
theorem subs_strings_IndexFunc (n : Nat) : SubOK Tryz.prog 8 (Ls_strings_IndexFunc n) (acOf Tryz.f57) := SubOK_of _ (by
  have e : subs (acOf Tryz.f57) = [] := by kernel_rfl
  rw [e]; intro p hp; cases hp)
theorem cert_strings_IndexFunc (n : Nat) (a0 : List UInt8) (a1 : List UInt8) : run Tryz.prog (Es_strings_IndexFunc n) (Ls_strings_IndexFunc n) Tryz.f57.ntmps (acOf Tryz.f57) ⟨argsT [.s a0, .fn 58 [.p 0 0]] 0, [(0, .cells [.s a1])], 1, 1, 1, 1⟩ (finK Tryz.prog Tryz.f57.results.toList (funX [] 1 1 1 unr_strings_IndexFunc)) = strings_IndexFunc n a0 a1 := by kernel_rfl
theorem fun_strings_IndexFunc (n : Nat) : ∀ a r, strings_IndexFunc n a.1 a.2 = some r → FunOK Tryz.prog 57 (arg_strings_IndexFunc a) (H0_strings_IndexFunc a) 1 1 1 (out_strings_IndexFunc r) := fun a r h => funX_ok (ws := []) unr_ok_strings_IndexFunc hv_strings_IndexFunc (fun r b blk hl => (chkH_look (hc_strings_IndexFunc r) b blk hl).2) (fun r => chkH_keys (hc_strings_IndexFunc r)) (by decide) (Es_ok_strings_IndexFunc n) Tryz.func57 rfl (acOf_code _) (subs_strings_IndexFunc n) rfl rfl ((cert_strings_IndexFunc n a.1 a.2).trans h)
theorem ok_strings_IndexFunc (n : Nat) : EntOK Tryz.prog (e_strings_IndexFunc n) := funE_ok (m := 1) (ro := 1) (rb := 1) (out := out_strings_IndexFunc) (arg := arg_strings_IndexFunc) (H0 := H0_strings_IndexFunc) Tryz.call57 (by decide) (by decide) outK_ok_strings_IndexFunc una_ok_strings_IndexFunc (fun _ => rfl) (fun a => chkH_look (m := 1) (H := H0_strings_IndexFunc a) rfl) (fun _ => rfl) (fun r => chkH_keys (hc_strings_IndexFunc r)) (fun r b blk h => (chkH_look (hc_strings_IndexFunc r) b blk h).2) (fun r b h1 h2 => hasKeys_ok (hk_strings_IndexFunc r) b h1 (by omega)) hv_strings_IndexFunc (fun_strings_IndexFunc n)

/-! circa/yearforms.only -/
noncomputable def arg_yearforms_only (a : List UInt8 × List UInt8) : List V := [.s a.1, .s a.2]
noncomputable def una_yearforms_only (l : List V) : Option (List UInt8 × List UInt8) := match l with
  | [.s a0, .s a1] => some (a0, a1)
  | _ => none
theorem una_ok_yearforms_only : ∀ l a, una_yearforms_only l = some a → l = arg_yearforms_only a := by
  intro l a h
  unfold una_yearforms_only at h
  split at h
  · cases h; rfl
  · cases h
noncomputable def enc_yearforms_only (r : Bool) : V := .b r
noncomputable def unr_yearforms_only (v : V) : Option (Bool) := match v with
  | .b r0 => some r0
  | _ => none
theorem unr_ok_yearforms_only : ∀ v r, unr_yearforms_only v = some r → v = enc_yearforms_only r := by
  intro v r h
  unfold unr_yearforms_only at h
  split at h
  · cases h; rfl
  · cases h
noncomputable def e_yearforms_only (n : Nat) : Ent := pureE 38 una_yearforms_only (fun a => yearforms_only n a.1 a.2) enc_yearforms_only
noncomputable def t_yearforms_only (l : List V) (_ : List (Nat × Blk)) : Bool := isS (una_yearforms_only l)
noncomputable def Es_yearforms_only (n : Nat) : List Ent := [e_strings_IndexFunc n]
theorem Es_ok_yearforms_only (n : Nat) : ∀ x ∈ Es_yearforms_only n, EntOK Tryz.prog x := by
  intro x hx
  simp only [Es_yearforms_only, List.mem_cons, List.not_mem_nil, or_false] at hx
  · rw [hx]; exact ok_strings_IndexFunc n
noncomputable def Ls_yearforms_only (_n : Nat) : List Sub := []
theorem subs_yearforms_only (n : Nat) : SubOK Tryz.prog 9 (Ls_yearforms_only n) (acOf Tryz.f38) := SubOK_of _ (by
  have e : subs (acOf Tryz.f38) = [] := by kernel_rfl
  rw [e]; intro p hp; cases hp)
theorem cert_yearforms_only (n : Nat) (a0 : List UInt8) (a1 : List UInt8) : run Tryz.prog (Es_yearforms_only n) (Ls_yearforms_only n) Tryz.f38.ntmps (acOf Tryz.f38) ⟨argsT [.s a0, .s a1] 0, [], 0, 0, 0, 0⟩ (finK Tryz.prog Tryz.f38.results.toList (retX unr_yearforms_only)) = yearforms_only n a0 a1 := by kernel_rfl
theorem pure_yearforms_only (n : Nat) : ∀ a r, yearforms_only n a.1 a.2 = some r → PureOK Tryz.prog 38 (arg_yearforms_only a) (enc_yearforms_only r) := fun a r h => pureX_ok unr_ok_yearforms_only (Es_ok_yearforms_only n) Tryz.func38 rfl (acOf_code _) (subs_yearforms_only n) rfl ((cert_yearforms_only n a.1 a.2).trans h)
theorem ok_yearforms_only (n : Nat) : EntOK Tryz.prog (e_yearforms_only n) := pureE_ok Tryz.call38 una_ok_yearforms_only (fun _ => rfl) (pure_yearforms_only n)

/-! strings.trimRightByte -/
noncomputable def arg_strings_trimRightByte (a : List UInt8 × Int) : List V := [.s a.1, .i .u8 a.2]
noncomputable def una_strings_trimRightByte (l : List V) : Option (List UInt8 × Int) := match l with
  | [.s a0, .i .u8 a1] => some (a0, a1)
  | _ => none
theorem una_ok_strings_trimRightByte : ∀ l a, una_strings_trimRightByte l = some a → l = arg_strings_trimRightByte a := by
  intro l a h
  unfold una_strings_trimRightByte at h
  split at h
  · cases h; rfl
  · cases h
noncomputable def enc_strings_trimRightByte (r : List UInt8) : V := .s r
noncomputable def unr_strings_trimRightByte (v : V) : Option (List UInt8) := match v with
  | .s r0 => some r0
  | _ => none
theorem unr_ok_strings_trimRightByte : ∀ v r, unr_strings_trimRightByte v = some r → v = enc_strings_trimRightByte r := by
  intro v r h
  unfold unr_strings_trimRightByte at h
  split at h
  · cases h; rfl
  · cases h
noncomputable def e_strings_trimRightByte (n : Nat) : Ent := pureE 61 una_strings_trimRightByte (fun a => strings_trimRightByte n a.1 a.2) enc_strings_trimRightByte
noncomputable def t_strings_trimRightByte (l : List V) (_ : List (Nat × Blk)) : Bool := isS (una_strings_trimRightByte l)
noncomputable def Es_strings_trimRightByte (_n : Nat) : List Ent := []
theorem Es_ok_strings_trimRightByte (n : Nat) : ∀ x ∈ Es_strings_trimRightByte n, EntOK Tryz.prog x := by
  intro x hx
  simp [Es_strings_trimRightByte] at hx
noncomputable def an_strings_trimRightByte_l0 : Ann := ⟨[0, 1], [], 0, []⟩
noncomputable def emb_strings_trimRightByte_l0 (x : List UInt8 × Int) : St := ⟨[(0, some (.s x.1)), (1, some (.i .u8 x.2))], [], 0, 0, 0, 0⟩
noncomputable def un_strings_trimRightByte_l0 (s : St) : Option (List UInt8 × Int) := match s with
  | ⟨[(0, some (.s x0)), (1, some (.i .u8 x1))], [], 0, 0, 0, 0⟩ => some (x0, x1)
  | _ => none
theorem un_ok_strings_trimRightByte_l0 : ∀ s x, un_strings_trimRightByte_l0 s = some x → s = emb_strings_trimRightByte_l0 x := by
  intro s x h
  unfold un_strings_trimRightByte_l0 at h
  split at h
  · cases h; rfl
  · cases h
noncomputable def ax_strings_trimRightByte_l0 : Ex → Ann := fun ex => match ex with
  | .exit 0 => ⟨[0], [], 0, []⟩
  | _ => ⟨[], [], 0, []⟩
noncomputable def out_strings_trimRightByte_l0 (y : List UInt8) : Ex × St := (.exit 0, ⟨[(0, some (.s y))], [], 0, 0, 0, 0⟩)
noncomputable def outK_strings_trimRightByte_l0 (α : Type) (y : List UInt8) (k : Ex → St → Option α) : Option α := (k (.exit 0) ⟨[(0, some (.s y))], [], 0, 0, 0, 0⟩)
theorem outK_ok_strings_trimRightByte_l0 : ∀ α y k, outK_strings_trimRightByte_l0 α y k = k (out_strings_trimRightByte_l0 y).1 (out_strings_trimRightByte_l0 y).2 := by
  intro α y k
  rfl
noncomputable def ux_strings_trimRightByte_l0 (ex : Ex) (s : St) : Option (List UInt8) := match ex, s with
  | .exit 0, ⟨[(0, some (.s y0))], [], 0, 0, 0, 0⟩ => some y0
  | _, _ => none
theorem ux_ok_strings_trimRightByte_l0 : ∀ ex s y, ux_strings_trimRightByte_l0 ex s = some y → (ex, s) = out_strings_trimRightByte_l0 y := by
  intro ex s y h
  unfold ux_strings_trimRightByte_l0 at h
  split at h
  · cases h; rfl
  · cases h
noncomputable def Ls_strings_trimRightByte (n : Nat) : List Sub := [subE 0 an_strings_trimRightByte_l0 un_strings_trimRightByte_l0 (fun x => iterL (strings_trimRightByte_l0 n) n x) outK_strings_trimRightByte_l0]
noncomputable def sac_strings_trimRightByte_l0 : AC := getS (subs (acOf Tryz.f61)) 0
noncomputable def ac_strings_trimRightByte_l0 : AC := AC.body sac_strings_trimRightByte_l0
theorem subs_strings_trimRightByte_l0 (n : Nat) : SubOK Tryz.prog 23 (Ls_strings_trimRightByte n) ac_strings_trimRightByte_l0 := SubOK_of _ (by
  have e : subs ac_strings_trimRightByte_l0 = [] := by kernel_rfl
  rw [e]; intro p hp; cases hp)
theorem body_strings_trimRightByte_l0 (n : Nat) : ∀ x, run Tryz.prog (Es_strings_trimRightByte n) (Ls_strings_trimRightByte n) 23 ac_strings_trimRightByte_l0 (emb_strings_trimRightByte_l0 x) (roundK an_strings_trimRightByte_l0 un_strings_trimRightByte_l0 ax_strings_trimRightByte_l0 ux_strings_trimRightByte_l0) = strings_trimRightByte_l0 n x := fun _ => by kernel_rfl
theorem sub1_strings_trimRightByte_l0 (n : Nat) : ∀ (α : Type) (s : St) (k : Ex → St → Option α) (z : α), (subE 0 an_strings_trimRightByte_l0 un_strings_trimRightByte_l0 (fun x => iterL (strings_trimRightByte_l0 n) n x) outK_strings_trimRightByte_l0).e α s k = some z → SemC Tryz.prog 23 (sac_strings_trimRightByte_l0).code s fun ex s' => k ex s' = some z := by
  intro α s k z h
  have e : sac_strings_trimRightByte_l0 = .loop ac_strings_trimRightByte_l0 := by kernel_rfl
  rw [e]
  exact subE_ok (m := 0) (f := fun x => iterL (strings_trimRightByte_l0 n) n x) (out := out_strings_trimRightByte_l0) outK_ok_strings_trimRightByte_l0 un_ok_strings_trimRightByte_l0 (fun x y hy => loop_ok (Es_ok_strings_trimRightByte n) (subs_strings_trimRightByte_l0 n) un_ok_strings_trimRightByte_l0 ux_ok_strings_trimRightByte_l0 (body_strings_trimRightByte_l0 n) n x y hy) h
theorem sub_strings_trimRightByte_l0 (n : Nat) : SubSt Tryz.prog 23 (Ls_strings_trimRightByte n) 0 sac_strings_trimRightByte_l0 := fun α s k z => sub1_strings_trimRightByte_l0 n α s k z
theorem subs_strings_trimRightByte (n : Nat) : SubOK Tryz.prog 23 (Ls_strings_trimRightByte n) (acOf Tryz.f61) := SubOK_of _ (by
  have e : subs (acOf Tryz.f61) = [(0, sac_strings_trimRightByte_l0)] := by kernel_rfl
  rw [e]; intro p hp
  simp only [List.mem_cons, List.not_mem_nil, or_false] at hp
  · rw [hp]; exact sub_strings_trimRightByte_l0 n
  )
theorem cert_strings_trimRightByte (n : Nat) (a0 : List UInt8) (a1 : Int) : run Tryz.prog (Es_strings_trimRightByte n) (Ls_strings_trimRightByte n) Tryz.f61.ntmps (acOf Tryz.f61) ⟨argsT [.s a0, .i .u8 a1] 0, [], 0, 0, 0, 0⟩ (finK Tryz.prog Tryz.f61.results.toList (retX unr_strings_trimRightByte)) = strings_trimRightByte n a0 a1 := by kernel_rfl
theorem pure_strings_trimRightByte (n : Nat) : ∀ a r, strings_trimRightByte n a.1 a.2 = some r → PureOK Tryz.prog 61 (arg_strings_trimRightByte a) (enc_strings_trimRightByte r) := fun a r h => pureX_ok unr_ok_strings_trimRightByte (Es_ok_strings_trimRightByte n) Tryz.func61 rfl (acOf_code _) (subs_strings_trimRightByte n) rfl ((cert_strings_trimRightByte n a.1 a.2).trans h)
theorem ok_strings_trimRightByte (n : Nat) : EntOK Tryz.prog (e_strings_trimRightByte n) := pureE_ok Tryz.call61 una_ok_strings_trimRightByte (fun _ => rfl) (pure_strings_trimRightByte n)

/-! strings.trimLeftByte -/
noncomputable def arg_strings_trimLeftByte (a : List UInt8 × Int) : List V := [.s a.1, .i .u8 a.2]
noncomputable def una_strings_trimLeftByte (l : List V) : Option (List UInt8 × Int) := match l with
  | [.s a0, .i .u8 a1] => some (a0, a1)
  | _ => none
theorem una_ok_strings_trimLeftByte : ∀ l a, una_strings_trimLeftByte l = some a → l = arg_strings_trimLeftByte a := by
  intro l a h
  unfold una_strings_trimLeftByte at h
  split at h
  · cases h; rfl
  · cases h
noncomputable def enc_strings_trimLeftByte (r : List UInt8) : V := .s r
noncomputable def unr_strings_trimLeftByte (v : V) : Option (List UInt8) := match v with
  | .s r0 => some r0
  | _ => none
theorem unr_ok_strings_trimLeftByte : ∀ v r, unr_strings_trimLeftByte v = some r → v = enc_strings_trimLeftByte r := by
  intro v r h
  unfold unr_strings_trimLeftByte at h
  split at h
  · cases h; rfl
  · cases h
noncomputable def e_strings_trimLeftByte (n : Nat) : Ent := pureE 60 una_strings_trimLeftByte (fun a => strings_trimLeftByte n a.1 a.2) enc_strings_trimLeftByte
noncomputable def t_strings_trimLeftByte (l : List V) (_ : List (Nat × Blk)) : Bool := isS (una_strings_trimLeftByte l)
noncomputable def Es_strings_trimLeftByte (_n : Nat) : List Ent := []
theorem Es_ok_strings_trimLeftByte (n : Nat) : ∀ x ∈ Es_strings_trimLeftByte n, EntOK Tryz.prog x := by
  intro x hx
  simp [Es_strings_trimLeftByte] at hx
noncomputable def an_strings_trimLeftByte_l0 : Ann := ⟨[0, 1], [], 0, []⟩
noncomputable def emb_strings_trimLeftByte_l0 (x : List UInt8 × Int) : St := ⟨[(0, some (.s x.1)), (1, some (.i .u8 x.2))], [], 0, 0, 0, 0⟩
noncomputable def un_strings_trimLeftByte_l0 (s : St) : Option (List UInt8 × Int) := match s with
  | ⟨[(0, some (.s x0)), (1, some (.i .u8 x1))], [], 0, 0, 0, 0⟩ => some (x0, x1)
  | _ => none
theorem un_ok_strings_trimLeftByte_l0 : ∀ s x, un_strings_trimLeftByte_l0 s = some x → s = emb_strings_trimLeftByte_l0 x := by
  intro s x h
  unfold un_strings_trimLeftByte_l0 at h
  split at h
  · cases h; rfl
  · cases h
noncomputable def ax_strings_trimLeftByte_l0 : Ex → Ann := fun ex => match ex with
  | .exit 0 => ⟨[0], [], 0, []⟩
  | _ => ⟨[], [], 0, []⟩
noncomputable def out_strings_trimLeftByte_l0 (y : List UInt8) : Ex × St := (.exit 0, ⟨[(0, some (.s y))], [], 0, 0, 0, 0⟩)
noncomputable def outK_strings_trimLeftByte_l0 (α : Type) (y : List UInt8) (k : Ex → St → Option α) : Option α := (k (.exit 0) ⟨[(0, some (.s y))], [], 0, 0, 0, 0⟩)
theorem outK_ok_strings_trimLeftByte_l0 : ∀ α y k, outK_strings_trimLeftByte_l0 α y k = k (out_strings_trimLeftByte_l0 y).1 (out_strings_trimLeftByte_l0 y).2 := by
  intro α y k
  rfl
noncomputable def ux_strings_trimLeftByte_l0 (ex : Ex) (s : St) : Option (List UInt8) := match ex, s with
  | .exit 0, ⟨[(0, some (.s y0))], [], 0, 0, 0, 0⟩ => some y0
  | _, _ => none
theorem ux_ok_strings_trimLeftByte_l0 : ∀ ex s y, ux_strings_trimLeftByte_l0 ex s = some y → (ex, s) = out_strings_trimLeftByte_l0 y := by
  intro ex s y h
  unfold ux_strings_trimLeftByte_l0 at h
  split at h
  · cases h; rfl
  · cases h
noncomputable def Ls_strings_trimLeftByte (n : Nat) : List Sub := [subE 0 an_strings_trimLeftByte_l0 un_strings_trimLeftByte_l0 (fun x => iterL (strings_trimLeftByte_l0 n) n x) outK_strings_trimLeftByte_l0]
noncomputable def sac_strings_trimLeftByte_l0 : AC := getS (subs (acOf Tryz.f60)) 0
noncomputable def ac_strings_trimLeftByte_l0 : AC := AC.body sac_strings_trimLeftByte_l0
theorem subs_strings_trimLeftByte_l0 (n : Nat) : SubOK Tryz.prog 17 (Ls_strings_trimLeftByte n) ac_strings_trimLeftByte_l0 := SubOK_of _ (by
  have e : subs ac_strings_trimLeftByte_l0 = [] := by kernel_rfl
  rw [e]; intro p hp; cases hp)
theorem body_strings_trimLeftByte_l0 (n : Nat) : ∀ x, run Tryz.prog (Es_strings_trimLeftByte n) (Ls_strings_trimLeftByte n) 17 ac_strings_trimLeftByte_l0 (emb_strings_trimLeftByte_l0 x) (roundK an_strings_trimLeftByte_l0 un_strings_trimLeftByte_l0 ax_strings_trimLeftByte_l0 ux_strings_trimLeftByte_l0) = strings_trimLeftByte_l0 n x := fun _ => by kernel_rfl
theorem sub1_strings_trimLeftByte_l0 (n : Nat) : ∀ (α : Type) (s : St) (k : Ex → St → Option α) (z : α), (subE 0 an_strings_trimLeftByte_l0 un_strings_trimLeftByte_l0 (fun x => iterL (strings_trimLeftByte_l0 n) n x) outK_strings_trimLeftByte_l0).e α s k = some z → SemC Tryz.prog 17 (sac_strings_trimLeftByte_l0).code s fun ex s' => k ex s' = some z := by
  intro α s k z h
  have e : sac_strings_trimLeftByte_l0 = .loop ac_strings_trimLeftByte_l0 := by kernel_rfl
  rw [e]
  exact subE_ok (m := 0) (f := fun x => iterL (strings_trimLeftByte_l0 n) n x) (out := out_strings_trimLeftByte_l0) outK_ok_strings_trimLeftByte_l0 un_ok_strings_trimLeftByte_l0 (fun x y hy => loop_ok (Es_ok_strings_trimLeftByte n) (subs_strings_trimLeftByte_l0 n) un_ok_strings_trimLeftByte_l0 ux_ok_strings_trimLeftByte_l0 (body_strings_trimLeftByte_l0 n) n x y hy) h
theorem sub_strings_trimLeftByte_l0 (n : Nat) : SubSt Tryz.prog 17 (Ls_strings_trimLeftByte n) 0 sac_strings_trimLeftByte_l0 := fun α s k z => sub1_strings_trimLeftByte_l0 n α s k z
theorem subs_strings_trimLeftByte (n : Nat) : SubOK Tryz.prog 17 (Ls_strings_trimLeftByte n) (acOf Tryz.f60) := SubOK_of _ (by
  have e : subs (acOf Tryz.f60) = [(0, sac_strings_trimLeftByte_l0)] := by kernel_rfl
  rw [e]; intro p hp
  simp only [List.mem_cons, List.not_mem_nil, or_false] at hp
  · rw [hp]; exact sub_strings_trimLeftByte_l0 n
  )
theorem cert_strings_trimLeftByte (n : Nat) (a0 : List UInt8) (a1 : Int) : run Tryz.prog (Es_strings_trimLeftByte n) (Ls_strings_trimLeftByte n) Tryz.f60.ntmps (acOf Tryz.f60) ⟨argsT [.s a0, .i .u8 a1] 0, [], 0, 0, 0, 0⟩ (finK Tryz.prog Tryz.f60.results.toList (retX unr_strings_trimLeftByte)) = strings_trimLeftByte n a0 a1 := by kernel_rfl
theorem pure_strings_trimLeftByte (n : Nat) : ∀ a r, strings_trimLeftByte n a.1 a.2 = some r → PureOK Tryz.prog 60 (arg_strings_trimLeftByte a) (enc_strings_trimLeftByte r) := fun a r h => pureX_ok unr_ok_strings_trimLeftByte (Es_ok_strings_trimLeftByte n) Tryz.func60 rfl (acOf_code _) (subs_strings_trimLeftByte n) rfl ((cert_strings_trimLeftByte n a.1 a.2).trans h)
theorem ok_strings_trimLeftByte (n : Nat) : EntOK Tryz.prog (e_strings_trimLeftByte n) := pureE_ok Tryz.call60 una_ok_strings_trimLeftByte (fun _ => rfl) (pure_strings_trimLeftByte n)

/-! strings.Trim -/
noncomputable def arg_strings_Trim (a : List UInt8) : List V := [.s a, .s [48]]
noncomputable def una_strings_Trim (l : List V) : Option (List UInt8) := match l with
  | [.s a0, .s [48]] => some a0
  | _ => none
theorem una_ok_strings_Trim : ∀ l a, una_strings_Trim l = some a → l = arg_strings_Trim a := by
  intro l a h
  unfold una_strings_Trim at h
  split at h
  · cases h; rfl
  · cases h
noncomputable def enc_strings_Trim (r : List UInt8) : V := .s r
noncomputable def unr_strings_Trim (v : V) : Option (List UInt8) := match v with
  | .s r0 => some r0
  | _ => none
theorem unr_ok_strings_Trim : ∀ v r, unr_strings_Trim v = some r → v = enc_strings_Trim r := by
  intro v r h
  unfold unr_strings_Trim at h
  split at h
  · cases h; rfl
  · cases h
noncomputable def e_strings_Trim (n : Nat) : Ent := pureE 39 una_strings_Trim (fun a => strings_Trim n a) enc_strings_Trim
noncomputable def t_strings_Trim (l : List V) (_ : List (Nat × Blk)) : Bool := isS (una_strings_Trim l)
noncomputable def Es_strings_Trim (n : Nat) : List Ent := [e_strings_trimRightByte n, e_strings_trimLeftByte n]
theorem Es_ok_strings_Trim (n : Nat) : ∀ x ∈ Es_strings_Trim n, EntOK Tryz.prog x := by
  intro x hx
  simp only [Es_strings_Trim, List.mem_cons, List.not_mem_nil, or_false] at hx
  rcases hx with hx | hx
  · rw [hx]; exact ok_strings_trimRightByte n
  · rw [hx]; exact ok_strings_trimLeftByte n
noncomputable def Ls_strings_Trim (_n : Nat) : List Sub := []
theorem subs_strings_Trim (n : Nat) : SubOK Tryz.prog 43 (Ls_strings_Trim n) (acOf Tryz.f39) := SubOK_of _ (by
  have e : subs (acOf Tryz.f39) = [] := by kernel_rfl
  rw [e]; intro p hp; cases hp)
theorem cert_strings_Trim (n : Nat) (a0 : List UInt8) : run Tryz.prog (Es_strings_Trim n) (Ls_strings_Trim n) Tryz.f39.ntmps (acOf Tryz.f39) ⟨argsT [.s a0, .s [48]] 0, [], 0, 0, 0, 0⟩ (finK Tryz.prog Tryz.f39.results.toList (retX unr_strings_Trim)) = strings_Trim n a0 := by kernel_rfl
theorem pure_strings_Trim (n : Nat) : ∀ a r, strings_Trim n a = some r → PureOK Tryz.prog 39 (arg_strings_Trim a) (enc_strings_Trim r) := fun a r h => pureX_ok unr_ok_strings_Trim (Es_ok_strings_Trim n) Tryz.func39 rfl (acOf_code _) (subs_strings_Trim n) rfl ((cert_strings_Trim n a).trans h)
theorem ok_strings_Trim (n : Nat) : EntOK Tryz.prog (e_strings_Trim n) := pureE_ok Tryz.call39 una_ok_strings_Trim (fun _ => rfl) (pure_strings_Trim n)

/-! internal/stringslite.Index -/
noncomputable def arg_int_stringslite_Index (a : List UInt8) : List V := [.s a, .s [88]]
noncomputable def una_int_stringslite_Index (l : List V) : Option (List UInt8) := match l with
  | [.s a0, .s [88]] => some a0
  | _ => none
theorem una_ok_int_stringslite_Index : ∀ l a, una_int_stringslite_Index l = some a → l = arg_int_stringslite_Index a := by
  intro l a h
  unfold una_int_stringslite_Index at h
  split at h
  · cases h; rfl
  · cases h
noncomputable def enc_int_stringslite_Index (r : Int) : V := .i .i64 r
noncomputable def unr_int_stringslite_Index (v : V) : Option (Int) := match v with
  | .i .i64 r0 => some r0
  | _ => none
theorem unr_ok_int_stringslite_Index : ∀ v r, unr_int_stringslite_Index v = some r → v = enc_int_stringslite_Index r := by
  intro v r h
  unfold unr_int_stringslite_Index at h
  split at h
  · cases h; rfl
  · cases h
noncomputable def e_int_stringslite_Index (n : Nat) : Ent := pureE 89 una_int_stringslite_Index (fun a => int_stringslite_Index n a) enc_int_stringslite_Index
noncomputable def t_int_stringslite_Index (l : List V) (_ : List (Nat × Blk)) : Bool := isS (una_int_stringslite_Index l)
noncomputable def Es_int_stringslite_Index (n : Nat) : List Ent := [e_int_stringslite_IndexByte n]
theorem Es_ok_int_stringslite_Index (n : Nat) : ∀ x ∈ Es_int_stringslite_Index n, EntOK Tryz.prog x := by
  intro x hx
  simp only [Es_int_stringslite_Index, List.mem_cons, List.not_mem_nil, or_false] at hx
  · rw [hx]; exact ok_int_stringslite_IndexByte n
noncomputable def Ls_int_stringslite_Index (_n : Nat) : List Sub := []
noncomputable def sac_int_stringslite_Index_l0 : AC := getS (subs (acOf Tryz.f89)) 0
theorem nosub_int_stringslite_Index_l0 (n : Nat) : SubSt Tryz.prog 143 (Ls_int_stringslite_Index n) 0 sac_int_stringslite_Index_l0 := by
  intro α s k z h
  simp [subOf, Ls_int_stringslite_Index, subE, altS, Nat.beq] at h
theorem subs_int_stringslite_Index (n : Nat) : SubOK Tryz.prog 143 (Ls_int_stringslite_Index n) (acOf Tryz.f89) := SubOK_of _ (by
  have e : subs (acOf Tryz.f89) = [(0, sac_int_stringslite_Index_l0)] := by kernel_rfl
  rw [e]; intro p hp
  simp only [List.mem_cons, List.not_mem_nil, or_false] at hp
  · rw [hp]; exact nosub_int_stringslite_Index_l0 n
  )
theorem cert_int_stringslite_Index (n : Nat) (a0 : List UInt8) : run Tryz.prog (Es_int_stringslite_Index n) (Ls_int_stringslite_Index n) Tryz.f89.ntmps (acOf Tryz.f89) ⟨argsT [.s a0, .s [88]] 0, [], 0, 0, 0, 0⟩ (finK Tryz.prog Tryz.f89.results.toList (retX unr_int_stringslite_Index)) = int_stringslite_Index n a0 := by kernel_rfl
theorem pure_int_stringslite_Index (n : Nat) : ∀ a r, int_stringslite_Index n a = some r → PureOK Tryz.prog 89 (arg_int_stringslite_Index a) (enc_int_stringslite_Index r) := fun a r h => pureX_ok unr_ok_int_stringslite_Index (Es_ok_int_stringslite_Index n) Tryz.func89 rfl (acOf_code _) (subs_int_stringslite_Index n) rfl ((cert_int_stringslite_Index n a).trans h)
theorem ok_int_stringslite_Index (n : Nat) : EntOK Tryz.prog (e_int_stringslite_Index n) := pureE_ok Tryz.call89 una_ok_int_stringslite_Index (fun _ => rfl) (pure_int_stringslite_Index n)

/-! strings.Index -/
noncomputable def arg_strings_Index (a : List UInt8) : List V := [.s a, .s [88]]
noncomputable def una_strings_Index (l : List V) : Option (List UInt8) := match l with
  | [.s a0, .s [88]] => some a0
  | _ => none
theorem una_ok_strings_Index : ∀ l a, una_strings_Index l = some a → l = arg_strings_Index a := by
  intro l a h
  unfold una_strings_Index at h
  split at h
  · cases h; rfl
  · cases h
noncomputable def enc_strings_Index (r : Int) : V := .i .i64 r
noncomputable def unr_strings_Index (v : V) : Option (Int) := match v with
  | .i .i64 r0 => some r0
  | _ => none
theorem unr_ok_strings_Index : ∀ v r, unr_strings_Index v = some r → v = enc_strings_Index r := by
  intro v r h
  unfold unr_strings_Index at h
  split at h
  · cases h; rfl
  · cases h
noncomputable def e_strings_Index (n : Nat) : Ent := pureE 67 una_strings_Index (fun a => strings_Index n a) enc_strings_Index
noncomputable def t_strings_Index (l : List V) (_ : List (Nat × Blk)) : Bool := isS (una_strings_Index l)
noncomputable def Es_strings_Index (n : Nat) : List Ent := [e_int_stringslite_Index n]
theorem Es_ok_strings_Index (n : Nat) : ∀ x ∈ Es_strings_Index n, EntOK Tryz.prog x := by
  intro x hx
  simp only [Es_strings_Index, List.mem_cons, List.not_mem_nil, or_false] at hx
  · rw [hx]; exact ok_int_stringslite_Index n
noncomputable def Ls_strings_Index (_n : Nat) : List Sub := []
theorem subs_strings_Index (n : Nat) : SubOK Tryz.prog 8 (Ls_strings_Index n) (acOf Tryz.f67) := SubOK_of _ (by
  have e : subs (acOf Tryz.f67) = [] := by kernel_rfl
  rw [e]; intro p hp; cases hp)
theorem cert_strings_Index (n : Nat) (a0 : List UInt8) : run Tryz.prog (Es_strings_Index n) (Ls_strings_Index n) Tryz.f67.ntmps (acOf Tryz.f67) ⟨argsT [.s a0, .s [88]] 0, [], 0, 0, 0, 0⟩ (finK Tryz.prog Tryz.f67.results.toList (retX unr_strings_Index)) = strings_Index n a0 := by kernel_rfl
theorem pure_strings_Index (n : Nat) : ∀ a r, strings_Index n a = some r → PureOK Tryz.prog 67 (arg_strings_Index a) (enc_strings_Index r) := fun a r h => pureX_ok unr_ok_strings_Index (Es_ok_strings_Index n) Tryz.func67 rfl (acOf_code _) (subs_strings_Index n) rfl ((cert_strings_Index n a).trans h)
theorem ok_strings_Index (n : Nat) : EntOK Tryz.prog (e_strings_Index n) := pureE_ok Tryz.call67 una_ok_strings_Index (fun _ => rfl) (pure_strings_Index n)

/-! strings.Contains -/
noncomputable def arg_strings_Contains (a : List UInt8) : List V := [.s a, .s [88]]
noncomputable def una_strings_Contains (l : List V) : Option (List UInt8) := match l with
  | [.s a0, .s [88]] => some a0
  | _ => none
theorem una_ok_strings_Contains : ∀ l a, una_strings_Contains l = some a → l = arg_strings_Contains a := by
  intro l a h
  unfold una_strings_Contains at h
  split at h
  · cases h; rfl
  · cases h
noncomputable def enc_strings_Contains (r : Bool) : V := .b r
noncomputable def unr_strings_Contains (v : V) : Option (Bool) := match v with
  | .b r0 => some r0
  | _ => none
theorem unr_ok_strings_Contains : ∀ v r, unr_strings_Contains v = some r → v = enc_strings_Contains r := by
  intro v r h
  unfold unr_strings_Contains at h
  split at h
  · cases h; rfl
  · cases h
noncomputable def e_strings_Contains (n : Nat) : Ent := pureE 42 una_strings_Contains (fun a => strings_Contains n a) enc_strings_Contains
noncomputable def t_strings_Contains (l : List V) (_ : List (Nat × Blk)) : Bool := isS (una_strings_Contains l)
noncomputable def Es_strings_Contains (n : Nat) : List Ent := [e_strings_Index n]
theorem Es_ok_strings_Contains (n : Nat) : ∀ x ∈ Es_strings_Contains n, EntOK Tryz.prog x := by
  intro x hx
  simp only [Es_strings_Contains, List.mem_cons, List.not_mem_nil, or_false] at hx
  · rw [hx]; exact ok_strings_Index n
noncomputable def Ls_strings_Contains (_n : Nat) : List Sub := []
theorem subs_strings_Contains (n : Nat) : SubOK Tryz.prog 9 (Ls_strings_Contains n) (acOf Tryz.f42) := SubOK_of _ (by
  have e : subs (acOf Tryz.f42) = [] := by kernel_rfl
  rw [e]; intro p hp; cases hp)
theorem cert_strings_Contains (n : Nat) (a0 : List UInt8) : run Tryz.prog (Es_strings_Contains n) (Ls_strings_Contains n) Tryz.f42.ntmps (acOf Tryz.f42) ⟨argsT [.s a0, .s [88]] 0, [], 0, 0, 0, 0⟩ (finK Tryz.prog Tryz.f42.results.toList (retX unr_strings_Contains)) = strings_Contains n a0 := by kernel_rfl
theorem pure_strings_Contains (n : Nat) : ∀ a r, strings_Contains n a = some r → PureOK Tryz.prog 42 (arg_strings_Contains a) (enc_strings_Contains r) := fun a r h => pureX_ok unr_ok_strings_Contains (Es_ok_strings_Contains n) Tryz.func42 rfl (acOf_code _) (subs_strings_Contains n) rfl ((cert_strings_Contains n a).trans h)
theorem ok_strings_Contains (n : Nat) : EntOK Tryz.prog (e_strings_Contains n) := pureE_ok Tryz.call42 una_ok_strings_Contains (fun _ => rfl) (pure_strings_Contains n)

/-! circa/yearforms.Masked -/
noncomputable def arg_yearforms_Masked (a : Bool × Bool × List UInt8 × Int × Int) : List V := [.ag [.b a.1, .b a.2.1, .s a.2.2.1, .i .i64 a.2.2.2.1, .i .i64 a.2.2.2.2]]
noncomputable def una_yearforms_Masked (l : List V) : Option (Bool × Bool × List UInt8 × Int × Int) := match l with
  | [.ag [.b a0, .b a1, .s a2, .i .i64 a3, .i .i64 a4]] => some (a0, a1, a2, a3, a4)
  | _ => none
theorem una_ok_yearforms_Masked : ∀ l a, una_yearforms_Masked l = some a → l = arg_yearforms_Masked a := by
  intro l a h
  unfold una_yearforms_Masked at h
  split at h
  · cases h; rfl
  · cases h
noncomputable def enc_yearforms_Masked (r : Bool) : V := .b r
noncomputable def unr_yearforms_Masked (v : V) : Option (Bool) := match v with
  | .b r0 => some r0
  | _ => none
theorem unr_ok_yearforms_Masked : ∀ v r, unr_yearforms_Masked v = some r → v = enc_yearforms_Masked r := by
  intro v r h
  unfold unr_yearforms_Masked at h
  split at h
  · cases h; rfl
  · cases h
noncomputable def e_yearforms_Masked (n : Nat) : Ent := pureE 19 una_yearforms_Masked (fun a => yearforms_Masked n a.1 a.2.1 a.2.2.1 a.2.2.2.1 a.2.2.2.2) enc_yearforms_Masked
noncomputable def t_yearforms_Masked (l : List V) (_ : List (Nat × Blk)) : Bool := isS (una_yearforms_Masked l)
noncomputable def Es_yearforms_Masked (n : Nat) : List Ent := [e_strings_Contains n]
theorem Es_ok_yearforms_Masked (n : Nat) : ∀ x ∈ Es_yearforms_Masked n, EntOK Tryz.prog x := by
  intro x hx
  simp only [Es_yearforms_Masked, List.mem_cons, List.not_mem_nil, or_false] at hx
  · rw [hx]; exact ok_strings_Contains n
noncomputable def Ls_yearforms_Masked (_n : Nat) : List Sub := []
theorem subs_yearforms_Masked (n : Nat) : SubOK Tryz.prog 6 (Ls_yearforms_Masked n) (acOf Tryz.f19) := SubOK_of _ (by
  have e : subs (acOf Tryz.f19) = [] := by kernel_rfl
  rw [e]; intro p hp; cases hp)
theorem cert_yearforms_Masked (n : Nat) (a0 : Bool) (a1 : Bool) (a2 : List UInt8) (a3 : Int) (a4 : Int) : run Tryz.prog (Es_yearforms_Masked n) (Ls_yearforms_Masked n) Tryz.f19.ntmps (acOf Tryz.f19) ⟨argsT [.ag [.b a0, .b a1, .s a2, .i .i64 a3, .i .i64 a4]] 0, [], 0, 0, 0, 0⟩ (finK Tryz.prog Tryz.f19.results.toList (retX unr_yearforms_Masked)) = yearforms_Masked n a0 a1 a2 a3 a4 := by kernel_rfl
theorem pure_yearforms_Masked (n : Nat) : ∀ a r, yearforms_Masked n a.1 a.2.1 a.2.2.1 a.2.2.2.1 a.2.2.2.2 = some r → PureOK Tryz.prog 19 (arg_yearforms_Masked a) (enc_yearforms_Masked r) := fun a r h => pureX_ok unr_ok_yearforms_Masked (Es_ok_yearforms_Masked n) Tryz.func19 rfl (acOf_code _) (subs_yearforms_Masked n) rfl ((cert_yearforms_Masked n a.1 a.2.1 a.2.2.1 a.2.2.2.1 a.2.2.2.2).trans h)
theorem ok_yearforms_Masked (n : Nat) : EntOK Tryz.prog (e_yearforms_Masked n) := pureE_ok Tryz.call19 una_ok_yearforms_Masked (fun _ => rfl) (pure_yearforms_Masked n)

noncomputable def e_lib_47 (_n : Nat) : Ent := parseE 47
theorem ok_lib_47 (n : Nat) : EntOK Tryz.prog (e_lib_47 n) := parseE_ok Tryz.call47 fun s h v hv w => (Tryz.strconv_ParseInt_10_at64_ok s h v hv w).mono fun e w' ⟨h1, h2⟩ => ⟨h1, h2.elim (fun h => h ▸ RowKit.Below.refl _ _) (fun ⟨t, h⟩ => h ▸ bytesWorld_below _ _ _)⟩

/-! circa/ints.Pow10 -/
noncomputable def arg_ints_Pow10 (a : Int) : List V := [.i .i64 a]
noncomputable def una_ints_Pow10 (l : List V) : Option (Int) := match l with
  | [.i .i64 a0] => some a0
  | _ => none
theorem una_ok_ints_Pow10 : ∀ l a, una_ints_Pow10 l = some a → l = arg_ints_Pow10 a := by
  intro l a h
  unfold una_ints_Pow10 at h
  split at h
  · cases h; rfl
  · cases h
noncomputable def enc_ints_Pow10 (r : Int × Int) : V := .tp [.i .i64 r.1, .i .i64 r.2]
noncomputable def unr_ints_Pow10 (v : V) : Option (Int × Int) := match v with
  | .tp [.i .i64 r0, .i .i64 r1] => some (r0, r1)
  | _ => none
theorem unr_ok_ints_Pow10 : ∀ v r, unr_ints_Pow10 v = some r → v = enc_ints_Pow10 r := by
  intro v r h
  unfold unr_ints_Pow10 at h
  split at h
  · cases h; rfl
  · cases h
noncomputable def e_ints_Pow10 (n : Nat) : Ent := pureE 28 una_ints_Pow10 (fun a => ints_Pow10 n a) enc_ints_Pow10
noncomputable def t_ints_Pow10 (l : List V) (_ : List (Nat × Blk)) : Bool := isS (una_ints_Pow10 l)
noncomputable def Es_ints_Pow10 (_n : Nat) : List Ent := []
theorem Es_ok_ints_Pow10 (n : Nat) : ∀ x ∈ Es_ints_Pow10 n, EntOK Tryz.prog x := by
  intro x hx
  simp [Es_ints_Pow10] at hx
noncomputable def an_ints_Pow10_l0 : Ann := ⟨[4, 9, 10], [], 0, []⟩
noncomputable def emb_ints_Pow10_l0 (x : Int × Int × Int) : St := ⟨[(4, some (.i .i64 x.1)), (9, some (.i .i64 x.2.1)), (10, some (.i .i64 x.2.2))], [], 0, 0, 0, 0⟩
noncomputable def un_ints_Pow10_l0 (s : St) : Option (Int × Int × Int) := match s with
  | ⟨[(4, some (.i .i64 x0)), (9, some (.i .i64 x1)), (10, some (.i .i64 x2))], [], 0, 0, 0, 0⟩ => some (x0, x1, x2)
  | _ => none
theorem un_ok_ints_Pow10_l0 : ∀ s x, un_ints_Pow10_l0 s = some x → s = emb_ints_Pow10_l0 x := by
  intro s x h
  unfold un_ints_Pow10_l0 at h
  split at h
  · cases h; rfl
  · cases h
noncomputable def ax_ints_Pow10_l0 : Ex → Ann := fun ex => match ex with
  | .exit 0 => ⟨[4], [], 0, []⟩
  | _ => ⟨[], [], 0, []⟩
noncomputable def out_ints_Pow10_l0 (y : Int) : Ex × St := (.exit 0, ⟨[(4, some (.i .i64 y))], [], 0, 0, 0, 0⟩)
noncomputable def outK_ints_Pow10_l0 (α : Type) (y : Int) (k : Ex → St → Option α) : Option α := (k (.exit 0) ⟨[(4, some (.i .i64 y))], [], 0, 0, 0, 0⟩)
theorem outK_ok_ints_Pow10_l0 : ∀ α y k, outK_ints_Pow10_l0 α y k = k (out_ints_Pow10_l0 y).1 (out_ints_Pow10_l0 y).2 := by
  intro α y k
  rfl
noncomputable def ux_ints_Pow10_l0 (ex : Ex) (s : St) : Option (Int) := match ex, s with
  | .exit 0, ⟨[(4, some (.i .i64 y0))], [], 0, 0, 0, 0⟩ => some y0
  | _, _ => none
theorem ux_ok_ints_Pow10_l0 : ∀ ex s y, ux_ints_Pow10_l0 ex s = some y → (ex, s) = out_ints_Pow10_l0 y := by
  intro ex s y h
  unfold ux_ints_Pow10_l0 at h
  split at h
  · cases h; rfl
  · cases h
noncomputable def Ls_ints_Pow10 (n : Nat) : List Sub := [subE 0 an_ints_Pow10_l0 un_ints_Pow10_l0 (fun x => iterL (ints_Pow10_l0 n) n x) outK_ints_Pow10_l0]
noncomputable def sac_ints_Pow10_l0 : AC := getS (subs (acOf Tryz.f28)) 0
noncomputable def ac_ints_Pow10_l0 : AC := AC.body sac_ints_Pow10_l0
theorem subs_ints_Pow10_l0 (n : Nat) : SubOK Tryz.prog 16 (Ls_ints_Pow10 n) ac_ints_Pow10_l0 := SubOK_of _ (by
  have e : subs ac_ints_Pow10_l0 = [] := by kernel_rfl
  rw [e]; intro p hp; cases hp)
theorem body_ints_Pow10_l0 (n : Nat) : ∀ x, run Tryz.prog (Es_ints_Pow10 n) (Ls_ints_Pow10 n) 16 ac_ints_Pow10_l0 (emb_ints_Pow10_l0 x) (roundK an_ints_Pow10_l0 un_ints_Pow10_l0 ax_ints_Pow10_l0 ux_ints_Pow10_l0) = ints_Pow10_l0 n x := fun _ => by kernel_rfl
theorem sub1_ints_Pow10_l0 (n : Nat) : ∀ (α : Type) (s : St) (k : Ex → St → Option α) (z : α), (subE 0 an_ints_Pow10_l0 un_ints_Pow10_l0 (fun x => iterL (ints_Pow10_l0 n) n x) outK_ints_Pow10_l0).e α s k = some z → SemC Tryz.prog 16 (sac_ints_Pow10_l0).code s fun ex s' => k ex s' = some z := by
  intro α s k z h
  have e : sac_ints_Pow10_l0 = .loop ac_ints_Pow10_l0 := by kernel_rfl
  rw [e]
  exact subE_ok (m := 0) (f := fun x => iterL (ints_Pow10_l0 n) n x) (out := out_ints_Pow10_l0) outK_ok_ints_Pow10_l0 un_ok_ints_Pow10_l0 (fun x y hy => loop_ok (Es_ok_ints_Pow10 n) (subs_ints_Pow10_l0 n) un_ok_ints_Pow10_l0 ux_ok_ints_Pow10_l0 (body_ints_Pow10_l0 n) n x y hy) h
theorem sub_ints_Pow10_l0 (n : Nat) : SubSt Tryz.prog 16 (Ls_ints_Pow10 n) 0 sac_ints_Pow10_l0 := fun α s k z => sub1_ints_Pow10_l0 n α s k z
theorem subs_ints_Pow10 (n : Nat) : SubOK Tryz.prog 16 (Ls_ints_Pow10 n) (acOf Tryz.f28) := SubOK_of _ (by
  have e : subs (acOf Tryz.f28) = [(0, sac_ints_Pow10_l0)] := by kernel_rfl
  rw [e]; intro p hp
  simp only [List.mem_cons, List.not_mem_nil, or_false] at hp
  · rw [hp]; exact sub_ints_Pow10_l0 n
  )
theorem cert_ints_Pow10 (n : Nat) (a0 : Int) : run Tryz.prog (Es_ints_Pow10 n) (Ls_ints_Pow10 n) Tryz.f28.ntmps (acOf Tryz.f28) ⟨argsT [.i .i64 a0] 0, [], 0, 0, 0, 0⟩ (finK Tryz.prog Tryz.f28.results.toList (retX unr_ints_Pow10)) = ints_Pow10 n a0 := by kernel_rfl
theorem pure_ints_Pow10 (n : Nat) : ∀ a r, ints_Pow10 n a = some r → PureOK Tryz.prog 28 (arg_ints_Pow10 a) (enc_ints_Pow10 r) := fun a r h => pureX_ok unr_ok_ints_Pow10 (Es_ok_ints_Pow10 n) Tryz.func28 rfl (acOf_code _) (subs_ints_Pow10 n) rfl ((cert_ints_Pow10 n a).trans h)
theorem ok_ints_Pow10 (n : Nat) : EntOK Tryz.prog (e_ints_Pow10 n) := pureE_ok Tryz.call28 una_ok_ints_Pow10 (fun _ => rfl) (pure_ints_Pow10 n)

/-! circa/ints.size -/
noncomputable def arg_ints_size (a : Int) : List V := [.i .i64 a]
noncomputable def una_ints_size (l : List V) : Option (Int) := match l with
  | [.i .i64 a0] => some a0
  | _ => none
theorem una_ok_ints_size : ∀ l a, una_ints_size l = some a → l = arg_ints_size a := by
  intro l a h
  unfold una_ints_size at h
  split at h
  · cases h; rfl
  · cases h
noncomputable def enc_ints_size (r : Int) : V := .i .u64 r
noncomputable def unr_ints_size (v : V) : Option (Int) := match v with
  | .i .u64 r0 => some r0
  | _ => none
theorem unr_ok_ints_size : ∀ v r, unr_ints_size v = some r → v = enc_ints_size r := by
  intro v r h
  unfold unr_ints_size at h
  split at h
  · cases h; rfl
  · cases h
noncomputable def e_ints_size (n : Nat) : Ent := pureE 74 una_ints_size (fun a => ints_size n a) enc_ints_size
noncomputable def t_ints_size (l : List V) (_ : List (Nat × Blk)) : Bool := isS (una_ints_size l)
noncomputable def Es_ints_size (_n : Nat) : List Ent := []
theorem Es_ok_ints_size (n : Nat) : ∀ x ∈ Es_ints_size n, EntOK Tryz.prog x := by
  intro x hx
  simp [Es_ints_size] at hx
noncomputable def Ls_ints_size (_n : Nat) : List Sub := []
theorem subs_ints_size (n : Nat) : SubOK Tryz.prog 10 (Ls_ints_size n) (acOf Tryz.f74) := SubOK_of _ (by
  have e : subs (acOf Tryz.f74) = [] := by kernel_rfl
  rw [e]; intro p hp; cases hp)
theorem cert_ints_size (n : Nat) (a0 : Int) : run Tryz.prog (Es_ints_size n) (Ls_ints_size n) Tryz.f74.ntmps (acOf Tryz.f74) ⟨argsT [.i .i64 a0] 0, [], 0, 0, 0, 0⟩ (finK Tryz.prog Tryz.f74.results.toList (retX unr_ints_size)) = ints_size n a0 := by kernel_rfl
theorem pure_ints_size (n : Nat) : ∀ a r, ints_size n a = some r → PureOK Tryz.prog 74 (arg_ints_size a) (enc_ints_size r) := fun a r h => pureX_ok unr_ok_ints_size (Es_ok_ints_size n) Tryz.func74 rfl (acOf_code _) (subs_ints_size n) rfl ((cert_ints_size n a).trans h)
theorem ok_ints_size (n : Nat) : EntOK Tryz.prog (e_ints_size n) := pureE_ok Tryz.call74 una_ok_ints_size (fun _ => rfl) (pure_ints_size n)

/-! math/bits.Mul64 -/
noncomputable def arg_math_bits_Mul64 (a : Int × Int) : List V := [.i .u64 a.1, .i .u64 a.2]
noncomputable def una_math_bits_Mul64 (l : List V) : Option (Int × Int) := match l with
  | [.i .u64 a0, .i .u64 a1] => some (a0, a1)
  | _ => none
theorem una_ok_math_bits_Mul64 : ∀ l a, una_math_bits_Mul64 l = some a → l = arg_math_bits_Mul64 a := by
  intro l a h
  unfold una_math_bits_Mul64 at h
  split at h
  · cases h; rfl
  · cases h
noncomputable def enc_math_bits_Mul64 (r : Int × Int) : V := .tp [.i .u64 r.1, .i .u64 r.2]
noncomputable def unr_math_bits_Mul64 (v : V) : Option (Int × Int) := match v with
  | .tp [.i .u64 r0, .i .u64 r1] => some (r0, r1)
  | _ => none
theorem unr_ok_math_bits_Mul64 : ∀ v r, unr_math_bits_Mul64 v = some r → v = enc_math_bits_Mul64 r := by
  intro v r h
  unfold unr_math_bits_Mul64 at h
  split at h
  · cases h; rfl
  · cases h
noncomputable def e_math_bits_Mul64 (n : Nat) : Ent := pureE 73 una_math_bits_Mul64 (fun a => math_bits_Mul64 n a.1 a.2) enc_math_bits_Mul64
noncomputable def t_math_bits_Mul64 (l : List V) (_ : List (Nat × Blk)) : Bool := isS (una_math_bits_Mul64 l)
noncomputable def Es_math_bits_Mul64 (_n : Nat) : List Ent := []
theorem Es_ok_math_bits_Mul64 (n : Nat) : ∀ x ∈ Es_math_bits_Mul64 n, EntOK Tryz.prog x := by
  intro x hx
  simp [Es_math_bits_Mul64] at hx
noncomputable def Ls_math_bits_Mul64 (_n : Nat) : List Sub := []
theorem subs_math_bits_Mul64 (n : Nat) : SubOK Tryz.prog 51 (Ls_math_bits_Mul64 n) (acOf Tryz.f73) := SubOK_of _ (by
  have e : subs (acOf Tryz.f73) = [] := by kernel_rfl
  rw [e]; intro p hp; cases hp)
theorem cert_math_bits_Mul64 (n : Nat) (a0 : Int) (a1 : Int) : run Tryz.prog (Es_math_bits_Mul64 n) (Ls_math_bits_Mul64 n) Tryz.f73.ntmps (acOf Tryz.f73) ⟨argsT [.i .u64 a0, .i .u64 a1] 0, [], 0, 0, 0, 0⟩ (finK Tryz.prog Tryz.f73.results.toList (retX unr_math_bits_Mul64)) = math_bits_Mul64 n a0 a1 := by kernel_rfl
theorem pure_math_bits_Mul64 (n : Nat) : ∀ a r, math_bits_Mul64 n a.1 a.2 = some r → PureOK Tryz.prog 73 (arg_math_bits_Mul64 a) (enc_math_bits_Mul64 r) := fun a r h => pureX_ok unr_ok_math_bits_Mul64 (Es_ok_math_bits_Mul64 n) Tryz.func73 rfl (acOf_code _) (subs_math_bits_Mul64 n) rfl ((cert_math_bits_Mul64 n a.1 a.2).trans h)
theorem ok_math_bits_Mul64 (n : Nat) : EntOK Tryz.prog (e_math_bits_Mul64 n) := pureE_ok Tryz.call73 una_ok_math_bits_Mul64 (fun _ => rfl) (pure_math_bits_Mul64 n)

/-! circa/ints.signed -/
noncomputable def arg_ints_signed (a : Int × Bool) : List V := [.i .u64 a.1, .b a.2]
noncomputable def una_ints_signed (l : List V) : Option (Int × Bool) := match l with
  | [.i .u64 a0, .b a1] => some (a0, a1)
  | _ => none
theorem una_ok_ints_signed : ∀ l a, una_ints_signed l = some a → l = arg_ints_signed a := by
  intro l a h
  unfold una_ints_signed at h
  split at h
  · cases h; rfl
  · cases h
noncomputable def enc_ints_signed (r : Int × Int) : V := .tp [.i .i64 r.1, .i .i64 r.2]
noncomputable def unr_ints_signed (v : V) : Option (Int × Int) := match v with
  | .tp [.i .i64 r0, .i .i64 r1] => some (r0, r1)
  | _ => none
theorem unr_ok_ints_signed : ∀ v r, unr_ints_signed v = some r → v = enc_ints_signed r := by
  intro v r h
  unfold unr_ints_signed at h
  split at h
  · cases h; rfl
  · cases h
noncomputable def e_ints_signed (n : Nat) : Ent := pureE 75 una_ints_signed (fun a => ints_signed n a.1 a.2) enc_ints_signed
noncomputable def t_ints_signed (l : List V) (_ : List (Nat × Blk)) : Bool := isS (una_ints_signed l)
noncomputable def Es_ints_signed (_n : Nat) : List Ent := []
theorem Es_ok_ints_signed (n : Nat) : ∀ x ∈ Es_ints_signed n, EntOK Tryz.prog x := by
  intro x hx
  simp [Es_ints_signed] at hx
noncomputable def Ls_ints_signed (_n : Nat) : List Sub := []
theorem subs_ints_signed (n : Nat) : SubOK Tryz.prog 24 (Ls_ints_signed n) (acOf Tryz.f75) := SubOK_of _ (by
  have e : subs (acOf Tryz.f75) = [] := by kernel_rfl
  rw [e]; intro p hp; cases hp)
theorem cert_ints_signed (n : Nat) (a0 : Int) (a1 : Bool) : run Tryz.prog (Es_ints_signed n) (Ls_ints_signed n) Tryz.f75.ntmps (acOf Tryz.f75) ⟨argsT [.i .u64 a0, .b a1] 0, [], 0, 0, 0, 0⟩ (finK Tryz.prog Tryz.f75.results.toList (retX unr_ints_signed)) = ints_signed n a0 a1 := by kernel_rfl
theorem pure_ints_signed (n : Nat) : ∀ a r, ints_signed n a.1 a.2 = some r → PureOK Tryz.prog 75 (arg_ints_signed a) (enc_ints_signed r) := fun a r h => pureX_ok unr_ok_ints_signed (Es_ok_ints_signed n) Tryz.func75 rfl (acOf_code _) (subs_ints_signed n) rfl ((cert_ints_signed n a.1 a.2).trans h)
theorem ok_ints_signed (n : Nat) : EntOK Tryz.prog (e_ints_signed n) := pureE_ok Tryz.call75 una_ok_ints_signed (fun _ => rfl) (pure_ints_signed n)

/-! circa/ints.Mul -/
noncomputable def arg_ints_Mul (a : Int × Int) : List V := [.i .i64 a.1, .i .i64 a.2]
noncomputable def una_ints_Mul (l : List V) : Option (Int × Int) := match l with
  | [.i .i64 a0, .i .i64 a1] => some (a0, a1)
  | _ => none
theorem una_ok_ints_Mul : ∀ l a, una_ints_Mul l = some a → l = arg_ints_Mul a := by
  intro l a h
  unfold una_ints_Mul at h
  split at h
  · cases h; rfl
  · cases h
noncomputable def enc_ints_Mul (r : Int × Int) : V := .tp [.i .i64 r.1, .i .i64 r.2]
noncomputable def unr_ints_Mul (v : V) : Option (Int × Int) := match v with
  | .tp [.i .i64 r0, .i .i64 r1] => some (r0, r1)
  | _ => none
theorem unr_ok_ints_Mul : ∀ v r, unr_ints_Mul v = some r → v = enc_ints_Mul r := by
  intro v r h
  unfold unr_ints_Mul at h
  split at h
  · cases h; rfl
  · cases h
noncomputable def e_ints_Mul (n : Nat) : Ent := pureE 48 una_ints_Mul (fun a => ints_Mul n a.1 a.2) enc_ints_Mul
noncomputable def t_ints_Mul (l : List V) (_ : List (Nat × Blk)) : Bool := isS (una_ints_Mul l)
noncomputable def Es_ints_Mul (n : Nat) : List Ent := [e_ints_size n, e_math_bits_Mul64 n, e_ints_signed n]
theorem Es_ok_ints_Mul (n : Nat) : ∀ x ∈ Es_ints_Mul n, EntOK Tryz.prog x := by
  intro x hx
  simp only [Es_ints_Mul, List.mem_cons, List.not_mem_nil, or_false] at hx
  rcases hx with hx | hx | hx
  · rw [hx]; exact ok_ints_size n
  · rw [hx]; exact ok_math_bits_Mul64 n
  · rw [hx]; exact ok_ints_signed n
noncomputable def Ls_ints_Mul (_n : Nat) : List Sub := []
theorem subs_ints_Mul (n : Nat) : SubOK Tryz.prog 30 (Ls_ints_Mul n) (acOf Tryz.f48) := SubOK_of _ (by
  have e : subs (acOf Tryz.f48) = [] := by kernel_rfl
  rw [e]; intro p hp; cases hp)
theorem cert_ints_Mul (n : Nat) (a0 : Int) (a1 : Int) : run Tryz.prog (Es_ints_Mul n) (Ls_ints_Mul n) Tryz.f48.ntmps (acOf Tryz.f48) ⟨argsT [.i .i64 a0, .i .i64 a1] 0, [], 0, 0, 0, 0⟩ (finK Tryz.prog Tryz.f48.results.toList (retX unr_ints_Mul)) = ints_Mul n a0 a1 := by kernel_rfl
theorem pure_ints_Mul (n : Nat) : ∀ a r, ints_Mul n a.1 a.2 = some r → PureOK Tryz.prog 48 (arg_ints_Mul a) (enc_ints_Mul r) := fun a r h => pureX_ok unr_ok_ints_Mul (Es_ok_ints_Mul n) Tryz.func48 rfl (acOf_code _) (subs_ints_Mul n) rfl ((cert_ints_Mul n a.1 a.2).trans h)
theorem ok_ints_Mul (n : Nat) : EntOK Tryz.prog (e_ints_Mul n) := pureE_ok Tryz.call48 una_ok_ints_Mul (fun _ => rfl) (pure_ints_Mul n)

/-! circa/yearforms.magnitude -/
noncomputable def arg_yearforms_magnitude (a : Bool × Bool × List UInt8 × Int × Int) : List V := [.ag [.b a.1, .b a.2.1, .s a.2.2.1, .i .i64 a.2.2.2.1, .i .i64 a.2.2.2.2]]
noncomputable def una_yearforms_magnitude (l : List V) : Option (Bool × Bool × List UInt8 × Int × Int) := match l with
  | [.ag [.b a0, .b a1, .s a2, .i .i64 a3, .i .i64 a4]] => some (a0, a1, a2, a3, a4)
  | _ => none
theorem una_ok_yearforms_magnitude : ∀ l a, una_yearforms_magnitude l = some a → l = arg_yearforms_magnitude a := by
  intro l a h
  unfold una_yearforms_magnitude at h
  split at h
  · cases h; rfl
  · cases h
noncomputable def enc_yearforms_magnitude (r : Int × Int) : V := .tp [.i .i64 r.1, .i .i64 r.2]
noncomputable def unr_yearforms_magnitude (v : V) : Option (Int × Int) := match v with
  | .tp [.i .i64 r0, .i .i64 r1] => some (r0, r1)
  | _ => none
theorem unr_ok_yearforms_magnitude : ∀ v r, unr_yearforms_magnitude v = some r → v = enc_yearforms_magnitude r := by
  intro v r h
  unfold unr_yearforms_magnitude at h
  split at h
  · cases h; rfl
  · cases h
noncomputable def e_yearforms_magnitude (n : Nat) : Ent := pureE 27 una_yearforms_magnitude (fun a => yearforms_magnitude n a.1 a.2.1 a.2.2.1 a.2.2.2.1 a.2.2.2.2) enc_yearforms_magnitude
noncomputable def t_yearforms_magnitude (l : List V) (_ : List (Nat × Blk)) : Bool := isS (una_yearforms_magnitude l)
noncomputable def Es_yearforms_magnitude (n : Nat) : List Ent := [e_lib_47 n, e_ints_Pow10 n, e_ints_Mul n]
theorem Es_ok_yearforms_magnitude (n : Nat) : ∀ x ∈ Es_yearforms_magnitude n, EntOK Tryz.prog x := by
  intro x hx
  simp only [Es_yearforms_magnitude, List.mem_cons, List.not_mem_nil, or_false] at hx
  rcases hx with hx | hx | hx
  · rw [hx]; exact ok_lib_47 n
  · rw [hx]; exact ok_ints_Pow10 n
  · rw [hx]; exact ok_ints_Mul n
noncomputable def Ls_yearforms_magnitude (_n : Nat) : List Sub := []
theorem subs_yearforms_magnitude (n : Nat) : SubOK Tryz.prog 40 (Ls_yearforms_magnitude n) (acOf Tryz.f27) := SubOK_of _ (by
  have e : subs (acOf Tryz.f27) = [] := by kernel_rfl
  rw [e]; intro p hp; cases hp)
theorem cert_yearforms_magnitude (n : Nat) (a0 : Bool) (a1 : Bool) (a2 : List UInt8) (a3 : Int) (a4 : Int) : run Tryz.prog (Es_yearforms_magnitude n) (Ls_yearforms_magnitude n) Tryz.f27.ntmps (acOf Tryz.f27) ⟨argsT [.ag [.b a0, .b a1, .s a2, .i .i64 a3, .i .i64 a4]] 0, [], 0, 0, 0, 0⟩ (finK Tryz.prog Tryz.f27.results.toList (retX unr_yearforms_magnitude)) = yearforms_magnitude n a0 a1 a2 a3 a4 := by kernel_rfl
theorem pure_yearforms_magnitude (n : Nat) : ∀ a r, yearforms_magnitude n a.1 a.2.1 a.2.2.1 a.2.2.2.1 a.2.2.2.2 = some r → PureOK Tryz.prog 27 (arg_yearforms_magnitude a) (enc_yearforms_magnitude r) := fun a r h => pureX_ok unr_ok_yearforms_magnitude (Es_ok_yearforms_magnitude n) Tryz.func27 rfl (acOf_code _) (subs_yearforms_magnitude n) rfl ((cert_yearforms_magnitude n a.1 a.2.1 a.2.2.1 a.2.2.2.1 a.2.2.2.2).trans h)
theorem ok_yearforms_magnitude (n : Nat) : EntOK Tryz.prog (e_yearforms_magnitude n) := pureE_ok Tryz.call27 una_ok_yearforms_magnitude (fun _ => rfl) (pure_yearforms_magnitude n)

/-! circa/yearforms.checkLong -/
noncomputable def arg_yearforms_checkLong (a : Bool × Bool × List UInt8 × Int × Int) : List V := [.ag [.b a.1, .b a.2.1, .s a.2.2.1, .i .i64 a.2.2.2.1, .i .i64 a.2.2.2.2]]
noncomputable def una_yearforms_checkLong (l : List V) : Option (Bool × Bool × List UInt8 × Int × Int) := match l with
  | [.ag [.b a0, .b a1, .s a2, .i .i64 a3, .i .i64 a4]] => some (a0, a1, a2, a3, a4)
  | _ => none
theorem una_ok_yearforms_checkLong : ∀ l a, una_yearforms_checkLong l = some a → l = arg_yearforms_checkLong a := by
  intro l a h
  unfold una_yearforms_checkLong at h
  split at h
  · cases h; rfl
  · cases h
noncomputable def enc_yearforms_checkLong (r : Bool) : V := .b r
noncomputable def unr_yearforms_checkLong (v : V) : Option (Bool) := match v with
  | .b r0 => some r0
  | _ => none
theorem unr_ok_yearforms_checkLong : ∀ v r, unr_yearforms_checkLong v = some r → v = enc_yearforms_checkLong r := by
  intro v r h
  unfold unr_yearforms_checkLong at h
  split at h
  · cases h; rfl
  · cases h
noncomputable def e_yearforms_checkLong (n : Nat) : Ent := pureE 40 una_yearforms_checkLong (fun a => yearforms_checkLong n a.1 a.2.1 a.2.2.1 a.2.2.2.1 a.2.2.2.2) enc_yearforms_checkLong
noncomputable def t_yearforms_checkLong (l : List V) (_ : List (Nat × Blk)) : Bool := isS (una_yearforms_checkLong l)
noncomputable def Es_yearforms_checkLong (n : Nat) : List Ent := [e_yearforms_only n, e_yearforms_magnitude n]
theorem Es_ok_yearforms_checkLong (n : Nat) : ∀ x ∈ Es_yearforms_checkLong n, EntOK Tryz.prog x := by
  intro x hx
  simp only [Es_yearforms_checkLong, List.mem_cons, List.not_mem_nil, or_false] at hx
  rcases hx with hx | hx
  · rw [hx]; exact ok_yearforms_only n
  · rw [hx]; exact ok_yearforms_magnitude n
noncomputable def Ls_yearforms_checkLong (_n : Nat) : List Sub := []
theorem subs_yearforms_checkLong (n : Nat) : SubOK Tryz.prog 53 (Ls_yearforms_checkLong n) (acOf Tryz.f40) := SubOK_of _ (by
  have e : subs (acOf Tryz.f40) = [] := by kernel_rfl
  rw [e]; intro p hp; cases hp)
theorem cert_yearforms_checkLong (n : Nat) (a0 : Bool) (a1 : Bool) (a2 : List UInt8) (a3 : Int) (a4 : Int) : run Tryz.prog (Es_yearforms_checkLong n) (Ls_yearforms_checkLong n) Tryz.f40.ntmps (acOf Tryz.f40) ⟨argsT [.ag [.b a0, .b a1, .s a2, .i .i64 a3, .i .i64 a4]] 0, [], 0, 0, 0, 0⟩ (finK Tryz.prog Tryz.f40.results.toList (retX unr_yearforms_checkLong)) = yearforms_checkLong n a0 a1 a2 a3 a4 := by kernel_rfl
theorem pure_yearforms_checkLong (n : Nat) : ∀ a r, yearforms_checkLong n a.1 a.2.1 a.2.2.1 a.2.2.2.1 a.2.2.2.2 = some r → PureOK Tryz.prog 40 (arg_yearforms_checkLong a) (enc_yearforms_checkLong r) := fun a r h => pureX_ok unr_ok_yearforms_checkLong (Es_ok_yearforms_checkLong n) Tryz.func40 rfl (acOf_code _) (subs_yearforms_checkLong n) rfl ((cert_yearforms_checkLong n a.1 a.2.1 a.2.2.1 a.2.2.2.1 a.2.2.2.2).trans h)
theorem ok_yearforms_checkLong (n : Nat) : EntOK Tryz.prog (e_yearforms_checkLong n) := pureE_ok Tryz.call40 una_ok_yearforms_checkLong (fun _ => rfl) (pure_yearforms_checkLong n)

/-! circa/yearforms.Check -/
noncomputable def arg_yearforms_Check (a : Bool × Bool × List UInt8 × Int × Int) : List V := [.ag [.b a.1, .b a.2.1, .s a.2.2.1, .i .i64 a.2.2.2.1, .i .i64 a.2.2.2.2]]
noncomputable def una_yearforms_Check (l : List V) : Option (Bool × Bool × List UInt8 × Int × Int) := match l with
  | [.ag [.b a0, .b a1, .s a2, .i .i64 a3, .i .i64 a4]] => some (a0, a1, a2, a3, a4)
  | _ => none
theorem una_ok_yearforms_Check : ∀ l a, una_yearforms_Check l = some a → l = arg_yearforms_Check a := by
  intro l a h
  unfold una_yearforms_Check at h
  split at h
  · cases h; rfl
  · cases h
noncomputable def enc_yearforms_Check (r : Int) : V := .i .i64 r
noncomputable def unr_yearforms_Check (v : V) : Option (Int) := match v with
  | .i .i64 r0 => some r0
  | _ => none
theorem unr_ok_yearforms_Check : ∀ v r, unr_yearforms_Check v = some r → v = enc_yearforms_Check r := by
  intro v r h
  unfold unr_yearforms_Check at h
  split at h
  · cases h; rfl
  · cases h
noncomputable def e_yearforms_Check (n : Nat) : Ent := pureE 17 una_yearforms_Check (fun a => yearforms_Check n a.1 a.2.1 a.2.2.1 a.2.2.2.1 a.2.2.2.2) enc_yearforms_Check
noncomputable def t_yearforms_Check (l : List V) (_ : List (Nat × Blk)) : Bool := isS (una_yearforms_Check l)
noncomputable def Es_yearforms_Check (n : Nat) : List Ent := [e_yearforms_only n, e_strings_Trim n, e_yearforms_Masked n, e_yearforms_checkLong n]
theorem Es_ok_yearforms_Check (n : Nat) : ∀ x ∈ Es_yearforms_Check n, EntOK Tryz.prog x := by
  intro x hx
  simp only [Es_yearforms_Check, List.mem_cons, List.not_mem_nil, or_false] at hx
  rcases hx with hx | hx | hx | hx
  · rw [hx]; exact ok_yearforms_only n
  · rw [hx]; exact ok_strings_Trim n
  · rw [hx]; exact ok_yearforms_Masked n
  · rw [hx]; exact ok_yearforms_checkLong n
noncomputable def Ls_yearforms_Check (_n : Nat) : List Sub := []
theorem subs_yearforms_Check (n : Nat) : SubOK Tryz.prog 61 (Ls_yearforms_Check n) (acOf Tryz.f17) := SubOK_of _ (by
  have e : subs (acOf Tryz.f17) = [] := by kernel_rfl
  rw [e]; intro p hp; cases hp)
theorem cert_yearforms_Check (n : Nat) (a0 : Bool) (a1 : Bool) (a2 : List UInt8) (a3 : Int) (a4 : Int) : run Tryz.prog (Es_yearforms_Check n) (Ls_yearforms_Check n) Tryz.f17.ntmps (acOf Tryz.f17) ⟨argsT [.ag [.b a0, .b a1, .s a2, .i .i64 a3, .i .i64 a4]] 0, [], 0, 0, 0, 0⟩ (finK Tryz.prog Tryz.f17.results.toList (retX unr_yearforms_Check)) = yearforms_Check n a0 a1 a2 a3 a4 := by kernel_rfl
theorem pure_yearforms_Check (n : Nat) : ∀ a r, yearforms_Check n a.1 a.2.1 a.2.2.1 a.2.2.2.1 a.2.2.2.2 = some r → PureOK Tryz.prog 17 (arg_yearforms_Check a) (enc_yearforms_Check r) := fun a r h => pureX_ok unr_ok_yearforms_Check (Es_ok_yearforms_Check n) Tryz.func17 rfl (acOf_code _) (subs_yearforms_Check n) rfl ((cert_yearforms_Check n a.1 a.2.1 a.2.2.1 a.2.2.2.1 a.2.2.2.2).trans h)
theorem ok_yearforms_Check (n : Nat) : EntOK Tryz.prog (e_yearforms_Check n) := pureE_ok Tryz.call17 una_ok_yearforms_Check (fun _ => rfl) (pure_yearforms_Check n)

/-! circa/masks.Check -/
noncomputable def arg_masks_Check (a : List UInt8) : List V := [.s a]
noncomputable def una_masks_Check (l : List V) : Option (List UInt8) := match l with
  | [.s a0] => some a0
  | _ => none
theorem una_ok_masks_Check : ∀ l a, una_masks_Check l = some a → l = arg_masks_Check a := by
  intro l a h
  unfold una_masks_Check at h
  split at h
  · cases h; rfl
  · cases h
noncomputable def enc_masks_Check (r : Int) : V := .i .i64 r
noncomputable def unr_masks_Check (v : V) : Option (Int) := match v with
  | .i .i64 r0 => some r0
  | _ => none
theorem unr_ok_masks_Check : ∀ v r, unr_masks_Check v = some r → v = enc_masks_Check r := by
  intro v r h
  unfold unr_masks_Check at h
  split at h
  · cases h; rfl
  · cases h
noncomputable def e_masks_Check (n : Nat) : Ent := pureE 43 una_masks_Check (fun a => masks_Check n a) enc_masks_Check
noncomputable def t_masks_Check (l : List V) (_ : List (Nat × Blk)) : Bool := isS (una_masks_Check l)
noncomputable def Es_masks_Check (_n : Nat) : List Ent := []
theorem Es_ok_masks_Check (n : Nat) : ∀ x ∈ Es_masks_Check n, EntOK Tryz.prog x := by
  intro x hx
  simp [Es_masks_Check] at hx
noncomputable def an_masks_Check_l0 : Ann := ⟨[0, 9], [0], 1, []⟩
noncomputable def emb_masks_Check_l0 (x : List UInt8 × List UInt8 × Nat) : St := ⟨[(0, some (.s x.1)), (9, some (.p 0 0))], [(0, .iter x.2.1 x.2.2)], 1, 0, 0, 0⟩
noncomputable def un_masks_Check_l0 (s : St) : Option (List UInt8 × List UInt8 × Nat) := match s with
  | ⟨[(0, some (.s x0)), (9, some (.p 0 0))], [(0, .iter x1 x2)], 1, 0, 0, 0⟩ => some (x0, x1, x2)
  | _ => none
theorem un_ok_masks_Check_l0 : ∀ s x, un_masks_Check_l0 s = some x → s = emb_masks_Check_l0 x := by
  intro s x h
  unfold un_masks_Check_l0 at h
  split at h
  · cases h; rfl
  · cases h
noncomputable def ax_masks_Check_l0 : Ex → Ann := fun ex => match ex with
  | .ret => ⟨[2], [], 1, []⟩
  | .exit 0 => ⟨[0], [], 1, []⟩
  | _ => ⟨[], [], 0, []⟩
noncomputable def out_masks_Check_l0 (y : Int ⊕ List UInt8) : Ex × St := (Sum.casesOn (motive := fun _ => Ex × St) y (fun a0 => (.ret, ⟨[(2, some (.i .i64 a0))], [], 1, 0, 0, 0⟩)) (fun b0 => (.exit 0, ⟨[(0, some (.s b0))], [], 1, 0, 0, 0⟩)))
noncomputable def outK_masks_Check_l0 (α : Type) (y : Int ⊕ List UInt8) (k : Ex → St → Option α) : Option α := (Sum.casesOn (motive := fun _ => Option α) y (fun a0 => (k (.ret) ⟨[(2, some (.i .i64 a0))], [], 1, 0, 0, 0⟩)) (fun b0 => (k (.exit 0) ⟨[(0, some (.s b0))], [], 1, 0, 0, 0⟩)))
theorem outK_ok_masks_Check_l0 : ∀ α y k, outK_masks_Check_l0 α y k = k (out_masks_Check_l0 y).1 (out_masks_Check_l0 y).2 := by
  intro α y k
  rcases y with y | y <;> rfl
noncomputable def ux_masks_Check_l0 (ex : Ex) (s : St) : Option (Int ⊕ List UInt8) := match ex, s with
  | .ret, ⟨[(2, some (.i .i64 y0))], [], 1, 0, 0, 0⟩ => some (.inl y0)
  | .exit 0, ⟨[(0, some (.s y0))], [], 1, 0, 0, 0⟩ => some (.inr y0)
  | _, _ => none
theorem ux_ok_masks_Check_l0 : ∀ ex s y, ux_masks_Check_l0 ex s = some y → (ex, s) = out_masks_Check_l0 y := by
  intro ex s y h
  unfold ux_masks_Check_l0 at h
  split at h
  · cases h; rfl
  · cases h; rfl
  · cases h
noncomputable def Ls_masks_Check (n : Nat) : List Sub := [subE 0 an_masks_Check_l0 un_masks_Check_l0 (fun x => iterL (masks_Check_l0 n) n x) outK_masks_Check_l0]
noncomputable def sac_masks_Check_l0 : AC := getS (subs (acOf Tryz.f43)) 0
noncomputable def ac_masks_Check_l0 : AC := AC.body sac_masks_Check_l0
theorem subs_masks_Check_l0 (n : Nat) : SubOK Tryz.prog 25 (Ls_masks_Check n) ac_masks_Check_l0 := SubOK_of _ (by
  have e : subs ac_masks_Check_l0 = [] := by kernel_rfl
  rw [e]; intro p hp; cases hp)
theorem body_masks_Check_l0 (n : Nat) : ∀ x, run Tryz.prog (Es_masks_Check n) (Ls_masks_Check n) 25 ac_masks_Check_l0 (emb_masks_Check_l0 x) (roundK an_masks_Check_l0 un_masks_Check_l0 ax_masks_Check_l0 ux_masks_Check_l0) = masks_Check_l0 n x := fun _ => by kernel_rfl
theorem sub1_masks_Check_l0 (n : Nat) : ∀ (α : Type) (s : St) (k : Ex → St → Option α) (z : α), (subE 0 an_masks_Check_l0 un_masks_Check_l0 (fun x => iterL (masks_Check_l0 n) n x) outK_masks_Check_l0).e α s k = some z → SemC Tryz.prog 25 (sac_masks_Check_l0).code s fun ex s' => k ex s' = some z := by
  intro α s k z h
  have e : sac_masks_Check_l0 = .loop ac_masks_Check_l0 := by kernel_rfl
  rw [e]
  exact subE_ok (m := 0) (f := fun x => iterL (masks_Check_l0 n) n x) (out := out_masks_Check_l0) outK_ok_masks_Check_l0 un_ok_masks_Check_l0 (fun x y hy => loop_ok (Es_ok_masks_Check n) (subs_masks_Check_l0 n) un_ok_masks_Check_l0 ux_ok_masks_Check_l0 (body_masks_Check_l0 n) n x y hy) h
theorem sub_masks_Check_l0 (n : Nat) : SubSt Tryz.prog 25 (Ls_masks_Check n) 0 sac_masks_Check_l0 := fun α s k z => sub1_masks_Check_l0 n α s k z
theorem subs_masks_Check (n : Nat) : SubOK Tryz.prog 25 (Ls_masks_Check n) (acOf Tryz.f43) := SubOK_of _ (by
  have e : subs (acOf Tryz.f43) = [(0, sac_masks_Check_l0)] := by kernel_rfl
  rw [e]; intro p hp
  simp only [List.mem_cons, List.not_mem_nil, or_false] at hp
  · rw [hp]; exact sub_masks_Check_l0 n
  )
theorem cert_masks_Check (n : Nat) (a0 : List UInt8) : run Tryz.prog (Es_masks_Check n) (Ls_masks_Check n) Tryz.f43.ntmps (acOf Tryz.f43) ⟨argsT [.s a0] 0, [], 0, 0, 0, 0⟩ (finK Tryz.prog Tryz.f43.results.toList (retX unr_masks_Check)) = masks_Check n a0 := by kernel_rfl
theorem pure_masks_Check (n : Nat) : ∀ a r, masks_Check n a = some r → PureOK Tryz.prog 43 (arg_masks_Check a) (enc_masks_Check r) := fun a r h => pureX_ok unr_ok_masks_Check (Es_ok_masks_Check n) Tryz.func43 rfl (acOf_code _) (subs_masks_Check n) rfl ((cert_masks_Check n a).trans h)
theorem ok_masks_Check (n : Nat) : EntOK Tryz.prog (e_masks_Check n) := pureE_ok Tryz.call43 una_ok_masks_Check (fun _ => rfl) (pure_masks_Check n)

/-! circa/masks.filled -/
noncomputable def arg_masks_filled (a : List UInt8 × Int) : List V := [.s a.1, .i .u8 a.2]
noncomputable def una_masks_filled (l : List V) : Option (List UInt8 × Int) := match l with
  | [.s a0, .i .u8 a1] => some (a0, a1)
  | _ => none
theorem una_ok_masks_filled : ∀ l a, una_masks_filled l = some a → l = arg_masks_filled a := by
  intro l a h
  unfold una_masks_filled at h
  split at h
  · cases h; rfl
  · cases h
noncomputable def enc_masks_filled (r : Int) : V := .i .i64 r
noncomputable def unr_masks_filled (v : V) : Option (Int) := match v with
  | .i .i64 r0 => some r0
  | _ => none
theorem unr_ok_masks_filled : ∀ v r, unr_masks_filled v = some r → v = enc_masks_filled r := by
  intro v r h
  unfold unr_masks_filled at h
  split at h
  · cases h; rfl
  · cases h
noncomputable def e_masks_filled (n : Nat) : Ent := pureE 44 una_masks_filled (fun a => masks_filled n a.1 a.2) enc_masks_filled
noncomputable def t_masks_filled (l : List V) (_ : List (Nat × Blk)) : Bool := isS (una_masks_filled l)
noncomputable def Es_masks_filled (_n : Nat) : List Ent := []
theorem Es_ok_masks_filled (n : Nat) : ∀ x ∈ Es_masks_filled n, EntOK Tryz.prog x := by
  intro x hx
  simp [Es_masks_filled] at hx
noncomputable def an_masks_filled_l0 : Ann := ⟨[1, 5, 9, 10, 11], [0], 1, []⟩
noncomputable def emb_masks_filled_l0 (x : Int × Int × Int × Int × List (Int)) : St := ⟨[(1, some (.i .u8 x.1)), (5, some (.i .i64 x.2.1)), (9, some (.ws 0)), (10, some (.i .i64 x.2.2.1)), (11, some (.i .i64 x.2.2.2.1))], [(0, .rows [.i .u8] x.2.2.2.2)], 1, 0, 0, 0⟩
noncomputable def un_masks_filled_l0 (s : St) : Option (Int × Int × Int × Int × List (Int)) := match s with
  | ⟨[(1, some (.i .u8 x0)), (5, some (.i .i64 x1)), (9, some (.ws 0)), (10, some (.i .i64 x2)), (11, some (.i .i64 x3))], [(0, .rows [.i .u8] x4)], 1, 0, 0, 0⟩ => some (x0, x1, x2, x3, x4)
  | _ => none
theorem un_ok_masks_filled_l0 : ∀ s x, un_masks_filled_l0 s = some x → s = emb_masks_filled_l0 x := by
  intro s x h
  unfold un_masks_filled_l0 at h
  split at h
  · cases h; rfl
  · cases h
noncomputable def ax_masks_filled_l0 : Ex → Ann := fun ex => match ex with
  | .exit 0 => ⟨[5], [], 1, []⟩
  | _ => ⟨[], [], 0, []⟩
noncomputable def out_masks_filled_l0 (y : Int) : Ex × St := (.exit 0, ⟨[(5, some (.i .i64 y))], [], 1, 0, 0, 0⟩)
noncomputable def outK_masks_filled_l0 (α : Type) (y : Int) (k : Ex → St → Option α) : Option α := (k (.exit 0) ⟨[(5, some (.i .i64 y))], [], 1, 0, 0, 0⟩)
theorem outK_ok_masks_filled_l0 : ∀ α y k, outK_masks_filled_l0 α y k = k (out_masks_filled_l0 y).1 (out_masks_filled_l0 y).2 := by
  intro α y k
  rfl
noncomputable def ux_masks_filled_l0 (ex : Ex) (s : St) : Option (Int) := match ex, s with
  | .exit 0, ⟨[(5, some (.i .i64 y0))], [], 1, 0, 0, 0⟩ => some y0
  | _, _ => none
theorem ux_ok_masks_filled_l0 : ∀ ex s y, ux_masks_filled_l0 ex s = some y → (ex, s) = out_masks_filled_l0 y := by
  intro ex s y h
  unfold ux_masks_filled_l0 at h
  split at h
  · cases h; rfl
  · cases h
noncomputable def Ls_masks_filled (n : Nat) : List Sub := [subE 0 an_masks_filled_l0 un_masks_filled_l0 (fun x => iterL (masks_filled_l0 n) n x) outK_masks_filled_l0]
noncomputable def sac_masks_filled_l0 : AC := getS (subs (acOf Tryz.f44)) 0
noncomputable def ac_masks_filled_l0 : AC := AC.body sac_masks_filled_l0
theorem subs_masks_filled_l0 (n : Nat) : SubOK Tryz.prog 26 (Ls_masks_filled n) ac_masks_filled_l0 := SubOK_of _ (by
  have e : subs ac_masks_filled_l0 = [] := by kernel_rfl
  rw [e]; intro p hp; cases hp)
theorem body_masks_filled_l0 (n : Nat) : ∀ x, run Tryz.prog (Es_masks_filled n) (Ls_masks_filled n) 26 ac_masks_filled_l0 (emb_masks_filled_l0 x) (roundK an_masks_filled_l0 un_masks_filled_l0 ax_masks_filled_l0 ux_masks_filled_l0) = masks_filled_l0 n x := fun _ => by kernel_rfl
theorem sub1_masks_filled_l0 (n : Nat) : ∀ (α : Type) (s : St) (k : Ex → St → Option α) (z : α), (subE 0 an_masks_filled_l0 un_masks_filled_l0 (fun x => iterL (masks_filled_l0 n) n x) outK_masks_filled_l0).e α s k = some z → SemC Tryz.prog 26 (sac_masks_filled_l0).code s fun ex s' => k ex s' = some z := by
  intro α s k z h
  have e : sac_masks_filled_l0 = .loop ac_masks_filled_l0 := by kernel_rfl
  rw [e]
  exact subE_ok (m := 0) (f := fun x => iterL (masks_filled_l0 n) n x) (out := out_masks_filled_l0) outK_ok_masks_filled_l0 un_ok_masks_filled_l0 (fun x y hy => loop_ok (Es_ok_masks_filled n) (subs_masks_filled_l0 n) un_ok_masks_filled_l0 ux_ok_masks_filled_l0 (body_masks_filled_l0 n) n x y hy) h
theorem sub_masks_filled_l0 (n : Nat) : SubSt Tryz.prog 26 (Ls_masks_filled n) 0 sac_masks_filled_l0 := fun α s k z => sub1_masks_filled_l0 n α s k z
theorem subs_masks_filled (n : Nat) : SubOK Tryz.prog 26 (Ls_masks_filled n) (acOf Tryz.f44) := SubOK_of _ (by
  have e : subs (acOf Tryz.f44) = [(0, sac_masks_filled_l0)] := by kernel_rfl
  rw [e]; intro p hp
  simp only [List.mem_cons, List.not_mem_nil, or_false] at hp
  · rw [hp]; exact sub_masks_filled_l0 n
  )
theorem cert_masks_filled (n : Nat) (a0 : List UInt8) (a1 : Int) : run Tryz.prog (Es_masks_filled n) (Ls_masks_filled n) Tryz.f44.ntmps (acOf Tryz.f44) ⟨argsT [.s a0, .i .u8 a1] 0, [], 0, 0, 0, 0⟩ (finK Tryz.prog Tryz.f44.results.toList (retX unr_masks_filled)) = masks_filled n a0 a1 := by kernel_rfl
theorem pure_masks_filled (n : Nat) : ∀ a r, masks_filled n a.1 a.2 = some r → PureOK Tryz.prog 44 (arg_masks_filled a) (enc_masks_filled r) := fun a r h => pureX_ok unr_ok_masks_filled (Es_ok_masks_filled n) Tryz.func44 rfl (acOf_code _) (subs_masks_filled n) rfl ((cert_masks_filled n a.1 a.2).trans h)
theorem ok_masks_filled (n : Nat) : EntOK Tryz.prog (e_masks_filled n) := pureE_ok Tryz.call44 una_ok_masks_filled (fun _ => rfl) (pure_masks_filled n)

/-! circa/masks.Least -/
noncomputable def arg_masks_Least (a : List UInt8) : List V := [.s a]
noncomputable def una_masks_Least (l : List V) : Option (List UInt8) := match l with
  | [.s a0] => some a0
  | _ => none
theorem una_ok_masks_Least : ∀ l a, una_masks_Least l = some a → l = arg_masks_Least a := by
  intro l a h
  unfold una_masks_Least at h
  split at h
  · cases h; rfl
  · cases h
noncomputable def enc_masks_Least (r : Int × Int) : V := .tp [.i .i64 r.1, .i .i64 r.2]
noncomputable def unr_masks_Least (v : V) : Option (Int × Int) := match v with
  | .tp [.i .i64 r0, .i .i64 r1] => some (r0, r1)
  | _ => none
theorem unr_ok_masks_Least : ∀ v r, unr_masks_Least v = some r → v = enc_masks_Least r := by
  intro v r h
  unfold unr_masks_Least at h
  split at h
  · cases h; rfl
  · cases h
noncomputable def e_masks_Least (n : Nat) : Ent := pureE 24 una_masks_Least (fun a => masks_Least n a) enc_masks_Least
noncomputable def t_masks_Least (l : List V) (_ : List (Nat × Blk)) : Bool := isS (una_masks_Least l)
noncomputable def Es_masks_Least (n : Nat) : List Ent := [e_masks_Check n, e_masks_filled n]
theorem Es_ok_masks_Least (n : Nat) : ∀ x ∈ Es_masks_Least n, EntOK Tryz.prog x := by
  intro x hx
  simp only [Es_masks_Least, List.mem_cons, List.not_mem_nil, or_false] at hx
  rcases hx with hx | hx
  · rw [hx]; exact ok_masks_Check n
  · rw [hx]; exact ok_masks_filled n
noncomputable def Ls_masks_Least (_n : Nat) : List Sub := []
theorem subs_masks_Least (n : Nat) : SubOK Tryz.prog 12 (Ls_masks_Least n) (acOf Tryz.f24) := SubOK_of _ (by
  have e : subs (acOf Tryz.f24) = [] := by kernel_rfl
  rw [e]; intro p hp; cases hp)
theorem cert_masks_Least (n : Nat) (a0 : List UInt8) : run Tryz.prog (Es_masks_Least n) (Ls_masks_Least n) Tryz.f24.ntmps (acOf Tryz.f24) ⟨argsT [.s a0] 0, [], 0, 0, 0, 0⟩ (finK Tryz.prog Tryz.f24.results.toList (retX unr_masks_Least)) = masks_Least n a0 := by kernel_rfl
theorem pure_masks_Least (n : Nat) : ∀ a r, masks_Least n a = some r → PureOK Tryz.prog 24 (arg_masks_Least a) (enc_masks_Least r) := fun a r h => pureX_ok unr_ok_masks_Least (Es_ok_masks_Least n) Tryz.func24 rfl (acOf_code _) (subs_masks_Least n) rfl ((cert_masks_Least n a).trans h)
theorem ok_masks_Least (n : Nat) : EntOK Tryz.prog (e_masks_Least n) := pureE_ok Tryz.call24 una_ok_masks_Least (fun _ => rfl) (pure_masks_Least n)

/-! circa/masks.Greatest -/
noncomputable def arg_masks_Greatest (a : List UInt8) : List V := [.s a]
noncomputable def una_masks_Greatest (l : List V) : Option (List UInt8) := match l with
  | [.s a0] => some a0
  | _ => none
theorem una_ok_masks_Greatest : ∀ l a, una_masks_Greatest l = some a → l = arg_masks_Greatest a := by
  intro l a h
  unfold una_masks_Greatest at h
  split at h
  · cases h; rfl
  · cases h
noncomputable def enc_masks_Greatest (r : Int × Int) : V := .tp [.i .i64 r.1, .i .i64 r.2]
noncomputable def unr_masks_Greatest (v : V) : Option (Int × Int) := match v with
  | .tp [.i .i64 r0, .i .i64 r1] => some (r0, r1)
  | _ => none
theorem unr_ok_masks_Greatest : ∀ v r, unr_masks_Greatest v = some r → v = enc_masks_Greatest r := by
  intro v r h
  unfold unr_masks_Greatest at h
  split at h
  · cases h; rfl
  · cases h
noncomputable def e_masks_Greatest (n : Nat) : Ent := pureE 25 una_masks_Greatest (fun a => masks_Greatest n a) enc_masks_Greatest
noncomputable def t_masks_Greatest (l : List V) (_ : List (Nat × Blk)) : Bool := isS (una_masks_Greatest l)
noncomputable def Es_masks_Greatest (n : Nat) : List Ent := [e_masks_Check n, e_masks_filled n]
theorem Es_ok_masks_Greatest (n : Nat) : ∀ x ∈ Es_masks_Greatest n, EntOK Tryz.prog x := by
  intro x hx
  simp only [Es_masks_Greatest, List.mem_cons, List.not_mem_nil, or_false] at hx
  rcases hx with hx | hx
  · rw [hx]; exact ok_masks_Check n
  · rw [hx]; exact ok_masks_filled n
noncomputable def Ls_masks_Greatest (_n : Nat) : List Sub := []
theorem subs_masks_Greatest (n : Nat) : SubOK Tryz.prog 12 (Ls_masks_Greatest n) (acOf Tryz.f25) := SubOK_of _ (by
  have e : subs (acOf Tryz.f25) = [] := by kernel_rfl
  rw [e]; intro p hp; cases hp)
theorem cert_masks_Greatest (n : Nat) (a0 : List UInt8) : run Tryz.prog (Es_masks_Greatest n) (Ls_masks_Greatest n) Tryz.f25.ntmps (acOf Tryz.f25) ⟨argsT [.s a0] 0, [], 0, 0, 0, 0⟩ (finK Tryz.prog Tryz.f25.results.toList (retX unr_masks_Greatest)) = masks_Greatest n a0 := by kernel_rfl
theorem pure_masks_Greatest (n : Nat) : ∀ a r, masks_Greatest n a = some r → PureOK Tryz.prog 25 (arg_masks_Greatest a) (enc_masks_Greatest r) := fun a r h => pureX_ok unr_ok_masks_Greatest (Es_ok_masks_Greatest n) Tryz.func25 rfl (acOf_code _) (subs_masks_Greatest n) rfl ((cert_masks_Greatest n a).trans h)
theorem ok_masks_Greatest (n : Nat) : EntOK Tryz.prog (e_masks_Greatest n) := pureE_ok Tryz.call25 una_ok_masks_Greatest (fun _ => rfl) (pure_masks_Greatest n)

/-! circa/masks.power -/
noncomputable def arg_masks_power (a : Int) : List V := [.i .i64 a]
noncomputable def una_masks_power (l : List V) : Option (Int) := match l with
  | [.i .i64 a0] => some a0
  | _ => none
theorem una_ok_masks_power : ∀ l a, una_masks_power l = some a → l = arg_masks_power a := by
  intro l a h
  unfold una_masks_power at h
  split at h
  · cases h; rfl
  · cases h
noncomputable def enc_masks_power (r : Int) : V := .i .i64 r
noncomputable def unr_masks_power (v : V) : Option (Int) := match v with
  | .i .i64 r0 => some r0
  | _ => none
theorem unr_ok_masks_power : ∀ v r, unr_masks_power v = some r → v = enc_masks_power r := by
  intro v r h
  unfold unr_masks_power at h
  split at h
  · cases h; rfl
  · cases h
noncomputable def e_masks_power (n : Nat) : Ent := pureE 68 una_masks_power (fun a => masks_power n a) enc_masks_power
noncomputable def t_masks_power (l : List V) (_ : List (Nat × Blk)) : Bool := isS (una_masks_power l)
noncomputable def Es_masks_power (n : Nat) : List Ent := [e_ints_Pow10 n]
theorem Es_ok_masks_power (n : Nat) : ∀ x ∈ Es_masks_power n, EntOK Tryz.prog x := by
  intro x hx
  simp only [Es_masks_power, List.mem_cons, List.not_mem_nil, or_false] at hx
  · rw [hx]; exact ok_ints_Pow10 n
noncomputable def Ls_masks_power (_n : Nat) : List Sub := []
theorem subs_masks_power (n : Nat) : SubOK Tryz.prog 11 (Ls_masks_power n) (acOf Tryz.f68) := SubOK_of _ (by
  have e : subs (acOf Tryz.f68) = [] := by kernel_rfl
  rw [e]; intro p hp; cases hp)
theorem cert_masks_power (n : Nat) (a0 : Int) : run Tryz.prog (Es_masks_power n) (Ls_masks_power n) Tryz.f68.ntmps (acOf Tryz.f68) ⟨argsT [.i .i64 a0] 0, [], 0, 0, 0, 0⟩ (finK Tryz.prog Tryz.f68.results.toList (retX unr_masks_power)) = masks_power n a0 := by kernel_rfl
theorem pure_masks_power (n : Nat) : ∀ a r, masks_power n a = some r → PureOK Tryz.prog 68 (arg_masks_power a) (enc_masks_power r) := fun a r h => pureX_ok unr_ok_masks_power (Es_ok_masks_power n) Tryz.func68 rfl (acOf_code _) (subs_masks_power n) rfl ((cert_masks_power n a).trans h)
theorem ok_masks_power (n : Nat) : EntOK Tryz.prog (e_masks_power n) := pureE_ok Tryz.call68 una_ok_masks_power (fun _ => rfl) (pure_masks_power n)

/-! circa/masks.within -/
noncomputable def arg_masks_within (a : List UInt8 × Int) : List V := [.s a.1, .i .i64 a.2]
noncomputable def una_masks_within (l : List V) : Option (List UInt8 × Int) := match l with
  | [.s a0, .i .i64 a1] => some (a0, a1)
  | _ => none
theorem una_ok_masks_within : ∀ l a, una_masks_within l = some a → l = arg_masks_within a := by
  intro l a h
  unfold una_masks_within at h
  split at h
  · cases h; rfl
  · cases h
noncomputable def enc_masks_within (r : Bool) : V := .b r
noncomputable def unr_masks_within (v : V) : Option (Bool) := match v with
  | .b r0 => some r0
  | _ => none
theorem unr_ok_masks_within : ∀ v r, unr_masks_within v = some r → v = enc_masks_within r := by
  intro v r h
  unfold unr_masks_within at h
  split at h
  · cases h; rfl
  · cases h
noncomputable def e_masks_within (n : Nat) : Ent := pureE 45 una_masks_within (fun a => masks_within n a.1 a.2) enc_masks_within
noncomputable def t_masks_within (l : List V) (_ : List (Nat × Blk)) : Bool := isS (una_masks_within l)
noncomputable def Es_masks_within (n : Nat) : List Ent := [e_masks_power n]
theorem Es_ok_masks_within (n : Nat) : ∀ x ∈ Es_masks_within n, EntOK Tryz.prog x := by
  intro x hx
  simp only [Es_masks_within, List.mem_cons, List.not_mem_nil, or_false] at hx
  · rw [hx]; exact ok_masks_power n
noncomputable def Ls_masks_within (_n : Nat) : List Sub := []
theorem subs_masks_within (n : Nat) : SubOK Tryz.prog 14 (Ls_masks_within n) (acOf Tryz.f45) := SubOK_of _ (by
  have e : subs (acOf Tryz.f45) = [] := by kernel_rfl
  rw [e]; intro p hp; cases hp)
theorem cert_masks_within (n : Nat) (a0 : List UInt8) (a1 : Int) : run Tryz.prog (Es_masks_within n) (Ls_masks_within n) Tryz.f45.ntmps (acOf Tryz.f45) ⟨argsT [.s a0, .i .i64 a1] 0, [], 0, 0, 0, 0⟩ (finK Tryz.prog Tryz.f45.results.toList (retX unr_masks_within)) = masks_within n a0 a1 := by kernel_rfl
theorem pure_masks_within (n : Nat) : ∀ a r, masks_within n a.1 a.2 = some r → PureOK Tryz.prog 45 (arg_masks_within a) (enc_masks_within r) := fun a r h => pureX_ok unr_ok_masks_within (Es_ok_masks_within n) Tryz.func45 rfl (acOf_code _) (subs_masks_within n) rfl ((cert_masks_within n a.1 a.2).trans h)
theorem ok_masks_within (n : Nat) : EntOK Tryz.prog (e_masks_within n) := pureE_ok Tryz.call45 una_ok_masks_within (fun _ => rfl) (pure_masks_within n)

/-! circa/masks.split -/
noncomputable def arg_masks_split (a : List UInt8 × Int) : List V := [.s a.1, .i .i64 a.2]
noncomputable def una_masks_split (l : List V) : Option (List UInt8 × Int) := match l with
  | [.s a0, .i .i64 a1] => some (a0, a1)
  | _ => none
theorem una_ok_masks_split : ∀ l a, una_masks_split l = some a → l = arg_masks_split a := by
  intro l a h
  unfold una_masks_split at h
  split at h
  · cases h; rfl
  · cases h
noncomputable def enc_masks_split (r : List Int) : V := .ai .u8 18 r
noncomputable def unr_masks_split (v : V) : Option (List Int) := match v with
  | .ai .u8 18 r0 => some r0
  | _ => none
theorem unr_ok_masks_split : ∀ v r, unr_masks_split v = some r → v = enc_masks_split r := by
  intro v r h
  unfold unr_masks_split at h
  split at h
  · cases h; rfl
  · cases h
noncomputable def e_masks_split (n : Nat) : Ent := pureE 69 una_masks_split (fun a => masks_split n a.1 a.2) enc_masks_split
noncomputable def t_masks_split (l : List V) (_ : List (Nat × Blk)) : Bool := isS (una_masks_split l)
noncomputable def Es_masks_split (_n : Nat) : List Ent := []
theorem Es_ok_masks_split (n : Nat) : ∀ x ∈ Es_masks_split n, EntOK Tryz.prog x := by
  intro x hx
  simp [Es_masks_split] at hx
noncomputable def an_masks_split_l0 : Ann := ⟨[1, 4, 5], [0], 1, []⟩
noncomputable def emb_masks_split_l0 (x : Int × Int × List Int) : St := ⟨[(1, some (.i .i64 x.1)), (4, some (.p 0 0)), (5, some (.i .i64 x.2.1))], [(0, .ints .u8 18 x.2.2)], 1, 0, 0, 0⟩
noncomputable def un_masks_split_l0 (s : St) : Option (Int × Int × List Int) := match s with
  | ⟨[(1, some (.i .i64 x0)), (4, some (.p 0 0)), (5, some (.i .i64 x1))], [(0, .ints .u8 18 x2)], 1, 0, 0, 0⟩ => some (x0, x1, x2)
  | _ => none
theorem un_ok_masks_split_l0 : ∀ s x, un_masks_split_l0 s = some x → s = emb_masks_split_l0 x := by
  intro s x h
  unfold un_masks_split_l0 at h
  split at h
  · cases h; rfl
  · cases h
noncomputable def ax_masks_split_l0 : Ex → Ann := fun ex => match ex with
  | .exit 0 => ⟨[4], [0], 1, []⟩
  | _ => ⟨[], [], 0, []⟩
noncomputable def out_masks_split_l0 (y : List Int) : Ex × St := (.exit 0, ⟨[(4, some (.p 0 0))], [(0, .ints .u8 18 y)], 1, 0, 0, 0⟩)
noncomputable def outK_masks_split_l0 (α : Type) (y : List Int) (k : Ex → St → Option α) : Option α := (k (.exit 0) ⟨[(4, some (.p 0 0))], [(0, .ints .u8 18 y)], 1, 0, 0, 0⟩)
theorem outK_ok_masks_split_l0 : ∀ α y k, outK_masks_split_l0 α y k = k (out_masks_split_l0 y).1 (out_masks_split_l0 y).2 := by
  intro α y k
  rfl
noncomputable def ux_masks_split_l0 (ex : Ex) (s : St) : Option (List Int) := match ex, s with
  | .exit 0, ⟨[(4, some (.p 0 0))], [(0, .ints .u8 18 y0)], 1, 0, 0, 0⟩ => some y0
  | _, _ => none
theorem ux_ok_masks_split_l0 : ∀ ex s y, ux_masks_split_l0 ex s = some y → (ex, s) = out_masks_split_l0 y := by
  intro ex s y h
  unfold ux_masks_split_l0 at h
  split at h
  · cases h; rfl
  · cases h
noncomputable def Ls_masks_split (n : Nat) : List Sub := [subE 0 an_masks_split_l0 un_masks_split_l0 (fun x => iterL (masks_split_l0 n) n x) outK_masks_split_l0]
noncomputable def sac_masks_split_l0 : AC := getS (subs (acOf Tryz.f69)) 0
noncomputable def ac_masks_split_l0 : AC := AC.body sac_masks_split_l0
theorem subs_masks_split_l0 (n : Nat) : SubOK Tryz.prog 22 (Ls_masks_split n) ac_masks_split_l0 := SubOK_of _ (by
  have e : subs ac_masks_split_l0 = [] := by kernel_rfl
  rw [e]; intro p hp; cases hp)
theorem body_masks_split_l0 (n : Nat) : ∀ x, run Tryz.prog (Es_masks_split n) (Ls_masks_split n) 22 ac_masks_split_l0 (emb_masks_split_l0 x) (roundK an_masks_split_l0 un_masks_split_l0 ax_masks_split_l0 ux_masks_split_l0) = masks_split_l0 n x := fun _ => by kernel_rfl
theorem sub1_masks_split_l0 (n : Nat) : ∀ (α : Type) (s : St) (k : Ex → St → Option α) (z : α), (subE 0 an_masks_split_l0 un_masks_split_l0 (fun x => iterL (masks_split_l0 n) n x) outK_masks_split_l0).e α s k = some z → SemC Tryz.prog 22 (sac_masks_split_l0).code s fun ex s' => k ex s' = some z := by
  intro α s k z h
  have e : sac_masks_split_l0 = .loop ac_masks_split_l0 := by kernel_rfl
  rw [e]
  exact subE_ok (m := 0) (f := fun x => iterL (masks_split_l0 n) n x) (out := out_masks_split_l0) outK_ok_masks_split_l0 un_ok_masks_split_l0 (fun x y hy => loop_ok (Es_ok_masks_split n) (subs_masks_split_l0 n) un_ok_masks_split_l0 ux_ok_masks_split_l0 (body_masks_split_l0 n) n x y hy) h
theorem sub_masks_split_l0 (n : Nat) : SubSt Tryz.prog 22 (Ls_masks_split n) 0 sac_masks_split_l0 := fun α s k z => sub1_masks_split_l0 n α s k z
theorem subs_masks_split (n : Nat) : SubOK Tryz.prog 22 (Ls_masks_split n) (acOf Tryz.f69) := SubOK_of _ (by
  have e : subs (acOf Tryz.f69) = [(0, sac_masks_split_l0)] := by kernel_rfl
  rw [e]; intro p hp
  simp only [List.mem_cons, List.not_mem_nil, or_false] at hp
  · rw [hp]; exact sub_masks_split_l0 n
  )
theorem cert_masks_split (n : Nat) (a0 : List UInt8) (a1 : Int) : run Tryz.prog (Es_masks_split n) (Ls_masks_split n) Tryz.f69.ntmps (acOf Tryz.f69) ⟨argsT [.s a0, .i .i64 a1] 0, [], 0, 0, 0, 0⟩ (finK Tryz.prog Tryz.f69.results.toList (retX unr_masks_split)) = masks_split n a0 a1 := by kernel_rfl
theorem pure_masks_split (n : Nat) : ∀ a r, masks_split n a.1 a.2 = some r → PureOK Tryz.prog 69 (arg_masks_split a) (enc_masks_split r) := fun a r h => pureX_ok unr_ok_masks_split (Es_ok_masks_split n) Tryz.func69 rfl (acOf_code _) (subs_masks_split n) rfl ((cert_masks_split n a.1 a.2).trans h)
theorem ok_masks_split (n : Nat) : EntOK Tryz.prog (e_masks_split n) := pureE_ok Tryz.call69 una_ok_masks_split (fun _ => rfl) (pure_masks_split n)

/-! circa/masks.value -/
noncomputable def arg_masks_value (a : List UInt8 × List Int) : List V := [.s a.1, .ai .u8 18 a.2]
noncomputable def una_masks_value (l : List V) : Option (List UInt8 × List Int) := match l with
  | [.s a0, .ai .u8 18 a1] => some (a0, a1)
  | _ => none
theorem una_ok_masks_value : ∀ l a, una_masks_value l = some a → l = arg_masks_value a := by
  intro l a h
  unfold una_masks_value at h
  split at h
  · cases h; rfl
  · cases h
noncomputable def enc_masks_value (r : Int) : V := .i .i64 r
noncomputable def unr_masks_value (v : V) : Option (Int) := match v with
  | .i .i64 r0 => some r0
  | _ => none
theorem unr_ok_masks_value : ∀ v r, unr_masks_value v = some r → v = enc_masks_value r := by
  intro v r h
  unfold unr_masks_value at h
  split at h
  · cases h; rfl
  · cases h
noncomputable def e_masks_value (n : Nat) : Ent := pureE 70 una_masks_value (fun a => masks_value n a.1 a.2) enc_masks_value
noncomputable def t_masks_value (l : List V) (_ : List (Nat × Blk)) : Bool := isS (una_masks_value l)
noncomputable def Es_masks_value (n : Nat) : List Ent := [e_masks_filled n]
theorem Es_ok_masks_value (n : Nat) : ∀ x ∈ Es_masks_value n, EntOK Tryz.prog x := by
  intro x hx
  simp only [Es_masks_value, List.mem_cons, List.not_mem_nil, or_false] at hx
  · rw [hx]; exact ok_masks_filled n
noncomputable def Ls_masks_value (_n : Nat) : List Sub := []
theorem subs_masks_value (n : Nat) : SubOK Tryz.prog 10 (Ls_masks_value n) (acOf Tryz.f70) := SubOK_of _ (by
  have e : subs (acOf Tryz.f70) = [] := by kernel_rfl
  rw [e]; intro p hp; cases hp)
theorem cert_masks_value (n : Nat) (a0 : List UInt8) (a1 : List Int) : run Tryz.prog (Es_masks_value n) (Ls_masks_value n) Tryz.f70.ntmps (acOf Tryz.f70) ⟨argsT [.s a0, .ai .u8 18 a1] 0, [], 0, 0, 0, 0⟩ (finK Tryz.prog Tryz.f70.results.toList (retX unr_masks_value)) = masks_value n a0 a1 := by kernel_rfl
theorem pure_masks_value (n : Nat) : ∀ a r, masks_value n a.1 a.2 = some r → PureOK Tryz.prog 70 (arg_masks_value a) (enc_masks_value r) := fun a r h => pureX_ok unr_ok_masks_value (Es_ok_masks_value n) Tryz.func70 rfl (acOf_code _) (subs_masks_value n) rfl ((cert_masks_value n a.1 a.2).trans h)
theorem ok_masks_value (n : Nat) : EntOK Tryz.prog (e_masks_value n) := pureE_ok Tryz.call70 una_ok_masks_value (fun _ => rfl) (pure_masks_value n)

/-! circa/masks.beyond -/
noncomputable def arg_masks_beyond (a : List UInt8 × Int × Bool) : List V := [.s a.1, .i .i64 a.2.1, .b a.2.2]
noncomputable def una_masks_beyond (l : List V) : Option (List UInt8 × Int × Bool) := match l with
  | [.s a0, .i .i64 a1, .b a2] => some (a0, a1, a2)
  | _ => none
theorem una_ok_masks_beyond : ∀ l a, una_masks_beyond l = some a → l = arg_masks_beyond a := by
  intro l a h
  unfold una_masks_beyond at h
  split at h
  · cases h; rfl
  · cases h
noncomputable def enc_masks_beyond (r : Int × Int) : V := .tp [.i .i64 r.1, .i .i64 r.2]
noncomputable def unr_masks_beyond (v : V) : Option (Int × Int) := match v with
  | .tp [.i .i64 r0, .i .i64 r1] => some (r0, r1)
  | _ => none
theorem unr_ok_masks_beyond : ∀ v r, unr_masks_beyond v = some r → v = enc_masks_beyond r := by
  intro v r h
  unfold unr_masks_beyond at h
  split at h
  · cases h; rfl
  · cases h
noncomputable def e_masks_beyond (n : Nat) : Ent := pureE 46 una_masks_beyond (fun a => masks_beyond n a.1 a.2.1 a.2.2) enc_masks_beyond
noncomputable def t_masks_beyond (l : List V) (_ : List (Nat × Blk)) : Bool := isS (una_masks_beyond l)
noncomputable def Es_masks_beyond (n : Nat) : List Ent := [e_masks_split n, e_masks_value n]
theorem Es_ok_masks_beyond (n : Nat) : ∀ x ∈ Es_masks_beyond n, EntOK Tryz.prog x := by
  intro x hx
  simp only [Es_masks_beyond, List.mem_cons, List.not_mem_nil, or_false] at hx
  rcases hx with hx | hx
  · rw [hx]; exact ok_masks_split n
  · rw [hx]; exact ok_masks_value n
noncomputable def an_masks_beyond_l0 : Ann := ⟨[0, 1, 2, 8, 9, 10, 11, 12], [0, 1], 2, []⟩
noncomputable def emb_masks_beyond_l0 (x : List UInt8 × Int × Bool × Int × Int × Int × List Int × List Int) : St := ⟨[(0, some (.s x.1)), (1, some (.i .i64 x.2.1)), (2, some (.b x.2.2.1)), (8, some (.i .u8 x.2.2.2.1)), (9, some (.i .u8 x.2.2.2.2.1)), (10, some (.p 0 0)), (11, some (.p 1 0)), (12, some (.i .i64 x.2.2.2.2.2.1))], [(0, .ints .u8 18 x.2.2.2.2.2.2.1), (1, .ints .u8 18 x.2.2.2.2.2.2.2)], 2, 0, 0, 0⟩
noncomputable def un_masks_beyond_l0 (s : St) : Option (List UInt8 × Int × Bool × Int × Int × Int × List Int × List Int) := match s with
  | ⟨[(0, some (.s x0)), (1, some (.i .i64 x1)), (2, some (.b x2)), (8, some (.i .u8 x3)), (9, some (.i .u8 x4)), (10, some (.p 0 0)), (11, some (.p 1 0)), (12, some (.i .i64 x5))], [(0, .ints .u8 18 x6), (1, .ints .u8 18 x7)], 2, 0, 0, 0⟩ => some (x0, x1, x2, x3, x4, x5, x6, x7)
  | _ => none
theorem un_ok_masks_beyond_l0 : ∀ s x, un_masks_beyond_l0 s = some x → s = emb_masks_beyond_l0 x := by
  intro s x h
  unfold un_masks_beyond_l0 at h
  split at h
  · cases h; rfl
  · cases h
noncomputable def ax_masks_beyond_l0 : Ex → Ann := fun ex => match ex with
  | .exit 0 => ⟨[0, 1, 2, 8, 9, 10, 11, 12], [0, 1], 2, []⟩
  | _ => ⟨[], [], 0, []⟩
noncomputable def out_masks_beyond_l0 (y : (List UInt8 × Int × Bool × Int × Int × Int × List Int × List Int)) : Ex × St := (.exit 0, ⟨[(0, some (.s y.1)), (1, some (.i .i64 y.2.1)), (2, some (.b y.2.2.1)), (8, some (.i .u8 y.2.2.2.1)), (9, some (.i .u8 y.2.2.2.2.1)), (10, some (.p 0 0)), (11, some (.p 1 0)), (12, some (.i .i64 y.2.2.2.2.2.1))], [(0, .ints .u8 18 y.2.2.2.2.2.2.1), (1, .ints .u8 18 y.2.2.2.2.2.2.2)], 2, 0, 0, 0⟩)
noncomputable def outK_masks_beyond_l0 (α : Type) (y : (List UInt8 × Int × Bool × Int × Int × Int × List Int × List Int)) (k : Ex → St → Option α) : Option α := (k (.exit 0) ⟨[(0, some (.s y.1)), (1, some (.i .i64 y.2.1)), (2, some (.b y.2.2.1)), (8, some (.i .u8 y.2.2.2.1)), (9, some (.i .u8 y.2.2.2.2.1)), (10, some (.p 0 0)), (11, some (.p 1 0)), (12, some (.i .i64 y.2.2.2.2.2.1))], [(0, .ints .u8 18 y.2.2.2.2.2.2.1), (1, .ints .u8 18 y.2.2.2.2.2.2.2)], 2, 0, 0, 0⟩)
theorem outK_ok_masks_beyond_l0 : ∀ α y k, outK_masks_beyond_l0 α y k = k (out_masks_beyond_l0 y).1 (out_masks_beyond_l0 y).2 := by
  intro α y k
  rfl
noncomputable def ux_masks_beyond_l0 (ex : Ex) (s : St) : Option ((List UInt8 × Int × Bool × Int × Int × Int × List Int × List Int)) := match ex, s with
  | .exit 0, ⟨[(0, some (.s y0)), (1, some (.i .i64 y1)), (2, some (.b y2)), (8, some (.i .u8 y3)), (9, some (.i .u8 y4)), (10, some (.p 0 0)), (11, some (.p 1 0)), (12, some (.i .i64 y5))], [(0, .ints .u8 18 y6), (1, .ints .u8 18 y7)], 2, 0, 0, 0⟩ => some (y0, y1, y2, y3, y4, y5, y6, y7)
  | _, _ => none
theorem ux_ok_masks_beyond_l0 : ∀ ex s y, ux_masks_beyond_l0 ex s = some y → (ex, s) = out_masks_beyond_l0 y := by
  intro ex s y h
  unfold ux_masks_beyond_l0 at h
  split at h
  · cases h; rfl
  · cases h
noncomputable def an_masks_beyond_l1 : Ann := ⟨[0, 2, 8, 9, 10, 11, 12], [0, 1], 74, []⟩
noncomputable def emb_masks_beyond_l1 (x : List UInt8 × Bool × Int × Int × Int × List Int × List Int) : St := ⟨[(0, some (.s x.1)), (2, some (.b x.2.1)), (8, some (.i .u8 x.2.2.1)), (9, some (.i .u8 x.2.2.2.1)), (10, some (.p 0 0)), (11, some (.p 1 0)), (12, some (.i .i64 x.2.2.2.2.1))], [(0, .ints .u8 18 x.2.2.2.2.2.1), (1, .ints .u8 18 x.2.2.2.2.2.2)], 74, 0, 0, 0⟩
noncomputable def un_masks_beyond_l1 (s : St) : Option (List UInt8 × Bool × Int × Int × Int × List Int × List Int) := match s with
  | ⟨[(0, some (.s x0)), (2, some (.b x1)), (8, some (.i .u8 x2)), (9, some (.i .u8 x3)), (10, some (.p 0 0)), (11, some (.p 1 0)), (12, some (.i .i64 x4))], [(0, .ints .u8 18 x5), (1, .ints .u8 18 x6)], 74, 0, 0, 0⟩ => some (x0, x1, x2, x3, x4, x5, x6)
  | _ => none
theorem un_ok_masks_beyond_l1 : ∀ s x, un_masks_beyond_l1 s = some x → s = emb_masks_beyond_l1 x := by
  intro s x h
  unfold un_masks_beyond_l1 at h
  split at h
  · cases h; rfl
  · cases h
noncomputable def ax_masks_beyond_l1 : Ex → Ann := fun ex => match ex with
  | .ret => ⟨[6, 7], [], 74, []⟩
  | .exit 2 => ⟨[0, 2, 8, 11, 12], [1], 74, []⟩
  | _ => ⟨[], [], 0, []⟩
noncomputable def out_masks_beyond_l1 (y : (Int × Int) ⊕ (List UInt8 × Bool × Int × Int × List Int)) : Ex × St := (Sum.casesOn (motive := fun _ => Ex × St) y (fun a0 => (.ret, ⟨[(6, some (.i .i64 a0.1)), (7, some (.i .i64 a0.2))], [], 74, 0, 0, 0⟩)) (fun b0 => (.exit 2, ⟨[(0, some (.s b0.1)), (2, some (.b b0.2.1)), (8, some (.i .u8 b0.2.2.1)), (11, some (.p 1 0)), (12, some (.i .i64 b0.2.2.2.1))], [(1, .ints .u8 18 b0.2.2.2.2)], 74, 0, 0, 0⟩)))
noncomputable def outK_masks_beyond_l1 (α : Type) (y : (Int × Int) ⊕ (List UInt8 × Bool × Int × Int × List Int)) (k : Ex → St → Option α) : Option α := (Sum.casesOn (motive := fun _ => Option α) y (fun a0 => (k (.ret) ⟨[(6, some (.i .i64 a0.1)), (7, some (.i .i64 a0.2))], [], 74, 0, 0, 0⟩)) (fun b0 => (k (.exit 2) ⟨[(0, some (.s b0.1)), (2, some (.b b0.2.1)), (8, some (.i .u8 b0.2.2.1)), (11, some (.p 1 0)), (12, some (.i .i64 b0.2.2.2.1))], [(1, .ints .u8 18 b0.2.2.2.2)], 74, 0, 0, 0⟩)))
theorem outK_ok_masks_beyond_l1 : ∀ α y k, outK_masks_beyond_l1 α y k = k (out_masks_beyond_l1 y).1 (out_masks_beyond_l1 y).2 := by
  intro α y k
  rcases y with y | y <;> rfl
noncomputable def ux_masks_beyond_l1 (ex : Ex) (s : St) : Option ((Int × Int) ⊕ (List UInt8 × Bool × Int × Int × List Int)) := match ex, s with
  | .ret, ⟨[(6, some (.i .i64 y0)), (7, some (.i .i64 y1))], [], 74, 0, 0, 0⟩ => some (.inl (y0, y1))
  | .exit 2, ⟨[(0, some (.s y0)), (2, some (.b y1)), (8, some (.i .u8 y2)), (11, some (.p 1 0)), (12, some (.i .i64 y3))], [(1, .ints .u8 18 y4)], 74, 0, 0, 0⟩ => some (.inr (y0, y1, y2, y3, y4))
  | _, _ => none
theorem ux_ok_masks_beyond_l1 : ∀ ex s y, ux_masks_beyond_l1 ex s = some y → (ex, s) = out_masks_beyond_l1 y := by
  intro ex s y h
  unfold ux_masks_beyond_l1 at h
  split at h
  · cases h; rfl
  · cases h; rfl
  · cases h
noncomputable def an_masks_beyond_l2 : Ann := ⟨[0, 8, 11, 12], [1], 74, []⟩
noncomputable def emb_masks_beyond_l2 (x : List UInt8 × Int × Int × List Int) : St := ⟨[(0, some (.s x.1)), (8, some (.i .u8 x.2.1)), (11, some (.p 1 0)), (12, some (.i .i64 x.2.2.1))], [(1, .ints .u8 18 x.2.2.2)], 74, 0, 0, 0⟩
noncomputable def un_masks_beyond_l2 (s : St) : Option (List UInt8 × Int × Int × List Int) := match s with
  | ⟨[(0, some (.s x0)), (8, some (.i .u8 x1)), (11, some (.p 1 0)), (12, some (.i .i64 x2))], [(1, .ints .u8 18 x3)], 74, 0, 0, 0⟩ => some (x0, x1, x2, x3)
  | _ => none
theorem un_ok_masks_beyond_l2 : ∀ s x, un_masks_beyond_l2 s = some x → s = emb_masks_beyond_l2 x := by
  intro s x h
  unfold un_masks_beyond_l2 at h
  split at h
  · cases h; rfl
  · cases h
noncomputable def ax_masks_beyond_l2 : Ex → Ann := fun ex => match ex with
  | .exit 5 => ⟨[0, 11], [1], 74, []⟩
  | _ => ⟨[], [], 0, []⟩
noncomputable def out_masks_beyond_l2 (y : (List UInt8 × List Int)) : Ex × St := (.exit 5, ⟨[(0, some (.s y.1)), (11, some (.p 1 0))], [(1, .ints .u8 18 y.2)], 74, 0, 0, 0⟩)
noncomputable def outK_masks_beyond_l2 (α : Type) (y : (List UInt8 × List Int)) (k : Ex → St → Option α) : Option α := (k (.exit 5) ⟨[(0, some (.s y.1)), (11, some (.p 1 0))], [(1, .ints .u8 18 y.2)], 74, 0, 0, 0⟩)
theorem outK_ok_masks_beyond_l2 : ∀ α y k, outK_masks_beyond_l2 α y k = k (out_masks_beyond_l2 y).1 (out_masks_beyond_l2 y).2 := by
  intro α y k
  rfl
noncomputable def ux_masks_beyond_l2 (ex : Ex) (s : St) : Option ((List UInt8 × List Int)) := match ex, s with
  | .exit 5, ⟨[(0, some (.s y0)), (11, some (.p 1 0))], [(1, .ints .u8 18 y1)], 74, 0, 0, 0⟩ => some (y0, y1)
  | _, _ => none
theorem ux_ok_masks_beyond_l2 : ∀ ex s y, ux_masks_beyond_l2 ex s = some y → (ex, s) = out_masks_beyond_l2 y := by
  intro ex s y h
  unfold ux_masks_beyond_l2 at h
  split at h
  · cases h; rfl
  · cases h
noncomputable def Ls_masks_beyond (n : Nat) : List Sub := [subE 0 an_masks_beyond_l0 un_masks_beyond_l0 (fun x => iterL (masks_beyond_l0 n) n x) outK_masks_beyond_l0, subE 1 an_masks_beyond_l1 un_masks_beyond_l1 (fun x => iterL (masks_beyond_l1 n) n x) outK_masks_beyond_l1, subE 2 an_masks_beyond_l2 un_masks_beyond_l2 (fun x => iterL (masks_beyond_l2 n) n x) outK_masks_beyond_l2]
noncomputable def sac_masks_beyond_l0 : AC := getS (subs (acOf Tryz.f46)) 0
noncomputable def ac_masks_beyond_l0 : AC := AC.body sac_masks_beyond_l0
theorem subs_masks_beyond_l0 (n : Nat) : SubOK Tryz.prog 107 (Ls_masks_beyond n) ac_masks_beyond_l0 := SubOK_of _ (by
  have e : subs ac_masks_beyond_l0 = [] := by kernel_rfl
  rw [e]; intro p hp; cases hp)
theorem body_masks_beyond_l0 (n : Nat) : ∀ x, run Tryz.prog (Es_masks_beyond n) (Ls_masks_beyond n) 107 ac_masks_beyond_l0 (emb_masks_beyond_l0 x) (roundK an_masks_beyond_l0 un_masks_beyond_l0 ax_masks_beyond_l0 ux_masks_beyond_l0) = masks_beyond_l0 n x := fun _ => by kernel_rfl
theorem sub1_masks_beyond_l0 (n : Nat) : ∀ (α : Type) (s : St) (k : Ex → St → Option α) (z : α), (subE 0 an_masks_beyond_l0 un_masks_beyond_l0 (fun x => iterL (masks_beyond_l0 n) n x) outK_masks_beyond_l0).e α s k = some z → SemC Tryz.prog 107 (sac_masks_beyond_l0).code s fun ex s' => k ex s' = some z := by
  intro α s k z h
  have e : sac_masks_beyond_l0 = .loop ac_masks_beyond_l0 := by kernel_rfl
  rw [e]
  exact subE_ok (m := 0) (f := fun x => iterL (masks_beyond_l0 n) n x) (out := out_masks_beyond_l0) outK_ok_masks_beyond_l0 un_ok_masks_beyond_l0 (fun x y hy => loop_ok (Es_ok_masks_beyond n) (subs_masks_beyond_l0 n) un_ok_masks_beyond_l0 ux_ok_masks_beyond_l0 (body_masks_beyond_l0 n) n x y hy) h
theorem sub_masks_beyond_l0 (n : Nat) : SubSt Tryz.prog 107 (Ls_masks_beyond n) 0 sac_masks_beyond_l0 := fun α s k z => sub1_masks_beyond_l0 n α s k z
noncomputable def sac_masks_beyond_l1 : AC := getS (subs (acOf Tryz.f46)) 1
noncomputable def ac_masks_beyond_l1 : AC := AC.body sac_masks_beyond_l1
theorem subs_masks_beyond_l1 (n : Nat) : SubOK Tryz.prog 107 (Ls_masks_beyond n) ac_masks_beyond_l1 := SubOK_of _ (by
  have e : subs ac_masks_beyond_l1 = [] := by kernel_rfl
  rw [e]; intro p hp; cases hp)
theorem body_masks_beyond_l1 (n : Nat) : ∀ x, run Tryz.prog (Es_masks_beyond n) (Ls_masks_beyond n) 107 ac_masks_beyond_l1 (emb_masks_beyond_l1 x) (roundK an_masks_beyond_l1 un_masks_beyond_l1 ax_masks_beyond_l1 ux_masks_beyond_l1) = masks_beyond_l1 n x := fun _ => by kernel_rfl
theorem sub1_masks_beyond_l1 (n : Nat) : ∀ (α : Type) (s : St) (k : Ex → St → Option α) (z : α), (subE 1 an_masks_beyond_l1 un_masks_beyond_l1 (fun x => iterL (masks_beyond_l1 n) n x) outK_masks_beyond_l1).e α s k = some z → SemC Tryz.prog 107 (sac_masks_beyond_l1).code s fun ex s' => k ex s' = some z := by
  intro α s k z h
  have e : sac_masks_beyond_l1 = .loop ac_masks_beyond_l1 := by kernel_rfl
  rw [e]
  exact subE_ok (m := 1) (f := fun x => iterL (masks_beyond_l1 n) n x) (out := out_masks_beyond_l1) outK_ok_masks_beyond_l1 un_ok_masks_beyond_l1 (fun x y hy => loop_ok (Es_ok_masks_beyond n) (subs_masks_beyond_l1 n) un_ok_masks_beyond_l1 ux_ok_masks_beyond_l1 (body_masks_beyond_l1 n) n x y hy) h
theorem sub_masks_beyond_l1 (n : Nat) : SubSt Tryz.prog 107 (Ls_masks_beyond n) 1 sac_masks_beyond_l1 := fun α s k z => sub1_masks_beyond_l1 n α s k z
noncomputable def sac_masks_beyond_l2 : AC := getS (subs (acOf Tryz.f46)) 2
noncomputable def ac_masks_beyond_l2 : AC := AC.body sac_masks_beyond_l2
theorem subs_masks_beyond_l2 (n : Nat) : SubOK Tryz.prog 107 (Ls_masks_beyond n) ac_masks_beyond_l2 := SubOK_of _ (by
  have e : subs ac_masks_beyond_l2 = [] := by kernel_rfl
  rw [e]; intro p hp; cases hp)
theorem body_masks_beyond_l2 (n : Nat) : ∀ x, run Tryz.prog (Es_masks_beyond n) (Ls_masks_beyond n) 107 ac_masks_beyond_l2 (emb_masks_beyond_l2 x) (roundK an_masks_beyond_l2 un_masks_beyond_l2 ax_masks_beyond_l2 ux_masks_beyond_l2) = masks_beyond_l2 n x := fun _ => by kernel_rfl
theorem sub1_masks_beyond_l2 (n : Nat) : ∀ (α : Type) (s : St) (k : Ex → St → Option α) (z : α), (subE 2 an_masks_beyond_l2 un_masks_beyond_l2 (fun x => iterL (masks_beyond_l2 n) n x) outK_masks_beyond_l2).e α s k = some z → SemC Tryz.prog 107 (sac_masks_beyond_l2).code s fun ex s' => k ex s' = some z := by
  intro α s k z h
  have e : sac_masks_beyond_l2 = .loop ac_masks_beyond_l2 := by kernel_rfl
  rw [e]
  exact subE_ok (m := 2) (f := fun x => iterL (masks_beyond_l2 n) n x) (out := out_masks_beyond_l2) outK_ok_masks_beyond_l2 un_ok_masks_beyond_l2 (fun x y hy => loop_ok (Es_ok_masks_beyond n) (subs_masks_beyond_l2 n) un_ok_masks_beyond_l2 ux_ok_masks_beyond_l2 (body_masks_beyond_l2 n) n x y hy) h
theorem sub_masks_beyond_l2 (n : Nat) : SubSt Tryz.prog 107 (Ls_masks_beyond n) 2 sac_masks_beyond_l2 := fun α s k z => sub1_masks_beyond_l2 n α s k z
theorem subs_masks_beyond (n : Nat) : SubOK Tryz.prog 107 (Ls_masks_beyond n) (acOf Tryz.f46) := SubOK_of _ (by
  have e : subs (acOf Tryz.f46) = [(0, sac_masks_beyond_l0), (1, sac_masks_beyond_l1), (2, sac_masks_beyond_l2)] := by kernel_rfl
  rw [e]; intro p hp
  simp only [List.mem_cons, List.not_mem_nil, or_false] at hp
  rcases hp with hp | hp | hp
  · rw [hp]; exact sub_masks_beyond_l0 n
  · rw [hp]; exact sub_masks_beyond_l1 n
  · rw [hp]; exact sub_masks_beyond_l2 n
  )
theorem cert_masks_beyond (n : Nat) (a0 : List UInt8) (a1 : Int) (a2 : Bool) : run Tryz.prog (Es_masks_beyond n) (Ls_masks_beyond n) Tryz.f46.ntmps (acOf Tryz.f46) ⟨argsT [.s a0, .i .i64 a1, .b a2] 0, [], 0, 0, 0, 0⟩ (finK Tryz.prog Tryz.f46.results.toList (retX unr_masks_beyond)) = masks_beyond n a0 a1 a2 := by kernel_rfl
theorem pure_masks_beyond (n : Nat) : ∀ a r, masks_beyond n a.1 a.2.1 a.2.2 = some r → PureOK Tryz.prog 46 (arg_masks_beyond a) (enc_masks_beyond r) := fun a r h => pureX_ok unr_ok_masks_beyond (Es_ok_masks_beyond n) Tryz.func46 rfl (acOf_code _) (subs_masks_beyond n) rfl ((cert_masks_beyond n a.1 a.2.1 a.2.2).trans h)
theorem ok_masks_beyond (n : Nat) : EntOK Tryz.prog (e_masks_beyond n) := pureE_ok Tryz.call46 una_ok_masks_beyond (fun _ => rfl) (pure_masks_beyond n)

/-! circa/masks.Next -/
noncomputable def arg_masks_Next (a : List UInt8 × Int) : List V := [.s a.1, .i .i64 a.2]
noncomputable def una_masks_Next (l : List V) : Option (List UInt8 × Int) := match l with
  | [.s a0, .i .i64 a1] => some (a0, a1)
  | _ => none
theorem una_ok_masks_Next : ∀ l a, una_masks_Next l = some a → l = arg_masks_Next a := by
  intro l a h
  unfold una_masks_Next at h
  split at h
  · cases h; rfl
  · cases h
noncomputable def enc_masks_Next (r : Int × Int) : V := .tp [.i .i64 r.1, .i .i64 r.2]
noncomputable def unr_masks_Next (v : V) : Option (Int × Int) := match v with
  | .tp [.i .i64 r0, .i .i64 r1] => some (r0, r1)
  | _ => none
theorem unr_ok_masks_Next : ∀ v r, unr_masks_Next v = some r → v = enc_masks_Next r := by
  intro v r h
  unfold unr_masks_Next at h
  split at h
  · cases h; rfl
  · cases h
noncomputable def e_masks_Next (n : Nat) : Ent := pureE 26 una_masks_Next (fun a => masks_Next n a.1 a.2) enc_masks_Next
noncomputable def t_masks_Next (l : List V) (_ : List (Nat × Blk)) : Bool := isS (una_masks_Next l)
noncomputable def Es_masks_Next (n : Nat) : List Ent := [e_masks_Check n, e_masks_Least n, e_masks_within n, e_masks_beyond n]
theorem Es_ok_masks_Next (n : Nat) : ∀ x ∈ Es_masks_Next n, EntOK Tryz.prog x := by
  intro x hx
  simp only [Es_masks_Next, List.mem_cons, List.not_mem_nil, or_false] at hx
  rcases hx with hx | hx | hx | hx
  · rw [hx]; exact ok_masks_Check n
  · rw [hx]; exact ok_masks_Least n
  · rw [hx]; exact ok_masks_within n
  · rw [hx]; exact ok_masks_beyond n
noncomputable def Ls_masks_Next (_n : Nat) : List Sub := []
theorem subs_masks_Next (n : Nat) : SubOK Tryz.prog 30 (Ls_masks_Next n) (acOf Tryz.f26) := SubOK_of _ (by
  have e : subs (acOf Tryz.f26) = [] := by kernel_rfl
  rw [e]; intro p hp; cases hp)
theorem cert_masks_Next (n : Nat) (a0 : List UInt8) (a1 : Int) : run Tryz.prog (Es_masks_Next n) (Ls_masks_Next n) Tryz.f26.ntmps (acOf Tryz.f26) ⟨argsT [.s a0, .i .i64 a1] 0, [], 0, 0, 0, 0⟩ (finK Tryz.prog Tryz.f26.results.toList (retX unr_masks_Next)) = masks_Next n a0 a1 := by kernel_rfl
theorem pure_masks_Next (n : Nat) : ∀ a r, masks_Next n a.1 a.2 = some r → PureOK Tryz.prog 26 (arg_masks_Next a) (enc_masks_Next r) := fun a r h => pureX_ok unr_ok_masks_Next (Es_ok_masks_Next n) Tryz.func26 rfl (acOf_code _) (subs_masks_Next n) rfl ((cert_masks_Next n a.1 a.2).trans h)
theorem ok_masks_Next (n : Nat) : EntOK Tryz.prog (e_masks_Next n) := pureE_ok Tryz.call26 una_ok_masks_Next (fun _ => rfl) (pure_masks_Next n)

/-! circa/yearforms.Span -/
noncomputable def arg_yearforms_Span (a : Bool × Bool × List UInt8 × Int × Int) : List V := [.ag [.b a.1, .b a.2.1, .s a.2.2.1, .i .i64 a.2.2.2.1, .i .i64 a.2.2.2.2]]
noncomputable def una_yearforms_Span (l : List V) : Option (Bool × Bool × List UInt8 × Int × Int) := match l with
  | [.ag [.b a0, .b a1, .s a2, .i .i64 a3, .i .i64 a4]] => some (a0, a1, a2, a3, a4)
  | _ => none
theorem una_ok_yearforms_Span : ∀ l a, una_yearforms_Span l = some a → l = arg_yearforms_Span a := by
  intro l a h
  unfold una_yearforms_Span at h
  split at h
  · cases h; rfl
  · cases h
noncomputable def enc_yearforms_Span (r : Int × Int × Int) : V := .tp [.i .i64 r.1, .i .i64 r.2.1, .i .i64 r.2.2]
noncomputable def unr_yearforms_Span (v : V) : Option (Int × Int × Int) := match v with
  | .tp [.i .i64 r0, .i .i64 r1, .i .i64 r2] => some (r0, r1, r2)
  | _ => none
theorem unr_ok_yearforms_Span : ∀ v r, unr_yearforms_Span v = some r → v = enc_yearforms_Span r := by
  intro v r h
  unfold unr_yearforms_Span at h
  split at h
  · cases h; rfl
  · cases h
noncomputable def e_yearforms_Span (n : Nat) : Ent := pureE 9 una_yearforms_Span (fun a => yearforms_Span n a.1 a.2.1 a.2.2.1 a.2.2.2.1 a.2.2.2.2) enc_yearforms_Span
noncomputable def t_yearforms_Span (l : List V) (_ : List (Nat × Blk)) : Bool := isS (una_yearforms_Span l)
noncomputable def Es_yearforms_Span (n : Nat) : List Ent := [e_yearforms_Check n, e_yearforms_Masked n, e_masks_Least n, e_masks_Greatest n, e_masks_Next n, e_yearforms_magnitude n, e_ints_Pow10 n]
theorem Es_ok_yearforms_Span (n : Nat) : ∀ x ∈ Es_yearforms_Span n, EntOK Tryz.prog x := by
  intro x hx
  simp only [Es_yearforms_Span, List.mem_cons, List.not_mem_nil, or_false] at hx
  rcases hx with hx | hx | hx | hx | hx | hx | hx
  · rw [hx]; exact ok_yearforms_Check n
  · rw [hx]; exact ok_yearforms_Masked n
  · rw [hx]; exact ok_masks_Least n
  · rw [hx]; exact ok_masks_Greatest n
  · rw [hx]; exact ok_masks_Next n
  · rw [hx]; exact ok_yearforms_magnitude n
  · rw [hx]; exact ok_ints_Pow10 n
noncomputable def Ls_yearforms_Span (_n : Nat) : List Sub := []
theorem subs_yearforms_Span (n : Nat) : SubOK Tryz.prog 83 (Ls_yearforms_Span n) (acOf Tryz.f9) := SubOK_of _ (by
  have e : subs (acOf Tryz.f9) = [] := by kernel_rfl
  rw [e]; intro p hp; cases hp)
theorem cert_yearforms_Span (n : Nat) (a0 : Bool) (a1 : Bool) (a2 : List UInt8) (a3 : Int) (a4 : Int) : run Tryz.prog (Es_yearforms_Span n) (Ls_yearforms_Span n) Tryz.f9.ntmps (acOf Tryz.f9) ⟨argsT [.ag [.b a0, .b a1, .s a2, .i .i64 a3, .i .i64 a4]] 0, [], 0, 0, 0, 0⟩ (finK Tryz.prog Tryz.f9.results.toList (retX unr_yearforms_Span)) = yearforms_Span n a0 a1 a2 a3 a4 := by kernel_rfl
theorem pure_yearforms_Span (n : Nat) : ∀ a r, yearforms_Span n a.1 a.2.1 a.2.2.1 a.2.2.2.1 a.2.2.2.2 = some r → PureOK Tryz.prog 9 (arg_yearforms_Span a) (enc_yearforms_Span r) := fun a r h => pureX_ok unr_ok_yearforms_Span (Es_ok_yearforms_Span n) Tryz.func9 rfl (acOf_code _) (subs_yearforms_Span n) rfl ((cert_yearforms_Span n a.1 a.2.1 a.2.2.1 a.2.2.2.1 a.2.2.2.2).trans h)
theorem ok_yearforms_Span (n : Nat) : EntOK Tryz.prog (e_yearforms_Span n) := pureE_ok Tryz.call9 una_ok_yearforms_Span (fun _ => rfl) (pure_yearforms_Span n)

/-! circa/circaref14.Masked -/
noncomputable def arg_circaref14_Masked (a : Bool × Bool × List UInt8 × Int × Int) : List V := [.ag [.b a.1, .b a.2.1, .s a.2.2.1, .i .i64 a.2.2.2.1, .i .i64 a.2.2.2.2]]
noncomputable def una_circaref14_Masked (l : List V) : Option (Bool × Bool × List UInt8 × Int × Int) := match l with
  | [.ag [.b a0, .b a1, .s a2, .i .i64 a3, .i .i64 a4]] => some (a0, a1, a2, a3, a4)
  | _ => none
theorem una_ok_circaref14_Masked : ∀ l a, una_circaref14_Masked l = some a → l = arg_circaref14_Masked a := by
  intro l a h
  unfold una_circaref14_Masked at h
  split at h
  · cases h; rfl
  · cases h
noncomputable def enc_circaref14_Masked (r : Int) : V := .i .i64 r
noncomputable def unr_circaref14_Masked (v : V) : Option (Int) := match v with
  | .i .i64 r0 => some r0
  | _ => none
theorem unr_ok_circaref14_Masked : ∀ v r, unr_circaref14_Masked v = some r → v = enc_circaref14_Masked r := by
  intro v r h
  unfold unr_circaref14_Masked at h
  split at h
  · cases h; rfl
  · cases h
noncomputable def e_circaref14_Masked (n : Nat) : Ent := pureE 13 una_circaref14_Masked (fun a => circaref14_Masked n a.1 a.2.1 a.2.2.1 a.2.2.2.1 a.2.2.2.2) enc_circaref14_Masked
noncomputable def t_circaref14_Masked (l : List V) (_ : List (Nat × Blk)) : Bool := isS (una_circaref14_Masked l)
noncomputable def Es_circaref14_Masked (n : Nat) : List Ent := [e_circaref14_has n]
theorem Es_ok_circaref14_Masked (n : Nat) : ∀ x ∈ Es_circaref14_Masked n, EntOK Tryz.prog x := by
  intro x hx
  simp only [Es_circaref14_Masked, List.mem_cons, List.not_mem_nil, or_false] at hx
  · rw [hx]; exact ok_circaref14_has n
noncomputable def Ls_circaref14_Masked (_n : Nat) : List Sub := []
theorem subs_circaref14_Masked (n : Nat) : SubOK Tryz.prog 7 (Ls_circaref14_Masked n) (acOf Tryz.f13) := SubOK_of _ (by
  have e : subs (acOf Tryz.f13) = [] := by kernel_rfl
  rw [e]; intro p hp; cases hp)
theorem cert_circaref14_Masked (n : Nat) (a0 : Bool) (a1 : Bool) (a2 : List UInt8) (a3 : Int) (a4 : Int) : run Tryz.prog (Es_circaref14_Masked n) (Ls_circaref14_Masked n) Tryz.f13.ntmps (acOf Tryz.f13) ⟨argsT [.ag [.b a0, .b a1, .s a2, .i .i64 a3, .i .i64 a4]] 0, [], 0, 0, 0, 0⟩ (finK Tryz.prog Tryz.f13.results.toList (retX unr_circaref14_Masked)) = circaref14_Masked n a0 a1 a2 a3 a4 := by kernel_rfl
theorem pure_circaref14_Masked (n : Nat) : ∀ a r, circaref14_Masked n a.1 a.2.1 a.2.2.1 a.2.2.2.1 a.2.2.2.2 = some r → PureOK Tryz.prog 13 (arg_circaref14_Masked a) (enc_circaref14_Masked r) := fun a r h => pureX_ok unr_ok_circaref14_Masked (Es_ok_circaref14_Masked n) Tryz.func13 rfl (acOf_code _) (subs_circaref14_Masked n) rfl ((cert_circaref14_Masked n a.1 a.2.1 a.2.2.1 a.2.2.2.1 a.2.2.2.2).trans h)
theorem ok_circaref14_Masked (n : Nat) : EntOK Tryz.prog (e_circaref14_Masked n) := pureE_ok Tryz.call13 una_ok_circaref14_Masked (fun _ => rfl) (pure_circaref14_Masked n)

/-! circa/circaref14.In -/
noncomputable def arg_circaref14_In (a : Bool × Bool × List UInt8 × Int × Int × Int) : List V := [.ag [.b a.1, .b a.2.1, .s a.2.2.1, .i .i64 a.2.2.2.1, .i .i64 a.2.2.2.2.1], .i .i64 a.2.2.2.2.2]
noncomputable def una_circaref14_In (l : List V) : Option (Bool × Bool × List UInt8 × Int × Int × Int) := match l with
  | [.ag [.b a0, .b a1, .s a2, .i .i64 a3, .i .i64 a4], .i .i64 a5] => some (a0, a1, a2, a3, a4, a5)
  | _ => none
theorem una_ok_circaref14_In : ∀ l a, una_circaref14_In l = some a → l = arg_circaref14_In a := by
  intro l a h
  unfold una_circaref14_In at h
  split at h
  · cases h; rfl
  · cases h
noncomputable def enc_circaref14_In (r : Int) : V := .i .i64 r
noncomputable def unr_circaref14_In (v : V) : Option (Int) := match v with
  | .i .i64 r0 => some r0
  | _ => none
theorem unr_ok_circaref14_In : ∀ v r, unr_circaref14_In v = some r → v = enc_circaref14_In r := by
  intro v r h
  unfold unr_circaref14_In at h
  split at h
  · cases h; rfl
  · cases h
noncomputable def e_circaref14_In (n : Nat) : Ent := pureE 10 una_circaref14_In (fun a => circaref14_In n a.1 a.2.1 a.2.2.1 a.2.2.2.1 a.2.2.2.2.1 a.2.2.2.2.2) enc_circaref14_In
noncomputable def t_circaref14_In (l : List V) (_ : List (Nat × Blk)) : Bool := isS (una_circaref14_In l)
noncomputable def Es_circaref14_In (n : Nat) : List Ent := [e_circaref14_Masked n, e_circaref14_Magnitude n]
theorem Es_ok_circaref14_In (n : Nat) : ∀ x ∈ Es_circaref14_In n, EntOK Tryz.prog x := by
  intro x hx
  simp only [Es_circaref14_In, List.mem_cons, List.not_mem_nil, or_false] at hx
  rcases hx with hx | hx
  · rw [hx]; exact ok_circaref14_Masked n
  · rw [hx]; exact ok_circaref14_Magnitude n
noncomputable def an_circaref14_In_l0 : Ann := ⟨[1, 2, 5], [0], 1, []⟩
noncomputable def emb_circaref14_In_l0 (x : Int × Int × Bool × Bool × List UInt8 × Int × Int) : St := ⟨[(1, some (.i .i64 x.1)), (2, some (.p 0 0)), (5, some (.i .i64 x.2.1))], [(0, .cells [.b x.2.2.1, .b x.2.2.2.1, .s x.2.2.2.2.1, .i .i64 x.2.2.2.2.2.1, .i .i64 x.2.2.2.2.2.2])], 1, 0, 0, 0⟩
noncomputable def un_circaref14_In_l0 (s : St) : Option (Int × Int × Bool × Bool × List UInt8 × Int × Int) := match s with
  | ⟨[(1, some (.i .i64 x0)), (2, some (.p 0 0)), (5, some (.i .i64 x1))], [(0, .cells [.b x2, .b x3, .s x4, .i .i64 x5, .i .i64 x6])], 1, 0, 0, 0⟩ => some (x0, x1, x2, x3, x4, x5, x6)
  | _ => none
theorem un_ok_circaref14_In_l0 : ∀ s x, un_circaref14_In_l0 s = some x → s = emb_circaref14_In_l0 x := by
  intro s x h
  unfold un_circaref14_In_l0 at h
  split at h
  · cases h; rfl
  · cases h
noncomputable def ax_circaref14_In_l0 : Ex → Ann := fun ex => match ex with
  | .ret => ⟨[4], [], 1, []⟩
  | .exit 0 => ⟨[1], [], 1, []⟩
  | _ => ⟨[], [], 0, []⟩
noncomputable def out_circaref14_In_l0 (y : Int ⊕ Int) : Ex × St := (Sum.casesOn (motive := fun _ => Ex × St) y (fun a0 => (.ret, ⟨[(4, some (.i .i64 a0))], [], 1, 0, 0, 0⟩)) (fun b0 => (.exit 0, ⟨[(1, some (.i .i64 b0))], [], 1, 0, 0, 0⟩)))
noncomputable def outK_circaref14_In_l0 (α : Type) (y : Int ⊕ Int) (k : Ex → St → Option α) : Option α := (Sum.casesOn (motive := fun _ => Option α) y (fun a0 => (k (.ret) ⟨[(4, some (.i .i64 a0))], [], 1, 0, 0, 0⟩)) (fun b0 => (k (.exit 0) ⟨[(1, some (.i .i64 b0))], [], 1, 0, 0, 0⟩)))
theorem outK_ok_circaref14_In_l0 : ∀ α y k, outK_circaref14_In_l0 α y k = k (out_circaref14_In_l0 y).1 (out_circaref14_In_l0 y).2 := by
  intro α y k
  rcases y with y | y <;> rfl
noncomputable def ux_circaref14_In_l0 (ex : Ex) (s : St) : Option (Int ⊕ Int) := match ex, s with
  | .ret, ⟨[(4, some (.i .i64 y0))], [], 1, 0, 0, 0⟩ => some (.inl y0)
  | .exit 0, ⟨[(1, some (.i .i64 y0))], [], 1, 0, 0, 0⟩ => some (.inr y0)
  | _, _ => none
theorem ux_ok_circaref14_In_l0 : ∀ ex s y, ux_circaref14_In_l0 ex s = some y → (ex, s) = out_circaref14_In_l0 y := by
  intro ex s y h
  unfold ux_circaref14_In_l0 at h
  split at h
  · cases h; rfl
  · cases h; rfl
  · cases h
noncomputable def Ls_circaref14_In (n : Nat) : List Sub := [subE 0 an_circaref14_In_l0 un_circaref14_In_l0 (fun x => iterL (circaref14_In_l0 n) n x) outK_circaref14_In_l0]
noncomputable def sac_circaref14_In_l0 : AC := getS (subs (acOf Tryz.f10)) 0
noncomputable def ac_circaref14_In_l0 : AC := AC.body sac_circaref14_In_l0
theorem subs_circaref14_In_l0 (n : Nat) : SubOK Tryz.prog 92 (Ls_circaref14_In n) ac_circaref14_In_l0 := SubOK_of _ (by
  have e : subs ac_circaref14_In_l0 = [] := by kernel_rfl
  rw [e]; intro p hp; cases hp)
theorem body_circaref14_In_l0 (n : Nat) : ∀ x, run Tryz.prog (Es_circaref14_In n) (Ls_circaref14_In n) 92 ac_circaref14_In_l0 (emb_circaref14_In_l0 x) (roundK an_circaref14_In_l0 un_circaref14_In_l0 ax_circaref14_In_l0 ux_circaref14_In_l0) = circaref14_In_l0 n x := fun _ => by kernel_rfl
theorem sub1_circaref14_In_l0 (n : Nat) : ∀ (α : Type) (s : St) (k : Ex → St → Option α) (z : α), (subE 0 an_circaref14_In_l0 un_circaref14_In_l0 (fun x => iterL (circaref14_In_l0 n) n x) outK_circaref14_In_l0).e α s k = some z → SemC Tryz.prog 92 (sac_circaref14_In_l0).code s fun ex s' => k ex s' = some z := by
  intro α s k z h
  have e : sac_circaref14_In_l0 = .loop ac_circaref14_In_l0 := by kernel_rfl
  rw [e]
  exact subE_ok (m := 0) (f := fun x => iterL (circaref14_In_l0 n) n x) (out := out_circaref14_In_l0) outK_ok_circaref14_In_l0 un_ok_circaref14_In_l0 (fun x y hy => loop_ok (Es_ok_circaref14_In n) (subs_circaref14_In_l0 n) un_ok_circaref14_In_l0 ux_ok_circaref14_In_l0 (body_circaref14_In_l0 n) n x y hy) h
theorem sub_circaref14_In_l0 (n : Nat) : SubSt Tryz.prog 92 (Ls_circaref14_In n) 0 sac_circaref14_In_l0 := fun α s k z => sub1_circaref14_In_l0 n α s k z
theorem subs_circaref14_In (n : Nat) : SubOK Tryz.prog 92 (Ls_circaref14_In n) (acOf Tryz.f10) := SubOK_of _ (by
  have e : subs (acOf Tryz.f10) = [(0, sac_circaref14_In_l0)] := by kernel_rfl
  rw [e]; intro p hp
  simp only [List.mem_cons, List.not_mem_nil, or_false] at hp
  · rw [hp]; exact sub_circaref14_In_l0 n
  )
theorem cert_circaref14_In (n : Nat) (a0 : Bool) (a1 : Bool) (a2 : List UInt8) (a3 : Int) (a4 : Int) (a5 : Int) : run Tryz.prog (Es_circaref14_In n) (Ls_circaref14_In n) Tryz.f10.ntmps (acOf Tryz.f10) ⟨argsT [.ag [.b a0, .b a1, .s a2, .i .i64 a3, .i .i64 a4], .i .i64 a5] 0, [], 0, 0, 0, 0⟩ (finK Tryz.prog Tryz.f10.results.toList (retX unr_circaref14_In)) = circaref14_In n a0 a1 a2 a3 a4 a5 := by kernel_rfl
theorem pure_circaref14_In (n : Nat) : ∀ a r, circaref14_In n a.1 a.2.1 a.2.2.1 a.2.2.2.1 a.2.2.2.2.1 a.2.2.2.2.2 = some r → PureOK Tryz.prog 10 (arg_circaref14_In a) (enc_circaref14_In r) := fun a r h => pureX_ok unr_ok_circaref14_In (Es_ok_circaref14_In n) Tryz.func10 rfl (acOf_code _) (subs_circaref14_In n) rfl ((cert_circaref14_In n a.1 a.2.1 a.2.2.1 a.2.2.2.1 a.2.2.2.2.1 a.2.2.2.2.2).trans h)
theorem ok_circaref14_In (n : Nat) : EntOK Tryz.prog (e_circaref14_In n) := pureE_ok Tryz.call10 una_ok_circaref14_In (fun _ => rfl) (pure_circaref14_In n)

/-! (*circa/cursors.Cursor).Rest -/
noncomputable def arg_cursors_Cursor_Rest (a : List UInt8 × Int) : List V := [.p 0 0]
noncomputable def H0_cursors_Cursor_Rest (a : List UInt8 × Int) : List (Nat × Blk) := [(0, .cells [.s a.1, .i .i64 a.2])]
noncomputable def una_cursors_Cursor_Rest (l : List V) (H : List (Nat × Blk)) : Option ((List UInt8 × Int) × List Nat) := match l with
  | [.p b0 0] => (match Abs.look H b0 with
    | some (.cells [.s a0, .i .i64 a1]) => (cond (Abs.distinct [b0] && true) (some ((a0, a1), [b0])) none)
    | _ => none)
  | _ => none
theorem una_ok_cursors_Cursor_Rest : ∀ l H a ρ, una_cursors_Cursor_Rest l H = some (a, ρ) → ρ.length = 1 ∧ ρ.Nodup ∧ l = V.rens ρ (arg_cursors_Cursor_Rest a) ∧ ∀ b blk, Abs.look (H0_cursors_Cursor_Rest a) b = some blk → Abs.look H (getN ρ b) = some (blk.ren ρ) := by
  intro l H a ρ h
  unfold una_cursors_Cursor_Rest at h
  split at h
  · split at h
    · rename_i e0
      obtain ⟨hd, h⟩ := cond_some h
      simp only [Bool.and_eq_true] at hd
      obtain ⟨hd, _⟩ := hd
      cases h
      exact ⟨rfl, distinct_ok hd, rfl, eachH_look ⟨e0, trivial⟩⟩
    · cases h
  · cases h
noncomputable def out_cursors_Cursor_Rest (r : List UInt8) : FOut := (⟨false, .s r, [], []⟩ : FOut)
noncomputable def outK_cursors_Cursor_Rest (α : Type) (r : List UInt8) (k : FOut → Option α) : Option α := (k ⟨false, .s r, [], []⟩)
theorem outK_ok_cursors_Cursor_Rest : ∀ α r k, outK_cursors_Cursor_Rest α r k = k (out_cursors_Cursor_Rest r) := by
  intro α r k
  rfl
noncomputable def unr_cursors_Cursor_Rest (pan : Bool) (v : V) (H : List (Nat × Blk)) (nw : List Nat) : Option (List UInt8) := match pan, v, H, nw with
  | false, .s r0, [], [] => some r0
  | _, _, _, _ => none
theorem unr_ok_cursors_Cursor_Rest : ∀ pan v H nw r, unr_cursors_Cursor_Rest pan v H nw = some r → (out_cursors_Cursor_Rest r).pan = pan ∧ (out_cursors_Cursor_Rest r).news = nw ∧ v = V.ren (upTo 0 1 ++ (out_cursors_Cursor_Rest r).news) (out_cursors_Cursor_Rest r).val ∧ H = renH (upTo 0 1 ++ (out_cursors_Cursor_Rest r).news) (out_cursors_Cursor_Rest r).H := by
  intro pan v H nw r h
  unfold unr_cursors_Cursor_Rest at h
  split at h
  · cases h; exact ⟨rfl, rfl, rfl, rfl⟩
  · cases h
theorem hv_cursors_Cursor_Rest : ∀ r, V.lt (1 + (out_cursors_Cursor_Rest r).news.length) (out_cursors_Cursor_Rest r).val = true := fun r => (by rfl)
theorem hc_cursors_Cursor_Rest : ∀ r, chkH (1 + (out_cursors_Cursor_Rest r).news.length) (out_cursors_Cursor_Rest r).H = true := fun r => (by rfl)
theorem hk_cursors_Cursor_Rest : ∀ r, hasKeys (out_cursors_Cursor_Rest r).H 1 (0 + (out_cursors_Cursor_Rest r).news.length) = true := fun r => (by rfl)
noncomputable def e_cursors_Cursor_Rest (n : Nat) : Ent := funE 96 1 una_cursors_Cursor_Rest (fun a => cursors_Cursor_Rest n a.1 a.2) outK_cursors_Cursor_Rest
noncomputable def t_cursors_Cursor_Rest (l : List V) (H : List (Nat × Blk)) : Bool := isS (una_cursors_Cursor_Rest l H)
noncomputable def Es_cursors_Cursor_Rest (_n : Nat) : List Ent := []
theorem Es_ok_cursors_Cursor_Rest (n : Nat) : ∀ x ∈ Es_cursors_Cursor_Rest n, EntOK Tryz.prog x := by
  intro x hx
  simp [Es_cursors_Cursor_Rest] at hx
noncomputable def Ls_cursors_Cursor_Rest (_n : Nat) : List Sub := []
theorem subs_cursors_Cursor_Rest (n : Nat) : SubOK Tryz.prog 14 (Ls_cursors_Cursor_Rest n) (acOf Tryz.f96) := SubOK_of _ (by
  have e : subs (acOf Tryz.f96) = [] := by kernel_rfl
  rw [e]; intro p hp; cases hp)
theorem cert_cursors_Cursor_Rest (n : Nat) (a0 : List UInt8) (a1 : Int) : run Tryz.prog (Es_cursors_Cursor_Rest n) (Ls_cursors_Cursor_Rest n) Tryz.f96.ntmps (acOf Tryz.f96) ⟨argsT [.p 0 0] 0, [(0, .cells [.s a0, .i .i64 a1])], 1, 1, 1, 1⟩ (finK Tryz.prog Tryz.f96.results.toList (funX [] 1 1 1 unr_cursors_Cursor_Rest)) = cursors_Cursor_Rest n a0 a1 := by kernel_rfl
theorem fun_cursors_Cursor_Rest (n : Nat) : ∀ a r, cursors_Cursor_Rest n a.1 a.2 = some r → FunOK Tryz.prog 96 (arg_cursors_Cursor_Rest a) (H0_cursors_Cursor_Rest a) 1 1 1 (out_cursors_Cursor_Rest r) := fun a r h => funX_ok (ws := []) unr_ok_cursors_Cursor_Rest hv_cursors_Cursor_Rest (fun r b blk hl => (chkH_look (hc_cursors_Cursor_Rest r) b blk hl).2) (fun r => chkH_keys (hc_cursors_Cursor_Rest r)) (by decide) (Es_ok_cursors_Cursor_Rest n) Tryz.func96 rfl (acOf_code _) (subs_cursors_Cursor_Rest n) rfl rfl ((cert_cursors_Cursor_Rest n a.1 a.2).trans h)
theorem ok_cursors_Cursor_Rest (n : Nat) : EntOK Tryz.prog (e_cursors_Cursor_Rest n) := funE_ok (m := 1) (ro := 1) (rb := 1) (out := out_cursors_Cursor_Rest) (arg := arg_cursors_Cursor_Rest) (H0 := H0_cursors_Cursor_Rest) Tryz.call96 (by decide) (by decide) outK_ok_cursors_Cursor_Rest una_ok_cursors_Cursor_Rest (fun _ => rfl) (fun a => chkH_look (m := 1) (H := H0_cursors_Cursor_Rest a) rfl) (fun _ => rfl) (fun r => chkH_keys (hc_cursors_Cursor_Rest r)) (fun r b blk h => (chkH_look (hc_cursors_Cursor_Rest r) b blk h).2) (fun r b h1 h2 => hasKeys_ok (hk_cursors_Cursor_Rest r) b h1 (by omega)) hv_cursors_Cursor_Rest (fun_cursors_Cursor_Rest n)

/-! internal/stringslite.HasPrefix -/
noncomputable def arg_int_stringslite_HasPrefix (a : List UInt8 × List UInt8) : List V := [.s a.1, .s a.2]
noncomputable def una_int_stringslite_HasPrefix (l : List V) : Option (List UInt8 × List UInt8) := match l with
  | [.s a0, .s a1] => some (a0, a1)
  | _ => none
theorem una_ok_int_stringslite_HasPrefix : ∀ l a, una_int_stringslite_HasPrefix l = some a → l = arg_int_stringslite_HasPrefix a := by
  intro l a h
  unfold una_int_stringslite_HasPrefix at h
  split at h
  · cases h; rfl
  · cases h
noncomputable def enc_int_stringslite_HasPrefix (r : Bool) : V := .b r
noncomputable def unr_int_stringslite_HasPrefix (v : V) : Option (Bool) := match v with
  | .b r0 => some r0
  | _ => none
theorem unr_ok_int_stringslite_HasPrefix : ∀ v r, unr_int_stringslite_HasPrefix v = some r → v = enc_int_stringslite_HasPrefix r := by
  intro v r h
  unfold unr_int_stringslite_HasPrefix at h
  split at h
  · cases h; rfl
  · cases h
noncomputable def e_int_stringslite_HasPrefix (n : Nat) : Ent := pureE 112 una_int_stringslite_HasPrefix (fun a => int_stringslite_HasPrefix n a.1 a.2) enc_int_stringslite_HasPrefix
noncomputable def t_int_stringslite_HasPrefix (l : List V) (_ : List (Nat × Blk)) : Bool := isS (una_int_stringslite_HasPrefix l)
noncomputable def Es_int_stringslite_HasPrefix (_n : Nat) : List Ent := []
theorem Es_ok_int_stringslite_HasPrefix (n : Nat) : ∀ x ∈ Es_int_stringslite_HasPrefix n, EntOK Tryz.prog x := by
  intro x hx
  simp [Es_int_stringslite_HasPrefix] at hx
noncomputable def Ls_int_stringslite_HasPrefix (_n : Nat) : List Sub := []
theorem subs_int_stringslite_HasPrefix (n : Nat) : SubOK Tryz.prog 18 (Ls_int_stringslite_HasPrefix n) (acOf Tryz.f112) := SubOK_of _ (by
  have e : subs (acOf Tryz.f112) = [] := by kernel_rfl
  rw [e]; intro p hp; cases hp)
theorem cert_int_stringslite_HasPrefix (n : Nat) (a0 : List UInt8) (a1 : List UInt8) : run Tryz.prog (Es_int_stringslite_HasPrefix n) (Ls_int_stringslite_HasPrefix n) Tryz.f112.ntmps (acOf Tryz.f112) ⟨argsT [.s a0, .s a1] 0, [], 0, 0, 0, 0⟩ (finK Tryz.prog Tryz.f112.results.toList (retX unr_int_stringslite_HasPrefix)) = int_stringslite_HasPrefix n a0 a1 := by kernel_rfl
theorem pure_int_stringslite_HasPrefix (n : Nat) : ∀ a r, int_stringslite_HasPrefix n a.1 a.2 = some r → PureOK Tryz.prog 112 (arg_int_stringslite_HasPrefix a) (enc_int_stringslite_HasPrefix r) := fun a r h => pureX_ok unr_ok_int_stringslite_HasPrefix (Es_ok_int_stringslite_HasPrefix n) Tryz.func112 rfl (acOf_code _) (subs_int_stringslite_HasPrefix n) rfl ((cert_int_stringslite_HasPrefix n a.1 a.2).trans h)
theorem ok_int_stringslite_HasPrefix (n : Nat) : EntOK Tryz.prog (e_int_stringslite_HasPrefix n) := pureE_ok Tryz.call112 una_ok_int_stringslite_HasPrefix (fun _ => rfl) (pure_int_stringslite_HasPrefix n)

/-! strings.HasPrefix -/
noncomputable def arg_strings_HasPrefix (a : List UInt8 × List UInt8) : List V := [.s a.1, .s a.2]
noncomputable def una_strings_HasPrefix (l : List V) : Option (List UInt8 × List UInt8) := match l with
  | [.s a0, .s a1] => some (a0, a1)
  | _ => none
theorem una_ok_strings_HasPrefix : ∀ l a, una_strings_HasPrefix l = some a → l = arg_strings_HasPrefix a := by
  intro l a h
  unfold una_strings_HasPrefix at h
  split at h
  · cases h; rfl
  · cases h
noncomputable def enc_strings_HasPrefix (r : Bool) : V := .b r
noncomputable def unr_strings_HasPrefix (v : V) : Option (Bool) := match v with
  | .b r0 => some r0
  | _ => none
theorem unr_ok_strings_HasPrefix : ∀ v r, unr_strings_HasPrefix v = some r → v = enc_strings_HasPrefix r := by
  intro v r h
  unfold unr_strings_HasPrefix at h
  split at h
  · cases h; rfl
  · cases h
noncomputable def e_strings_HasPrefix (n : Nat) : Ent := pureE 95 una_strings_HasPrefix (fun a => strings_HasPrefix n a.1 a.2) enc_strings_HasPrefix
noncomputable def t_strings_HasPrefix (l : List V) (_ : List (Nat × Blk)) : Bool := isS (una_strings_HasPrefix l)
noncomputable def Es_strings_HasPrefix (n : Nat) : List Ent := [e_int_stringslite_HasPrefix n]
theorem Es_ok_strings_HasPrefix (n : Nat) : ∀ x ∈ Es_strings_HasPrefix n, EntOK Tryz.prog x := by
  intro x hx
  simp only [Es_strings_HasPrefix, List.mem_cons, List.not_mem_nil, or_false] at hx
  · rw [hx]; exact ok_int_stringslite_HasPrefix n
noncomputable def Ls_strings_HasPrefix (_n : Nat) : List Sub := []
theorem subs_strings_HasPrefix (n : Nat) : SubOK Tryz.prog 8 (Ls_strings_HasPrefix n) (acOf Tryz.f95) := SubOK_of _ (by
  have e : subs (acOf Tryz.f95) = [] := by kernel_rfl
  rw [e]; intro p hp; cases hp)
theorem cert_strings_HasPrefix (n : Nat) (a0 : List UInt8) (a1 : List UInt8) : run Tryz.prog (Es_strings_HasPrefix n) (Ls_strings_HasPrefix n) Tryz.f95.ntmps (acOf Tryz.f95) ⟨argsT [.s a0, .s a1] 0, [], 0, 0, 0, 0⟩ (finK Tryz.prog Tryz.f95.results.toList (retX unr_strings_HasPrefix)) = strings_HasPrefix n a0 a1 := by kernel_rfl
theorem pure_strings_HasPrefix (n : Nat) : ∀ a r, strings_HasPrefix n a.1 a.2 = some r → PureOK Tryz.prog 95 (arg_strings_HasPrefix a) (enc_strings_HasPrefix r) := fun a r h => pureX_ok unr_ok_strings_HasPrefix (Es_ok_strings_HasPrefix n) Tryz.func95 rfl (acOf_code _) (subs_strings_HasPrefix n) rfl ((cert_strings_HasPrefix n a.1 a.2).trans h)
theorem ok_strings_HasPrefix (n : Nat) : EntOK Tryz.prog (e_strings_HasPrefix n) := pureE_ok Tryz.call95 una_ok_strings_HasPrefix (fun _ => rfl) (pure_strings_HasPrefix n)

/-! (*circa/cursors.Cursor).Is -/
noncomputable def arg_cursors_Cursor_Is (a : List UInt8 × List UInt8 × Int) : List V := [.p 0 0, .s a.1]
noncomputable def H0_cursors_Cursor_Is (a : List UInt8 × List UInt8 × Int) : List (Nat × Blk) := [(0, .cells [.s a.2.1, .i .i64 a.2.2])]
noncomputable def una_cursors_Cursor_Is (l : List V) (H : List (Nat × Blk)) : Option ((List UInt8 × List UInt8 × Int) × List Nat) := match l with
  | [.p b0 0, .s a0] => (match Abs.look H b0 with
    | some (.cells [.s a1, .i .i64 a2]) => (cond (Abs.distinct [b0] && true) (some ((a0, a1, a2), [b0])) none)
    | _ => none)
  | _ => none
theorem una_ok_cursors_Cursor_Is : ∀ l H a ρ, una_cursors_Cursor_Is l H = some (a, ρ) → ρ.length = 1 ∧ ρ.Nodup ∧ l = V.rens ρ (arg_cursors_Cursor_Is a) ∧ ∀ b blk, Abs.look (H0_cursors_Cursor_Is a) b = some blk → Abs.look H (getN ρ b) = some (blk.ren ρ) := by
  intro l H a ρ h
  unfold una_cursors_Cursor_Is at h
  split at h
  · split at h
    · rename_i e0
      obtain ⟨hd, h⟩ := cond_some h
      simp only [Bool.and_eq_true] at hd
      obtain ⟨hd, _⟩ := hd
      cases h
      exact ⟨rfl, distinct_ok hd, rfl, eachH_look ⟨e0, trivial⟩⟩
    · cases h
  · cases h
noncomputable def out_cursors_Cursor_Is (r : Bool) : FOut := (⟨false, .b r, [], []⟩ : FOut)
noncomputable def outK_cursors_Cursor_Is (α : Type) (r : Bool) (k : FOut → Option α) : Option α := (k ⟨false, .b r, [], []⟩)
theorem outK_ok_cursors_Cursor_Is : ∀ α r k, outK_cursors_Cursor_Is α r k = k (out_cursors_Cursor_Is r) := by
  intro α r k
  rfl
noncomputable def unr_cursors_Cursor_Is (pan : Bool) (v : V) (H : List (Nat × Blk)) (nw : List Nat) : Option (Bool) := match pan, v, H, nw with
  | false, .b r0, [], [] => some r0
  | _, _, _, _ => none
theorem unr_ok_cursors_Cursor_Is : ∀ pan v H nw r, unr_cursors_Cursor_Is pan v H nw = some r → (out_cursors_Cursor_Is r).pan = pan ∧ (out_cursors_Cursor_Is r).news = nw ∧ v = V.ren (upTo 0 1 ++ (out_cursors_Cursor_Is r).news) (out_cursors_Cursor_Is r).val ∧ H = renH (upTo 0 1 ++ (out_cursors_Cursor_Is r).news) (out_cursors_Cursor_Is r).H := by
  intro pan v H nw r h
  unfold unr_cursors_Cursor_Is at h
  split at h
  · cases h; exact ⟨rfl, rfl, rfl, rfl⟩
  · cases h
theorem hv_cursors_Cursor_Is : ∀ r, V.lt (1 + (out_cursors_Cursor_Is r).news.length) (out_cursors_Cursor_Is r).val = true := fun r => (by rfl)
theorem hc_cursors_Cursor_Is : ∀ r, chkH (1 + (out_cursors_Cursor_Is r).news.length) (out_cursors_Cursor_Is r).H = true := fun r => (by rfl)
theorem hk_cursors_Cursor_Is : ∀ r, hasKeys (out_cursors_Cursor_Is r).H 1 (0 + (out_cursors_Cursor_Is r).news.length) = true := fun r => (by rfl)
noncomputable def e_cursors_Cursor_Is (n : Nat) : Ent := funE 76 1 una_cursors_Cursor_Is (fun a => cursors_Cursor_Is n a.1 a.2.1 a.2.2) outK_cursors_Cursor_Is
noncomputable def t_cursors_Cursor_Is (l : List V) (H : List (Nat × Blk)) : Bool := isS (una_cursors_Cursor_Is l H)
noncomputable def Es_cursors_Cursor_Is (n : Nat) : List Ent := [e_cursors_Cursor_Rest n, e_strings_HasPrefix n]
theorem Es_ok_cursors_Cursor_Is (n : Nat) : ∀ x ∈ Es_cursors_Cursor_Is n, EntOK Tryz.prog x := by
  intro x hx
  simp only [Es_cursors_Cursor_Is, List.mem_cons, List.not_mem_nil, or_false] at hx
  rcases hx with hx | hx
  · rw [hx]; exact ok_cursors_Cursor_Rest n
  · rw [hx]; exact ok_strings_HasPrefix n
noncomputable def Ls_cursors_Cursor_Is (_n : Nat) : List Sub := []
theorem subs_cursors_Cursor_Is (n : Nat) : SubOK Tryz.prog 13 (Ls_cursors_Cursor_Is n) (acOf Tryz.f76) := SubOK_of _ (by
  have e : subs (acOf Tryz.f76) = [] := by kernel_rfl
  rw [e]; intro p hp; cases hp)
theorem cert_cursors_Cursor_Is (n : Nat) (a0 : List UInt8) (a1 : List UInt8) (a2 : Int) : run Tryz.prog (Es_cursors_Cursor_Is n) (Ls_cursors_Cursor_Is n) Tryz.f76.ntmps (acOf Tryz.f76) ⟨argsT [.p 0 0, .s a0] 0, [(0, .cells [.s a1, .i .i64 a2])], 1, 1, 1, 1⟩ (finK Tryz.prog Tryz.f76.results.toList (funX [] 1 1 1 unr_cursors_Cursor_Is)) = cursors_Cursor_Is n a0 a1 a2 := by kernel_rfl
theorem fun_cursors_Cursor_Is (n : Nat) : ∀ a r, cursors_Cursor_Is n a.1 a.2.1 a.2.2 = some r → FunOK Tryz.prog 76 (arg_cursors_Cursor_Is a) (H0_cursors_Cursor_Is a) 1 1 1 (out_cursors_Cursor_Is r) := fun a r h => funX_ok (ws := []) unr_ok_cursors_Cursor_Is hv_cursors_Cursor_Is (fun r b blk hl => (chkH_look (hc_cursors_Cursor_Is r) b blk hl).2) (fun r => chkH_keys (hc_cursors_Cursor_Is r)) (by decide) (Es_ok_cursors_Cursor_Is n) Tryz.func76 rfl (acOf_code _) (subs_cursors_Cursor_Is n) rfl rfl ((cert_cursors_Cursor_Is n a.1 a.2.1 a.2.2).trans h)
theorem ok_cursors_Cursor_Is (n : Nat) : EntOK Tryz.prog (e_cursors_Cursor_Is n) := funE_ok (m := 1) (ro := 1) (rb := 1) (out := out_cursors_Cursor_Is) (arg := arg_cursors_Cursor_Is) (H0 := H0_cursors_Cursor_Is) Tryz.call76 (by decide) (by decide) outK_ok_cursors_Cursor_Is una_ok_cursors_Cursor_Is (fun _ => rfl) (fun a => chkH_look (m := 1) (H := H0_cursors_Cursor_Is a) rfl) (fun _ => rfl) (fun r => chkH_keys (hc_cursors_Cursor_Is r)) (fun r b blk h => (chkH_look (hc_cursors_Cursor_Is r) b blk h).2) (fun r b h1 h2 => hasKeys_ok (hk_cursors_Cursor_Is r) b h1 (by omega)) hv_cursors_Cursor_Is (fun_cursors_Cursor_Is n)

/-! (*circa/cursors.Cursor).Take -/
noncomputable def arg_cursors_Cursor_Take (a : List UInt8 × List UInt8 × Int) : List V := [.p 0 0, .s a.1]
noncomputable def H0_cursors_Cursor_Take (a : List UInt8 × List UInt8 × Int) : List (Nat × Blk) := [(0, .cells [.s a.2.1, .i .i64 a.2.2])]
noncomputable def una_cursors_Cursor_Take (l : List V) (H : List (Nat × Blk)) : Option ((List UInt8 × List UInt8 × Int) × List Nat) := match l with
  | [.p b0 0, .s a0] => (match Abs.look H b0 with
    | some (.cells [.s a1, .i .i64 a2]) => (cond (Abs.distinct [b0] && true) (some ((a0, a1, a2), [b0])) none)
    | _ => none)
  | _ => none
theorem una_ok_cursors_Cursor_Take : ∀ l H a ρ, una_cursors_Cursor_Take l H = some (a, ρ) → ρ.length = 1 ∧ ρ.Nodup ∧ l = V.rens ρ (arg_cursors_Cursor_Take a) ∧ ∀ b blk, Abs.look (H0_cursors_Cursor_Take a) b = some blk → Abs.look H (getN ρ b) = some (blk.ren ρ) := by
  intro l H a ρ h
  unfold una_cursors_Cursor_Take at h
  split at h
  · split at h
    · rename_i e0
      obtain ⟨hd, h⟩ := cond_some h
      simp only [Bool.and_eq_true] at hd
      obtain ⟨hd, _⟩ := hd
      cases h
      exact ⟨rfl, distinct_ok hd, rfl, eachH_look ⟨e0, trivial⟩⟩
    · cases h
  · cases h
noncomputable def out_cursors_Cursor_Take (r : (Bool × List UInt8 × Int)) : FOut := (⟨false, .b r.1, [(0, .cells [.s r.2.1, .i .i64 r.2.2])], []⟩ : FOut)
noncomputable def outK_cursors_Cursor_Take (α : Type) (r : (Bool × List UInt8 × Int)) (k : FOut → Option α) : Option α := (k ⟨false, .b r.1, [(0, .cells [.s r.2.1, .i .i64 r.2.2])], []⟩)
theorem outK_ok_cursors_Cursor_Take : ∀ α r k, outK_cursors_Cursor_Take α r k = k (out_cursors_Cursor_Take r) := by
  intro α r k
  rfl
noncomputable def unr_cursors_Cursor_Take (pan : Bool) (v : V) (H : List (Nat × Blk)) (nw : List Nat) : Option ((Bool × List UInt8 × Int)) := match pan, v, H, nw with
  | false, .b r0, [(0, .cells [.s r1, .i .i64 r2])], [] => some (r0, r1, r2)
  | _, _, _, _ => none
theorem unr_ok_cursors_Cursor_Take : ∀ pan v H nw r, unr_cursors_Cursor_Take pan v H nw = some r → (out_cursors_Cursor_Take r).pan = pan ∧ (out_cursors_Cursor_Take r).news = nw ∧ v = V.ren (upTo 0 1 ++ (out_cursors_Cursor_Take r).news) (out_cursors_Cursor_Take r).val ∧ H = renH (upTo 0 1 ++ (out_cursors_Cursor_Take r).news) (out_cursors_Cursor_Take r).H := by
  intro pan v H nw r h
  unfold unr_cursors_Cursor_Take at h
  split at h
  · cases h; exact ⟨rfl, rfl, rfl, rfl⟩
  · cases h
theorem hv_cursors_Cursor_Take : ∀ r, V.lt (1 + (out_cursors_Cursor_Take r).news.length) (out_cursors_Cursor_Take r).val = true := fun r => (by rfl)
theorem hc_cursors_Cursor_Take : ∀ r, chkH (1 + (out_cursors_Cursor_Take r).news.length) (out_cursors_Cursor_Take r).H = true := fun r => (by rfl)
theorem hk_cursors_Cursor_Take : ∀ r, hasKeys (out_cursors_Cursor_Take r).H 0 (1 + (out_cursors_Cursor_Take r).news.length) = true := fun r => (by rfl)
noncomputable def e_cursors_Cursor_Take (n : Nat) : Ent := funE 50 1 una_cursors_Cursor_Take (fun a => cursors_Cursor_Take n a.1 a.2.1 a.2.2) outK_cursors_Cursor_Take
noncomputable def t_cursors_Cursor_Take (l : List V) (H : List (Nat × Blk)) : Bool := isS (una_cursors_Cursor_Take l H)
noncomputable def Es_cursors_Cursor_Take (n : Nat) : List Ent := [e_cursors_Cursor_Is n]
theorem Es_ok_cursors_Cursor_Take (n : Nat) : ∀ x ∈ Es_cursors_Cursor_Take n, EntOK Tryz.prog x := by
  intro x hx
  simp only [Es_cursors_Cursor_Take, List.mem_cons, List.not_mem_nil, or_false] at hx
  · rw [hx]; exact ok_cursors_Cursor_Is n
noncomputable def Ls_cursors_Cursor_Take (_n : Nat) : List Sub := []
theorem subs_cursors_Cursor_Take (n : Nat) : SubOK Tryz.prog 18 (Ls_cursors_Cursor_Take n) (acOf Tryz.f50) := SubOK_of _ (by
  have e : subs (acOf Tryz.f50) = [] := by kernel_rfl
  rw [e]; intro p hp; cases hp)
theorem cert_cursors_Cursor_Take (n : Nat) (a0 : List UInt8) (a1 : List UInt8) (a2 : Int) : run Tryz.prog (Es_cursors_Cursor_Take n) (Ls_cursors_Cursor_Take n) Tryz.f50.ntmps (acOf Tryz.f50) ⟨argsT [.p 0 0, .s a0] 0, [(0, .cells [.s a1, .i .i64 a2])], 1, 1, 0, 1⟩ (finK Tryz.prog Tryz.f50.results.toList (funX [0] 1 0 1 unr_cursors_Cursor_Take)) = cursors_Cursor_Take n a0 a1 a2 := by kernel_rfl
theorem fun_cursors_Cursor_Take (n : Nat) : ∀ a r, cursors_Cursor_Take n a.1 a.2.1 a.2.2 = some r → FunOK Tryz.prog 50 (arg_cursors_Cursor_Take a) (H0_cursors_Cursor_Take a) 1 0 1 (out_cursors_Cursor_Take r) := fun a r h => funX_ok (ws := [0]) unr_ok_cursors_Cursor_Take hv_cursors_Cursor_Take (fun r b blk hl => (chkH_look (hc_cursors_Cursor_Take r) b blk hl).2) (fun r => chkH_keys (hc_cursors_Cursor_Take r)) (by decide) (Es_ok_cursors_Cursor_Take n) Tryz.func50 rfl (acOf_code _) (subs_cursors_Cursor_Take n) rfl rfl ((cert_cursors_Cursor_Take n a.1 a.2.1 a.2.2).trans h)
theorem ok_cursors_Cursor_Take (n : Nat) : EntOK Tryz.prog (e_cursors_Cursor_Take n) := funE_ok (m := 1) (ro := 0) (rb := 1) (out := out_cursors_Cursor_Take) (arg := arg_cursors_Cursor_Take) (H0 := H0_cursors_Cursor_Take) Tryz.call50 (by decide) (by decide) outK_ok_cursors_Cursor_Take una_ok_cursors_Cursor_Take (fun _ => rfl) (fun a => chkH_look (m := 1) (H := H0_cursors_Cursor_Take a) rfl) (fun _ => rfl) (fun r => chkH_keys (hc_cursors_Cursor_Take r)) (fun r b blk h => (chkH_look (hc_cursors_Cursor_Take r) b blk h).2) (fun r b h1 h2 => hasKeys_ok (hk_cursors_Cursor_Take r) b h1 (by omega)) hv_cursors_Cursor_Take (fun_cursors_Cursor_Take n)

/-! (*circa/cursors.Cursor).Peek -/
noncomputable def arg_cursors_Cursor_Peek (a : List UInt8 × Int) : List V := [.p 0 0]
noncomputable def H0_cursors_Cursor_Peek (a : List UInt8 × Int) : List (Nat × Blk) := [(0, .cells [.s a.1, .i .i64 a.2])]
noncomputable def una_cursors_Cursor_Peek (l : List V) (H : List (Nat × Blk)) : Option ((List UInt8 × Int) × List Nat) := match l with
  | [.p b0 0] => (match Abs.look H b0 with
    | some (.cells [.s a0, .i .i64 a1]) => (cond (Abs.distinct [b0] && true) (some ((a0, a1), [b0])) none)
    | _ => none)
  | _ => none
theorem una_ok_cursors_Cursor_Peek : ∀ l H a ρ, una_cursors_Cursor_Peek l H = some (a, ρ) → ρ.length = 1 ∧ ρ.Nodup ∧ l = V.rens ρ (arg_cursors_Cursor_Peek a) ∧ ∀ b blk, Abs.look (H0_cursors_Cursor_Peek a) b = some blk → Abs.look H (getN ρ b) = some (blk.ren ρ) := by
  intro l H a ρ h
  unfold una_cursors_Cursor_Peek at h
  split at h
  · split at h
    · rename_i e0
      obtain ⟨hd, h⟩ := cond_some h
      simp only [Bool.and_eq_true] at hd
      obtain ⟨hd, _⟩ := hd
      cases h
      exact ⟨rfl, distinct_ok hd, rfl, eachH_look ⟨e0, trivial⟩⟩
    · cases h
  · cases h
noncomputable def out_cursors_Cursor_Peek (r : (Int × Bool)) : FOut := (⟨false, .tp [.i .u8 r.1, .b r.2], [], []⟩ : FOut)
noncomputable def outK_cursors_Cursor_Peek (α : Type) (r : (Int × Bool)) (k : FOut → Option α) : Option α := (k ⟨false, .tp [.i .u8 r.1, .b r.2], [], []⟩)
theorem outK_ok_cursors_Cursor_Peek : ∀ α r k, outK_cursors_Cursor_Peek α r k = k (out_cursors_Cursor_Peek r) := by
  intro α r k
  rfl
noncomputable def unr_cursors_Cursor_Peek (pan : Bool) (v : V) (H : List (Nat × Blk)) (nw : List Nat) : Option ((Int × Bool)) := match pan, v, H, nw with
  | false, .tp [.i .u8 r0, .b r1], [], [] => some (r0, r1)
  | _, _, _, _ => none
theorem unr_ok_cursors_Cursor_Peek : ∀ pan v H nw r, unr_cursors_Cursor_Peek pan v H nw = some r → (out_cursors_Cursor_Peek r).pan = pan ∧ (out_cursors_Cursor_Peek r).news = nw ∧ v = V.ren (upTo 0 1 ++ (out_cursors_Cursor_Peek r).news) (out_cursors_Cursor_Peek r).val ∧ H = renH (upTo 0 1 ++ (out_cursors_Cursor_Peek r).news) (out_cursors_Cursor_Peek r).H := by
  intro pan v H nw r h
  unfold unr_cursors_Cursor_Peek at h
  split at h
  · cases h; exact ⟨rfl, rfl, rfl, rfl⟩
  · cases h
theorem hv_cursors_Cursor_Peek : ∀ r, V.lt (1 + (out_cursors_Cursor_Peek r).news.length) (out_cursors_Cursor_Peek r).val = true := fun r => (by rfl)
theorem hc_cursors_Cursor_Peek : ∀ r, chkH (1 + (out_cursors_Cursor_Peek r).news.length) (out_cursors_Cursor_Peek r).H = true := fun r => (by rfl)
theorem hk_cursors_Cursor_Peek : ∀ r, hasKeys (out_cursors_Cursor_Peek r).H 1 (0 + (out_cursors_Cursor_Peek r).news.length) = true := fun r => (by rfl)
noncomputable def e_cursors_Cursor_Peek (n : Nat) : Ent := funE 77 1 una_cursors_Cursor_Peek (fun a => cursors_Cursor_Peek n a.1 a.2) outK_cursors_Cursor_Peek
noncomputable def t_cursors_Cursor_Peek (l : List V) (H : List (Nat × Blk)) : Bool := isS (una_cursors_Cursor_Peek l H)
noncomputable def Es_cursors_Cursor_Peek (n : Nat) : List Ent := [e_cursors_Cursor_Rest n]
theorem Es_ok_cursors_Cursor_Peek (n : Nat) : ∀ x ∈ Es_cursors_Cursor_Peek n, EntOK Tryz.prog x := by
  intro x hx
  simp only [Es_cursors_Cursor_Peek, List.mem_cons, List.not_mem_nil, or_false] at hx
  · rw [hx]; exact ok_cursors_Cursor_Rest n
noncomputable def Ls_cursors_Cursor_Peek (_n : Nat) : List Sub := []
theorem subs_cursors_Cursor_Peek (n : Nat) : SubOK Tryz.prog 16 (Ls_cursors_Cursor_Peek n) (acOf Tryz.f77) := SubOK_of _ (by
  have e : subs (acOf Tryz.f77) = [] := by kernel_rfl
  rw [e]; intro p hp; cases hp)
theorem cert_cursors_Cursor_Peek (n : Nat) (a0 : List UInt8) (a1 : Int) : run Tryz.prog (Es_cursors_Cursor_Peek n) (Ls_cursors_Cursor_Peek n) Tryz.f77.ntmps (acOf Tryz.f77) ⟨argsT [.p 0 0] 0, [(0, .cells [.s a0, .i .i64 a1])], 1, 1, 1, 1⟩ (finK Tryz.prog Tryz.f77.results.toList (funX [] 1 1 1 unr_cursors_Cursor_Peek)) = cursors_Cursor_Peek n a0 a1 := by kernel_rfl
theorem fun_cursors_Cursor_Peek (n : Nat) : ∀ a r, cursors_Cursor_Peek n a.1 a.2 = some r → FunOK Tryz.prog 77 (arg_cursors_Cursor_Peek a) (H0_cursors_Cursor_Peek a) 1 1 1 (out_cursors_Cursor_Peek r) := fun a r h => funX_ok (ws := []) unr_ok_cursors_Cursor_Peek hv_cursors_Cursor_Peek (fun r b blk hl => (chkH_look (hc_cursors_Cursor_Peek r) b blk hl).2) (fun r => chkH_keys (hc_cursors_Cursor_Peek r)) (by decide) (Es_ok_cursors_Cursor_Peek n) Tryz.func77 rfl (acOf_code _) (subs_cursors_Cursor_Peek n) rfl rfl ((cert_cursors_Cursor_Peek n a.1 a.2).trans h)
theorem ok_cursors_Cursor_Peek (n : Nat) : EntOK Tryz.prog (e_cursors_Cursor_Peek n) := funE_ok (m := 1) (ro := 1) (rb := 1) (out := out_cursors_Cursor_Peek) (arg := arg_cursors_Cursor_Peek) (H0 := H0_cursors_Cursor_Peek) Tryz.call77 (by decide) (by decide) outK_ok_cursors_Cursor_Peek una_ok_cursors_Cursor_Peek (fun _ => rfl) (fun a => chkH_look (m := 1) (H := H0_cursors_Cursor_Peek a) rfl) (fun _ => rfl) (fun r => chkH_keys (hc_cursors_Cursor_Peek r)) (fun r b blk h => (chkH_look (hc_cursors_Cursor_Peek r) b blk h).2) (fun r b h1 h2 => hasKeys_ok (hk_cursors_Cursor_Peek r) b h1 (by omega)) hv_cursors_Cursor_Peek (fun_cursors_Cursor_Peek n)

/-! (*circa/cursors.Cursor).At -/
noncomputable def arg_cursors_Cursor_At (a : List UInt8 × Int) : List V := [.p 0 0]
noncomputable def H0_cursors_Cursor_At (a : List UInt8 × Int) : List (Nat × Blk) := [(0, .cells [.s a.1, .i .i64 a.2])]
noncomputable def una_cursors_Cursor_At (l : List V) (H : List (Nat × Blk)) : Option ((List UInt8 × Int) × List Nat) := match l with
  | [.p b0 0] => (match Abs.look H b0 with
    | some (.cells [.s a0, .i .i64 a1]) => (cond (Abs.distinct [b0] && true) (some ((a0, a1), [b0])) none)
    | _ => none)
  | _ => none
theorem una_ok_cursors_Cursor_At : ∀ l H a ρ, una_cursors_Cursor_At l H = some (a, ρ) → ρ.length = 1 ∧ ρ.Nodup ∧ l = V.rens ρ (arg_cursors_Cursor_At a) ∧ ∀ b blk, Abs.look (H0_cursors_Cursor_At a) b = some blk → Abs.look H (getN ρ b) = some (blk.ren ρ) := by
  intro l H a ρ h
  unfold una_cursors_Cursor_At at h
  split at h
  · split at h
    · rename_i e0
      obtain ⟨hd, h⟩ := cond_some h
      simp only [Bool.and_eq_true] at hd
      obtain ⟨hd, _⟩ := hd
      cases h
      exact ⟨rfl, distinct_ok hd, rfl, eachH_look ⟨e0, trivial⟩⟩
    · cases h
  · cases h
noncomputable def out_cursors_Cursor_At (r : Int) : FOut := (⟨false, .i .i64 r, [], []⟩ : FOut)
noncomputable def outK_cursors_Cursor_At (α : Type) (r : Int) (k : FOut → Option α) : Option α := (k ⟨false, .i .i64 r, [], []⟩)
theorem outK_ok_cursors_Cursor_At : ∀ α r k, outK_cursors_Cursor_At α r k = k (out_cursors_Cursor_At r) := by
  intro α r k
  rfl
noncomputable def unr_cursors_Cursor_At (pan : Bool) (v : V) (H : List (Nat × Blk)) (nw : List Nat) : Option (Int) := match pan, v, H, nw with
  | false, .i .i64 r0, [], [] => some r0
  | _, _, _, _ => none
theorem unr_ok_cursors_Cursor_At : ∀ pan v H nw r, unr_cursors_Cursor_At pan v H nw = some r → (out_cursors_Cursor_At r).pan = pan ∧ (out_cursors_Cursor_At r).news = nw ∧ v = V.ren (upTo 0 1 ++ (out_cursors_Cursor_At r).news) (out_cursors_Cursor_At r).val ∧ H = renH (upTo 0 1 ++ (out_cursors_Cursor_At r).news) (out_cursors_Cursor_At r).H := by
  intro pan v H nw r h
  unfold unr_cursors_Cursor_At at h
  split at h
  · cases h; exact ⟨rfl, rfl, rfl, rfl⟩
  · cases h
theorem hv_cursors_Cursor_At : ∀ r, V.lt (1 + (out_cursors_Cursor_At r).news.length) (out_cursors_Cursor_At r).val = true := fun r => (by rfl)
theorem hc_cursors_Cursor_At : ∀ r, chkH (1 + (out_cursors_Cursor_At r).news.length) (out_cursors_Cursor_At r).H = true := fun r => (by rfl)
theorem hk_cursors_Cursor_At : ∀ r, hasKeys (out_cursors_Cursor_At r).H 1 (0 + (out_cursors_Cursor_At r).news.length) = true := fun r => (by rfl)
noncomputable def e_cursors_Cursor_At (n : Nat) : Ent := funE 80 1 una_cursors_Cursor_At (fun a => cursors_Cursor_At n a.1 a.2) outK_cursors_Cursor_At
noncomputable def t_cursors_Cursor_At (l : List V) (H : List (Nat × Blk)) : Bool := isS (una_cursors_Cursor_At l H)
noncomputable def Es_cursors_Cursor_At (_n : Nat) : List Ent := []
theorem Es_ok_cursors_Cursor_At (n : Nat) : ∀ x ∈ Es_cursors_Cursor_At n, EntOK Tryz.prog x := by
  intro x hx
  simp [Es_cursors_Cursor_At] at hx
noncomputable def Ls_cursors_Cursor_At (_n : Nat) : List Sub := []
theorem subs_cursors_Cursor_At (n : Nat) : SubOK Tryz.prog 9 (Ls_cursors_Cursor_At n) (acOf Tryz.f80) := SubOK_of _ (by
  have e : subs (acOf Tryz.f80) = [] := by kernel_rfl
  rw [e]; intro p hp; cases hp)
theorem cert_cursors_Cursor_At (n : Nat) (a0 : List UInt8) (a1 : Int) : run Tryz.prog (Es_cursors_Cursor_At n) (Ls_cursors_Cursor_At n) Tryz.f80.ntmps (acOf Tryz.f80) ⟨argsT [.p 0 0] 0, [(0, .cells [.s a0, .i .i64 a1])], 1, 1, 1, 1⟩ (finK Tryz.prog Tryz.f80.results.toList (funX [] 1 1 1 unr_cursors_Cursor_At)) = cursors_Cursor_At n a0 a1 := by kernel_rfl
theorem fun_cursors_Cursor_At (n : Nat) : ∀ a r, cursors_Cursor_At n a.1 a.2 = some r → FunOK Tryz.prog 80 (arg_cursors_Cursor_At a) (H0_cursors_Cursor_At a) 1 1 1 (out_cursors_Cursor_At r) := fun a r h => funX_ok (ws := []) unr_ok_cursors_Cursor_At hv_cursors_Cursor_At (fun r b blk hl => (chkH_look (hc_cursors_Cursor_At r) b blk hl).2) (fun r => chkH_keys (hc_cursors_Cursor_At r)) (by decide) (Es_ok_cursors_Cursor_At n) Tryz.func80 rfl (acOf_code _) (subs_cursors_Cursor_At n) rfl rfl ((cert_cursors_Cursor_At n a.1 a.2).trans h)
theorem ok_cursors_Cursor_At (n : Nat) : EntOK Tryz.prog (e_cursors_Cursor_At n) := funE_ok (m := 1) (ro := 1) (rb := 1) (out := out_cursors_Cursor_At) (arg := arg_cursors_Cursor_At) (H0 := H0_cursors_Cursor_At) Tryz.call80 (by decide) (by decide) outK_ok_cursors_Cursor_At una_ok_cursors_Cursor_At (fun _ => rfl) (fun a => chkH_look (m := 1) (H := H0_cursors_Cursor_At a) rfl) (fun _ => rfl) (fun r => chkH_keys (hc_cursors_Cursor_At r)) (fun r b blk h => (chkH_look (hc_cursors_Cursor_At r) b blk h).2) (fun r b h1 h2 => hasKeys_ok (hk_cursors_Cursor_At r) b h1 (by omega)) hv_cursors_Cursor_At (fun_cursors_Cursor_At n)

/-! (*circa/cursors.Cursor).Fail -/
noncomputable def arg_cursors_Cursor_Fail (a : Int × Int × List UInt8 × Int) : List V := [.p 0 0, .i .i64 a.1, .i .i64 a.2.1]
noncomputable def H0_cursors_Cursor_Fail (a : Int × Int × List UInt8 × Int) : List (Nat × Blk) := [(0, .cells [.s a.2.2.1, .i .i64 a.2.2.2])]
noncomputable def una_cursors_Cursor_Fail (l : List V) (H : List (Nat × Blk)) : Option ((Int × Int × List UInt8 × Int) × List Nat) := match l with
  | [.p b0 0, .i .i64 a0, .i .i64 a1] => (match Abs.look H b0 with
    | some (.cells [.s a2, .i .i64 a3]) => (cond (Abs.distinct [b0] && true) (some ((a0, a1, a2, a3), [b0])) none)
    | _ => none)
  | _ => none
theorem una_ok_cursors_Cursor_Fail : ∀ l H a ρ, una_cursors_Cursor_Fail l H = some (a, ρ) → ρ.length = 1 ∧ ρ.Nodup ∧ l = V.rens ρ (arg_cursors_Cursor_Fail a) ∧ ∀ b blk, Abs.look (H0_cursors_Cursor_Fail a) b = some blk → Abs.look H (getN ρ b) = some (blk.ren ρ) := by
  intro l H a ρ h
  unfold una_cursors_Cursor_Fail at h
  split at h
  · split at h
    · rename_i e0
      obtain ⟨hd, h⟩ := cond_some h
      simp only [Bool.and_eq_true] at hd
      obtain ⟨hd, _⟩ := hd
      cases h
      exact ⟨rfl, distinct_ok hd, rfl, eachH_look ⟨e0, trivial⟩⟩
    · cases h
  · cases h
noncomputable def out_cursors_Cursor_Fail (r : (Int × Int)) : FOut := (⟨true, .it 91 (.ag [.i .i64 r.1, .i .i64 r.2]), [], []⟩ : FOut)
noncomputable def outK_cursors_Cursor_Fail (α : Type) (r : (Int × Int)) (k : FOut → Option α) : Option α := (k ⟨true, .it 91 (.ag [.i .i64 r.1, .i .i64 r.2]), [], []⟩)
theorem outK_ok_cursors_Cursor_Fail : ∀ α r k, outK_cursors_Cursor_Fail α r k = k (out_cursors_Cursor_Fail r) := by
  intro α r k
  rfl
noncomputable def unr_cursors_Cursor_Fail (pan : Bool) (v : V) (H : List (Nat × Blk)) (nw : List Nat) : Option ((Int × Int)) := match pan, v, H, nw with
  | true, .it 91 (.ag [.i .i64 r0, .i .i64 r1]), [], [] => some (r0, r1)
  | _, _, _, _ => none
theorem unr_ok_cursors_Cursor_Fail : ∀ pan v H nw r, unr_cursors_Cursor_Fail pan v H nw = some r → (out_cursors_Cursor_Fail r).pan = pan ∧ (out_cursors_Cursor_Fail r).news = nw ∧ v = V.ren (upTo 0 1 ++ (out_cursors_Cursor_Fail r).news) (out_cursors_Cursor_Fail r).val ∧ H = renH (upTo 0 1 ++ (out_cursors_Cursor_Fail r).news) (out_cursors_Cursor_Fail r).H := by
  intro pan v H nw r h
  unfold unr_cursors_Cursor_Fail at h
  split at h
  · cases h; exact ⟨rfl, rfl, rfl, rfl⟩
  · cases h
theorem hv_cursors_Cursor_Fail : ∀ r, V.lt (1 + (out_cursors_Cursor_Fail r).news.length) (out_cursors_Cursor_Fail r).val = true := fun r => (by rfl)
theorem hc_cursors_Cursor_Fail : ∀ r, chkH (1 + (out_cursors_Cursor_Fail r).news.length) (out_cursors_Cursor_Fail r).H = true := fun r => (by rfl)
theorem hk_cursors_Cursor_Fail : ∀ r, hasKeys (out_cursors_Cursor_Fail r).H 1 (0 + (out_cursors_Cursor_Fail r).news.length) = true := fun r => (by rfl)
noncomputable def e_cursors_Cursor_Fail (n : Nat) : Ent := funE 79 1 una_cursors_Cursor_Fail (fun a => cursors_Cursor_Fail n a.1 a.2.1 a.2.2.1 a.2.2.2) outK_cursors_Cursor_Fail
noncomputable def t_cursors_Cursor_Fail (l : List V) (H : List (Nat × Blk)) : Bool := isS (una_cursors_Cursor_Fail l H)
noncomputable def Es_cursors_Cursor_Fail (_n : Nat) : List Ent := []
theorem Es_ok_cursors_Cursor_Fail (n : Nat) : ∀ x ∈ Es_cursors_Cursor_Fail n, EntOK Tryz.prog x := by
  intro x hx
  simp [Es_cursors_Cursor_Fail] at hx
noncomputable def Ls_cursors_Cursor_Fail (_n : Nat) : List Sub := []
theorem subs_cursors_Cursor_Fail (n : Nat) : SubOK Tryz.prog 14 (Ls_cursors_Cursor_Fail n) (acOf Tryz.f79) := SubOK_of _ (by
  have e : subs (acOf Tryz.f79) = [] := by kernel_rfl
  rw [e]; intro p hp; cases hp)
theorem cert_cursors_Cursor_Fail (n : Nat) (a0 : Int) (a1 : Int) (a2 : List UInt8) (a3 : Int) : run Tryz.prog (Es_cursors_Cursor_Fail n) (Ls_cursors_Cursor_Fail n) Tryz.f79.ntmps (acOf Tryz.f79) ⟨argsT [.p 0 0, .i .i64 a0, .i .i64 a1] 0, [(0, .cells [.s a2, .i .i64 a3])], 1, 1, 1, 1⟩ (finK Tryz.prog Tryz.f79.results.toList (funX [] 1 1 1 unr_cursors_Cursor_Fail)) = cursors_Cursor_Fail n a0 a1 a2 a3 := by kernel_rfl
theorem fun_cursors_Cursor_Fail (n : Nat) : ∀ a r, cursors_Cursor_Fail n a.1 a.2.1 a.2.2.1 a.2.2.2 = some r → FunOK Tryz.prog 79 (arg_cursors_Cursor_Fail a) (H0_cursors_Cursor_Fail a) 1 1 1 (out_cursors_Cursor_Fail r) := fun a r h => funX_ok (ws := []) unr_ok_cursors_Cursor_Fail hv_cursors_Cursor_Fail (fun r b blk hl => (chkH_look (hc_cursors_Cursor_Fail r) b blk hl).2) (fun r => chkH_keys (hc_cursors_Cursor_Fail r)) (by decide) (Es_ok_cursors_Cursor_Fail n) Tryz.func79 rfl (acOf_code _) (subs_cursors_Cursor_Fail n) rfl rfl ((cert_cursors_Cursor_Fail n a.1 a.2.1 a.2.2.1 a.2.2.2).trans h)
theorem ok_cursors_Cursor_Fail (n : Nat) : EntOK Tryz.prog (e_cursors_Cursor_Fail n) := funE_ok (m := 1) (ro := 1) (rb := 1) (out := out_cursors_Cursor_Fail) (arg := arg_cursors_Cursor_Fail) (H0 := H0_cursors_Cursor_Fail) Tryz.call79 (by decide) (by decide) outK_ok_cursors_Cursor_Fail una_ok_cursors_Cursor_Fail (fun _ => rfl) (fun a => chkH_look (m := 1) (H := H0_cursors_Cursor_Fail a) rfl) (fun _ => rfl) (fun r => chkH_keys (hc_cursors_Cursor_Fail r)) (fun r b blk h => (chkH_look (hc_cursors_Cursor_Fail r) b blk h).2) (fun r b h1 h2 => hasKeys_ok (hk_cursors_Cursor_Fail r) b h1 (by omega)) hv_cursors_Cursor_Fail (fun_cursors_Cursor_Fail n)

/-! (*circa/cursors.Cursor).One -/
noncomputable def arg_cursors_Cursor_One (a : List UInt8 × List UInt8 × Int) : List V := [.p 0 0, .s a.1]
noncomputable def H0_cursors_Cursor_One (a : List UInt8 × List UInt8 × Int) : List (Nat × Blk) := [(0, .cells [.s a.2.1, .i .i64 a.2.2])]
noncomputable def una_cursors_Cursor_One (l : List V) (H : List (Nat × Blk)) : Option ((List UInt8 × List UInt8 × Int) × List Nat) := match l with
  | [.p b0 0, .s a0] => (match Abs.look H b0 with
    | some (.cells [.s a1, .i .i64 a2]) => (cond (Abs.distinct [b0] && true) (some ((a0, a1, a2), [b0])) none)
    | _ => none)
  | _ => none
theorem una_ok_cursors_Cursor_One : ∀ l H a ρ, una_cursors_Cursor_One l H = some (a, ρ) → ρ.length = 1 ∧ ρ.Nodup ∧ l = V.rens ρ (arg_cursors_Cursor_One a) ∧ ∀ b blk, Abs.look (H0_cursors_Cursor_One a) b = some blk → Abs.look H (getN ρ b) = some (blk.ren ρ) := by
  intro l H a ρ h
  unfold una_cursors_Cursor_One at h
  split at h
  · split at h
    · rename_i e0
      obtain ⟨hd, h⟩ := cond_some h
      simp only [Bool.and_eq_true] at hd
      obtain ⟨hd, _⟩ := hd
      cases h
      exact ⟨rfl, distinct_ok hd, rfl, eachH_look ⟨e0, trivial⟩⟩
    · cases h
  · cases h
noncomputable def out_cursors_Cursor_One (r : (Int × Int × List UInt8 × Int) ⊕ (Int × List UInt8 × Int)) : FOut := (Sum.casesOn (motive := fun _ => FOut) r (fun a0 => (⟨true, .it 91 (.ag [.i .i64 a0.1, .i .i64 a0.2.1]), [(0, .cells [.s a0.2.2.1, .i .i64 a0.2.2.2])], []⟩ : FOut)) (fun b0 => (⟨false, .i .u8 b0.1, [(0, .cells [.s b0.2.1, .i .i64 b0.2.2])], []⟩ : FOut)))
noncomputable def outK_cursors_Cursor_One (α : Type) (r : (Int × Int × List UInt8 × Int) ⊕ (Int × List UInt8 × Int)) (k : FOut → Option α) : Option α := (Sum.casesOn (motive := fun _ => Option α) r (fun a0 => (k ⟨true, .it 91 (.ag [.i .i64 a0.1, .i .i64 a0.2.1]), [(0, .cells [.s a0.2.2.1, .i .i64 a0.2.2.2])], []⟩)) (fun b0 => (k ⟨false, .i .u8 b0.1, [(0, .cells [.s b0.2.1, .i .i64 b0.2.2])], []⟩)))
theorem outK_ok_cursors_Cursor_One : ∀ α r k, outK_cursors_Cursor_One α r k = k (out_cursors_Cursor_One r) := by
  intro α r k
  rcases r with r | r <;> rfl
noncomputable def unr_cursors_Cursor_One (pan : Bool) (v : V) (H : List (Nat × Blk)) (nw : List Nat) : Option ((Int × Int × List UInt8 × Int) ⊕ (Int × List UInt8 × Int)) := match pan, v, H, nw with
  | true, .it 91 (.ag [.i .i64 r0, .i .i64 r1]), [(0, .cells [.s r2, .i .i64 r3])], [] => some (.inl (r0, r1, r2, r3))
  | false, .i .u8 r0, [(0, .cells [.s r1, .i .i64 r2])], [] => some (.inr (r0, r1, r2))
  | _, _, _, _ => none
theorem unr_ok_cursors_Cursor_One : ∀ pan v H nw r, unr_cursors_Cursor_One pan v H nw = some r → (out_cursors_Cursor_One r).pan = pan ∧ (out_cursors_Cursor_One r).news = nw ∧ v = V.ren (upTo 0 1 ++ (out_cursors_Cursor_One r).news) (out_cursors_Cursor_One r).val ∧ H = renH (upTo 0 1 ++ (out_cursors_Cursor_One r).news) (out_cursors_Cursor_One r).H := by
  intro pan v H nw r h
  unfold unr_cursors_Cursor_One at h
  split at h
  · cases h; exact ⟨rfl, rfl, rfl, rfl⟩
  · cases h; exact ⟨rfl, rfl, rfl, rfl⟩
  · cases h
theorem hv_cursors_Cursor_One : ∀ r, V.lt (1 + (out_cursors_Cursor_One r).news.length) (out_cursors_Cursor_One r).val = true := fun r => (by rcases r with r | r <;> rfl)
theorem hc_cursors_Cursor_One : ∀ r, chkH (1 + (out_cursors_Cursor_One r).news.length) (out_cursors_Cursor_One r).H = true := fun r => (by rcases r with r | r <;> rfl)
theorem hk_cursors_Cursor_One : ∀ r, hasKeys (out_cursors_Cursor_One r).H 0 (1 + (out_cursors_Cursor_One r).news.length) = true := fun r => (by rcases r with r | r <;> rfl)
noncomputable def e_cursors_Cursor_One (n : Nat) : Ent := funE 52 1 una_cursors_Cursor_One (fun a => cursors_Cursor_One n a.1 a.2.1 a.2.2) outK_cursors_Cursor_One
noncomputable def t_cursors_Cursor_One (l : List V) (H : List (Nat × Blk)) : Bool := isS (una_cursors_Cursor_One l H)
noncomputable def Es_cursors_Cursor_One (n : Nat) : List Ent := [e_cursors_Cursor_Peek n, e_cursors_Cursor_At n, e_cursors_Cursor_Fail n, e_strings_IndexByte n]
theorem Es_ok_cursors_Cursor_One (n : Nat) : ∀ x ∈ Es_cursors_Cursor_One n, EntOK Tryz.prog x := by
  intro x hx
  simp only [Es_cursors_Cursor_One, List.mem_cons, List.not_mem_nil, or_false] at hx
  rcases hx with hx | hx | hx | hx
  · rw [hx]; exact ok_cursors_Cursor_Peek n
  · rw [hx]; exact ok_cursors_Cursor_At n
  · rw [hx]; exact ok_cursors_Cursor_Fail n
  · rw [hx]; exact ok_strings_IndexByte n
noncomputable def Ls_cursors_Cursor_One (_n : Nat) : List Sub := []
theorem subs_cursors_Cursor_One (n : Nat) : SubOK Tryz.prog 32 (Ls_cursors_Cursor_One n) (acOf Tryz.f52) := SubOK_of _ (by
  have e : subs (acOf Tryz.f52) = [] := by kernel_rfl
  rw [e]; intro p hp; cases hp)
theorem cert_cursors_Cursor_One (n : Nat) (a0 : List UInt8) (a1 : List UInt8) (a2 : Int) : run Tryz.prog (Es_cursors_Cursor_One n) (Ls_cursors_Cursor_One n) Tryz.f52.ntmps (acOf Tryz.f52) ⟨argsT [.p 0 0, .s a0] 0, [(0, .cells [.s a1, .i .i64 a2])], 1, 1, 0, 1⟩ (finK Tryz.prog Tryz.f52.results.toList (funX [0] 1 0 1 unr_cursors_Cursor_One)) = cursors_Cursor_One n a0 a1 a2 := by kernel_rfl
theorem fun_cursors_Cursor_One (n : Nat) : ∀ a r, cursors_Cursor_One n a.1 a.2.1 a.2.2 = some r → FunOK Tryz.prog 52 (arg_cursors_Cursor_One a) (H0_cursors_Cursor_One a) 1 0 1 (out_cursors_Cursor_One r) := fun a r h => funX_ok (ws := [0]) unr_ok_cursors_Cursor_One hv_cursors_Cursor_One (fun r b blk hl => (chkH_look (hc_cursors_Cursor_One r) b blk hl).2) (fun r => chkH_keys (hc_cursors_Cursor_One r)) (by decide) (Es_ok_cursors_Cursor_One n) Tryz.func52 rfl (acOf_code _) (subs_cursors_Cursor_One n) rfl rfl ((cert_cursors_Cursor_One n a.1 a.2.1 a.2.2).trans h)
theorem ok_cursors_Cursor_One (n : Nat) : EntOK Tryz.prog (e_cursors_Cursor_One n) := funE_ok (m := 1) (ro := 0) (rb := 1) (out := out_cursors_Cursor_One) (arg := arg_cursors_Cursor_One) (H0 := H0_cursors_Cursor_One) Tryz.call52 (by decide) (by decide) outK_ok_cursors_Cursor_One una_ok_cursors_Cursor_One (fun _ => rfl) (fun a => chkH_look (m := 1) (H := H0_cursors_Cursor_One a) rfl) (fun _ => rfl) (fun r => chkH_keys (hc_cursors_Cursor_One r)) (fun r b blk h => (chkH_look (hc_cursors_Cursor_One r) b blk h).2) (fun r b h1 h2 => hasKeys_ok (hk_cursors_Cursor_One r) b h1 (by omega)) hv_cursors_Cursor_One (fun_cursors_Cursor_One n)

/-! (*circa/cursors.Cursor).Some -/
noncomputable def arg_cursors_Cursor_Some (a : List UInt8 × Int × Int × List UInt8 × Int) : List V := [.p 0 0, .s a.1, .i .i64 a.2.1, .i .i64 a.2.2.1]
noncomputable def H0_cursors_Cursor_Some (a : List UInt8 × Int × Int × List UInt8 × Int) : List (Nat × Blk) := [(0, .cells [.s a.2.2.2.1, .i .i64 a.2.2.2.2])]
noncomputable def una_cursors_Cursor_Some (l : List V) (H : List (Nat × Blk)) : Option ((List UInt8 × Int × Int × List UInt8 × Int) × List Nat) := match l with
  | [.p b0 0, .s a0, .i .i64 a1, .i .i64 a2] => (match Abs.look H b0 with
    | some (.cells [.s a3, .i .i64 a4]) => (cond (Abs.distinct [b0] && true) (some ((a0, a1, a2, a3, a4), [b0])) none)
    | _ => none)
  | _ => none
theorem una_ok_cursors_Cursor_Some : ∀ l H a ρ, una_cursors_Cursor_Some l H = some (a, ρ) → ρ.length = 1 ∧ ρ.Nodup ∧ l = V.rens ρ (arg_cursors_Cursor_Some a) ∧ ∀ b blk, Abs.look (H0_cursors_Cursor_Some a) b = some blk → Abs.look H (getN ρ b) = some (blk.ren ρ) := by
  intro l H a ρ h
  unfold una_cursors_Cursor_Some at h
  split at h
  · split at h
    · rename_i e0
      obtain ⟨hd, h⟩ := cond_some h
      simp only [Bool.and_eq_true] at hd
      obtain ⟨hd, _⟩ := hd
      cases h
      exact ⟨rfl, distinct_ok hd, rfl, eachH_look ⟨e0, trivial⟩⟩
    · cases h
  · cases h
noncomputable def out_cursors_Cursor_Some (r : (Int × Int × List UInt8 × Int) ⊕ (List UInt8 × List UInt8 × Int)) : FOut := (Sum.casesOn (motive := fun _ => FOut) r (fun a0 => (⟨true, .it 91 (.ag [.i .i64 a0.1, .i .i64 a0.2.1]), [(0, .cells [.s a0.2.2.1, .i .i64 a0.2.2.2])], []⟩ : FOut)) (fun b0 => (⟨false, .s b0.1, [(0, .cells [.s b0.2.1, .i .i64 b0.2.2])], []⟩ : FOut)))
noncomputable def outK_cursors_Cursor_Some (α : Type) (r : (Int × Int × List UInt8 × Int) ⊕ (List UInt8 × List UInt8 × Int)) (k : FOut → Option α) : Option α := (Sum.casesOn (motive := fun _ => Option α) r (fun a0 => (k ⟨true, .it 91 (.ag [.i .i64 a0.1, .i .i64 a0.2.1]), [(0, .cells [.s a0.2.2.1, .i .i64 a0.2.2.2])], []⟩)) (fun b0 => (k ⟨false, .s b0.1, [(0, .cells [.s b0.2.1, .i .i64 b0.2.2])], []⟩)))
theorem outK_ok_cursors_Cursor_Some : ∀ α r k, outK_cursors_Cursor_Some α r k = k (out_cursors_Cursor_Some r) := by
  intro α r k
  rcases r with r | r <;> rfl
noncomputable def unr_cursors_Cursor_Some (pan : Bool) (v : V) (H : List (Nat × Blk)) (nw : List Nat) : Option ((Int × Int × List UInt8 × Int) ⊕ (List UInt8 × List UInt8 × Int)) := match pan, v, H, nw with
  | true, .it 91 (.ag [.i .i64 r0, .i .i64 r1]), [(0, .cells [.s r2, .i .i64 r3])], [] => some (.inl (r0, r1, r2, r3))
  | false, .s r0, [(0, .cells [.s r1, .i .i64 r2])], [] => some (.inr (r0, r1, r2))
  | _, _, _, _ => none
theorem unr_ok_cursors_Cursor_Some : ∀ pan v H nw r, unr_cursors_Cursor_Some pan v H nw = some r → (out_cursors_Cursor_Some r).pan = pan ∧ (out_cursors_Cursor_Some r).news = nw ∧ v = V.ren (upTo 0 1 ++ (out_cursors_Cursor_Some r).news) (out_cursors_Cursor_Some r).val ∧ H = renH (upTo 0 1 ++ (out_cursors_Cursor_Some r).news) (out_cursors_Cursor_Some r).H := by
  intro pan v H nw r h
  unfold unr_cursors_Cursor_Some at h
  split at h
  · cases h; exact ⟨rfl, rfl, rfl, rfl⟩
  · cases h; exact ⟨rfl, rfl, rfl, rfl⟩
  · cases h
theorem hv_cursors_Cursor_Some : ∀ r, V.lt (1 + (out_cursors_Cursor_Some r).news.length) (out_cursors_Cursor_Some r).val = true := fun r => (by rcases r with r | r <;> rfl)
theorem hc_cursors_Cursor_Some : ∀ r, chkH (1 + (out_cursors_Cursor_Some r).news.length) (out_cursors_Cursor_Some r).H = true := fun r => (by rcases r with r | r <;> rfl)
theorem hk_cursors_Cursor_Some : ∀ r, hasKeys (out_cursors_Cursor_Some r).H 0 (1 + (out_cursors_Cursor_Some r).news.length) = true := fun r => (by rcases r with r | r <;> rfl)
noncomputable def e_cursors_Cursor_Some (n : Nat) : Ent := funE 53 1 una_cursors_Cursor_Some (fun a => cursors_Cursor_Some n a.1 a.2.1 a.2.2.1 a.2.2.2.1 a.2.2.2.2) outK_cursors_Cursor_Some
noncomputable def t_cursors_Cursor_Some (l : List V) (H : List (Nat × Blk)) : Bool := isS (una_cursors_Cursor_Some l H)
noncomputable def Es_cursors_Cursor_Some (n : Nat) : List Ent := [e_cursors_Cursor_At n, e_cursors_Cursor_Peek n, e_strings_IndexByte n, e_cursors_Cursor_Fail n]
theorem Es_ok_cursors_Cursor_Some (n : Nat) : ∀ x ∈ Es_cursors_Cursor_Some n, EntOK Tryz.prog x := by
  intro x hx
  simp only [Es_cursors_Cursor_Some, List.mem_cons, List.not_mem_nil, or_false] at hx
  rcases hx with hx | hx | hx | hx
  · rw [hx]; exact ok_cursors_Cursor_At n
  · rw [hx]; exact ok_cursors_Cursor_Peek n
  · rw [hx]; exact ok_strings_IndexByte n
  · rw [hx]; exact ok_cursors_Cursor_Fail n
noncomputable def an_cursors_Cursor_Some_l0 : Ann := ⟨[0, 1, 2, 3, 9, 10, 11], [0], 1, []⟩
noncomputable def emb_cursors_Cursor_Some_l0 (x : List UInt8 × Int × Int × Int × Int × Bool × List UInt8 × Int) : St := ⟨[(0, some (.p 0 0)), (1, some (.s x.1)), (2, some (.i .i64 x.2.1)), (3, some (.i .i64 x.2.2.1)), (9, some (.i .i64 x.2.2.2.1)), (10, some (.i .u8 x.2.2.2.2.1)), (11, some (.b x.2.2.2.2.2.1))], [(0, .cells [.s x.2.2.2.2.2.2.1, .i .i64 x.2.2.2.2.2.2.2])], 1, 1, 0, 1⟩
noncomputable def un_cursors_Cursor_Some_l0 (s : St) : Option (List UInt8 × Int × Int × Int × Int × Bool × List UInt8 × Int) := match s with
  | ⟨[(0, some (.p 0 0)), (1, some (.s x0)), (2, some (.i .i64 x1)), (3, some (.i .i64 x2)), (9, some (.i .i64 x3)), (10, some (.i .u8 x4)), (11, some (.b x5))], [(0, .cells [.s x6, .i .i64 x7])], 1, 1, 0, 1⟩ => some (x0, x1, x2, x3, x4, x5, x6, x7)
  | _ => none
theorem un_ok_cursors_Cursor_Some_l0 : ∀ s x, un_cursors_Cursor_Some_l0 s = some x → s = emb_cursors_Cursor_Some_l0 x := by
  intro s x h
  unfold un_cursors_Cursor_Some_l0 at h
  split at h
  · cases h; rfl
  · cases h
noncomputable def ax_cursors_Cursor_Some_l0 : Ex → Ann := fun ex => match ex with
  | .exit 0 => ⟨[0, 2, 9], [0], 1, []⟩
  | _ => ⟨[], [], 0, []⟩
noncomputable def out_cursors_Cursor_Some_l0 (y : (Int × Int × List UInt8 × Int)) : Ex × St := (.exit 0, ⟨[(0, some (.p 0 0)), (2, some (.i .i64 y.1)), (9, some (.i .i64 y.2.1))], [(0, .cells [.s y.2.2.1, .i .i64 y.2.2.2])], 1, 1, 0, 1⟩)
noncomputable def outK_cursors_Cursor_Some_l0 (α : Type) (y : (Int × Int × List UInt8 × Int)) (k : Ex → St → Option α) : Option α := (k (.exit 0) ⟨[(0, some (.p 0 0)), (2, some (.i .i64 y.1)), (9, some (.i .i64 y.2.1))], [(0, .cells [.s y.2.2.1, .i .i64 y.2.2.2])], 1, 1, 0, 1⟩)
theorem outK_ok_cursors_Cursor_Some_l0 : ∀ α y k, outK_cursors_Cursor_Some_l0 α y k = k (out_cursors_Cursor_Some_l0 y).1 (out_cursors_Cursor_Some_l0 y).2 := by
  intro α y k
  rfl
noncomputable def ux_cursors_Cursor_Some_l0 (ex : Ex) (s : St) : Option ((Int × Int × List UInt8 × Int)) := match ex, s with
  | .exit 0, ⟨[(0, some (.p 0 0)), (2, some (.i .i64 y0)), (9, some (.i .i64 y1))], [(0, .cells [.s y2, .i .i64 y3])], 1, 1, 0, 1⟩ => some (y0, y1, y2, y3)
  | _, _ => none
theorem ux_ok_cursors_Cursor_Some_l0 : ∀ ex s y, ux_cursors_Cursor_Some_l0 ex s = some y → (ex, s) = out_cursors_Cursor_Some_l0 y := by
  intro ex s y h
  unfold ux_cursors_Cursor_Some_l0 at h
  split at h
  · cases h; rfl
  · cases h
noncomputable def Ls_cursors_Cursor_Some (n : Nat) : List Sub := [subE 0 an_cursors_Cursor_Some_l0 un_cursors_Cursor_Some_l0 (fun x => iterL (cursors_Cursor_Some_l0 n) n x) outK_cursors_Cursor_Some_l0]
noncomputable def sac_cursors_Cursor_Some_l0 : AC := getS (subs (acOf Tryz.f53)) 0
noncomputable def ac_cursors_Cursor_Some_l0 : AC := AC.body sac_cursors_Cursor_Some_l0
theorem subs_cursors_Cursor_Some_l0 (n : Nat) : SubOK Tryz.prog 70 (Ls_cursors_Cursor_Some n) ac_cursors_Cursor_Some_l0 := SubOK_of _ (by
  have e : subs ac_cursors_Cursor_Some_l0 = [] := by kernel_rfl
  rw [e]; intro p hp; cases hp)
theorem body_cursors_Cursor_Some_l0 (n : Nat) : ∀ x, run Tryz.prog (Es_cursors_Cursor_Some n) (Ls_cursors_Cursor_Some n) 70 ac_cursors_Cursor_Some_l0 (emb_cursors_Cursor_Some_l0 x) (roundK an_cursors_Cursor_Some_l0 un_cursors_Cursor_Some_l0 ax_cursors_Cursor_Some_l0 ux_cursors_Cursor_Some_l0) = cursors_Cursor_Some_l0 n x := fun _ => by kernel_rfl
theorem sub1_cursors_Cursor_Some_l0 (n : Nat) : ∀ (α : Type) (s : St) (k : Ex → St → Option α) (z : α), (subE 0 an_cursors_Cursor_Some_l0 un_cursors_Cursor_Some_l0 (fun x => iterL (cursors_Cursor_Some_l0 n) n x) outK_cursors_Cursor_Some_l0).e α s k = some z → SemC Tryz.prog 70 (sac_cursors_Cursor_Some_l0).code s fun ex s' => k ex s' = some z := by
  intro α s k z h
  have e : sac_cursors_Cursor_Some_l0 = .loop ac_cursors_Cursor_Some_l0 := by kernel_rfl
  rw [e]
  exact subE_ok (m := 0) (f := fun x => iterL (cursors_Cursor_Some_l0 n) n x) (out := out_cursors_Cursor_Some_l0) outK_ok_cursors_Cursor_Some_l0 un_ok_cursors_Cursor_Some_l0 (fun x y hy => loop_ok (Es_ok_cursors_Cursor_Some n) (subs_cursors_Cursor_Some_l0 n) un_ok_cursors_Cursor_Some_l0 ux_ok_cursors_Cursor_Some_l0 (body_cursors_Cursor_Some_l0 n) n x y hy) h
theorem sub_cursors_Cursor_Some_l0 (n : Nat) : SubSt Tryz.prog 70 (Ls_cursors_Cursor_Some n) 0 sac_cursors_Cursor_Some_l0 := fun α s k z => sub1_cursors_Cursor_Some_l0 n α s k z
theorem subs_cursors_Cursor_Some (n : Nat) : SubOK Tryz.prog 70 (Ls_cursors_Cursor_Some n) (acOf Tryz.f53) := SubOK_of _ (by
  have e : subs (acOf Tryz.f53) = [(0, sac_cursors_Cursor_Some_l0)] := by kernel_rfl
  rw [e]; intro p hp
  simp only [List.mem_cons, List.not_mem_nil, or_false] at hp
  · rw [hp]; exact sub_cursors_Cursor_Some_l0 n
  )
theorem cert_cursors_Cursor_Some (n : Nat) (a0 : List UInt8) (a1 : Int) (a2 : Int) (a3 : List UInt8) (a4 : Int) : run Tryz.prog (Es_cursors_Cursor_Some n) (Ls_cursors_Cursor_Some n) Tryz.f53.ntmps (acOf Tryz.f53) ⟨argsT [.p 0 0, .s a0, .i .i64 a1, .i .i64 a2] 0, [(0, .cells [.s a3, .i .i64 a4])], 1, 1, 0, 1⟩ (finK Tryz.prog Tryz.f53.results.toList (funX [0] 1 0 1 unr_cursors_Cursor_Some)) = cursors_Cursor_Some n a0 a1 a2 a3 a4 := by kernel_rfl
theorem fun_cursors_Cursor_Some (n : Nat) : ∀ a r, cursors_Cursor_Some n a.1 a.2.1 a.2.2.1 a.2.2.2.1 a.2.2.2.2 = some r → FunOK Tryz.prog 53 (arg_cursors_Cursor_Some a) (H0_cursors_Cursor_Some a) 1 0 1 (out_cursors_Cursor_Some r) := fun a r h => funX_ok (ws := [0]) unr_ok_cursors_Cursor_Some hv_cursors_Cursor_Some (fun r b blk hl => (chkH_look (hc_cursors_Cursor_Some r) b blk hl).2) (fun r => chkH_keys (hc_cursors_Cursor_Some r)) (by decide) (Es_ok_cursors_Cursor_Some n) Tryz.func53 rfl (acOf_code _) (subs_cursors_Cursor_Some n) rfl rfl ((cert_cursors_Cursor_Some n a.1 a.2.1 a.2.2.1 a.2.2.2.1 a.2.2.2.2).trans h)
theorem ok_cursors_Cursor_Some (n : Nat) : EntOK Tryz.prog (e_cursors_Cursor_Some n) := funE_ok (m := 1) (ro := 0) (rb := 1) (out := out_cursors_Cursor_Some) (arg := arg_cursors_Cursor_Some) (H0 := H0_cursors_Cursor_Some) Tryz.call53 (by decide) (by decide) outK_ok_cursors_Cursor_Some una_ok_cursors_Cursor_Some (fun _ => rfl) (fun a => chkH_look (m := 1) (H := H0_cursors_Cursor_Some a) rfl) (fun _ => rfl) (fun r => chkH_keys (hc_cursors_Cursor_Some r)) (fun r b blk h => (chkH_look (hc_cursors_Cursor_Some r) b blk h).2) (fun r b h1 h2 => hasKeys_ok (hk_cursors_Cursor_Some r) b h1 (by omega)) hv_cursors_Cursor_Some (fun_cursors_Cursor_Some n)

noncomputable def e_lib_54 (_n : Nat) : Ent := atoiE 54
theorem ok_lib_54 (n : Nat) : EntOK Tryz.prog (e_lib_54 n) := atoiE_ok Tryz.call54 fun s n hl h w => (Tryz.strconv_Atoi s n hl h w).mono fun e w' ⟨h1, t, h2⟩ => ⟨h1, h2 ▸ bytesWorld_below _ _ _⟩

end Go.Sh
