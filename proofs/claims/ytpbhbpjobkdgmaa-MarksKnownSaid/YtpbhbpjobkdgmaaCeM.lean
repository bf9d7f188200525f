/- Each function of the program computes its plain function: the certificates.
   Conditions: none. Printed by the bench tool gen.py. -/
import Derived.Test.YtpbhbpjobkdgmaaShM
import Derived.Test.YtpbhbpjobkdgmaaProg
import Derived.KernelRfl
set_option linter.unusedVariables false
set_option maxRecDepth 100000
namespace Go.Sh
open Go.Abs Go.Proofs

/-! circa/circaref13.All -/
noncomputable def arg_circaref13_All (a : List Int × Int) : List V := [.ai .u8 3 a.1, .i .i64 a.2]
noncomputable def una_circaref13_All (l : List V) : Option (List Int × Int) := match l with
  | [.ai .u8 3 a0, .i .i64 a1] => some (a0, a1)
  | _ => none
theorem una_ok_circaref13_All : ∀ l a, una_circaref13_All l = some a → l = arg_circaref13_All a := by
  intro l a h
  unfold una_circaref13_All at h
  split at h
  · cases h; rfl
  · cases h
noncomputable def enc_circaref13_All (r : Int) : V := .i .i64 r
noncomputable def unr_circaref13_All (v : V) : Option (Int) := match v with
  | .i .i64 r0 => some r0
  | _ => none
theorem unr_ok_circaref13_All : ∀ v r, unr_circaref13_All v = some r → v = enc_circaref13_All r := by
  intro v r h
  unfold unr_circaref13_All at h
  split at h
  · cases h; rfl
  · cases h
noncomputable def e_circaref13_All (n : Nat) : Ent := pureE 15 una_circaref13_All (fun a => circaref13_All n a.1 a.2) enc_circaref13_All
noncomputable def t_circaref13_All (l : List V) (_ : List (Nat × Blk)) : Bool := isS (una_circaref13_All l)
noncomputable def Es_circaref13_All (_n : Nat) : List Ent := []
theorem Es_ok_circaref13_All (n : Nat) : ∀ x ∈ Es_circaref13_All n, EntOK Try.prog x := by
  intro x hx
  simp [Es_circaref13_All] at hx
noncomputable def an_circaref13_All_l0 : Ann := ⟨[1, 2, 5], [0], 1⟩
noncomputable def emb_circaref13_All_l0 (x : Int × Int × List Int) : St := ⟨[(1, some (.i .i64 x.1)), (2, some (.p 0 0)), (5, some (.i .i64 x.2.1))], [(0, .ints .u8 3 x.2.2)], 1, 0, 0⟩
noncomputable def un_circaref13_All_l0 (s : St) : Option (Int × Int × List Int) := match s with
  | ⟨[(1, some (.i .i64 x0)), (2, some (.p 0 0)), (5, some (.i .i64 x1))], [(0, .ints .u8 3 x2)], 1, 0, 0⟩ => some (x0, x1, x2)
  | _ => none
theorem un_ok_circaref13_All_l0 : ∀ s x, un_circaref13_All_l0 s = some x → s = emb_circaref13_All_l0 x := by
  intro s x h
  unfold un_circaref13_All_l0 at h
  split at h
  · cases h; rfl
  · cases h
noncomputable def ax_circaref13_All_l0 : Ex → Ann := fun ex => match ex with
  | .ret => ⟨[4], [], 1⟩
  | .exit 0 => ⟨[], [], 1⟩
  | _ => ⟨[], [], 0⟩
noncomputable def out_circaref13_All_l0 (y : Int ⊕ Unit) : Ex × St := (Sum.casesOn (motive := fun _ => Ex × St) y (fun a0 => (.ret, ⟨[(4, some (.i .i64 a0))], [], 1, 0, 0⟩)) (fun b0 => (.exit 0, ⟨[], [], 1, 0, 0⟩)))
noncomputable def outK_circaref13_All_l0 (α : Type) (y : Int ⊕ Unit) (k : Ex → St → Option α) : Option α := (Sum.casesOn (motive := fun _ => Option α) y (fun a0 => (k (.ret) ⟨[(4, some (.i .i64 a0))], [], 1, 0, 0⟩)) (fun b0 => (k (.exit 0) ⟨[], [], 1, 0, 0⟩)))
theorem outK_ok_circaref13_All_l0 : ∀ α y k, outK_circaref13_All_l0 α y k = k (out_circaref13_All_l0 y).1 (out_circaref13_All_l0 y).2 := by
  intro α y k
  rcases y with y | y <;> rfl
noncomputable def ux_circaref13_All_l0 (ex : Ex) (s : St) : Option (Int ⊕ Unit) := match ex, s with
  | .ret, ⟨[(4, some (.i .i64 y0))], [], 1, 0, 0⟩ => some (.inl y0)
  | .exit 0, ⟨[], [], 1, 0, 0⟩ => some (.inr ())
  | _, _ => none
theorem ux_ok_circaref13_All_l0 : ∀ ex s y, ux_circaref13_All_l0 ex s = some y → (ex, s) = out_circaref13_All_l0 y := by
  intro ex s y h
  unfold ux_circaref13_All_l0 at h
  split at h
  · cases h; rfl
  · cases h; rfl
  · cases h
noncomputable def Ls_circaref13_All (n : Nat) : List Sub := [subE 0 an_circaref13_All_l0 un_circaref13_All_l0 (fun x => iterL (circaref13_All_l0 n) n x) outK_circaref13_All_l0]
noncomputable def sac_circaref13_All_l0 : AC := getS (subs (acOf Try.f15)) 0
noncomputable def ac_circaref13_All_l0 : AC := AC.body sac_circaref13_All_l0
theorem subs_circaref13_All_l0 (n : Nat) : SubOK Try.prog 31 (Ls_circaref13_All n) ac_circaref13_All_l0 := SubOK_of _ (by
  have e : subs ac_circaref13_All_l0 = [] := by kernel_rfl
  rw [e]; intro p hp; cases hp)
theorem body_circaref13_All_l0 (n : Nat) : ∀ x, run Try.prog (Es_circaref13_All n) (Ls_circaref13_All n) 31 ac_circaref13_All_l0 (emb_circaref13_All_l0 x) (roundK an_circaref13_All_l0 un_circaref13_All_l0 ax_circaref13_All_l0 ux_circaref13_All_l0) = circaref13_All_l0 n x := fun _ => by kernel_rfl
theorem sub1_circaref13_All_l0 (n : Nat) : ∀ (α : Type) (s : St) (k : Ex → St → Option α) (z : α), (subE 0 an_circaref13_All_l0 un_circaref13_All_l0 (fun x => iterL (circaref13_All_l0 n) n x) outK_circaref13_All_l0).e α s k = some z → SemC Try.prog 31 (sac_circaref13_All_l0).code s fun ex s' => k ex s' = some z := by
  intro α s k z h
  have e : sac_circaref13_All_l0 = .loop ac_circaref13_All_l0 := by kernel_rfl
  rw [e]
  exact subE_ok (m := 0) (f := fun x => iterL (circaref13_All_l0 n) n x) (out := out_circaref13_All_l0) outK_ok_circaref13_All_l0 un_ok_circaref13_All_l0 (fun x y hy => loop_ok (Es_ok_circaref13_All n) (subs_circaref13_All_l0 n) un_ok_circaref13_All_l0 ux_ok_circaref13_All_l0 (body_circaref13_All_l0 n) n x y hy) h
theorem sub_circaref13_All_l0 (n : Nat) : SubSt Try.prog 31 (Ls_circaref13_All n) 0 sac_circaref13_All_l0 := fun α s k z => sub1_circaref13_All_l0 n α s k z
theorem subs_circaref13_All (n : Nat) : SubOK Try.prog 31 (Ls_circaref13_All n) (acOf Try.f15) := SubOK_of _ (by
  have e : subs (acOf Try.f15) = [(0, sac_circaref13_All_l0)] := by kernel_rfl
  rw [e]; intro p hp
  simp only [List.mem_cons, List.not_mem_nil, or_false] at hp
  · rw [hp]; exact sub_circaref13_All_l0 n
  )
theorem cert_circaref13_All (n : Nat) (a0 : List Int) (a1 : Int) : run Try.prog (Es_circaref13_All n) (Ls_circaref13_All n) Try.f15.ntmps (acOf Try.f15) ⟨argsT [.ai .u8 3 a0, .i .i64 a1] 0, [], 0, 0, 0⟩ (finK Try.prog Try.f15.results.toList (retX unr_circaref13_All)) = circaref13_All n a0 a1 := by kernel_rfl
theorem pure_circaref13_All (n : Nat) : ∀ a r, circaref13_All n a.1 a.2 = some r → PureOK Try.prog 15 (arg_circaref13_All a) (enc_circaref13_All r) := fun a r h => pureX_ok unr_ok_circaref13_All (Es_ok_circaref13_All n) Try.func15 rfl (acOf_code _) (subs_circaref13_All n) rfl ((cert_circaref13_All n a.1 a.2).trans h)
theorem ok_circaref13_All (n : Nat) : EntOK Try.prog (e_circaref13_All n) := pureE_ok Try.call15 una_ok_circaref13_All (fun _ => rfl) (pure_circaref13_All n)

/-! circa/marks.Check -/
noncomputable def arg_marks_Check (a : Int) : List V := [.i .u8 a]
noncomputable def una_marks_Check (l : List V) : Option (Int) := match l with
  | [.i .u8 a0] => some a0
  | _ => none
theorem una_ok_marks_Check : ∀ l a, una_marks_Check l = some a → l = arg_marks_Check a := by
  intro l a h
  unfold una_marks_Check at h
  split at h
  · cases h; rfl
  · cases h
noncomputable def enc_marks_Check (r : Int) : V := .i .i64 r
noncomputable def unr_marks_Check (v : V) : Option (Int) := match v with
  | .i .i64 r0 => some r0
  | _ => none
theorem unr_ok_marks_Check : ∀ v r, unr_marks_Check v = some r → v = enc_marks_Check r := by
  intro v r h
  unfold unr_marks_Check at h
  split at h
  · cases h; rfl
  · cases h
noncomputable def e_marks_Check (n : Nat) : Ent := pureE 28 una_marks_Check (fun a => marks_Check n a) enc_marks_Check
noncomputable def t_marks_Check (l : List V) (_ : List (Nat × Blk)) : Bool := isS (una_marks_Check l)
noncomputable def Es_marks_Check (_n : Nat) : List Ent := []
theorem Es_ok_marks_Check (n : Nat) : ∀ x ∈ Es_marks_Check n, EntOK Try.prog x := by
  intro x hx
  simp [Es_marks_Check] at hx
noncomputable def Ls_marks_Check (_n : Nat) : List Sub := []
theorem subs_marks_Check (n : Nat) : SubOK Try.prog 5 (Ls_marks_Check n) (acOf Try.f28) := SubOK_of _ (by
  have e : subs (acOf Try.f28) = [] := by kernel_rfl
  rw [e]; intro p hp; cases hp)
theorem cert_marks_Check (n : Nat) (a0 : Int) : run Try.prog (Es_marks_Check n) (Ls_marks_Check n) Try.f28.ntmps (acOf Try.f28) ⟨argsT [.i .u8 a0] 0, [], 0, 0, 0⟩ (finK Try.prog Try.f28.results.toList (retX unr_marks_Check)) = marks_Check n a0 := by kernel_rfl
theorem pure_marks_Check (n : Nat) : ∀ a r, marks_Check n a = some r → PureOK Try.prog 28 (arg_marks_Check a) (enc_marks_Check r) := fun a r h => pureX_ok unr_ok_marks_Check (Es_ok_marks_Check n) Try.func28 rfl (acOf_code _) (subs_marks_Check n) rfl ((cert_marks_Check n a).trans h)
theorem ok_marks_Check (n : Nat) : EntOK Try.prog (e_marks_Check n) := pureE_ok Try.call28 una_ok_marks_Check (fun _ => rfl) (pure_marks_Check n)

/-! circa/marks.All -/
noncomputable def arg_marks_All (a : List Int × Int) : List V := [.ai .u8 3 a.1, .i .i64 a.2]
noncomputable def una_marks_All (l : List V) : Option (List Int × Int) := match l with
  | [.ai .u8 3 a0, .i .i64 a1] => some (a0, a1)
  | _ => none
theorem una_ok_marks_All : ∀ l a, una_marks_All l = some a → l = arg_marks_All a := by
  intro l a h
  unfold una_marks_All at h
  split at h
  · cases h; rfl
  · cases h
noncomputable def enc_marks_All (r : Int) : V := .i .i64 r
noncomputable def unr_marks_All (v : V) : Option (Int) := match v with
  | .i .i64 r0 => some r0
  | _ => none
theorem unr_ok_marks_All : ∀ v r, unr_marks_All v = some r → v = enc_marks_All r := by
  intro v r h
  unfold unr_marks_All at h
  split at h
  · cases h; rfl
  · cases h
noncomputable def e_marks_All (n : Nat) : Ent := pureE 17 una_marks_All (fun a => marks_All n a.1 a.2) enc_marks_All
noncomputable def t_marks_All (l : List V) (_ : List (Nat × Blk)) : Bool := isS (una_marks_All l)
noncomputable def Es_marks_All (n : Nat) : List Ent := [e_marks_Check n]
theorem Es_ok_marks_All (n : Nat) : ∀ x ∈ Es_marks_All n, EntOK Try.prog x := by
  intro x hx
  simp only [Es_marks_All, List.mem_cons, List.not_mem_nil, or_false] at hx
  · rw [hx]; exact ok_marks_Check n
noncomputable def an_marks_All_l0 : Ann := ⟨[1, 13, 14], [], 1⟩
noncomputable def emb_marks_All_l0 (x : Int × List Int × Int) : St := ⟨[(1, some (.i .i64 x.1)), (13, some (.ai .u8 3 x.2.1)), (14, some (.i .i64 x.2.2))], [], 1, 0, 0⟩
noncomputable def un_marks_All_l0 (s : St) : Option (Int × List Int × Int) := match s with
  | ⟨[(1, some (.i .i64 x0)), (13, some (.ai .u8 3 x1)), (14, some (.i .i64 x2))], [], 1, 0, 0⟩ => some (x0, x1, x2)
  | _ => none
theorem un_ok_marks_All_l0 : ∀ s x, un_marks_All_l0 s = some x → s = emb_marks_All_l0 x := by
  intro s x h
  unfold un_marks_All_l0 at h
  split at h
  · cases h; rfl
  · cases h
noncomputable def ax_marks_All_l0 : Ex → Ann := fun ex => match ex with
  | .ret => ⟨[4], [], 1⟩
  | .exit 0 => ⟨[], [], 1⟩
  | _ => ⟨[], [], 0⟩
noncomputable def out_marks_All_l0 (y : Int ⊕ Unit) : Ex × St := (Sum.casesOn (motive := fun _ => Ex × St) y (fun a0 => (.ret, ⟨[(4, some (.i .i64 a0))], [], 1, 0, 0⟩)) (fun b0 => (.exit 0, ⟨[], [], 1, 0, 0⟩)))
noncomputable def outK_marks_All_l0 (α : Type) (y : Int ⊕ Unit) (k : Ex → St → Option α) : Option α := (Sum.casesOn (motive := fun _ => Option α) y (fun a0 => (k (.ret) ⟨[(4, some (.i .i64 a0))], [], 1, 0, 0⟩)) (fun b0 => (k (.exit 0) ⟨[], [], 1, 0, 0⟩)))
theorem outK_ok_marks_All_l0 : ∀ α y k, outK_marks_All_l0 α y k = k (out_marks_All_l0 y).1 (out_marks_All_l0 y).2 := by
  intro α y k
  rcases y with y | y <;> rfl
noncomputable def ux_marks_All_l0 (ex : Ex) (s : St) : Option (Int ⊕ Unit) := match ex, s with
  | .ret, ⟨[(4, some (.i .i64 y0))], [], 1, 0, 0⟩ => some (.inl y0)
  | .exit 0, ⟨[], [], 1, 0, 0⟩ => some (.inr ())
  | _, _ => none
theorem ux_ok_marks_All_l0 : ∀ ex s y, ux_marks_All_l0 ex s = some y → (ex, s) = out_marks_All_l0 y := by
  intro ex s y h
  unfold ux_marks_All_l0 at h
  split at h
  · cases h; rfl
  · cases h; rfl
  · cases h
noncomputable def Ls_marks_All (n : Nat) : List Sub := [subE 0 an_marks_All_l0 un_marks_All_l0 (fun x => iterL (marks_All_l0 n) n x) outK_marks_All_l0]
noncomputable def sac_marks_All_l0 : AC := getS (subs (acOf Try.f17)) 0
noncomputable def ac_marks_All_l0 : AC := AC.body sac_marks_All_l0
theorem subs_marks_All_l0 (n : Nat) : SubOK Try.prog 31 (Ls_marks_All n) ac_marks_All_l0 := SubOK_of _ (by
  have e : subs ac_marks_All_l0 = [] := by kernel_rfl
  rw [e]; intro p hp; cases hp)
theorem body_marks_All_l0 (n : Nat) : ∀ x, run Try.prog (Es_marks_All n) (Ls_marks_All n) 31 ac_marks_All_l0 (emb_marks_All_l0 x) (roundK an_marks_All_l0 un_marks_All_l0 ax_marks_All_l0 ux_marks_All_l0) = marks_All_l0 n x := fun _ => by kernel_rfl
theorem sub1_marks_All_l0 (n : Nat) : ∀ (α : Type) (s : St) (k : Ex → St → Option α) (z : α), (subE 0 an_marks_All_l0 un_marks_All_l0 (fun x => iterL (marks_All_l0 n) n x) outK_marks_All_l0).e α s k = some z → SemC Try.prog 31 (sac_marks_All_l0).code s fun ex s' => k ex s' = some z := by
  intro α s k z h
  have e : sac_marks_All_l0 = .loop ac_marks_All_l0 := by kernel_rfl
  rw [e]
  exact subE_ok (m := 0) (f := fun x => iterL (marks_All_l0 n) n x) (out := out_marks_All_l0) outK_ok_marks_All_l0 un_ok_marks_All_l0 (fun x y hy => loop_ok (Es_ok_marks_All n) (subs_marks_All_l0 n) un_ok_marks_All_l0 ux_ok_marks_All_l0 (body_marks_All_l0 n) n x y hy) h
theorem sub_marks_All_l0 (n : Nat) : SubSt Try.prog 31 (Ls_marks_All n) 0 sac_marks_All_l0 := fun α s k z => sub1_marks_All_l0 n α s k z
theorem subs_marks_All (n : Nat) : SubOK Try.prog 31 (Ls_marks_All n) (acOf Try.f17) := SubOK_of _ (by
  have e : subs (acOf Try.f17) = [(0, sac_marks_All_l0)] := by kernel_rfl
  rw [e]; intro p hp
  simp only [List.mem_cons, List.not_mem_nil, or_false] at hp
  · rw [hp]; exact sub_marks_All_l0 n
  )
theorem cert_marks_All (n : Nat) (a0 : List Int) (a1 : Int) : run Try.prog (Es_marks_All n) (Ls_marks_All n) Try.f17.ntmps (acOf Try.f17) ⟨argsT [.ai .u8 3 a0, .i .i64 a1] 0, [], 0, 0, 0⟩ (finK Try.prog Try.f17.results.toList (retX unr_marks_All)) = marks_All n a0 a1 := by kernel_rfl
theorem pure_marks_All (n : Nat) : ∀ a r, marks_All n a.1 a.2 = some r → PureOK Try.prog 17 (arg_marks_All a) (enc_marks_All r) := fun a r h => pureX_ok unr_ok_marks_All (Es_ok_marks_All n) Try.func17 rfl (acOf_code _) (subs_marks_All n) rfl ((cert_marks_All n a.1 a.2).trans h)
theorem ok_marks_All (n : Nat) : EntOK Try.prog (e_marks_All n) := pureE_ok Try.call17 una_ok_marks_All (fun _ => rfl) (pure_marks_All n)

/-! circa/marks.Spread$1 -/
noncomputable def arg_marks_Spread_1 (a : Int × List Int × List Int × Int) : List V := [.i .i64 a.1, .p 2 0, .p 0 0, .p 1 0]
noncomputable def H0_marks_Spread_1 (a : Int × List Int × List Int × Int) : List (Nat × Blk) := [(0, .ints .u8 3 a.2.1), (1, .ints .u8 3 a.2.2.1), (2, .cells [.i .u8 a.2.2.2])]
noncomputable def una_marks_Spread_1 (l : List V) (H : List (Nat × Blk)) : Option ((Int × List Int × List Int × Int) × List Nat) := match l with
  | [.i .i64 a0, .p b2 0, .p b0 0, .p b1 0] => (match Abs.look H b2 with
    | some (.cells [.i .u8 a3]) => (match Abs.look H b0 with
    | some (.ints .u8 3 a1) => (match Abs.look H b1 with
    | some (.ints .u8 3 a2) => (cond (Abs.distinct [b0, b1, b2] && true) (some ((a0, a1, a2, a3), [b0, b1, b2])) none)
    | _ => none)
    | _ => none)
    | _ => none)
  | _ => none
theorem una_ok_marks_Spread_1 : ∀ l H a ρ, una_marks_Spread_1 l H = some (a, ρ) → ρ.length = 3 ∧ ρ.Nodup ∧ l = V.rens ρ (arg_marks_Spread_1 a) ∧ ∀ b blk, Abs.look (H0_marks_Spread_1 a) b = some blk → Abs.look H (getN ρ b) = some (blk.ren ρ) := by
  intro l H a ρ h
  unfold una_marks_Spread_1 at h
  split at h
  · split at h
    · rename_i e2
      split at h
      · rename_i e0
        split at h
        · rename_i e1
          obtain ⟨hd, h⟩ := cond_some h
          simp only [Bool.and_eq_true] at hd
          obtain ⟨hd, _⟩ := hd
          cases h
          exact ⟨rfl, distinct_ok hd, rfl, eachH_look ⟨e0, e1, e2, trivial⟩⟩
        · cases h
      · cases h
    · cases h
  · cases h
noncomputable def out_marks_Spread_1 (r : (Int × Int)) : FOut := (⟨false, .i .u8 r.1, [(2, .cells [.i .u8 r.2])]⟩ : FOut)
noncomputable def outK_marks_Spread_1 (α : Type) (r : (Int × Int)) (k : FOut → Option α) : Option α := (k ⟨false, .i .u8 r.1, [(2, .cells [.i .u8 r.2])]⟩)
theorem outK_ok_marks_Spread_1 : ∀ α r k, outK_marks_Spread_1 α r k = k (out_marks_Spread_1 r) := by
  intro α r k
  rfl
noncomputable def unr_marks_Spread_1 (pan : Bool) (v : V) (H : List (Nat × Blk)) : Option ((Int × Int)) := match pan, v, H with
  | false, .i .u8 r0, [(2, .cells [.i .u8 r1])] => some (r0, r1)
  | _, _, _ => none
theorem unr_ok_marks_Spread_1 : ∀ pan v H r, unr_marks_Spread_1 pan v H = some r → out_marks_Spread_1 r = ⟨pan, v, H⟩ := by
  intro pan v H r h
  unfold unr_marks_Spread_1 at h
  split at h
  · cases h; rfl
  · cases h
noncomputable def e_marks_Spread_1 (n : Nat) : Ent := funE 67 una_marks_Spread_1 (fun a => marks_Spread_1 n a.1 a.2.1 a.2.2.1 a.2.2.2) outK_marks_Spread_1
noncomputable def t_marks_Spread_1 (l : List V) (H : List (Nat × Blk)) : Bool := isS (una_marks_Spread_1 l H)
noncomputable def Es_marks_Spread_1 (_n : Nat) : List Ent := []
theorem Es_ok_marks_Spread_1 (n : Nat) : ∀ x ∈ Es_marks_Spread_1 n, EntOK Try.prog x := by
  intro x hx
  simp [Es_marks_Spread_1] at hx
noncomputable def Ls_marks_Spread_1 (_n : Nat) : List Sub := []
theorem subs_marks_Spread_1 (n : Nat) : SubOK Try.prog 16 (Ls_marks_Spread_1 n) (acOf Try.f67) := SubOK_of _ (by
  have e : subs (acOf Try.f67) = [] := by kernel_rfl
  rw [e]; intro p hp; cases hp)
theorem cert_marks_Spread_1 (n : Nat) (a0 : Int) (a1 : List Int) (a2 : List Int) (a3 : Int) : run Try.prog (Es_marks_Spread_1 n) (Ls_marks_Spread_1 n) Try.f67.ntmps (acOf Try.f67) ⟨argsT [.i .i64 a0, .p 2 0, .p 0 0, .p 1 0] 0, [(0, .ints .u8 3 a1), (1, .ints .u8 3 a2), (2, .cells [.i .u8 a3])], 3, 3, 2⟩ (finK Try.prog Try.f67.results.toList (funX [2] 3 2 unr_marks_Spread_1)) = marks_Spread_1 n a0 a1 a2 a3 := by kernel_rfl
theorem fun_marks_Spread_1 (n : Nat) : ∀ a r, marks_Spread_1 n a.1 a.2.1 a.2.2.1 a.2.2.2 = some r → FunOK Try.prog 67 (arg_marks_Spread_1 a) (H0_marks_Spread_1 a) 3 2 (out_marks_Spread_1 r) := fun a r h => funX_ok (ws := [2]) unr_ok_marks_Spread_1 (Es_ok_marks_Spread_1 n) Try.func67 rfl (acOf_code _) (subs_marks_Spread_1 n) rfl rfl ((cert_marks_Spread_1 n a.1 a.2.1 a.2.2.1 a.2.2.2).trans h)
theorem ok_marks_Spread_1 (n : Nat) : EntOK Try.prog (e_marks_Spread_1 n) := funE_ok (m := 3) (ro := 2) (out := out_marks_Spread_1) (arg := arg_marks_Spread_1) (H0 := H0_marks_Spread_1) Try.call67 outK_ok_marks_Spread_1 una_ok_marks_Spread_1 (fun _ => rfl) (fun a => chkH_look (m := 3) (H := H0_marks_Spread_1 a) rfl) (fun r => chkH_keys (m := 3) (H := (out_marks_Spread_1 r).H) (by rfl)) (fun r b blk h => (chkH_look (m := 3) (H := (out_marks_Spread_1 r).H) (by rfl) b blk h).2) (fun r => hasKeys_ok (H := (out_marks_Spread_1 r).H) (n := 1) (b := 2) (by rfl)) (fun r => (by rfl)) (fun_marks_Spread_1 n)

/-! circa/marks.Spread -/
noncomputable def arg_marks_Spread (a : List Int × List Int × Int) : List V := [.ai .u8 3 a.1, .ai .u8 3 a.2.1, .i .i64 a.2.2]
noncomputable def una_marks_Spread (l : List V) : Option (List Int × List Int × Int) := match l with
  | [.ai .u8 3 a0, .ai .u8 3 a1, .i .i64 a2] => some (a0, a1, a2)
  | _ => none
theorem una_ok_marks_Spread : ∀ l a, una_marks_Spread l = some a → l = arg_marks_Spread a := by
  intro l a h
  unfold una_marks_Spread at h
  split at h
  · cases h; rfl
  · cases h
noncomputable def enc_marks_Spread (r : List Int × Int) : V := .tp [.ai .u8 3 r.1, .i .i64 r.2]
noncomputable def unr_marks_Spread (v : V) : Option (List Int × Int) := match v with
  | .tp [.ai .u8 3 r0, .i .i64 r1] => some (r0, r1)
  | _ => none
theorem unr_ok_marks_Spread : ∀ v r, unr_marks_Spread v = some r → v = enc_marks_Spread r := by
  intro v r h
  unfold unr_marks_Spread at h
  split at h
  · cases h; rfl
  · cases h
noncomputable def e_marks_Spread (n : Nat) : Ent := pureE 16 una_marks_Spread (fun a => marks_Spread n a.1 a.2.1 a.2.2) enc_marks_Spread
noncomputable def t_marks_Spread (l : List V) (_ : List (Nat × Blk)) : Bool := isS (una_marks_Spread l)
noncomputable def Es_marks_Spread (n : Nat) : List Ent := [e_marks_All n, e_marks_Spread_1 n]
theorem Es_ok_marks_Spread (n : Nat) : ∀ x ∈ Es_marks_Spread n, EntOK Try.prog x := by
  intro x hx
  simp only [Es_marks_Spread, List.mem_cons, List.not_mem_nil, or_false] at hx
  rcases hx with hx | hx
  · rw [hx]; exact ok_marks_All n
  · rw [hx]; exact ok_marks_Spread_1 n
noncomputable def an_marks_Spread_l1 : Ann := ⟨[6, 12, 13, 14], [0, 1, 2, 5, 6], 7⟩
noncomputable def emb_marks_Spread_l1 (x : Int × List Int × List Int × List Int × Int × List Int) : St := ⟨[(6, some (.p 2 0)), (12, some (.fn 67 [.p 5 0, .p 1 0, .p 0 0])), (13, some (.p 6 0)), (14, some (.i .i64 x.1))], [(0, .ints .u8 3 x.2.1), (1, .ints .u8 3 x.2.2.1), (2, .ints .u8 3 x.2.2.2.1), (5, .cells [.i .u8 x.2.2.2.2.1]), (6, .ints .u8 3 x.2.2.2.2.2)], 7, 0, 0⟩
noncomputable def un_marks_Spread_l1 (s : St) : Option (Int × List Int × List Int × List Int × Int × List Int) := match s with
  | ⟨[(6, some (.p 2 0)), (12, some (.fn 67 [.p 5 0, .p 1 0, .p 0 0])), (13, some (.p 6 0)), (14, some (.i .i64 x0))], [(0, .ints .u8 3 x1), (1, .ints .u8 3 x2), (2, .ints .u8 3 x3), (5, .cells [.i .u8 x4]), (6, .ints .u8 3 x5)], 7, 0, 0⟩ => some (x0, x1, x2, x3, x4, x5)
  | _ => none
theorem un_ok_marks_Spread_l1 : ∀ s x, un_marks_Spread_l1 s = some x → s = emb_marks_Spread_l1 x := by
  intro s x h
  unfold un_marks_Spread_l1 at h
  split at h
  · cases h; rfl
  · cases h
noncomputable def ax_marks_Spread_l1 : Ex → Ann := fun ex => match ex with
  | .exit 2 => ⟨[6, 13], [2, 6], 7⟩
  | _ => ⟨[], [], 0⟩
noncomputable def out_marks_Spread_l1 (y : (List Int × List Int)) : Ex × St := (.exit 2, ⟨[(6, some (.p 2 0)), (13, some (.p 6 0))], [(2, .ints .u8 3 y.1), (6, .ints .u8 3 y.2)], 7, 0, 0⟩)
noncomputable def outK_marks_Spread_l1 (α : Type) (y : (List Int × List Int)) (k : Ex → St → Option α) : Option α := (k (.exit 2) ⟨[(6, some (.p 2 0)), (13, some (.p 6 0))], [(2, .ints .u8 3 y.1), (6, .ints .u8 3 y.2)], 7, 0, 0⟩)
theorem outK_ok_marks_Spread_l1 : ∀ α y k, outK_marks_Spread_l1 α y k = k (out_marks_Spread_l1 y).1 (out_marks_Spread_l1 y).2 := by
  intro α y k
  rfl
noncomputable def ux_marks_Spread_l1 (ex : Ex) (s : St) : Option ((List Int × List Int)) := match ex, s with
  | .exit 2, ⟨[(6, some (.p 2 0)), (13, some (.p 6 0))], [(2, .ints .u8 3 y0), (6, .ints .u8 3 y1)], 7, 0, 0⟩ => some (y0, y1)
  | _, _ => none
theorem ux_ok_marks_Spread_l1 : ∀ ex s y, ux_marks_Spread_l1 ex s = some y → (ex, s) = out_marks_Spread_l1 y := by
  intro ex s y h
  unfold ux_marks_Spread_l1 at h
  split at h
  · cases h; rfl
  · cases h
noncomputable def Ls_marks_Spread (n : Nat) : List Sub := [subE 1 an_marks_Spread_l1 un_marks_Spread_l1 (fun x => iterL (marks_Spread_l1 n) n x) outK_marks_Spread_l1]
noncomputable def sac_marks_Spread_l1 : AC := getS (subs (acU [0] Try.f16)) 1
noncomputable def ac_marks_Spread_l1 : AC := AC.body sac_marks_Spread_l1
theorem subs_marks_Spread_l1 (n : Nat) : SubOK Try.prog 42 (Ls_marks_Spread n) ac_marks_Spread_l1 := SubOK_of _ (by
  have e : subs ac_marks_Spread_l1 = [] := by kernel_rfl
  rw [e]; intro p hp; cases hp)
theorem body_marks_Spread_l1 (n : Nat) : ∀ x, run Try.prog (Es_marks_Spread n) (Ls_marks_Spread n) 42 ac_marks_Spread_l1 (emb_marks_Spread_l1 x) (roundK an_marks_Spread_l1 un_marks_Spread_l1 ax_marks_Spread_l1 ux_marks_Spread_l1) = marks_Spread_l1 n x := fun _ => by kernel_rfl
theorem sub1_marks_Spread_l1 (n : Nat) : ∀ (α : Type) (s : St) (k : Ex → St → Option α) (z : α), (subE 1 an_marks_Spread_l1 un_marks_Spread_l1 (fun x => iterL (marks_Spread_l1 n) n x) outK_marks_Spread_l1).e α s k = some z → SemC Try.prog 42 (sac_marks_Spread_l1).code s fun ex s' => k ex s' = some z := by
  intro α s k z h
  have e : sac_marks_Spread_l1 = .loop ac_marks_Spread_l1 := by kernel_rfl
  rw [e]
  exact subE_ok (m := 1) (f := fun x => iterL (marks_Spread_l1 n) n x) (out := out_marks_Spread_l1) outK_ok_marks_Spread_l1 un_ok_marks_Spread_l1 (fun x y hy => loop_ok (Es_ok_marks_Spread n) (subs_marks_Spread_l1 n) un_ok_marks_Spread_l1 ux_ok_marks_Spread_l1 (body_marks_Spread_l1 n) n x y hy) h
theorem sub_marks_Spread_l1 (n : Nat) : SubSt Try.prog 42 (Ls_marks_Spread n) 1 sac_marks_Spread_l1 := fun α s k z => sub1_marks_Spread_l1 n α s k z
theorem subs_marks_Spread (n : Nat) : SubOK Try.prog 42 (Ls_marks_Spread n) (acU [0] Try.f16) := SubOK_of _ (by
  have e : subs (acU [0] Try.f16) = [(1, sac_marks_Spread_l1)] := by kernel_rfl
  rw [e]; intro p hp
  simp only [List.mem_cons, List.not_mem_nil, or_false] at hp
  · rw [hp]; exact sub_marks_Spread_l1 n
  )
theorem cert_marks_Spread (n : Nat) (a0 : List Int) (a1 : List Int) (a2 : Int) : run Try.prog (Es_marks_Spread n) (Ls_marks_Spread n) Try.f16.ntmps (acU [0] Try.f16) ⟨argsT [.ai .u8 3 a0, .ai .u8 3 a1, .i .i64 a2] 0, [], 0, 0, 0⟩ (finK Try.prog Try.f16.results.toList (retX unr_marks_Spread)) = marks_Spread n a0 a1 a2 := by kernel_rfl
theorem pure_marks_Spread (n : Nat) : ∀ a r, marks_Spread n a.1 a.2.1 a.2.2 = some r → PureOK Try.prog 16 (arg_marks_Spread a) (enc_marks_Spread r) := fun a r h => pureX_ok unr_ok_marks_Spread (Es_ok_marks_Spread n) Try.func16 rfl (acU_code _ _) (subs_marks_Spread n) rfl ((cert_marks_Spread n a.1 a.2.1 a.2.2).trans h)
theorem ok_marks_Spread (n : Nat) : EntOK Try.prog (e_marks_Spread n) := pureE_ok Try.call16 una_ok_marks_Spread (fun _ => rfl) (pure_marks_Spread n)

/-! circa/marks.texts -/
noncomputable def arg_marks_texts (_a : Unit) : List V := []
noncomputable def una_marks_texts (l : List V) : Option (Unit) := match l with
  | [] => some ()
  | _ => none
theorem una_ok_marks_texts : ∀ l a, una_marks_texts l = some a → l = arg_marks_texts a := by
  intro l a h
  unfold una_marks_texts at h
  split at h
  · cases h; rfl
  · cases h
noncomputable def enc_marks_texts (r : List UInt8 × List UInt8 × List UInt8 × List UInt8) : V := .ag [.s r.1, .s r.2.1, .s r.2.2.1, .s r.2.2.2]
noncomputable def unr_marks_texts (v : V) : Option (List UInt8 × List UInt8 × List UInt8 × List UInt8) := match v with
  | .ag [.s r0, .s r1, .s r2, .s r3] => some (r0, r1, r2, r3)
  | _ => none
theorem unr_ok_marks_texts : ∀ v r, unr_marks_texts v = some r → v = enc_marks_texts r := by
  intro v r h
  unfold unr_marks_texts at h
  split at h
  · cases h; rfl
  · cases h
noncomputable def e_marks_texts (n : Nat) : Ent := pureE 71 una_marks_texts (fun _a => marks_texts n) enc_marks_texts
noncomputable def t_marks_texts (l : List V) (_ : List (Nat × Blk)) : Bool := isS (una_marks_texts l)
noncomputable def Es_marks_texts (_n : Nat) : List Ent := []
theorem Es_ok_marks_texts (n : Nat) : ∀ x ∈ Es_marks_texts n, EntOK Try.prog x := by
  intro x hx
  simp [Es_marks_texts] at hx
noncomputable def Ls_marks_texts (_n : Nat) : List Sub := []
theorem subs_marks_texts (n : Nat) : SubOK Try.prog 2 (Ls_marks_texts n) (acOf Try.f71) := SubOK_of _ (by
  have e : subs (acOf Try.f71) = [] := by kernel_rfl
  rw [e]; intro p hp; cases hp)
theorem cert_marks_texts (n : Nat) : run Try.prog (Es_marks_texts n) (Ls_marks_texts n) Try.f71.ntmps (acOf Try.f71) ⟨argsT [] 0, [], 0, 0, 0⟩ (finK Try.prog Try.f71.results.toList (retX unr_marks_texts)) = marks_texts n := by kernel_rfl
theorem pure_marks_texts (n : Nat) : ∀ a r, marks_texts n = some r → PureOK Try.prog 71 (arg_marks_texts a) (enc_marks_texts r) := fun a r h => pureX_ok unr_ok_marks_texts (Es_ok_marks_texts n) Try.func71 rfl (acOf_code _) (subs_marks_texts n) rfl ((cert_marks_texts n).trans h)
theorem ok_marks_texts (n : Nat) : EntOK Try.prog (e_marks_texts n) := pureE_ok Try.call71 una_ok_marks_texts (fun _ => rfl) (pure_marks_texts n)

/-! circa/marks.Text -/
noncomputable def arg_marks_Text (a : Int) : List V := [.i .u8 a]
noncomputable def una_marks_Text (l : List V) : Option (Int) := match l with
  | [.i .u8 a0] => some a0
  | _ => none
theorem una_ok_marks_Text : ∀ l a, una_marks_Text l = some a → l = arg_marks_Text a := by
  intro l a h
  unfold una_marks_Text at h
  split at h
  · cases h; rfl
  · cases h
noncomputable def enc_marks_Text (r : List UInt8 × Int) : V := .tp [.s r.1, .i .i64 r.2]
noncomputable def unr_marks_Text (v : V) : Option (List UInt8 × Int) := match v with
  | .tp [.s r0, .i .i64 r1] => some (r0, r1)
  | _ => none
theorem unr_ok_marks_Text : ∀ v r, unr_marks_Text v = some r → v = enc_marks_Text r := by
  intro v r h
  unfold unr_marks_Text at h
  split at h
  · cases h; rfl
  · cases h
noncomputable def e_marks_Text (n : Nat) : Ent := pureE 23 una_marks_Text (fun a => marks_Text n a) enc_marks_Text
noncomputable def t_marks_Text (l : List V) (_ : List (Nat × Blk)) : Bool := isS (una_marks_Text l)
noncomputable def Es_marks_Text (n : Nat) : List Ent := [e_marks_Check n, e_marks_texts n]
theorem Es_ok_marks_Text (n : Nat) : ∀ x ∈ Es_marks_Text n, EntOK Try.prog x := by
  intro x hx
  simp only [Es_marks_Text, List.mem_cons, List.not_mem_nil, or_false] at hx
  rcases hx with hx | hx
  · rw [hx]; exact ok_marks_Check n
  · rw [hx]; exact ok_marks_texts n
noncomputable def Ls_marks_Text (_n : Nat) : List Sub := []
theorem subs_marks_Text (n : Nat) : SubOK Try.prog 13 (Ls_marks_Text n) (acOf Try.f23) := SubOK_of _ (by
  have e : subs (acOf Try.f23) = [] := by kernel_rfl
  rw [e]; intro p hp; cases hp)
theorem cert_marks_Text (n : Nat) (a0 : Int) : run Try.prog (Es_marks_Text n) (Ls_marks_Text n) Try.f23.ntmps (acOf Try.f23) ⟨argsT [.i .u8 a0] 0, [], 0, 0, 0⟩ (finK Try.prog Try.f23.results.toList (retX unr_marks_Text)) = marks_Text n a0 := by kernel_rfl
theorem pure_marks_Text (n : Nat) : ∀ a r, marks_Text n a = some r → PureOK Try.prog 23 (arg_marks_Text a) (enc_marks_Text r) := fun a r h => pureX_ok unr_ok_marks_Text (Es_ok_marks_Text n) Try.func23 rfl (acOf_code _) (subs_marks_Text n) rfl ((cert_marks_Text n a).trans h)
theorem ok_marks_Text (n : Nat) : EntOK Try.prog (e_marks_Text n) := pureE_ok Try.call23 una_ok_marks_Text (fun _ => rfl) (pure_marks_Text n)

/-! slices.Index[[]string,string] -/
noncomputable def arg_slices_Index_string_string (a : List UInt8 × List UInt8 × List UInt8 × List UInt8 × List UInt8) : List V := [.sl 0 0 4 (some 4), .s a.1]
noncomputable def H0_slices_Index_string_string (a : List UInt8 × List UInt8 × List UInt8 × List UInt8 × List UInt8) : List (Nat × Blk) := [(0, .cells [.s a.2.1, .s a.2.2.1, .s a.2.2.2.1, .s a.2.2.2.2])]
noncomputable def una_slices_Index_string_string (l : List V) (H : List (Nat × Blk)) : Option ((List UInt8 × List UInt8 × List UInt8 × List UInt8 × List UInt8) × List Nat) := match l with
  | [.sl b0 0 4 (some 4), .s a0] => (match Abs.look H b0 with
    | some (.cells [.s a1, .s a2, .s a3, .s a4]) => (cond (Abs.distinct [b0] && true) (some ((a0, a1, a2, a3, a4), [b0])) none)
    | _ => none)
  | _ => none
theorem una_ok_slices_Index_string_string : ∀ l H a ρ, una_slices_Index_string_string l H = some (a, ρ) → ρ.length = 1 ∧ ρ.Nodup ∧ l = V.rens ρ (arg_slices_Index_string_string a) ∧ ∀ b blk, Abs.look (H0_slices_Index_string_string a) b = some blk → Abs.look H (getN ρ b) = some (blk.ren ρ) := by
  intro l H a ρ h
  unfold una_slices_Index_string_string at h
  split at h
  · split at h
    · rename_i e0
      obtain ⟨hd, h⟩ := cond_some h
      simp only [Bool.and_eq_true] at hd
      obtain ⟨hd, _⟩ := hd
      cases h
      exact ⟨rfl, distinct_ok hd, rfl, eachH_look ⟨e0, trivial⟩⟩
    · cases h
  · cases h
noncomputable def out_slices_Index_string_string (r : Int) : FOut := (⟨false, .i .i64 r, []⟩ : FOut)
noncomputable def outK_slices_Index_string_string (α : Type) (r : Int) (k : FOut → Option α) : Option α := (k ⟨false, .i .i64 r, []⟩)
theorem outK_ok_slices_Index_string_string : ∀ α r k, outK_slices_Index_string_string α r k = k (out_slices_Index_string_string r) := by
  intro α r k
  rfl
noncomputable def unr_slices_Index_string_string (pan : Bool) (v : V) (H : List (Nat × Blk)) : Option (Int) := match pan, v, H with
  | false, .i .i64 r0, [] => some r0
  | _, _, _ => none
theorem unr_ok_slices_Index_string_string : ∀ pan v H r, unr_slices_Index_string_string pan v H = some r → out_slices_Index_string_string r = ⟨pan, v, H⟩ := by
  intro pan v H r h
  unfold unr_slices_Index_string_string at h
  split at h
  · cases h; rfl
  · cases h
noncomputable def e_slices_Index_string_string (n : Nat) : Ent := funE 72 una_slices_Index_string_string (fun a => slices_Index_string_string n a.1 a.2.1 a.2.2.1 a.2.2.2.1 a.2.2.2.2) outK_slices_Index_string_string
noncomputable def t_slices_Index_string_string (l : List V) (H : List (Nat × Blk)) : Bool := isS (una_slices_Index_string_string l H)
noncomputable def Es_slices_Index_string_string (_n : Nat) : List Ent := []
theorem Es_ok_slices_Index_string_string (n : Nat) : ∀ x ∈ Es_slices_Index_string_string n, EntOK Try.prog x := by
  intro x hx
  simp [Es_slices_Index_string_string] at hx
noncomputable def an_slices_Index_string_string_l0 : Ann := ⟨[0, 1, 7, 8], [0], 1⟩
noncomputable def emb_slices_Index_string_string_l0 (x : List UInt8 × Int × Int × List UInt8 × List UInt8 × List UInt8 × List UInt8) : St := ⟨[(0, some (.sl 0 0 4 (some 4))), (1, some (.s x.1)), (7, some (.i .i64 x.2.1)), (8, some (.i .i64 x.2.2.1))], [(0, .cells [.s x.2.2.2.1, .s x.2.2.2.2.1, .s x.2.2.2.2.2.1, .s x.2.2.2.2.2.2])], 1, 1, 1⟩
noncomputable def un_slices_Index_string_string_l0 (s : St) : Option (List UInt8 × Int × Int × List UInt8 × List UInt8 × List UInt8 × List UInt8) := match s with
  | ⟨[(0, some (.sl 0 0 4 (some 4))), (1, some (.s x0)), (7, some (.i .i64 x1)), (8, some (.i .i64 x2))], [(0, .cells [.s x3, .s x4, .s x5, .s x6])], 1, 1, 1⟩ => some (x0, x1, x2, x3, x4, x5, x6)
  | _ => none
theorem un_ok_slices_Index_string_string_l0 : ∀ s x, un_slices_Index_string_string_l0 s = some x → s = emb_slices_Index_string_string_l0 x := by
  intro s x h
  unfold un_slices_Index_string_string_l0 at h
  split at h
  · cases h; rfl
  · cases h
noncomputable def ax_slices_Index_string_string_l0 : Ex → Ann := fun ex => match ex with
  | .ret => ⟨[4], [], 1⟩
  | .exit 0 => ⟨[], [], 1⟩
  | _ => ⟨[], [], 0⟩
noncomputable def out_slices_Index_string_string_l0 (y : Int ⊕ Unit) : Ex × St := (Sum.casesOn (motive := fun _ => Ex × St) y (fun a0 => (.ret, ⟨[(4, some (.i .i64 a0))], [], 1, 1, 1⟩)) (fun b0 => (.exit 0, ⟨[], [], 1, 1, 1⟩)))
noncomputable def outK_slices_Index_string_string_l0 (α : Type) (y : Int ⊕ Unit) (k : Ex → St → Option α) : Option α := (Sum.casesOn (motive := fun _ => Option α) y (fun a0 => (k (.ret) ⟨[(4, some (.i .i64 a0))], [], 1, 1, 1⟩)) (fun b0 => (k (.exit 0) ⟨[], [], 1, 1, 1⟩)))
theorem outK_ok_slices_Index_string_string_l0 : ∀ α y k, outK_slices_Index_string_string_l0 α y k = k (out_slices_Index_string_string_l0 y).1 (out_slices_Index_string_string_l0 y).2 := by
  intro α y k
  rcases y with y | y <;> rfl
noncomputable def ux_slices_Index_string_string_l0 (ex : Ex) (s : St) : Option (Int ⊕ Unit) := match ex, s with
  | .ret, ⟨[(4, some (.i .i64 y0))], [], 1, 1, 1⟩ => some (.inl y0)
  | .exit 0, ⟨[], [], 1, 1, 1⟩ => some (.inr ())
  | _, _ => none
theorem ux_ok_slices_Index_string_string_l0 : ∀ ex s y, ux_slices_Index_string_string_l0 ex s = some y → (ex, s) = out_slices_Index_string_string_l0 y := by
  intro ex s y h
  unfold ux_slices_Index_string_string_l0 at h
  split at h
  · cases h; rfl
  · cases h; rfl
  · cases h
noncomputable def Ls_slices_Index_string_string (n : Nat) : List Sub := [subE 0 an_slices_Index_string_string_l0 un_slices_Index_string_string_l0 (fun x => iterL (slices_Index_string_string_l0 n) n x) outK_slices_Index_string_string_l0]
noncomputable def sac_slices_Index_string_string_l0 : AC := getS (subs (acOf Try.f72)) 0
noncomputable def ac_slices_Index_string_string_l0 : AC := AC.body sac_slices_Index_string_string_l0
theorem subs_slices_Index_string_string_l0 (n : Nat) : SubOK Try.prog 19 (Ls_slices_Index_string_string n) ac_slices_Index_string_string_l0 := SubOK_of _ (by
  have e : subs ac_slices_Index_string_string_l0 = [] := by kernel_rfl
  rw [e]; intro p hp; cases hp)
theorem body_slices_Index_string_string_l0 (n : Nat) : ∀ x, run Try.prog (Es_slices_Index_string_string n) (Ls_slices_Index_string_string n) 19 ac_slices_Index_string_string_l0 (emb_slices_Index_string_string_l0 x) (roundK an_slices_Index_string_string_l0 un_slices_Index_string_string_l0 ax_slices_Index_string_string_l0 ux_slices_Index_string_string_l0) = slices_Index_string_string_l0 n x := fun _ => by kernel_rfl
theorem sub1_slices_Index_string_string_l0 (n : Nat) : ∀ (α : Type) (s : St) (k : Ex → St → Option α) (z : α), (subE 0 an_slices_Index_string_string_l0 un_slices_Index_string_string_l0 (fun x => iterL (slices_Index_string_string_l0 n) n x) outK_slices_Index_string_string_l0).e α s k = some z → SemC Try.prog 19 (sac_slices_Index_string_string_l0).code s fun ex s' => k ex s' = some z := by
  intro α s k z h
  have e : sac_slices_Index_string_string_l0 = .loop ac_slices_Index_string_string_l0 := by kernel_rfl
  rw [e]
  exact subE_ok (m := 0) (f := fun x => iterL (slices_Index_string_string_l0 n) n x) (out := out_slices_Index_string_string_l0) outK_ok_slices_Index_string_string_l0 un_ok_slices_Index_string_string_l0 (fun x y hy => loop_ok (Es_ok_slices_Index_string_string n) (subs_slices_Index_string_string_l0 n) un_ok_slices_Index_string_string_l0 ux_ok_slices_Index_string_string_l0 (body_slices_Index_string_string_l0 n) n x y hy) h
theorem sub_slices_Index_string_string_l0 (n : Nat) : SubSt Try.prog 19 (Ls_slices_Index_string_string n) 0 sac_slices_Index_string_string_l0 := fun α s k z => sub1_slices_Index_string_string_l0 n α s k z
theorem subs_slices_Index_string_string (n : Nat) : SubOK Try.prog 19 (Ls_slices_Index_string_string n) (acOf Try.f72) := SubOK_of _ (by
  have e : subs (acOf Try.f72) = [(0, sac_slices_Index_string_string_l0)] := by kernel_rfl
  rw [e]; intro p hp
  simp only [List.mem_cons, List.not_mem_nil, or_false] at hp
  · rw [hp]; exact sub_slices_Index_string_string_l0 n
  )
theorem cert_slices_Index_string_string (n : Nat) (a0 : List UInt8) (a1 : List UInt8) (a2 : List UInt8) (a3 : List UInt8) (a4 : List UInt8) : run Try.prog (Es_slices_Index_string_string n) (Ls_slices_Index_string_string n) Try.f72.ntmps (acOf Try.f72) ⟨argsT [.sl 0 0 4 (some 4), .s a0] 0, [(0, .cells [.s a1, .s a2, .s a3, .s a4])], 1, 1, 1⟩ (finK Try.prog Try.f72.results.toList (funX [] 1 1 unr_slices_Index_string_string)) = slices_Index_string_string n a0 a1 a2 a3 a4 := by kernel_rfl
theorem fun_slices_Index_string_string (n : Nat) : ∀ a r, slices_Index_string_string n a.1 a.2.1 a.2.2.1 a.2.2.2.1 a.2.2.2.2 = some r → FunOK Try.prog 72 (arg_slices_Index_string_string a) (H0_slices_Index_string_string a) 1 1 (out_slices_Index_string_string r) := fun a r h => funX_ok (ws := []) unr_ok_slices_Index_string_string (Es_ok_slices_Index_string_string n) Try.func72 rfl (acOf_code _) (subs_slices_Index_string_string n) rfl rfl ((cert_slices_Index_string_string n a.1 a.2.1 a.2.2.1 a.2.2.2.1 a.2.2.2.2).trans h)
theorem ok_slices_Index_string_string (n : Nat) : EntOK Try.prog (e_slices_Index_string_string n) := funE_ok (m := 1) (ro := 1) (out := out_slices_Index_string_string) (arg := arg_slices_Index_string_string) (H0 := H0_slices_Index_string_string) Try.call72 outK_ok_slices_Index_string_string una_ok_slices_Index_string_string (fun _ => rfl) (fun a => chkH_look (m := 1) (H := H0_slices_Index_string_string a) rfl) (fun r => chkH_keys (m := 1) (H := (out_slices_Index_string_string r).H) (by rfl)) (fun r b blk h => (chkH_look (m := 1) (H := (out_slices_Index_string_string r).H) (by rfl) b blk h).2) (fun r => hasKeys_ok (H := (out_slices_Index_string_string r).H) (n := 0) (b := 1) (by rfl)) (fun r => (by rfl)) (fun_slices_Index_string_string n)

/-! circa/marks.Of -/
noncomputable def arg_marks_Of (a : Int) : List V := [.i .u8 a]
noncomputable def una_marks_Of (l : List V) : Option (Int) := match l with
  | [.i .u8 a0] => some a0
  | _ => none
theorem una_ok_marks_Of : ∀ l a, una_marks_Of l = some a → l = arg_marks_Of a := by
  intro l a h
  unfold una_marks_Of at h
  split at h
  · cases h; rfl
  · cases h
noncomputable def enc_marks_Of (r : Int × Bool) : V := .tp [.i .u8 r.1, .b r.2]
noncomputable def unr_marks_Of (v : V) : Option (Int × Bool) := match v with
  | .tp [.i .u8 r0, .b r1] => some (r0, r1)
  | _ => none
theorem unr_ok_marks_Of : ∀ v r, unr_marks_Of v = some r → v = enc_marks_Of r := by
  intro v r h
  unfold unr_marks_Of at h
  split at h
  · cases h; rfl
  · cases h
noncomputable def e_marks_Of (n : Nat) : Ent := pureE 24 una_marks_Of (fun a => marks_Of n a) enc_marks_Of
noncomputable def t_marks_Of (l : List V) (_ : List (Nat × Blk)) : Bool := isS (una_marks_Of l)
noncomputable def Es_marks_Of (n : Nat) : List Ent := [e_marks_texts n, e_slices_Index_string_string n]
theorem Es_ok_marks_Of (n : Nat) : ∀ x ∈ Es_marks_Of n, EntOK Try.prog x := by
  intro x hx
  simp only [Es_marks_Of, List.mem_cons, List.not_mem_nil, or_false] at hx
  rcases hx with hx | hx
  · rw [hx]; exact ok_marks_texts n
  · rw [hx]; exact ok_slices_Index_string_string n
noncomputable def Ls_marks_Of (_n : Nat) : List Sub := []
theorem subs_marks_Of (n : Nat) : SubOK Try.prog 16 (Ls_marks_Of n) (acOf Try.f24) := SubOK_of _ (by
  have e : subs (acOf Try.f24) = [] := by kernel_rfl
  rw [e]; intro p hp; cases hp)
theorem cert_marks_Of (n : Nat) (a0 : Int) : run Try.prog (Es_marks_Of n) (Ls_marks_Of n) Try.f24.ntmps (acOf Try.f24) ⟨argsT [.i .u8 a0] 0, [], 0, 0, 0⟩ (finK Try.prog Try.f24.results.toList (retX unr_marks_Of)) = marks_Of n a0 := by kernel_rfl
theorem pure_marks_Of (n : Nat) : ∀ a r, marks_Of n a = some r → PureOK Try.prog 24 (arg_marks_Of a) (enc_marks_Of r) := fun a r h => pureX_ok unr_ok_marks_Of (Es_ok_marks_Of n) Try.func24 rfl (acOf_code _) (subs_marks_Of n) rfl ((cert_marks_Of n a).trans h)
theorem ok_marks_Of (n : Nat) : EntOK Try.prog (e_marks_Of n) := pureE_ok Try.call24 una_ok_marks_Of (fun _ => rfl) (pure_marks_Of n)

/-! slices.Min[[]uint8,uint8] -/
noncomputable def arg_slices_Min_uint8_uint8 (a : Nat × Nat × List Int) : List V := [.sl 0 0 a.1 (some a.2.1)]
noncomputable def H0_slices_Min_uint8_uint8 (a : Nat × Nat × List Int) : List (Nat × Blk) := [(0, .ints .u8 3 a.2.2)]
noncomputable def una_slices_Min_uint8_uint8 (l : List V) (H : List (Nat × Blk)) : Option ((Nat × Nat × List Int) × List Nat) := match l with
  | [.sl b0 0 a0 (some a1)] => (match Abs.look H b0 with
    | some (.ints .u8 3 a2) => (cond (Abs.distinct [b0] && true) (some ((a0, a1, a2), [b0])) none)
    | _ => none)
  | _ => none
theorem una_ok_slices_Min_uint8_uint8 : ∀ l H a ρ, una_slices_Min_uint8_uint8 l H = some (a, ρ) → ρ.length = 1 ∧ ρ.Nodup ∧ l = V.rens ρ (arg_slices_Min_uint8_uint8 a) ∧ ∀ b blk, Abs.look (H0_slices_Min_uint8_uint8 a) b = some blk → Abs.look H (getN ρ b) = some (blk.ren ρ) := by
  intro l H a ρ h
  unfold una_slices_Min_uint8_uint8 at h
  split at h
  · split at h
    · rename_i e0
      obtain ⟨hd, h⟩ := cond_some h
      simp only [Bool.and_eq_true] at hd
      obtain ⟨hd, _⟩ := hd
      cases h
      exact ⟨rfl, distinct_ok hd, rfl, eachH_look ⟨e0, trivial⟩⟩
    · cases h
  · cases h
noncomputable def out_slices_Min_uint8_uint8 (r : List UInt8 ⊕ Int) : FOut := (Sum.casesOn (motive := fun _ => FOut) r (fun a0 => (⟨true, .it 9 (.s a0), []⟩ : FOut)) (fun b0 => (⟨false, .i .u8 b0, []⟩ : FOut)))
noncomputable def outK_slices_Min_uint8_uint8 (α : Type) (r : List UInt8 ⊕ Int) (k : FOut → Option α) : Option α := (Sum.casesOn (motive := fun _ => Option α) r (fun a0 => (k ⟨true, .it 9 (.s a0), []⟩)) (fun b0 => (k ⟨false, .i .u8 b0, []⟩)))
theorem outK_ok_slices_Min_uint8_uint8 : ∀ α r k, outK_slices_Min_uint8_uint8 α r k = k (out_slices_Min_uint8_uint8 r) := by
  intro α r k
  rcases r with r | r <;> rfl
noncomputable def unr_slices_Min_uint8_uint8 (pan : Bool) (v : V) (H : List (Nat × Blk)) : Option (List UInt8 ⊕ Int) := match pan, v, H with
  | true, .it 9 (.s r0), [] => some (.inl r0)
  | false, .i .u8 r0, [] => some (.inr r0)
  | _, _, _ => none
theorem unr_ok_slices_Min_uint8_uint8 : ∀ pan v H r, unr_slices_Min_uint8_uint8 pan v H = some r → out_slices_Min_uint8_uint8 r = ⟨pan, v, H⟩ := by
  intro pan v H r h
  unfold unr_slices_Min_uint8_uint8 at h
  split at h
  · cases h; rfl
  · cases h; rfl
  · cases h
noncomputable def e_slices_Min_uint8_uint8 (n : Nat) : Ent := funE 69 una_slices_Min_uint8_uint8 (fun a => slices_Min_uint8_uint8 n a.1 a.2.1 a.2.2) outK_slices_Min_uint8_uint8
noncomputable def t_slices_Min_uint8_uint8 (l : List V) (H : List (Nat × Blk)) : Bool := isS (una_slices_Min_uint8_uint8 l H)
noncomputable def Es_slices_Min_uint8_uint8 (_n : Nat) : List Ent := []
theorem Es_ok_slices_Min_uint8_uint8 (n : Nat) : ∀ x ∈ Es_slices_Min_uint8_uint8 n, EntOK Try.prog x := by
  intro x hx
  simp [Es_slices_Min_uint8_uint8] at hx
noncomputable def an_slices_Min_uint8_uint8_l0 : Ann := ⟨[0, 3, 4], [0], 1⟩
noncomputable def emb_slices_Min_uint8_uint8_l0 (x : Nat × Nat × Int × Int × List Int) : St := ⟨[(0, some (.sl 0 0 x.1 (some x.2.1))), (3, some (.i .u8 x.2.2.1)), (4, some (.i .i64 x.2.2.2.1))], [(0, .ints .u8 3 x.2.2.2.2)], 1, 1, 1⟩
noncomputable def un_slices_Min_uint8_uint8_l0 (s : St) : Option (Nat × Nat × Int × Int × List Int) := match s with
  | ⟨[(0, some (.sl 0 0 x0 (some x1))), (3, some (.i .u8 x2)), (4, some (.i .i64 x3))], [(0, .ints .u8 3 x4)], 1, 1, 1⟩ => some (x0, x1, x2, x3, x4)
  | _ => none
theorem un_ok_slices_Min_uint8_uint8_l0 : ∀ s x, un_slices_Min_uint8_uint8_l0 s = some x → s = emb_slices_Min_uint8_uint8_l0 x := by
  intro s x h
  unfold un_slices_Min_uint8_uint8_l0 at h
  split at h
  · cases h; rfl
  · cases h
noncomputable def ax_slices_Min_uint8_uint8_l0 : Ex → Ann := fun ex => match ex with
  | .exit 0 => ⟨[3], [], 1⟩
  | _ => ⟨[], [], 0⟩
noncomputable def out_slices_Min_uint8_uint8_l0 (y : Int) : Ex × St := (.exit 0, ⟨[(3, some (.i .u8 y))], [], 1, 1, 1⟩)
noncomputable def outK_slices_Min_uint8_uint8_l0 (α : Type) (y : Int) (k : Ex → St → Option α) : Option α := (k (.exit 0) ⟨[(3, some (.i .u8 y))], [], 1, 1, 1⟩)
theorem outK_ok_slices_Min_uint8_uint8_l0 : ∀ α y k, outK_slices_Min_uint8_uint8_l0 α y k = k (out_slices_Min_uint8_uint8_l0 y).1 (out_slices_Min_uint8_uint8_l0 y).2 := by
  intro α y k
  rfl
noncomputable def ux_slices_Min_uint8_uint8_l0 (ex : Ex) (s : St) : Option (Int) := match ex, s with
  | .exit 0, ⟨[(3, some (.i .u8 y0))], [], 1, 1, 1⟩ => some y0
  | _, _ => none
theorem ux_ok_slices_Min_uint8_uint8_l0 : ∀ ex s y, ux_slices_Min_uint8_uint8_l0 ex s = some y → (ex, s) = out_slices_Min_uint8_uint8_l0 y := by
  intro ex s y h
  unfold ux_slices_Min_uint8_uint8_l0 at h
  split at h
  · cases h; rfl
  · cases h
noncomputable def Ls_slices_Min_uint8_uint8 (n : Nat) : List Sub := [subE 0 an_slices_Min_uint8_uint8_l0 un_slices_Min_uint8_uint8_l0 (fun x => iterL (slices_Min_uint8_uint8_l0 n) n x) outK_slices_Min_uint8_uint8_l0]
noncomputable def sac_slices_Min_uint8_uint8_l0 : AC := getS (subs (acOf Try.f69)) 0
noncomputable def ac_slices_Min_uint8_uint8_l0 : AC := AC.body sac_slices_Min_uint8_uint8_l0
theorem subs_slices_Min_uint8_uint8_l0 (n : Nat) : SubOK Try.prog 25 (Ls_slices_Min_uint8_uint8 n) ac_slices_Min_uint8_uint8_l0 := SubOK_of _ (by
  have e : subs ac_slices_Min_uint8_uint8_l0 = [] := by kernel_rfl
  rw [e]; intro p hp; cases hp)
theorem body_slices_Min_uint8_uint8_l0 (n : Nat) : ∀ x, run Try.prog (Es_slices_Min_uint8_uint8 n) (Ls_slices_Min_uint8_uint8 n) 25 ac_slices_Min_uint8_uint8_l0 (emb_slices_Min_uint8_uint8_l0 x) (roundK an_slices_Min_uint8_uint8_l0 un_slices_Min_uint8_uint8_l0 ax_slices_Min_uint8_uint8_l0 ux_slices_Min_uint8_uint8_l0) = slices_Min_uint8_uint8_l0 n x := fun _ => by kernel_rfl
theorem sub1_slices_Min_uint8_uint8_l0 (n : Nat) : ∀ (α : Type) (s : St) (k : Ex → St → Option α) (z : α), (subE 0 an_slices_Min_uint8_uint8_l0 un_slices_Min_uint8_uint8_l0 (fun x => iterL (slices_Min_uint8_uint8_l0 n) n x) outK_slices_Min_uint8_uint8_l0).e α s k = some z → SemC Try.prog 25 (sac_slices_Min_uint8_uint8_l0).code s fun ex s' => k ex s' = some z := by
  intro α s k z h
  have e : sac_slices_Min_uint8_uint8_l0 = .loop ac_slices_Min_uint8_uint8_l0 := by kernel_rfl
  rw [e]
  exact subE_ok (m := 0) (f := fun x => iterL (slices_Min_uint8_uint8_l0 n) n x) (out := out_slices_Min_uint8_uint8_l0) outK_ok_slices_Min_uint8_uint8_l0 un_ok_slices_Min_uint8_uint8_l0 (fun x y hy => loop_ok (Es_ok_slices_Min_uint8_uint8 n) (subs_slices_Min_uint8_uint8_l0 n) un_ok_slices_Min_uint8_uint8_l0 ux_ok_slices_Min_uint8_uint8_l0 (body_slices_Min_uint8_uint8_l0 n) n x y hy) h
theorem sub_slices_Min_uint8_uint8_l0 (n : Nat) : SubSt Try.prog 25 (Ls_slices_Min_uint8_uint8 n) 0 sac_slices_Min_uint8_uint8_l0 := fun α s k z => sub1_slices_Min_uint8_uint8_l0 n α s k z
theorem subs_slices_Min_uint8_uint8 (n : Nat) : SubOK Try.prog 25 (Ls_slices_Min_uint8_uint8 n) (acOf Try.f69) := SubOK_of _ (by
  have e : subs (acOf Try.f69) = [(0, sac_slices_Min_uint8_uint8_l0)] := by kernel_rfl
  rw [e]; intro p hp
  simp only [List.mem_cons, List.not_mem_nil, or_false] at hp
  · rw [hp]; exact sub_slices_Min_uint8_uint8_l0 n
  )
theorem cert_slices_Min_uint8_uint8 (n : Nat) (a0 : Nat) (a1 : Nat) (a2 : List Int) : run Try.prog (Es_slices_Min_uint8_uint8 n) (Ls_slices_Min_uint8_uint8 n) Try.f69.ntmps (acOf Try.f69) ⟨argsT [.sl 0 0 a0 (some a1)] 0, [(0, .ints .u8 3 a2)], 1, 1, 1⟩ (finK Try.prog Try.f69.results.toList (funX [] 1 1 unr_slices_Min_uint8_uint8)) = slices_Min_uint8_uint8 n a0 a1 a2 := by kernel_rfl
theorem fun_slices_Min_uint8_uint8 (n : Nat) : ∀ a r, slices_Min_uint8_uint8 n a.1 a.2.1 a.2.2 = some r → FunOK Try.prog 69 (arg_slices_Min_uint8_uint8 a) (H0_slices_Min_uint8_uint8 a) 1 1 (out_slices_Min_uint8_uint8 r) := fun a r h => funX_ok (ws := []) unr_ok_slices_Min_uint8_uint8 (Es_ok_slices_Min_uint8_uint8 n) Try.func69 rfl (acOf_code _) (subs_slices_Min_uint8_uint8 n) rfl rfl ((cert_slices_Min_uint8_uint8 n a.1 a.2.1 a.2.2).trans h)
theorem ok_slices_Min_uint8_uint8 (n : Nat) : EntOK Try.prog (e_slices_Min_uint8_uint8 n) := funE_ok (m := 1) (ro := 1) (out := out_slices_Min_uint8_uint8) (arg := arg_slices_Min_uint8_uint8) (H0 := H0_slices_Min_uint8_uint8) Try.call69 outK_ok_slices_Min_uint8_uint8 una_ok_slices_Min_uint8_uint8 (fun _ => rfl) (fun a => chkH_look (m := 1) (H := H0_slices_Min_uint8_uint8 a) rfl) (fun r => chkH_keys (m := 1) (H := (out_slices_Min_uint8_uint8 r).H) (by rcases r with r | r <;> rfl)) (fun r b blk h => (chkH_look (m := 1) (H := (out_slices_Min_uint8_uint8 r).H) (by rcases r with r | r <;> rfl) b blk h).2) (fun r => hasKeys_ok (H := (out_slices_Min_uint8_uint8 r).H) (n := 0) (b := 1) (by rcases r with r | r <;> rfl)) (fun r => (by rcases r with r | r <;> rfl)) (fun_slices_Min_uint8_uint8 n)

/-! slices.Max[[]uint8,uint8] -/
noncomputable def arg_slices_Max_uint8_uint8 (a : Nat × Nat × List Int) : List V := [.sl 0 0 a.1 (some a.2.1)]
noncomputable def H0_slices_Max_uint8_uint8 (a : Nat × Nat × List Int) : List (Nat × Blk) := [(0, .ints .u8 3 a.2.2)]
noncomputable def una_slices_Max_uint8_uint8 (l : List V) (H : List (Nat × Blk)) : Option ((Nat × Nat × List Int) × List Nat) := match l with
  | [.sl b0 0 a0 (some a1)] => (match Abs.look H b0 with
    | some (.ints .u8 3 a2) => (cond (Abs.distinct [b0] && true) (some ((a0, a1, a2), [b0])) none)
    | _ => none)
  | _ => none
theorem una_ok_slices_Max_uint8_uint8 : ∀ l H a ρ, una_slices_Max_uint8_uint8 l H = some (a, ρ) → ρ.length = 1 ∧ ρ.Nodup ∧ l = V.rens ρ (arg_slices_Max_uint8_uint8 a) ∧ ∀ b blk, Abs.look (H0_slices_Max_uint8_uint8 a) b = some blk → Abs.look H (getN ρ b) = some (blk.ren ρ) := by
  intro l H a ρ h
  unfold una_slices_Max_uint8_uint8 at h
  split at h
  · split at h
    · rename_i e0
      obtain ⟨hd, h⟩ := cond_some h
      simp only [Bool.and_eq_true] at hd
      obtain ⟨hd, _⟩ := hd
      cases h
      exact ⟨rfl, distinct_ok hd, rfl, eachH_look ⟨e0, trivial⟩⟩
    · cases h
  · cases h
noncomputable def out_slices_Max_uint8_uint8 (r : List UInt8 ⊕ Int) : FOut := (Sum.casesOn (motive := fun _ => FOut) r (fun a0 => (⟨true, .it 9 (.s a0), []⟩ : FOut)) (fun b0 => (⟨false, .i .u8 b0, []⟩ : FOut)))
noncomputable def outK_slices_Max_uint8_uint8 (α : Type) (r : List UInt8 ⊕ Int) (k : FOut → Option α) : Option α := (Sum.casesOn (motive := fun _ => Option α) r (fun a0 => (k ⟨true, .it 9 (.s a0), []⟩)) (fun b0 => (k ⟨false, .i .u8 b0, []⟩)))
theorem outK_ok_slices_Max_uint8_uint8 : ∀ α r k, outK_slices_Max_uint8_uint8 α r k = k (out_slices_Max_uint8_uint8 r) := by
  intro α r k
  rcases r with r | r <;> rfl
noncomputable def unr_slices_Max_uint8_uint8 (pan : Bool) (v : V) (H : List (Nat × Blk)) : Option (List UInt8 ⊕ Int) := match pan, v, H with
  | true, .it 9 (.s r0), [] => some (.inl r0)
  | false, .i .u8 r0, [] => some (.inr r0)
  | _, _, _ => none
theorem unr_ok_slices_Max_uint8_uint8 : ∀ pan v H r, unr_slices_Max_uint8_uint8 pan v H = some r → out_slices_Max_uint8_uint8 r = ⟨pan, v, H⟩ := by
  intro pan v H r h
  unfold unr_slices_Max_uint8_uint8 at h
  split at h
  · cases h; rfl
  · cases h; rfl
  · cases h
noncomputable def e_slices_Max_uint8_uint8 (n : Nat) : Ent := funE 70 una_slices_Max_uint8_uint8 (fun a => slices_Max_uint8_uint8 n a.1 a.2.1 a.2.2) outK_slices_Max_uint8_uint8
noncomputable def t_slices_Max_uint8_uint8 (l : List V) (H : List (Nat × Blk)) : Bool := isS (una_slices_Max_uint8_uint8 l H)
noncomputable def Es_slices_Max_uint8_uint8 (_n : Nat) : List Ent := []
theorem Es_ok_slices_Max_uint8_uint8 (n : Nat) : ∀ x ∈ Es_slices_Max_uint8_uint8 n, EntOK Try.prog x := by
  intro x hx
  simp [Es_slices_Max_uint8_uint8] at hx
noncomputable def an_slices_Max_uint8_uint8_l0 : Ann := ⟨[0, 3, 4], [0], 1⟩
noncomputable def emb_slices_Max_uint8_uint8_l0 (x : Nat × Nat × Int × Int × List Int) : St := ⟨[(0, some (.sl 0 0 x.1 (some x.2.1))), (3, some (.i .u8 x.2.2.1)), (4, some (.i .i64 x.2.2.2.1))], [(0, .ints .u8 3 x.2.2.2.2)], 1, 1, 1⟩
noncomputable def un_slices_Max_uint8_uint8_l0 (s : St) : Option (Nat × Nat × Int × Int × List Int) := match s with
  | ⟨[(0, some (.sl 0 0 x0 (some x1))), (3, some (.i .u8 x2)), (4, some (.i .i64 x3))], [(0, .ints .u8 3 x4)], 1, 1, 1⟩ => some (x0, x1, x2, x3, x4)
  | _ => none
theorem un_ok_slices_Max_uint8_uint8_l0 : ∀ s x, un_slices_Max_uint8_uint8_l0 s = some x → s = emb_slices_Max_uint8_uint8_l0 x := by
  intro s x h
  unfold un_slices_Max_uint8_uint8_l0 at h
  split at h
  · cases h; rfl
  · cases h
noncomputable def ax_slices_Max_uint8_uint8_l0 : Ex → Ann := fun ex => match ex with
  | .exit 0 => ⟨[3], [], 1⟩
  | _ => ⟨[], [], 0⟩
noncomputable def out_slices_Max_uint8_uint8_l0 (y : Int) : Ex × St := (.exit 0, ⟨[(3, some (.i .u8 y))], [], 1, 1, 1⟩)
noncomputable def outK_slices_Max_uint8_uint8_l0 (α : Type) (y : Int) (k : Ex → St → Option α) : Option α := (k (.exit 0) ⟨[(3, some (.i .u8 y))], [], 1, 1, 1⟩)
theorem outK_ok_slices_Max_uint8_uint8_l0 : ∀ α y k, outK_slices_Max_uint8_uint8_l0 α y k = k (out_slices_Max_uint8_uint8_l0 y).1 (out_slices_Max_uint8_uint8_l0 y).2 := by
  intro α y k
  rfl
noncomputable def ux_slices_Max_uint8_uint8_l0 (ex : Ex) (s : St) : Option (Int) := match ex, s with
  | .exit 0, ⟨[(3, some (.i .u8 y0))], [], 1, 1, 1⟩ => some y0
  | _, _ => none
theorem ux_ok_slices_Max_uint8_uint8_l0 : ∀ ex s y, ux_slices_Max_uint8_uint8_l0 ex s = some y → (ex, s) = out_slices_Max_uint8_uint8_l0 y := by
  intro ex s y h
  unfold ux_slices_Max_uint8_uint8_l0 at h
  split at h
  · cases h; rfl
  · cases h
noncomputable def Ls_slices_Max_uint8_uint8 (n : Nat) : List Sub := [subE 0 an_slices_Max_uint8_uint8_l0 un_slices_Max_uint8_uint8_l0 (fun x => iterL (slices_Max_uint8_uint8_l0 n) n x) outK_slices_Max_uint8_uint8_l0]
noncomputable def sac_slices_Max_uint8_uint8_l0 : AC := getS (subs (acOf Try.f70)) 0
noncomputable def ac_slices_Max_uint8_uint8_l0 : AC := AC.body sac_slices_Max_uint8_uint8_l0
theorem subs_slices_Max_uint8_uint8_l0 (n : Nat) : SubOK Try.prog 25 (Ls_slices_Max_uint8_uint8 n) ac_slices_Max_uint8_uint8_l0 := SubOK_of _ (by
  have e : subs ac_slices_Max_uint8_uint8_l0 = [] := by kernel_rfl
  rw [e]; intro p hp; cases hp)
theorem body_slices_Max_uint8_uint8_l0 (n : Nat) : ∀ x, run Try.prog (Es_slices_Max_uint8_uint8 n) (Ls_slices_Max_uint8_uint8 n) 25 ac_slices_Max_uint8_uint8_l0 (emb_slices_Max_uint8_uint8_l0 x) (roundK an_slices_Max_uint8_uint8_l0 un_slices_Max_uint8_uint8_l0 ax_slices_Max_uint8_uint8_l0 ux_slices_Max_uint8_uint8_l0) = slices_Max_uint8_uint8_l0 n x := fun _ => by kernel_rfl
theorem sub1_slices_Max_uint8_uint8_l0 (n : Nat) : ∀ (α : Type) (s : St) (k : Ex → St → Option α) (z : α), (subE 0 an_slices_Max_uint8_uint8_l0 un_slices_Max_uint8_uint8_l0 (fun x => iterL (slices_Max_uint8_uint8_l0 n) n x) outK_slices_Max_uint8_uint8_l0).e α s k = some z → SemC Try.prog 25 (sac_slices_Max_uint8_uint8_l0).code s fun ex s' => k ex s' = some z := by
  intro α s k z h
  have e : sac_slices_Max_uint8_uint8_l0 = .loop ac_slices_Max_uint8_uint8_l0 := by kernel_rfl
  rw [e]
  exact subE_ok (m := 0) (f := fun x => iterL (slices_Max_uint8_uint8_l0 n) n x) (out := out_slices_Max_uint8_uint8_l0) outK_ok_slices_Max_uint8_uint8_l0 un_ok_slices_Max_uint8_uint8_l0 (fun x y hy => loop_ok (Es_ok_slices_Max_uint8_uint8 n) (subs_slices_Max_uint8_uint8_l0 n) un_ok_slices_Max_uint8_uint8_l0 ux_ok_slices_Max_uint8_uint8_l0 (body_slices_Max_uint8_uint8_l0 n) n x y hy) h
theorem sub_slices_Max_uint8_uint8_l0 (n : Nat) : SubSt Try.prog 25 (Ls_slices_Max_uint8_uint8 n) 0 sac_slices_Max_uint8_uint8_l0 := fun α s k z => sub1_slices_Max_uint8_uint8_l0 n α s k z
theorem subs_slices_Max_uint8_uint8 (n : Nat) : SubOK Try.prog 25 (Ls_slices_Max_uint8_uint8 n) (acOf Try.f70) := SubOK_of _ (by
  have e : subs (acOf Try.f70) = [(0, sac_slices_Max_uint8_uint8_l0)] := by kernel_rfl
  rw [e]; intro p hp
  simp only [List.mem_cons, List.not_mem_nil, or_false] at hp
  · rw [hp]; exact sub_slices_Max_uint8_uint8_l0 n
  )
theorem cert_slices_Max_uint8_uint8 (n : Nat) (a0 : Nat) (a1 : Nat) (a2 : List Int) : run Try.prog (Es_slices_Max_uint8_uint8 n) (Ls_slices_Max_uint8_uint8 n) Try.f70.ntmps (acOf Try.f70) ⟨argsT [.sl 0 0 a0 (some a1)] 0, [(0, .ints .u8 3 a2)], 1, 1, 1⟩ (finK Try.prog Try.f70.results.toList (funX [] 1 1 unr_slices_Max_uint8_uint8)) = slices_Max_uint8_uint8 n a0 a1 a2 := by kernel_rfl
theorem fun_slices_Max_uint8_uint8 (n : Nat) : ∀ a r, slices_Max_uint8_uint8 n a.1 a.2.1 a.2.2 = some r → FunOK Try.prog 70 (arg_slices_Max_uint8_uint8 a) (H0_slices_Max_uint8_uint8 a) 1 1 (out_slices_Max_uint8_uint8 r) := fun a r h => funX_ok (ws := []) unr_ok_slices_Max_uint8_uint8 (Es_ok_slices_Max_uint8_uint8 n) Try.func70 rfl (acOf_code _) (subs_slices_Max_uint8_uint8 n) rfl rfl ((cert_slices_Max_uint8_uint8 n a.1 a.2.1 a.2.2).trans h)
theorem ok_slices_Max_uint8_uint8 (n : Nat) : EntOK Try.prog (e_slices_Max_uint8_uint8 n) := funE_ok (m := 1) (ro := 1) (out := out_slices_Max_uint8_uint8) (arg := arg_slices_Max_uint8_uint8) (H0 := H0_slices_Max_uint8_uint8) Try.call70 outK_ok_slices_Max_uint8_uint8 una_ok_slices_Max_uint8_uint8 (fun _ => rfl) (fun a => chkH_look (m := 1) (H := H0_slices_Max_uint8_uint8 a) rfl) (fun r => chkH_keys (m := 1) (H := (out_slices_Max_uint8_uint8 r).H) (by rcases r with r | r <;> rfl)) (fun r b blk h => (chkH_look (m := 1) (H := (out_slices_Max_uint8_uint8 r).H) (by rcases r with r | r <;> rfl) b blk h).2) (fun r => hasKeys_ok (H := (out_slices_Max_uint8_uint8 r).H) (n := 0) (b := 1) (by rcases r with r | r <;> rfl)) (fun r => (by rcases r with r | r <;> rfl)) (fun_slices_Max_uint8_uint8 n)

/-! circa/marks.Plain -/
noncomputable def arg_marks_Plain (a : List Int × Int) : List V := [.ai .u8 3 a.1, .i .i64 a.2]
noncomputable def una_marks_Plain (l : List V) : Option (List Int × Int) := match l with
  | [.ai .u8 3 a0, .i .i64 a1] => some (a0, a1)
  | _ => none
theorem una_ok_marks_Plain : ∀ l a, una_marks_Plain l = some a → l = arg_marks_Plain a := by
  intro l a h
  unfold una_marks_Plain at h
  split at h
  · cases h; rfl
  · cases h
noncomputable def enc_marks_Plain (r : List Int × List Int × Int) : V := .tp [.ai .u8 3 r.1, .ai .u8 3 r.2.1, .i .i64 r.2.2]
noncomputable def unr_marks_Plain (v : V) : Option (List Int × List Int × Int) := match v with
  | .tp [.ai .u8 3 r0, .ai .u8 3 r1, .i .i64 r2] => some (r0, r1, r2)
  | _ => none
theorem unr_ok_marks_Plain : ∀ v r, unr_marks_Plain v = some r → v = enc_marks_Plain r := by
  intro v r h
  unfold unr_marks_Plain at h
  split at h
  · cases h; rfl
  · cases h
noncomputable def e_marks_Plain (n : Nat) : Ent := pureE 21 una_marks_Plain (fun a => marks_Plain n a.1 a.2) enc_marks_Plain
noncomputable def t_marks_Plain (l : List V) (_ : List (Nat × Blk)) : Bool := isS (una_marks_Plain l)
noncomputable def Es_marks_Plain (n : Nat) : List Ent := [e_marks_All n, e_slices_Min_uint8_uint8 n, e_slices_Max_uint8_uint8 n]
theorem Es_ok_marks_Plain (n : Nat) : ∀ x ∈ Es_marks_Plain n, EntOK Try.prog x := by
  intro x hx
  simp only [Es_marks_Plain, List.mem_cons, List.not_mem_nil, or_false] at hx
  rcases hx with hx | hx | hx
  · rw [hx]; exact ok_marks_All n
  · rw [hx]; exact ok_slices_Min_uint8_uint8 n
  · rw [hx]; exact ok_slices_Max_uint8_uint8 n
noncomputable def Ls_marks_Plain (_n : Nat) : List Sub := []
theorem subs_marks_Plain (n : Nat) : SubOK Try.prog 33 (Ls_marks_Plain n) (acOf Try.f21) := SubOK_of _ (by
  have e : subs (acOf Try.f21) = [] := by kernel_rfl
  rw [e]; intro p hp; cases hp)
theorem cert_marks_Plain (n : Nat) (a0 : List Int) (a1 : Int) : run Try.prog (Es_marks_Plain n) (Ls_marks_Plain n) Try.f21.ntmps (acOf Try.f21) ⟨argsT [.ai .u8 3 a0, .i .i64 a1] 0, [], 0, 0, 0⟩ (finK Try.prog Try.f21.results.toList (retX unr_marks_Plain)) = marks_Plain n a0 a1 := by kernel_rfl
theorem pure_marks_Plain (n : Nat) : ∀ a r, marks_Plain n a.1 a.2 = some r → PureOK Try.prog 21 (arg_marks_Plain a) (enc_marks_Plain r) := fun a r h => pureX_ok unr_ok_marks_Plain (Es_ok_marks_Plain n) Try.func21 rfl (acOf_code _) (subs_marks_Plain n) rfl ((cert_marks_Plain n a.1 a.2).trans h)
theorem ok_marks_Plain (n : Nat) : EntOK Try.prog (e_marks_Plain n) := pureE_ok Try.call21 una_ok_marks_Plain (fun _ => rfl) (pure_marks_Plain n)

/-! circa/marks.Add -/
noncomputable def arg_marks_Add (a : Int × Int) : List V := [.i .u8 a.1, .i .u8 a.2]
noncomputable def una_marks_Add (l : List V) : Option (Int × Int) := match l with
  | [.i .u8 a0, .i .u8 a1] => some (a0, a1)
  | _ => none
theorem una_ok_marks_Add : ∀ l a, una_marks_Add l = some a → l = arg_marks_Add a := by
  intro l a h
  unfold una_marks_Add at h
  split at h
  · cases h; rfl
  · cases h
noncomputable def enc_marks_Add (r : Int × Int) : V := .tp [.i .u8 r.1, .i .i64 r.2]
noncomputable def unr_marks_Add (v : V) : Option (Int × Int) := match v with
  | .tp [.i .u8 r0, .i .i64 r1] => some (r0, r1)
  | _ => none
theorem unr_ok_marks_Add : ∀ v r, unr_marks_Add v = some r → v = enc_marks_Add r := by
  intro v r h
  unfold unr_marks_Add at h
  split at h
  · cases h; rfl
  · cases h
noncomputable def e_marks_Add (n : Nat) : Ent := pureE 25 una_marks_Add (fun a => marks_Add n a.1 a.2) enc_marks_Add
noncomputable def t_marks_Add (l : List V) (_ : List (Nat × Blk)) : Bool := isS (una_marks_Add l)
noncomputable def Es_marks_Add (n : Nat) : List Ent := [e_marks_Check n]
theorem Es_ok_marks_Add (n : Nat) : ∀ x ∈ Es_marks_Add n, EntOK Try.prog x := by
  intro x hx
  simp only [Es_marks_Add, List.mem_cons, List.not_mem_nil, or_false] at hx
  · rw [hx]; exact ok_marks_Check n
noncomputable def Ls_marks_Add (_n : Nat) : List Sub := []
theorem subs_marks_Add (n : Nat) : SubOK Try.prog 17 (Ls_marks_Add n) (acOf Try.f25) := SubOK_of _ (by
  have e : subs (acOf Try.f25) = [] := by kernel_rfl
  rw [e]; intro p hp; cases hp)
theorem cert_marks_Add (n : Nat) (a0 : Int) (a1 : Int) : run Try.prog (Es_marks_Add n) (Ls_marks_Add n) Try.f25.ntmps (acOf Try.f25) ⟨argsT [.i .u8 a0, .i .u8 a1] 0, [], 0, 0, 0⟩ (finK Try.prog Try.f25.results.toList (retX unr_marks_Add)) = marks_Add n a0 a1 := by kernel_rfl
theorem pure_marks_Add (n : Nat) : ∀ a r, marks_Add n a.1 a.2 = some r → PureOK Try.prog 25 (arg_marks_Add a) (enc_marks_Add r) := fun a r h => pureX_ok unr_ok_marks_Add (Es_ok_marks_Add n) Try.func25 rfl (acOf_code _) (subs_marks_Add n) rfl ((cert_marks_Add n a.1 a.2).trans h)
theorem ok_marks_Add (n : Nat) : EntOK Try.prog (e_marks_Add n) := pureE_ok Try.call25 una_ok_marks_Add (fun _ => rfl) (pure_marks_Add n)

/-! circa/marks.Has -/
noncomputable def arg_marks_Has (a : Int × Int) : List V := [.i .u8 a.1, .i .u8 a.2]
noncomputable def una_marks_Has (l : List V) : Option (Int × Int) := match l with
  | [.i .u8 a0, .i .u8 a1] => some (a0, a1)
  | _ => none
theorem una_ok_marks_Has : ∀ l a, una_marks_Has l = some a → l = arg_marks_Has a := by
  intro l a h
  unfold una_marks_Has at h
  split at h
  · cases h; rfl
  · cases h
noncomputable def enc_marks_Has (r : Bool) : V := .b r
noncomputable def unr_marks_Has (v : V) : Option (Bool) := match v with
  | .b r0 => some r0
  | _ => none
theorem unr_ok_marks_Has : ∀ v r, unr_marks_Has v = some r → v = enc_marks_Has r := by
  intro v r h
  unfold unr_marks_Has at h
  split at h
  · cases h; rfl
  · cases h
noncomputable def e_marks_Has (n : Nat) : Ent := pureE 20 una_marks_Has (fun a => marks_Has n a.1 a.2) enc_marks_Has
noncomputable def t_marks_Has (l : List V) (_ : List (Nat × Blk)) : Bool := isS (una_marks_Has l)
noncomputable def Es_marks_Has (_n : Nat) : List Ent := []
theorem Es_ok_marks_Has (n : Nat) : ∀ x ∈ Es_marks_Has n, EntOK Try.prog x := by
  intro x hx
  simp [Es_marks_Has] at hx
noncomputable def Ls_marks_Has (_n : Nat) : List Sub := []
theorem subs_marks_Has (n : Nat) : SubOK Try.prog 9 (Ls_marks_Has n) (acOf Try.f20) := SubOK_of _ (by
  have e : subs (acOf Try.f20) = [] := by kernel_rfl
  rw [e]; intro p hp; cases hp)
theorem cert_marks_Has (n : Nat) (a0 : Int) (a1 : Int) : run Try.prog (Es_marks_Has n) (Ls_marks_Has n) Try.f20.ntmps (acOf Try.f20) ⟨argsT [.i .u8 a0, .i .u8 a1] 0, [], 0, 0, 0⟩ (finK Try.prog Try.f20.results.toList (retX unr_marks_Has)) = marks_Has n a0 a1 := by kernel_rfl
theorem pure_marks_Has (n : Nat) : ∀ a r, marks_Has n a.1 a.2 = some r → PureOK Try.prog 20 (arg_marks_Has a) (enc_marks_Has r) := fun a r h => pureX_ok unr_ok_marks_Has (Es_ok_marks_Has n) Try.func20 rfl (acOf_code _) (subs_marks_Has n) rfl ((cert_marks_Has n a.1 a.2).trans h)
theorem ok_marks_Has (n : Nat) : EntOK Try.prog (e_marks_Has n) := pureE_ok Try.call20 una_ok_marks_Has (fun _ => rfl) (pure_marks_Has n)

/-! circa/circalaw13.lives -/
noncomputable def arg_circalaw13_lives (_a : Unit) : List V := []
noncomputable def una_circalaw13_lives (l : List V) : Option (Unit) := match l with
  | [] => some ()
  | _ => none
theorem una_ok_circalaw13_lives : ∀ l a, una_circalaw13_lives l = some a → l = arg_circalaw13_lives a := by
  intro l a h
  unfold una_circalaw13_lives at h
  split at h
  · cases h; rfl
  · cases h
noncomputable def enc_circalaw13_lives (r : Bool) : V := .b r
noncomputable def unr_circalaw13_lives (v : V) : Option (Bool) := match v with
  | .b r0 => some r0
  | _ => none
theorem unr_ok_circalaw13_lives : ∀ v r, unr_circalaw13_lives v = some r → v = enc_circalaw13_lives r := by
  intro v r h
  unfold unr_circalaw13_lives at h
  split at h
  · cases h; rfl
  · cases h
noncomputable def e_circalaw13_lives (n : Nat) : Ent := pureE 18 una_circalaw13_lives (fun _a => circalaw13_lives n) enc_circalaw13_lives
noncomputable def t_circalaw13_lives (l : List V) (_ : List (Nat × Blk)) : Bool := isS (una_circalaw13_lives l)
noncomputable def Es_circalaw13_lives (n : Nat) : List Ent := [e_marks_Text n, e_marks_Of n, e_marks_Spread n, e_marks_Plain n, e_marks_Add n, e_marks_Has n, e_marks_All n]
theorem Es_ok_circalaw13_lives (n : Nat) : ∀ x ∈ Es_circalaw13_lives n, EntOK Try.prog x := by
  intro x hx
  simp only [Es_circalaw13_lives, List.mem_cons, List.not_mem_nil, or_false] at hx
  rcases hx with hx | hx | hx | hx | hx | hx | hx
  · rw [hx]; exact ok_marks_Text n
  · rw [hx]; exact ok_marks_Of n
  · rw [hx]; exact ok_marks_Spread n
  · rw [hx]; exact ok_marks_Plain n
  · rw [hx]; exact ok_marks_Add n
  · rw [hx]; exact ok_marks_Has n
  · rw [hx]; exact ok_marks_All n
noncomputable def Ls_circalaw13_lives (_n : Nat) : List Sub := []
theorem subs_circalaw13_lives (n : Nat) : SubOK Try.prog 142 (Ls_circalaw13_lives n) (acOf Try.f18) := SubOK_of _ (by
  have e : subs (acOf Try.f18) = [] := by kernel_rfl
  rw [e]; intro p hp; cases hp)
theorem cert_circalaw13_lives (n : Nat) : run Try.prog (Es_circalaw13_lives n) (Ls_circalaw13_lives n) Try.f18.ntmps (acOf Try.f18) ⟨argsT [] 0, [], 0, 0, 0⟩ (finK Try.prog Try.f18.results.toList (retX unr_circalaw13_lives)) = circalaw13_lives n := by kernel_rfl
theorem pure_circalaw13_lives (n : Nat) : ∀ a r, circalaw13_lives n = some r → PureOK Try.prog 18 (arg_circalaw13_lives a) (enc_circalaw13_lives r) := fun a r h => pureX_ok unr_ok_circalaw13_lives (Es_ok_circalaw13_lives n) Try.func18 rfl (acOf_code _) (subs_circalaw13_lives n) rfl ((cert_circalaw13_lives n).trans h)
theorem ok_circalaw13_lives (n : Nat) : EntOK Try.prog (e_circalaw13_lives n) := pureE_ok Try.call18 una_ok_circalaw13_lives (fun _ => rfl) (pure_circalaw13_lives n)

/-! circa/circaref13.bit -/
noncomputable def arg_circaref13_bit (a : Int × Int) : List V := [.i .u8 a.1, .i .u8 a.2]
noncomputable def una_circaref13_bit (l : List V) : Option (Int × Int) := match l with
  | [.i .u8 a0, .i .u8 a1] => some (a0, a1)
  | _ => none
theorem una_ok_circaref13_bit : ∀ l a, una_circaref13_bit l = some a → l = arg_circaref13_bit a := by
  intro l a h
  unfold una_circaref13_bit at h
  split at h
  · cases h; rfl
  · cases h
noncomputable def enc_circaref13_bit (r : Int) : V := .i .i64 r
noncomputable def unr_circaref13_bit (v : V) : Option (Int) := match v with
  | .i .i64 r0 => some r0
  | _ => none
theorem unr_ok_circaref13_bit : ∀ v r, unr_circaref13_bit v = some r → v = enc_circaref13_bit r := by
  intro v r h
  unfold unr_circaref13_bit at h
  split at h
  · cases h; rfl
  · cases h
noncomputable def e_circaref13_bit (n : Nat) : Ent := pureE 68 una_circaref13_bit (fun a => circaref13_bit n a.1 a.2) enc_circaref13_bit
noncomputable def t_circaref13_bit (l : List V) (_ : List (Nat × Blk)) : Bool := isS (una_circaref13_bit l)
noncomputable def Es_circaref13_bit (_n : Nat) : List Ent := []
theorem Es_ok_circaref13_bit (n : Nat) : ∀ x ∈ Es_circaref13_bit n, EntOK Try.prog x := by
  intro x hx
  simp [Es_circaref13_bit] at hx
noncomputable def Ls_circaref13_bit (_n : Nat) : List Sub := []
theorem subs_circaref13_bit (n : Nat) : SubOK Try.prog 14 (Ls_circaref13_bit n) (acOf Try.f68) := SubOK_of _ (by
  have e : subs (acOf Try.f68) = [] := by kernel_rfl
  rw [e]; intro p hp; cases hp)
theorem cert_circaref13_bit (n : Nat) (a0 : Int) (a1 : Int) : run Try.prog (Es_circaref13_bit n) (Ls_circaref13_bit n) Try.f68.ntmps (acOf Try.f68) ⟨argsT [.i .u8 a0, .i .u8 a1] 0, [], 0, 0, 0⟩ (finK Try.prog Try.f68.results.toList (retX unr_circaref13_bit)) = circaref13_bit n a0 a1 := by kernel_rfl
theorem pure_circaref13_bit (n : Nat) : ∀ a r, circaref13_bit n a.1 a.2 = some r → PureOK Try.prog 68 (arg_circaref13_bit a) (enc_circaref13_bit r) := fun a r h => pureX_ok unr_ok_circaref13_bit (Es_ok_circaref13_bit n) Try.func68 rfl (acOf_code _) (subs_circaref13_bit n) rfl ((cert_circaref13_bit n a.1 a.2).trans h)
theorem ok_circaref13_bit (n : Nat) : EntOK Try.prog (e_circaref13_bit n) := pureE_ok Try.call68 una_ok_circaref13_bit (fun _ => rfl) (pure_circaref13_bit n)

/-! circa/circaref13.Spread -/
noncomputable def arg_circaref13_Spread (a : List Int × List Int × Int) : List V := [.ai .u8 3 a.1, .ai .u8 3 a.2.1, .i .i64 a.2.2]
noncomputable def una_circaref13_Spread (l : List V) : Option (List Int × List Int × Int) := match l with
  | [.ai .u8 3 a0, .ai .u8 3 a1, .i .i64 a2] => some (a0, a1, a2)
  | _ => none
theorem una_ok_circaref13_Spread : ∀ l a, una_circaref13_Spread l = some a → l = arg_circaref13_Spread a := by
  intro l a h
  unfold una_circaref13_Spread at h
  split at h
  · cases h; rfl
  · cases h
noncomputable def enc_circaref13_Spread (r : List Int) : V := .ai .u8 3 r
noncomputable def unr_circaref13_Spread (v : V) : Option (List Int) := match v with
  | .ai .u8 3 r0 => some r0
  | _ => none
theorem unr_ok_circaref13_Spread : ∀ v r, unr_circaref13_Spread v = some r → v = enc_circaref13_Spread r := by
  intro v r h
  unfold unr_circaref13_Spread at h
  split at h
  · cases h; rfl
  · cases h
noncomputable def e_circaref13_Spread (n : Nat) : Ent := pureE 19 una_circaref13_Spread (fun a => circaref13_Spread n a.1 a.2.1 a.2.2) enc_circaref13_Spread
noncomputable def t_circaref13_Spread (l : List V) (_ : List (Nat × Blk)) : Bool := isS (una_circaref13_Spread l)
noncomputable def Es_circaref13_Spread (n : Nat) : List Ent := [e_circaref13_bit n]
theorem Es_ok_circaref13_Spread (n : Nat) : ∀ x ∈ Es_circaref13_Spread n, EntOK Try.prog x := by
  intro x hx
  simp only [Es_circaref13_Spread, List.mem_cons, List.not_mem_nil, or_false] at hx
  · rw [hx]; exact ok_circaref13_bit n
noncomputable def an_circaref13_Spread_l2 : Ann := ⟨[2, 3, 4, 6, 7, 8, 9, 10, 11], [0, 1, 2, 3], 4⟩
noncomputable def emb_circaref13_Spread_l2 (x : Int × Int × Int × Int × Int × List Int × List Int × List Int × List Int) : St := ⟨[(2, some (.i .i64 x.1)), (3, some (.p 0 0)), (4, some (.p 1 0)), (6, some (.p 2 0)), (7, some (.p 3 0)), (8, some (.i .u8 x.2.1)), (9, some (.i .i64 x.2.2.1)), (10, some (.i .i64 x.2.2.2.1)), (11, some (.i .i64 x.2.2.2.2.1))], [(0, .ints .u8 3 x.2.2.2.2.2.1), (1, .ints .u8 3 x.2.2.2.2.2.2.1), (2, .ints .u8 3 x.2.2.2.2.2.2.2.1), (3, .ints .u8 3 x.2.2.2.2.2.2.2.2)], 4, 0, 0⟩
noncomputable def un_circaref13_Spread_l2 (s : St) : Option (Int × Int × Int × Int × Int × List Int × List Int × List Int × List Int) := match s with
  | ⟨[(2, some (.i .i64 x0)), (3, some (.p 0 0)), (4, some (.p 1 0)), (6, some (.p 2 0)), (7, some (.p 3 0)), (8, some (.i .u8 x1)), (9, some (.i .i64 x2)), (10, some (.i .i64 x3)), (11, some (.i .i64 x4))], [(0, .ints .u8 3 x5), (1, .ints .u8 3 x6), (2, .ints .u8 3 x7), (3, .ints .u8 3 x8)], 4, 0, 0⟩ => some (x0, x1, x2, x3, x4, x5, x6, x7, x8)
  | _ => none
theorem un_ok_circaref13_Spread_l2 : ∀ s x, un_circaref13_Spread_l2 s = some x → s = emb_circaref13_Spread_l2 x := by
  intro s x h
  unfold un_circaref13_Spread_l2 at h
  split at h
  · cases h; rfl
  · cases h
noncomputable def ax_circaref13_Spread_l2 : Ex → Ann := fun ex => match ex with
  | .exit 4 => ⟨[2, 3, 4, 6, 7, 8, 9, 10], [0, 1, 2, 3], 4⟩
  | _ => ⟨[], [], 0⟩
noncomputable def out_circaref13_Spread_l2 (y : (Int × Int × Int × Int × List Int × List Int × List Int × List Int)) : Ex × St := (.exit 4, ⟨[(2, some (.i .i64 y.1)), (3, some (.p 0 0)), (4, some (.p 1 0)), (6, some (.p 2 0)), (7, some (.p 3 0)), (8, some (.i .u8 y.2.1)), (9, some (.i .i64 y.2.2.1)), (10, some (.i .i64 y.2.2.2.1))], [(0, .ints .u8 3 y.2.2.2.2.1), (1, .ints .u8 3 y.2.2.2.2.2.1), (2, .ints .u8 3 y.2.2.2.2.2.2.1), (3, .ints .u8 3 y.2.2.2.2.2.2.2)], 4, 0, 0⟩)
noncomputable def outK_circaref13_Spread_l2 (α : Type) (y : (Int × Int × Int × Int × List Int × List Int × List Int × List Int)) (k : Ex → St → Option α) : Option α := (k (.exit 4) ⟨[(2, some (.i .i64 y.1)), (3, some (.p 0 0)), (4, some (.p 1 0)), (6, some (.p 2 0)), (7, some (.p 3 0)), (8, some (.i .u8 y.2.1)), (9, some (.i .i64 y.2.2.1)), (10, some (.i .i64 y.2.2.2.1))], [(0, .ints .u8 3 y.2.2.2.2.1), (1, .ints .u8 3 y.2.2.2.2.2.1), (2, .ints .u8 3 y.2.2.2.2.2.2.1), (3, .ints .u8 3 y.2.2.2.2.2.2.2)], 4, 0, 0⟩)
theorem outK_ok_circaref13_Spread_l2 : ∀ α y k, outK_circaref13_Spread_l2 α y k = k (out_circaref13_Spread_l2 y).1 (out_circaref13_Spread_l2 y).2 := by
  intro α y k
  rfl
noncomputable def ux_circaref13_Spread_l2 (ex : Ex) (s : St) : Option ((Int × Int × Int × Int × List Int × List Int × List Int × List Int)) := match ex, s with
  | .exit 4, ⟨[(2, some (.i .i64 y0)), (3, some (.p 0 0)), (4, some (.p 1 0)), (6, some (.p 2 0)), (7, some (.p 3 0)), (8, some (.i .u8 y1)), (9, some (.i .i64 y2)), (10, some (.i .i64 y3))], [(0, .ints .u8 3 y4), (1, .ints .u8 3 y5), (2, .ints .u8 3 y6), (3, .ints .u8 3 y7)], 4, 0, 0⟩ => some (y0, y1, y2, y3, y4, y5, y6, y7)
  | _, _ => none
theorem ux_ok_circaref13_Spread_l2 : ∀ ex s y, ux_circaref13_Spread_l2 ex s = some y → (ex, s) = out_circaref13_Spread_l2 y := by
  intro ex s y h
  unfold ux_circaref13_Spread_l2 at h
  split at h
  · cases h; rfl
  · cases h
noncomputable def an_circaref13_Spread_l1 : Ann := ⟨[2, 3, 4, 6, 7, 8, 9], [0, 1, 2, 3], 4⟩
noncomputable def emb_circaref13_Spread_l1 (x : Int × Int × Int × List Int × List Int × List Int × List Int) : St := ⟨[(2, some (.i .i64 x.1)), (3, some (.p 0 0)), (4, some (.p 1 0)), (6, some (.p 2 0)), (7, some (.p 3 0)), (8, some (.i .u8 x.2.1)), (9, some (.i .i64 x.2.2.1))], [(0, .ints .u8 3 x.2.2.2.1), (1, .ints .u8 3 x.2.2.2.2.1), (2, .ints .u8 3 x.2.2.2.2.2.1), (3, .ints .u8 3 x.2.2.2.2.2.2)], 4, 0, 0⟩
noncomputable def un_circaref13_Spread_l1 (s : St) : Option (Int × Int × Int × List Int × List Int × List Int × List Int) := match s with
  | ⟨[(2, some (.i .i64 x0)), (3, some (.p 0 0)), (4, some (.p 1 0)), (6, some (.p 2 0)), (7, some (.p 3 0)), (8, some (.i .u8 x1)), (9, some (.i .i64 x2))], [(0, .ints .u8 3 x3), (1, .ints .u8 3 x4), (2, .ints .u8 3 x5), (3, .ints .u8 3 x6)], 4, 0, 0⟩ => some (x0, x1, x2, x3, x4, x5, x6)
  | _ => none
theorem un_ok_circaref13_Spread_l1 : ∀ s x, un_circaref13_Spread_l1 s = some x → s = emb_circaref13_Spread_l1 x := by
  intro s x h
  unfold un_circaref13_Spread_l1 at h
  split at h
  · cases h; rfl
  · cases h
noncomputable def ax_circaref13_Spread_l1 : Ex → Ann := fun ex => match ex with
  | .exit 2 => ⟨[2, 3, 4, 6, 7, 8], [0, 1, 2, 3], 4⟩
  | _ => ⟨[], [], 0⟩
noncomputable def out_circaref13_Spread_l1 (y : (Int × Int × List Int × List Int × List Int × List Int)) : Ex × St := (.exit 2, ⟨[(2, some (.i .i64 y.1)), (3, some (.p 0 0)), (4, some (.p 1 0)), (6, some (.p 2 0)), (7, some (.p 3 0)), (8, some (.i .u8 y.2.1))], [(0, .ints .u8 3 y.2.2.1), (1, .ints .u8 3 y.2.2.2.1), (2, .ints .u8 3 y.2.2.2.2.1), (3, .ints .u8 3 y.2.2.2.2.2)], 4, 0, 0⟩)
noncomputable def outK_circaref13_Spread_l1 (α : Type) (y : (Int × Int × List Int × List Int × List Int × List Int)) (k : Ex → St → Option α) : Option α := (k (.exit 2) ⟨[(2, some (.i .i64 y.1)), (3, some (.p 0 0)), (4, some (.p 1 0)), (6, some (.p 2 0)), (7, some (.p 3 0)), (8, some (.i .u8 y.2.1))], [(0, .ints .u8 3 y.2.2.1), (1, .ints .u8 3 y.2.2.2.1), (2, .ints .u8 3 y.2.2.2.2.1), (3, .ints .u8 3 y.2.2.2.2.2)], 4, 0, 0⟩)
theorem outK_ok_circaref13_Spread_l1 : ∀ α y k, outK_circaref13_Spread_l1 α y k = k (out_circaref13_Spread_l1 y).1 (out_circaref13_Spread_l1 y).2 := by
  intro α y k
  rfl
noncomputable def ux_circaref13_Spread_l1 (ex : Ex) (s : St) : Option ((Int × Int × List Int × List Int × List Int × List Int)) := match ex, s with
  | .exit 2, ⟨[(2, some (.i .i64 y0)), (3, some (.p 0 0)), (4, some (.p 1 0)), (6, some (.p 2 0)), (7, some (.p 3 0)), (8, some (.i .u8 y1))], [(0, .ints .u8 3 y2), (1, .ints .u8 3 y3), (2, .ints .u8 3 y4), (3, .ints .u8 3 y5)], 4, 0, 0⟩ => some (y0, y1, y2, y3, y4, y5)
  | _, _ => none
theorem ux_ok_circaref13_Spread_l1 : ∀ ex s y, ux_circaref13_Spread_l1 ex s = some y → (ex, s) = out_circaref13_Spread_l1 y := by
  intro ex s y h
  unfold ux_circaref13_Spread_l1 at h
  split at h
  · cases h; rfl
  · cases h
noncomputable def an_circaref13_Spread_l0 : Ann := ⟨[2, 3, 4, 6, 7, 8], [0, 1, 2, 3], 4⟩
noncomputable def emb_circaref13_Spread_l0 (x : Int × Int × List Int × List Int × List Int × List Int) : St := ⟨[(2, some (.i .i64 x.1)), (3, some (.p 0 0)), (4, some (.p 1 0)), (6, some (.p 2 0)), (7, some (.p 3 0)), (8, some (.i .u8 x.2.1))], [(0, .ints .u8 3 x.2.2.1), (1, .ints .u8 3 x.2.2.2.1), (2, .ints .u8 3 x.2.2.2.2.1), (3, .ints .u8 3 x.2.2.2.2.2)], 4, 0, 0⟩
noncomputable def un_circaref13_Spread_l0 (s : St) : Option (Int × Int × List Int × List Int × List Int × List Int) := match s with
  | ⟨[(2, some (.i .i64 x0)), (3, some (.p 0 0)), (4, some (.p 1 0)), (6, some (.p 2 0)), (7, some (.p 3 0)), (8, some (.i .u8 x1))], [(0, .ints .u8 3 x2), (1, .ints .u8 3 x3), (2, .ints .u8 3 x4), (3, .ints .u8 3 x5)], 4, 0, 0⟩ => some (x0, x1, x2, x3, x4, x5)
  | _ => none
theorem un_ok_circaref13_Spread_l0 : ∀ s x, un_circaref13_Spread_l0 s = some x → s = emb_circaref13_Spread_l0 x := by
  intro s x h
  unfold un_circaref13_Spread_l0 at h
  split at h
  · cases h; rfl
  · cases h
noncomputable def ax_circaref13_Spread_l0 : Ex → Ann := fun ex => match ex with
  | .exit 0 => ⟨[6, 7], [2, 3], 4⟩
  | _ => ⟨[], [], 0⟩
noncomputable def out_circaref13_Spread_l0 (y : (List Int × List Int)) : Ex × St := (.exit 0, ⟨[(6, some (.p 2 0)), (7, some (.p 3 0))], [(2, .ints .u8 3 y.1), (3, .ints .u8 3 y.2)], 4, 0, 0⟩)
noncomputable def outK_circaref13_Spread_l0 (α : Type) (y : (List Int × List Int)) (k : Ex → St → Option α) : Option α := (k (.exit 0) ⟨[(6, some (.p 2 0)), (7, some (.p 3 0))], [(2, .ints .u8 3 y.1), (3, .ints .u8 3 y.2)], 4, 0, 0⟩)
theorem outK_ok_circaref13_Spread_l0 : ∀ α y k, outK_circaref13_Spread_l0 α y k = k (out_circaref13_Spread_l0 y).1 (out_circaref13_Spread_l0 y).2 := by
  intro α y k
  rfl
noncomputable def ux_circaref13_Spread_l0 (ex : Ex) (s : St) : Option ((List Int × List Int)) := match ex, s with
  | .exit 0, ⟨[(6, some (.p 2 0)), (7, some (.p 3 0))], [(2, .ints .u8 3 y0), (3, .ints .u8 3 y1)], 4, 0, 0⟩ => some (y0, y1)
  | _, _ => none
theorem ux_ok_circaref13_Spread_l0 : ∀ ex s y, ux_circaref13_Spread_l0 ex s = some y → (ex, s) = out_circaref13_Spread_l0 y := by
  intro ex s y h
  unfold ux_circaref13_Spread_l0 at h
  split at h
  · cases h; rfl
  · cases h
noncomputable def Ls_circaref13_Spread (n : Nat) : List Sub := [subE 2 an_circaref13_Spread_l2 un_circaref13_Spread_l2 (fun x => iterL (circaref13_Spread_l2 n) n x) outK_circaref13_Spread_l2, subE 1 an_circaref13_Spread_l1 un_circaref13_Spread_l1 (fun x => iterL (circaref13_Spread_l1 n) n x) outK_circaref13_Spread_l1, subE 0 an_circaref13_Spread_l0 un_circaref13_Spread_l0 (fun x => iterL (circaref13_Spread_l0 n) n x) outK_circaref13_Spread_l0]
noncomputable def sac_circaref13_Spread_l0 : AC := getS (subs (acOf Try.f19)) 0
noncomputable def ac_circaref13_Spread_l0 : AC := AC.body sac_circaref13_Spread_l0
noncomputable def sac_circaref13_Spread_l1 : AC := getS (subs ac_circaref13_Spread_l0) 1
noncomputable def ac_circaref13_Spread_l1 : AC := AC.body sac_circaref13_Spread_l1
noncomputable def sac_circaref13_Spread_l2 : AC := getS (subs ac_circaref13_Spread_l1) 2
noncomputable def ac_circaref13_Spread_l2 : AC := AC.body sac_circaref13_Spread_l2
theorem subs_circaref13_Spread_l2 (n : Nat) : SubOK Try.prog 48 (Ls_circaref13_Spread n) ac_circaref13_Spread_l2 := SubOK_of _ (by
  have e : subs ac_circaref13_Spread_l2 = [] := by kernel_rfl
  rw [e]; intro p hp; cases hp)
theorem body_circaref13_Spread_l2 (n : Nat) : ∀ x, run Try.prog (Es_circaref13_Spread n) (Ls_circaref13_Spread n) 48 ac_circaref13_Spread_l2 (emb_circaref13_Spread_l2 x) (roundK an_circaref13_Spread_l2 un_circaref13_Spread_l2 ax_circaref13_Spread_l2 ux_circaref13_Spread_l2) = circaref13_Spread_l2 n x := fun _ => by kernel_rfl
theorem sub1_circaref13_Spread_l2 (n : Nat) : ∀ (α : Type) (s : St) (k : Ex → St → Option α) (z : α), (subE 2 an_circaref13_Spread_l2 un_circaref13_Spread_l2 (fun x => iterL (circaref13_Spread_l2 n) n x) outK_circaref13_Spread_l2).e α s k = some z → SemC Try.prog 48 (sac_circaref13_Spread_l2).code s fun ex s' => k ex s' = some z := by
  intro α s k z h
  have e : sac_circaref13_Spread_l2 = .loop ac_circaref13_Spread_l2 := by kernel_rfl
  rw [e]
  exact subE_ok (m := 2) (f := fun x => iterL (circaref13_Spread_l2 n) n x) (out := out_circaref13_Spread_l2) outK_ok_circaref13_Spread_l2 un_ok_circaref13_Spread_l2 (fun x y hy => loop_ok (Es_ok_circaref13_Spread n) (subs_circaref13_Spread_l2 n) un_ok_circaref13_Spread_l2 ux_ok_circaref13_Spread_l2 (body_circaref13_Spread_l2 n) n x y hy) h
theorem sub_circaref13_Spread_l2 (n : Nat) : SubSt Try.prog 48 (Ls_circaref13_Spread n) 2 sac_circaref13_Spread_l2 := fun α s k z => sub1_circaref13_Spread_l2 n α s k z
theorem subs_circaref13_Spread_l1 (n : Nat) : SubOK Try.prog 48 (Ls_circaref13_Spread n) ac_circaref13_Spread_l1 := SubOK_of _ (by
  have e : subs ac_circaref13_Spread_l1 = [(2, sac_circaref13_Spread_l2)] := by kernel_rfl
  rw [e]; intro p hp
  simp only [List.mem_cons, List.not_mem_nil, or_false] at hp
  · rw [hp]; exact sub_circaref13_Spread_l2 n
  )
theorem body_circaref13_Spread_l1 (n : Nat) : ∀ x, run Try.prog (Es_circaref13_Spread n) (Ls_circaref13_Spread n) 48 ac_circaref13_Spread_l1 (emb_circaref13_Spread_l1 x) (roundK an_circaref13_Spread_l1 un_circaref13_Spread_l1 ax_circaref13_Spread_l1 ux_circaref13_Spread_l1) = circaref13_Spread_l1 n x := fun _ => by kernel_rfl
theorem sub1_circaref13_Spread_l1 (n : Nat) : ∀ (α : Type) (s : St) (k : Ex → St → Option α) (z : α), (subE 1 an_circaref13_Spread_l1 un_circaref13_Spread_l1 (fun x => iterL (circaref13_Spread_l1 n) n x) outK_circaref13_Spread_l1).e α s k = some z → SemC Try.prog 48 (sac_circaref13_Spread_l1).code s fun ex s' => k ex s' = some z := by
  intro α s k z h
  have e : sac_circaref13_Spread_l1 = .loop ac_circaref13_Spread_l1 := by kernel_rfl
  rw [e]
  exact subE_ok (m := 1) (f := fun x => iterL (circaref13_Spread_l1 n) n x) (out := out_circaref13_Spread_l1) outK_ok_circaref13_Spread_l1 un_ok_circaref13_Spread_l1 (fun x y hy => loop_ok (Es_ok_circaref13_Spread n) (subs_circaref13_Spread_l1 n) un_ok_circaref13_Spread_l1 ux_ok_circaref13_Spread_l1 (body_circaref13_Spread_l1 n) n x y hy) h
theorem sub_circaref13_Spread_l1 (n : Nat) : SubSt Try.prog 48 (Ls_circaref13_Spread n) 1 sac_circaref13_Spread_l1 := fun α s k z => sub1_circaref13_Spread_l1 n α s k z
theorem subs_circaref13_Spread_l0 (n : Nat) : SubOK Try.prog 48 (Ls_circaref13_Spread n) ac_circaref13_Spread_l0 := SubOK_of _ (by
  have e : subs ac_circaref13_Spread_l0 = [(1, sac_circaref13_Spread_l1)] := by kernel_rfl
  rw [e]; intro p hp
  simp only [List.mem_cons, List.not_mem_nil, or_false] at hp
  · rw [hp]; exact sub_circaref13_Spread_l1 n
  )
theorem body_circaref13_Spread_l0 (n : Nat) : ∀ x, run Try.prog (Es_circaref13_Spread n) (Ls_circaref13_Spread n) 48 ac_circaref13_Spread_l0 (emb_circaref13_Spread_l0 x) (roundK an_circaref13_Spread_l0 un_circaref13_Spread_l0 ax_circaref13_Spread_l0 ux_circaref13_Spread_l0) = circaref13_Spread_l0 n x := fun _ => by kernel_rfl
theorem sub1_circaref13_Spread_l0 (n : Nat) : ∀ (α : Type) (s : St) (k : Ex → St → Option α) (z : α), (subE 0 an_circaref13_Spread_l0 un_circaref13_Spread_l0 (fun x => iterL (circaref13_Spread_l0 n) n x) outK_circaref13_Spread_l0).e α s k = some z → SemC Try.prog 48 (sac_circaref13_Spread_l0).code s fun ex s' => k ex s' = some z := by
  intro α s k z h
  have e : sac_circaref13_Spread_l0 = .loop ac_circaref13_Spread_l0 := by kernel_rfl
  rw [e]
  exact subE_ok (m := 0) (f := fun x => iterL (circaref13_Spread_l0 n) n x) (out := out_circaref13_Spread_l0) outK_ok_circaref13_Spread_l0 un_ok_circaref13_Spread_l0 (fun x y hy => loop_ok (Es_ok_circaref13_Spread n) (subs_circaref13_Spread_l0 n) un_ok_circaref13_Spread_l0 ux_ok_circaref13_Spread_l0 (body_circaref13_Spread_l0 n) n x y hy) h
theorem sub_circaref13_Spread_l0 (n : Nat) : SubSt Try.prog 48 (Ls_circaref13_Spread n) 0 sac_circaref13_Spread_l0 := fun α s k z => sub1_circaref13_Spread_l0 n α s k z
theorem subs_circaref13_Spread (n : Nat) : SubOK Try.prog 48 (Ls_circaref13_Spread n) (acOf Try.f19) := SubOK_of _ (by
  have e : subs (acOf Try.f19) = [(0, sac_circaref13_Spread_l0)] := by kernel_rfl
  rw [e]; intro p hp
  simp only [List.mem_cons, List.not_mem_nil, or_false] at hp
  · rw [hp]; exact sub_circaref13_Spread_l0 n
  )
theorem cert_circaref13_Spread (n : Nat) (a0 : List Int) (a1 : List Int) (a2 : Int) : run Try.prog (Es_circaref13_Spread n) (Ls_circaref13_Spread n) Try.f19.ntmps (acOf Try.f19) ⟨argsT [.ai .u8 3 a0, .ai .u8 3 a1, .i .i64 a2] 0, [], 0, 0, 0⟩ (finK Try.prog Try.f19.results.toList (retX unr_circaref13_Spread)) = circaref13_Spread n a0 a1 a2 := by kernel_rfl
theorem pure_circaref13_Spread (n : Nat) : ∀ a r, circaref13_Spread n a.1 a.2.1 a.2.2 = some r → PureOK Try.prog 19 (arg_circaref13_Spread a) (enc_circaref13_Spread r) := fun a r h => pureX_ok unr_ok_circaref13_Spread (Es_ok_circaref13_Spread n) Try.func19 rfl (acOf_code _) (subs_circaref13_Spread n) rfl ((cert_circaref13_Spread n a.1 a.2.1 a.2.2).trans h)
theorem ok_circaref13_Spread (n : Nat) : EntOK Try.prog (e_circaref13_Spread n) := pureE_ok Try.call19 una_ok_circaref13_Spread (fun _ => rfl) (pure_circaref13_Spread n)

/-! circa/circalaw13.MarksSpread -/
noncomputable def arg_circalaw13_MarksSpread (a : List Int × List Int × Int) : List V := [.ai .u8 3 a.1, .ai .u8 3 a.2.1, .i .i64 a.2.2]
noncomputable def una_circalaw13_MarksSpread (l : List V) : Option (List Int × List Int × Int) := match l with
  | [.ai .u8 3 a0, .ai .u8 3 a1, .i .i64 a2] => some (a0, a1, a2)
  | _ => none
theorem una_ok_circalaw13_MarksSpread : ∀ l a, una_circalaw13_MarksSpread l = some a → l = arg_circalaw13_MarksSpread a := by
  intro l a h
  unfold una_circalaw13_MarksSpread at h
  split at h
  · cases h; rfl
  · cases h
noncomputable def enc_circalaw13_MarksSpread (r : Bool) : V := .b r
noncomputable def unr_circalaw13_MarksSpread (v : V) : Option (Bool) := match v with
  | .b r0 => some r0
  | _ => none
theorem unr_ok_circalaw13_MarksSpread : ∀ v r, unr_circalaw13_MarksSpread v = some r → v = enc_circalaw13_MarksSpread r := by
  intro v r h
  unfold unr_circalaw13_MarksSpread at h
  split at h
  · cases h; rfl
  · cases h
noncomputable def e_circalaw13_MarksSpread (n : Nat) : Ent := pureE 3 una_circalaw13_MarksSpread (fun a => circalaw13_MarksSpread n a.1 a.2.1 a.2.2) enc_circalaw13_MarksSpread
noncomputable def t_circalaw13_MarksSpread (l : List V) (_ : List (Nat × Blk)) : Bool := isS (una_circalaw13_MarksSpread l)
noncomputable def Es_circalaw13_MarksSpread (n : Nat) : List Ent := [e_circaref13_All n, e_marks_Spread n, e_marks_All n, e_circalaw13_lives n, e_circaref13_Spread n, e_marks_Has n]
theorem Es_ok_circalaw13_MarksSpread (n : Nat) : ∀ x ∈ Es_circalaw13_MarksSpread n, EntOK Try.prog x := by
  intro x hx
  simp only [Es_circalaw13_MarksSpread, List.mem_cons, List.not_mem_nil, or_false] at hx
  rcases hx with hx | hx | hx | hx | hx | hx
  · rw [hx]; exact ok_circaref13_All n
  · rw [hx]; exact ok_marks_Spread n
  · rw [hx]; exact ok_marks_All n
  · rw [hx]; exact ok_circalaw13_lives n
  · rw [hx]; exact ok_circaref13_Spread n
  · rw [hx]; exact ok_marks_Has n
noncomputable def an_circalaw13_MarksSpread_l1 : Ann := ⟨[2, 3, 4, 8, 10, 12, 14], [0, 1, 2, 148], 149⟩
noncomputable def emb_circalaw13_MarksSpread_l1 (x : Int × Int × Int × List Int × List Int × List Int × List Int) : St := ⟨[(2, some (.i .i64 x.1)), (3, some (.p 0 0)), (4, some (.p 1 0)), (8, some (.p 2 0)), (10, some (.i .i64 x.2.1)), (12, some (.p 148 0)), (14, some (.i .i64 x.2.2.1))], [(0, .ints .u8 3 x.2.2.2.1), (1, .ints .u8 3 x.2.2.2.2.1), (2, .ints .u8 3 x.2.2.2.2.2.1), (148, .ints .u8 3 x.2.2.2.2.2.2)], 149, 0, 0⟩
noncomputable def un_circalaw13_MarksSpread_l1 (s : St) : Option (Int × Int × Int × List Int × List Int × List Int × List Int) := match s with
  | ⟨[(2, some (.i .i64 x0)), (3, some (.p 0 0)), (4, some (.p 1 0)), (8, some (.p 2 0)), (10, some (.i .i64 x1)), (12, some (.p 148 0)), (14, some (.i .i64 x2))], [(0, .ints .u8 3 x3), (1, .ints .u8 3 x4), (2, .ints .u8 3 x5), (148, .ints .u8 3 x6)], 149, 0, 0⟩ => some (x0, x1, x2, x3, x4, x5, x6)
  | _ => none
theorem un_ok_circalaw13_MarksSpread_l1 : ∀ s x, un_circalaw13_MarksSpread_l1 s = some x → s = emb_circalaw13_MarksSpread_l1 x := by
  intro s x h
  unfold un_circalaw13_MarksSpread_l1 at h
  split at h
  · cases h; rfl
  · cases h
noncomputable def ax_circalaw13_MarksSpread_l1 : Ex → Ann := fun ex => match ex with
  | .ret => ⟨[6], [], 149⟩
  | .exit 2 => ⟨[2, 3, 4, 8, 10], [0, 1, 2], 149⟩
  | _ => ⟨[], [], 0⟩
noncomputable def out_circalaw13_MarksSpread_l1 (y : Bool ⊕ (Int × Int × List Int × List Int × List Int)) : Ex × St := (Sum.casesOn (motive := fun _ => Ex × St) y (fun a0 => (.ret, ⟨[(6, some (.b a0))], [], 149, 0, 0⟩)) (fun b0 => (.exit 2, ⟨[(2, some (.i .i64 b0.1)), (3, some (.p 0 0)), (4, some (.p 1 0)), (8, some (.p 2 0)), (10, some (.i .i64 b0.2.1))], [(0, .ints .u8 3 b0.2.2.1), (1, .ints .u8 3 b0.2.2.2.1), (2, .ints .u8 3 b0.2.2.2.2)], 149, 0, 0⟩)))
noncomputable def outK_circalaw13_MarksSpread_l1 (α : Type) (y : Bool ⊕ (Int × Int × List Int × List Int × List Int)) (k : Ex → St → Option α) : Option α := (Sum.casesOn (motive := fun _ => Option α) y (fun a0 => (k (.ret) ⟨[(6, some (.b a0))], [], 149, 0, 0⟩)) (fun b0 => (k (.exit 2) ⟨[(2, some (.i .i64 b0.1)), (3, some (.p 0 0)), (4, some (.p 1 0)), (8, some (.p 2 0)), (10, some (.i .i64 b0.2.1))], [(0, .ints .u8 3 b0.2.2.1), (1, .ints .u8 3 b0.2.2.2.1), (2, .ints .u8 3 b0.2.2.2.2)], 149, 0, 0⟩)))
theorem outK_ok_circalaw13_MarksSpread_l1 : ∀ α y k, outK_circalaw13_MarksSpread_l1 α y k = k (out_circalaw13_MarksSpread_l1 y).1 (out_circalaw13_MarksSpread_l1 y).2 := by
  intro α y k
  rcases y with y | y <;> rfl
noncomputable def ux_circalaw13_MarksSpread_l1 (ex : Ex) (s : St) : Option (Bool ⊕ (Int × Int × List Int × List Int × List Int)) := match ex, s with
  | .ret, ⟨[(6, some (.b y0))], [], 149, 0, 0⟩ => some (.inl y0)
  | .exit 2, ⟨[(2, some (.i .i64 y0)), (3, some (.p 0 0)), (4, some (.p 1 0)), (8, some (.p 2 0)), (10, some (.i .i64 y1))], [(0, .ints .u8 3 y2), (1, .ints .u8 3 y3), (2, .ints .u8 3 y4)], 149, 0, 0⟩ => some (.inr (y0, y1, y2, y3, y4))
  | _, _ => none
theorem ux_ok_circalaw13_MarksSpread_l1 : ∀ ex s y, ux_circalaw13_MarksSpread_l1 ex s = some y → (ex, s) = out_circalaw13_MarksSpread_l1 y := by
  intro ex s y h
  unfold ux_circalaw13_MarksSpread_l1 at h
  split at h
  · cases h; rfl
  · cases h; rfl
  · cases h
noncomputable def an_circalaw13_MarksSpread_l0 : Ann := ⟨[2, 3, 4, 8, 10], [0, 1, 2], 147⟩
noncomputable def emb_circalaw13_MarksSpread_l0 (x : Int × Int × List Int × List Int × List Int) : St := ⟨[(2, some (.i .i64 x.1)), (3, some (.p 0 0)), (4, some (.p 1 0)), (8, some (.p 2 0)), (10, some (.i .i64 x.2.1))], [(0, .ints .u8 3 x.2.2.1), (1, .ints .u8 3 x.2.2.2.1), (2, .ints .u8 3 x.2.2.2.2)], 147, 0, 0⟩
noncomputable def un_circalaw13_MarksSpread_l0 (s : St) : Option (Int × Int × List Int × List Int × List Int) := match s with
  | ⟨[(2, some (.i .i64 x0)), (3, some (.p 0 0)), (4, some (.p 1 0)), (8, some (.p 2 0)), (10, some (.i .i64 x1))], [(0, .ints .u8 3 x2), (1, .ints .u8 3 x3), (2, .ints .u8 3 x4)], 147, 0, 0⟩ => some (x0, x1, x2, x3, x4)
  | _ => none
theorem un_ok_circalaw13_MarksSpread_l0 : ∀ s x, un_circalaw13_MarksSpread_l0 s = some x → s = emb_circalaw13_MarksSpread_l0 x := by
  intro s x h
  unfold un_circalaw13_MarksSpread_l0 at h
  split at h
  · cases h; rfl
  · cases h
noncomputable def ax_circalaw13_MarksSpread_l0 : Ex → Ann := fun ex => match ex with
  | .ret => ⟨[6], [], 147⟩
  | .exit 0 => ⟨[], [], 147⟩
  | _ => ⟨[], [], 0⟩
noncomputable def out_circalaw13_MarksSpread_l0 (y : Bool ⊕ Unit) : Ex × St := (Sum.casesOn (motive := fun _ => Ex × St) y (fun a0 => (.ret, ⟨[(6, some (.b a0))], [], 147, 0, 0⟩)) (fun b0 => (.exit 0, ⟨[], [], 147, 0, 0⟩)))
noncomputable def outK_circalaw13_MarksSpread_l0 (α : Type) (y : Bool ⊕ Unit) (k : Ex → St → Option α) : Option α := (Sum.casesOn (motive := fun _ => Option α) y (fun a0 => (k (.ret) ⟨[(6, some (.b a0))], [], 147, 0, 0⟩)) (fun b0 => (k (.exit 0) ⟨[], [], 147, 0, 0⟩)))
theorem outK_ok_circalaw13_MarksSpread_l0 : ∀ α y k, outK_circalaw13_MarksSpread_l0 α y k = k (out_circalaw13_MarksSpread_l0 y).1 (out_circalaw13_MarksSpread_l0 y).2 := by
  intro α y k
  rcases y with y | y <;> rfl
noncomputable def ux_circalaw13_MarksSpread_l0 (ex : Ex) (s : St) : Option (Bool ⊕ Unit) := match ex, s with
  | .ret, ⟨[(6, some (.b y0))], [], 147, 0, 0⟩ => some (.inl y0)
  | .exit 0, ⟨[], [], 147, 0, 0⟩ => some (.inr ())
  | _, _ => none
theorem ux_ok_circalaw13_MarksSpread_l0 : ∀ ex s y, ux_circalaw13_MarksSpread_l0 ex s = some y → (ex, s) = out_circalaw13_MarksSpread_l0 y := by
  intro ex s y h
  unfold ux_circalaw13_MarksSpread_l0 at h
  split at h
  · cases h; rfl
  · cases h; rfl
  · cases h
noncomputable def Ls_circalaw13_MarksSpread (n : Nat) : List Sub := [subE 1 an_circalaw13_MarksSpread_l1 un_circalaw13_MarksSpread_l1 (fun x => iterL (circalaw13_MarksSpread_l1 n) n x) outK_circalaw13_MarksSpread_l1, subE 0 an_circalaw13_MarksSpread_l0 un_circalaw13_MarksSpread_l0 (fun x => iterL (circalaw13_MarksSpread_l0 n) n x) outK_circalaw13_MarksSpread_l0]
noncomputable def sac_circalaw13_MarksSpread_l0 : AC := getS (subs (acOf Try.f3)) 0
noncomputable def ac_circalaw13_MarksSpread_l0 : AC := AC.body sac_circalaw13_MarksSpread_l0
noncomputable def sac_circalaw13_MarksSpread_l1 : AC := getS (subs ac_circalaw13_MarksSpread_l0) 1
noncomputable def ac_circalaw13_MarksSpread_l1 : AC := AC.body sac_circalaw13_MarksSpread_l1
theorem subs_circalaw13_MarksSpread_l1 (n : Nat) : SubOK Try.prog 104 (Ls_circalaw13_MarksSpread n) ac_circalaw13_MarksSpread_l1 := SubOK_of _ (by
  have e : subs ac_circalaw13_MarksSpread_l1 = [] := by kernel_rfl
  rw [e]; intro p hp; cases hp)
theorem body_circalaw13_MarksSpread_l1 (n : Nat) : ∀ x, run Try.prog (Es_circalaw13_MarksSpread n) (Ls_circalaw13_MarksSpread n) 104 ac_circalaw13_MarksSpread_l1 (emb_circalaw13_MarksSpread_l1 x) (roundK an_circalaw13_MarksSpread_l1 un_circalaw13_MarksSpread_l1 ax_circalaw13_MarksSpread_l1 ux_circalaw13_MarksSpread_l1) = circalaw13_MarksSpread_l1 n x := fun _ => by kernel_rfl
theorem sub1_circalaw13_MarksSpread_l1 (n : Nat) : ∀ (α : Type) (s : St) (k : Ex → St → Option α) (z : α), (subE 1 an_circalaw13_MarksSpread_l1 un_circalaw13_MarksSpread_l1 (fun x => iterL (circalaw13_MarksSpread_l1 n) n x) outK_circalaw13_MarksSpread_l1).e α s k = some z → SemC Try.prog 104 (sac_circalaw13_MarksSpread_l1).code s fun ex s' => k ex s' = some z := by
  intro α s k z h
  have e : sac_circalaw13_MarksSpread_l1 = .loop ac_circalaw13_MarksSpread_l1 := by kernel_rfl
  rw [e]
  exact subE_ok (m := 1) (f := fun x => iterL (circalaw13_MarksSpread_l1 n) n x) (out := out_circalaw13_MarksSpread_l1) outK_ok_circalaw13_MarksSpread_l1 un_ok_circalaw13_MarksSpread_l1 (fun x y hy => loop_ok (Es_ok_circalaw13_MarksSpread n) (subs_circalaw13_MarksSpread_l1 n) un_ok_circalaw13_MarksSpread_l1 ux_ok_circalaw13_MarksSpread_l1 (body_circalaw13_MarksSpread_l1 n) n x y hy) h
theorem sub_circalaw13_MarksSpread_l1 (n : Nat) : SubSt Try.prog 104 (Ls_circalaw13_MarksSpread n) 1 sac_circalaw13_MarksSpread_l1 := fun α s k z => sub1_circalaw13_MarksSpread_l1 n α s k z
theorem subs_circalaw13_MarksSpread_l0 (n : Nat) : SubOK Try.prog 104 (Ls_circalaw13_MarksSpread n) ac_circalaw13_MarksSpread_l0 := SubOK_of _ (by
  have e : subs ac_circalaw13_MarksSpread_l0 = [(1, sac_circalaw13_MarksSpread_l1)] := by kernel_rfl
  rw [e]; intro p hp
  simp only [List.mem_cons, List.not_mem_nil, or_false] at hp
  · rw [hp]; exact sub_circalaw13_MarksSpread_l1 n
  )
theorem body_circalaw13_MarksSpread_l0 (n : Nat) : ∀ x, run Try.prog (Es_circalaw13_MarksSpread n) (Ls_circalaw13_MarksSpread n) 104 ac_circalaw13_MarksSpread_l0 (emb_circalaw13_MarksSpread_l0 x) (roundK an_circalaw13_MarksSpread_l0 un_circalaw13_MarksSpread_l0 ax_circalaw13_MarksSpread_l0 ux_circalaw13_MarksSpread_l0) = circalaw13_MarksSpread_l0 n x := fun _ => by kernel_rfl
theorem sub1_circalaw13_MarksSpread_l0 (n : Nat) : ∀ (α : Type) (s : St) (k : Ex → St → Option α) (z : α), (subE 0 an_circalaw13_MarksSpread_l0 un_circalaw13_MarksSpread_l0 (fun x => iterL (circalaw13_MarksSpread_l0 n) n x) outK_circalaw13_MarksSpread_l0).e α s k = some z → SemC Try.prog 104 (sac_circalaw13_MarksSpread_l0).code s fun ex s' => k ex s' = some z := by
  intro α s k z h
  have e : sac_circalaw13_MarksSpread_l0 = .loop ac_circalaw13_MarksSpread_l0 := by kernel_rfl
  rw [e]
  exact subE_ok (m := 0) (f := fun x => iterL (circalaw13_MarksSpread_l0 n) n x) (out := out_circalaw13_MarksSpread_l0) outK_ok_circalaw13_MarksSpread_l0 un_ok_circalaw13_MarksSpread_l0 (fun x y hy => loop_ok (Es_ok_circalaw13_MarksSpread n) (subs_circalaw13_MarksSpread_l0 n) un_ok_circalaw13_MarksSpread_l0 ux_ok_circalaw13_MarksSpread_l0 (body_circalaw13_MarksSpread_l0 n) n x y hy) h
theorem sub_circalaw13_MarksSpread_l0 (n : Nat) : SubSt Try.prog 104 (Ls_circalaw13_MarksSpread n) 0 sac_circalaw13_MarksSpread_l0 := fun α s k z => sub1_circalaw13_MarksSpread_l0 n α s k z
theorem subs_circalaw13_MarksSpread (n : Nat) : SubOK Try.prog 104 (Ls_circalaw13_MarksSpread n) (acOf Try.f3) := SubOK_of _ (by
  have e : subs (acOf Try.f3) = [(0, sac_circalaw13_MarksSpread_l0)] := by kernel_rfl
  rw [e]; intro p hp
  simp only [List.mem_cons, List.not_mem_nil, or_false] at hp
  · rw [hp]; exact sub_circalaw13_MarksSpread_l0 n
  )
theorem cert_circalaw13_MarksSpread (n : Nat) (a0 : List Int) (a1 : List Int) (a2 : Int) : run Try.prog (Es_circalaw13_MarksSpread n) (Ls_circalaw13_MarksSpread n) Try.f3.ntmps (acOf Try.f3) ⟨argsT [.ai .u8 3 a0, .ai .u8 3 a1, .i .i64 a2] 0, [], 0, 0, 0⟩ (finK Try.prog Try.f3.results.toList (retX unr_circalaw13_MarksSpread)) = circalaw13_MarksSpread n a0 a1 a2 := by kernel_rfl
theorem pure_circalaw13_MarksSpread (n : Nat) : ∀ a r, circalaw13_MarksSpread n a.1 a.2.1 a.2.2 = some r → PureOK Try.prog 3 (arg_circalaw13_MarksSpread a) (enc_circalaw13_MarksSpread r) := fun a r h => pureX_ok unr_ok_circalaw13_MarksSpread (Es_ok_circalaw13_MarksSpread n) Try.func3 rfl (acOf_code _) (subs_circalaw13_MarksSpread n) rfl ((cert_circalaw13_MarksSpread n a.1 a.2.1 a.2.2).trans h)
theorem ok_circalaw13_MarksSpread (n : Nat) : EntOK Try.prog (e_circalaw13_MarksSpread n) := pureE_ok Try.call3 una_ok_circalaw13_MarksSpread (fun _ => rfl) (pure_circalaw13_MarksSpread n)

/-! circa/circaref13.Plain -/
noncomputable def arg_circaref13_Plain (a : List Int × Int) : List V := [.ai .u8 3 a.1, .i .i64 a.2]
noncomputable def una_circaref13_Plain (l : List V) : Option (List Int × Int) := match l with
  | [.ai .u8 3 a0, .i .i64 a1] => some (a0, a1)
  | _ => none
theorem una_ok_circaref13_Plain : ∀ l a, una_circaref13_Plain l = some a → l = arg_circaref13_Plain a := by
  intro l a h
  unfold una_circaref13_Plain at h
  split at h
  · cases h; rfl
  · cases h
noncomputable def enc_circaref13_Plain (r : List Int × List Int) : V := .tp [.ai .u8 3 r.1, .ai .u8 3 r.2]
noncomputable def unr_circaref13_Plain (v : V) : Option (List Int × List Int) := match v with
  | .tp [.ai .u8 3 r0, .ai .u8 3 r1] => some (r0, r1)
  | _ => none
theorem unr_ok_circaref13_Plain : ∀ v r, unr_circaref13_Plain v = some r → v = enc_circaref13_Plain r := by
  intro v r h
  unfold unr_circaref13_Plain at h
  split at h
  · cases h; rfl
  · cases h
noncomputable def e_circaref13_Plain (n : Nat) : Ent := pureE 22 una_circaref13_Plain (fun a => circaref13_Plain n a.1 a.2) enc_circaref13_Plain
noncomputable def t_circaref13_Plain (l : List V) (_ : List (Nat × Blk)) : Bool := isS (una_circaref13_Plain l)
noncomputable def Es_circaref13_Plain (_n : Nat) : List Ent := []
theorem Es_ok_circaref13_Plain (n : Nat) : ∀ x ∈ Es_circaref13_Plain n, EntOK Try.prog x := by
  intro x hx
  simp [Es_circaref13_Plain] at hx
noncomputable def an_circaref13_Plain_l0 : Ann := ⟨[1, 2, 4, 5, 6, 7, 8, 9], [0, 1, 2, 3, 4], 5⟩
noncomputable def emb_circaref13_Plain_l0 (x : Int × Bool × Int × List Int × List Int × List Int × List Int × List Int) : St := ⟨[(1, some (.i .i64 x.1)), (2, some (.p 0 0)), (4, some (.p 1 0)), (5, some (.p 2 0)), (6, some (.p 3 0)), (7, some (.p 4 0)), (8, some (.b x.2.1)), (9, some (.i .i64 x.2.2.1))], [(0, .ints .u8 3 x.2.2.2.1), (1, .ints .u8 3 x.2.2.2.2.1), (2, .ints .u8 3 x.2.2.2.2.2.1), (3, .ints .u8 3 x.2.2.2.2.2.2.1), (4, .ints .u8 3 x.2.2.2.2.2.2.2)], 5, 0, 0⟩
noncomputable def un_circaref13_Plain_l0 (s : St) : Option (Int × Bool × Int × List Int × List Int × List Int × List Int × List Int) := match s with
  | ⟨[(1, some (.i .i64 x0)), (2, some (.p 0 0)), (4, some (.p 1 0)), (5, some (.p 2 0)), (6, some (.p 3 0)), (7, some (.p 4 0)), (8, some (.b x1)), (9, some (.i .i64 x2))], [(0, .ints .u8 3 x3), (1, .ints .u8 3 x4), (2, .ints .u8 3 x5), (3, .ints .u8 3 x6), (4, .ints .u8 3 x7)], 5, 0, 0⟩ => some (x0, x1, x2, x3, x4, x5, x6, x7)
  | _ => none
theorem un_ok_circaref13_Plain_l0 : ∀ s x, un_circaref13_Plain_l0 s = some x → s = emb_circaref13_Plain_l0 x := by
  intro s x h
  unfold un_circaref13_Plain_l0 at h
  split at h
  · cases h; rfl
  · cases h
noncomputable def ax_circaref13_Plain_l0 : Ex → Ann := fun ex => match ex with
  | .exit 0 => ⟨[1, 2, 4, 5, 6, 7, 8], [0, 1, 2, 3, 4], 5⟩
  | _ => ⟨[], [], 0⟩
noncomputable def out_circaref13_Plain_l0 (y : (Int × Bool × List Int × List Int × List Int × List Int × List Int)) : Ex × St := (.exit 0, ⟨[(1, some (.i .i64 y.1)), (2, some (.p 0 0)), (4, some (.p 1 0)), (5, some (.p 2 0)), (6, some (.p 3 0)), (7, some (.p 4 0)), (8, some (.b y.2.1))], [(0, .ints .u8 3 y.2.2.1), (1, .ints .u8 3 y.2.2.2.1), (2, .ints .u8 3 y.2.2.2.2.1), (3, .ints .u8 3 y.2.2.2.2.2.1), (4, .ints .u8 3 y.2.2.2.2.2.2)], 5, 0, 0⟩)
noncomputable def outK_circaref13_Plain_l0 (α : Type) (y : (Int × Bool × List Int × List Int × List Int × List Int × List Int)) (k : Ex → St → Option α) : Option α := (k (.exit 0) ⟨[(1, some (.i .i64 y.1)), (2, some (.p 0 0)), (4, some (.p 1 0)), (5, some (.p 2 0)), (6, some (.p 3 0)), (7, some (.p 4 0)), (8, some (.b y.2.1))], [(0, .ints .u8 3 y.2.2.1), (1, .ints .u8 3 y.2.2.2.1), (2, .ints .u8 3 y.2.2.2.2.1), (3, .ints .u8 3 y.2.2.2.2.2.1), (4, .ints .u8 3 y.2.2.2.2.2.2)], 5, 0, 0⟩)
theorem outK_ok_circaref13_Plain_l0 : ∀ α y k, outK_circaref13_Plain_l0 α y k = k (out_circaref13_Plain_l0 y).1 (out_circaref13_Plain_l0 y).2 := by
  intro α y k
  rfl
noncomputable def ux_circaref13_Plain_l0 (ex : Ex) (s : St) : Option ((Int × Bool × List Int × List Int × List Int × List Int × List Int)) := match ex, s with
  | .exit 0, ⟨[(1, some (.i .i64 y0)), (2, some (.p 0 0)), (4, some (.p 1 0)), (5, some (.p 2 0)), (6, some (.p 3 0)), (7, some (.p 4 0)), (8, some (.b y1))], [(0, .ints .u8 3 y2), (1, .ints .u8 3 y3), (2, .ints .u8 3 y4), (3, .ints .u8 3 y5), (4, .ints .u8 3 y6)], 5, 0, 0⟩ => some (y0, y1, y2, y3, y4, y5, y6)
  | _, _ => none
theorem ux_ok_circaref13_Plain_l0 : ∀ ex s y, ux_circaref13_Plain_l0 ex s = some y → (ex, s) = out_circaref13_Plain_l0 y := by
  intro ex s y h
  unfold ux_circaref13_Plain_l0 at h
  split at h
  · cases h; rfl
  · cases h
noncomputable def an_circaref13_Plain_l1 : Ann := ⟨[1, 2, 4, 5, 6, 7, 10], [0, 1, 2, 3, 4], 5⟩
noncomputable def emb_circaref13_Plain_l1 (x : Int × Int × List Int × List Int × List Int × List Int × List Int) : St := ⟨[(1, some (.i .i64 x.1)), (2, some (.p 0 0)), (4, some (.p 1 0)), (5, some (.p 2 0)), (6, some (.p 3 0)), (7, some (.p 4 0)), (10, some (.i .i64 x.2.1))], [(0, .ints .u8 3 x.2.2.1), (1, .ints .u8 3 x.2.2.2.1), (2, .ints .u8 3 x.2.2.2.2.1), (3, .ints .u8 3 x.2.2.2.2.2.1), (4, .ints .u8 3 x.2.2.2.2.2.2)], 5, 0, 0⟩
noncomputable def un_circaref13_Plain_l1 (s : St) : Option (Int × Int × List Int × List Int × List Int × List Int × List Int) := match s with
  | ⟨[(1, some (.i .i64 x0)), (2, some (.p 0 0)), (4, some (.p 1 0)), (5, some (.p 2 0)), (6, some (.p 3 0)), (7, some (.p 4 0)), (10, some (.i .i64 x1))], [(0, .ints .u8 3 x2), (1, .ints .u8 3 x3), (2, .ints .u8 3 x4), (3, .ints .u8 3 x5), (4, .ints .u8 3 x6)], 5, 0, 0⟩ => some (x0, x1, x2, x3, x4, x5, x6)
  | _ => none
theorem un_ok_circaref13_Plain_l1 : ∀ s x, un_circaref13_Plain_l1 s = some x → s = emb_circaref13_Plain_l1 x := by
  intro s x h
  unfold un_circaref13_Plain_l1 at h
  split at h
  · cases h; rfl
  · cases h
noncomputable def ax_circaref13_Plain_l1 : Ex → Ann := fun ex => match ex with
  | .exit 2 => ⟨[4, 5, 6, 7], [1, 2, 3, 4], 5⟩
  | _ => ⟨[], [], 0⟩
noncomputable def out_circaref13_Plain_l1 (y : (List Int × List Int × List Int × List Int)) : Ex × St := (.exit 2, ⟨[(4, some (.p 1 0)), (5, some (.p 2 0)), (6, some (.p 3 0)), (7, some (.p 4 0))], [(1, .ints .u8 3 y.1), (2, .ints .u8 3 y.2.1), (3, .ints .u8 3 y.2.2.1), (4, .ints .u8 3 y.2.2.2)], 5, 0, 0⟩)
noncomputable def outK_circaref13_Plain_l1 (α : Type) (y : (List Int × List Int × List Int × List Int)) (k : Ex → St → Option α) : Option α := (k (.exit 2) ⟨[(4, some (.p 1 0)), (5, some (.p 2 0)), (6, some (.p 3 0)), (7, some (.p 4 0))], [(1, .ints .u8 3 y.1), (2, .ints .u8 3 y.2.1), (3, .ints .u8 3 y.2.2.1), (4, .ints .u8 3 y.2.2.2)], 5, 0, 0⟩)
theorem outK_ok_circaref13_Plain_l1 : ∀ α y k, outK_circaref13_Plain_l1 α y k = k (out_circaref13_Plain_l1 y).1 (out_circaref13_Plain_l1 y).2 := by
  intro α y k
  rfl
noncomputable def ux_circaref13_Plain_l1 (ex : Ex) (s : St) : Option ((List Int × List Int × List Int × List Int)) := match ex, s with
  | .exit 2, ⟨[(4, some (.p 1 0)), (5, some (.p 2 0)), (6, some (.p 3 0)), (7, some (.p 4 0))], [(1, .ints .u8 3 y0), (2, .ints .u8 3 y1), (3, .ints .u8 3 y2), (4, .ints .u8 3 y3)], 5, 0, 0⟩ => some (y0, y1, y2, y3)
  | _, _ => none
theorem ux_ok_circaref13_Plain_l1 : ∀ ex s y, ux_circaref13_Plain_l1 ex s = some y → (ex, s) = out_circaref13_Plain_l1 y := by
  intro ex s y h
  unfold ux_circaref13_Plain_l1 at h
  split at h
  · cases h; rfl
  · cases h
noncomputable def Ls_circaref13_Plain (n : Nat) : List Sub := [subE 0 an_circaref13_Plain_l0 un_circaref13_Plain_l0 (fun x => iterL (circaref13_Plain_l0 n) n x) outK_circaref13_Plain_l0, subE 1 an_circaref13_Plain_l1 un_circaref13_Plain_l1 (fun x => iterL (circaref13_Plain_l1 n) n x) outK_circaref13_Plain_l1]
noncomputable def sac_circaref13_Plain_l0 : AC := getS (subs (acOf Try.f22)) 0
noncomputable def ac_circaref13_Plain_l0 : AC := AC.body sac_circaref13_Plain_l0
theorem subs_circaref13_Plain_l0 (n : Nat) : SubOK Try.prog 45 (Ls_circaref13_Plain n) ac_circaref13_Plain_l0 := SubOK_of _ (by
  have e : subs ac_circaref13_Plain_l0 = [] := by kernel_rfl
  rw [e]; intro p hp; cases hp)
theorem body_circaref13_Plain_l0 (n : Nat) : ∀ x, run Try.prog (Es_circaref13_Plain n) (Ls_circaref13_Plain n) 45 ac_circaref13_Plain_l0 (emb_circaref13_Plain_l0 x) (roundK an_circaref13_Plain_l0 un_circaref13_Plain_l0 ax_circaref13_Plain_l0 ux_circaref13_Plain_l0) = circaref13_Plain_l0 n x := fun _ => by kernel_rfl
theorem sub1_circaref13_Plain_l0 (n : Nat) : ∀ (α : Type) (s : St) (k : Ex → St → Option α) (z : α), (subE 0 an_circaref13_Plain_l0 un_circaref13_Plain_l0 (fun x => iterL (circaref13_Plain_l0 n) n x) outK_circaref13_Plain_l0).e α s k = some z → SemC Try.prog 45 (sac_circaref13_Plain_l0).code s fun ex s' => k ex s' = some z := by
  intro α s k z h
  have e : sac_circaref13_Plain_l0 = .loop ac_circaref13_Plain_l0 := by kernel_rfl
  rw [e]
  exact subE_ok (m := 0) (f := fun x => iterL (circaref13_Plain_l0 n) n x) (out := out_circaref13_Plain_l0) outK_ok_circaref13_Plain_l0 un_ok_circaref13_Plain_l0 (fun x y hy => loop_ok (Es_ok_circaref13_Plain n) (subs_circaref13_Plain_l0 n) un_ok_circaref13_Plain_l0 ux_ok_circaref13_Plain_l0 (body_circaref13_Plain_l0 n) n x y hy) h
theorem sub_circaref13_Plain_l0 (n : Nat) : SubSt Try.prog 45 (Ls_circaref13_Plain n) 0 sac_circaref13_Plain_l0 := fun α s k z => sub1_circaref13_Plain_l0 n α s k z
noncomputable def sac_circaref13_Plain_l1 : AC := getS (subs (acOf Try.f22)) 1
noncomputable def ac_circaref13_Plain_l1 : AC := AC.body sac_circaref13_Plain_l1
theorem subs_circaref13_Plain_l1 (n : Nat) : SubOK Try.prog 45 (Ls_circaref13_Plain n) ac_circaref13_Plain_l1 := SubOK_of _ (by
  have e : subs ac_circaref13_Plain_l1 = [] := by kernel_rfl
  rw [e]; intro p hp; cases hp)
theorem body_circaref13_Plain_l1 (n : Nat) : ∀ x, run Try.prog (Es_circaref13_Plain n) (Ls_circaref13_Plain n) 45 ac_circaref13_Plain_l1 (emb_circaref13_Plain_l1 x) (roundK an_circaref13_Plain_l1 un_circaref13_Plain_l1 ax_circaref13_Plain_l1 ux_circaref13_Plain_l1) = circaref13_Plain_l1 n x := fun _ => by kernel_rfl
theorem sub1_circaref13_Plain_l1 (n : Nat) : ∀ (α : Type) (s : St) (k : Ex → St → Option α) (z : α), (subE 1 an_circaref13_Plain_l1 un_circaref13_Plain_l1 (fun x => iterL (circaref13_Plain_l1 n) n x) outK_circaref13_Plain_l1).e α s k = some z → SemC Try.prog 45 (sac_circaref13_Plain_l1).code s fun ex s' => k ex s' = some z := by
  intro α s k z h
  have e : sac_circaref13_Plain_l1 = .loop ac_circaref13_Plain_l1 := by kernel_rfl
  rw [e]
  exact subE_ok (m := 1) (f := fun x => iterL (circaref13_Plain_l1 n) n x) (out := out_circaref13_Plain_l1) outK_ok_circaref13_Plain_l1 un_ok_circaref13_Plain_l1 (fun x y hy => loop_ok (Es_ok_circaref13_Plain n) (subs_circaref13_Plain_l1 n) un_ok_circaref13_Plain_l1 ux_ok_circaref13_Plain_l1 (body_circaref13_Plain_l1 n) n x y hy) h
theorem sub_circaref13_Plain_l1 (n : Nat) : SubSt Try.prog 45 (Ls_circaref13_Plain n) 1 sac_circaref13_Plain_l1 := fun α s k z => sub1_circaref13_Plain_l1 n α s k z
theorem subs_circaref13_Plain (n : Nat) : SubOK Try.prog 45 (Ls_circaref13_Plain n) (acOf Try.f22) := SubOK_of _ (by
  have e : subs (acOf Try.f22) = [(0, sac_circaref13_Plain_l0), (1, sac_circaref13_Plain_l1)] := by kernel_rfl
  rw [e]; intro p hp
  simp only [List.mem_cons, List.not_mem_nil, or_false] at hp
  rcases hp with hp | hp
  · rw [hp]; exact sub_circaref13_Plain_l0 n
  · rw [hp]; exact sub_circaref13_Plain_l1 n
  )
theorem cert_circaref13_Plain (n : Nat) (a0 : List Int) (a1 : Int) : run Try.prog (Es_circaref13_Plain n) (Ls_circaref13_Plain n) Try.f22.ntmps (acOf Try.f22) ⟨argsT [.ai .u8 3 a0, .i .i64 a1] 0, [], 0, 0, 0⟩ (finK Try.prog Try.f22.results.toList (retX unr_circaref13_Plain)) = circaref13_Plain n a0 a1 := by kernel_rfl
theorem pure_circaref13_Plain (n : Nat) : ∀ a r, circaref13_Plain n a.1 a.2 = some r → PureOK Try.prog 22 (arg_circaref13_Plain a) (enc_circaref13_Plain r) := fun a r h => pureX_ok unr_ok_circaref13_Plain (Es_ok_circaref13_Plain n) Try.func22 rfl (acOf_code _) (subs_circaref13_Plain n) rfl ((cert_circaref13_Plain n a.1 a.2).trans h)
theorem ok_circaref13_Plain (n : Nat) : EntOK Try.prog (e_circaref13_Plain n) := pureE_ok Try.call22 una_ok_circaref13_Plain (fun _ => rfl) (pure_circaref13_Plain n)

/-! circa/circalaw13.MarksPlain -/
noncomputable def arg_circalaw13_MarksPlain (a : List Int × Int) : List V := [.ai .u8 3 a.1, .i .i64 a.2]
noncomputable def una_circalaw13_MarksPlain (l : List V) : Option (List Int × Int) := match l with
  | [.ai .u8 3 a0, .i .i64 a1] => some (a0, a1)
  | _ => none
theorem una_ok_circalaw13_MarksPlain : ∀ l a, una_circalaw13_MarksPlain l = some a → l = arg_circalaw13_MarksPlain a := by
  intro l a h
  unfold una_circalaw13_MarksPlain at h
  split at h
  · cases h; rfl
  · cases h
noncomputable def enc_circalaw13_MarksPlain (r : Bool) : V := .b r
noncomputable def unr_circalaw13_MarksPlain (v : V) : Option (Bool) := match v with
  | .b r0 => some r0
  | _ => none
theorem unr_ok_circalaw13_MarksPlain : ∀ v r, unr_circalaw13_MarksPlain v = some r → v = enc_circalaw13_MarksPlain r := by
  intro v r h
  unfold unr_circalaw13_MarksPlain at h
  split at h
  · cases h; rfl
  · cases h
noncomputable def e_circalaw13_MarksPlain (n : Nat) : Ent := pureE 4 una_circalaw13_MarksPlain (fun a => circalaw13_MarksPlain n a.1 a.2) enc_circalaw13_MarksPlain
noncomputable def t_circalaw13_MarksPlain (l : List V) (_ : List (Nat × Blk)) : Bool := isS (una_circalaw13_MarksPlain l)
noncomputable def Es_circalaw13_MarksPlain (n : Nat) : List Ent := [e_circaref13_All n, e_marks_Plain n, e_circalaw13_lives n, e_circaref13_Plain n, e_marks_Spread n]
theorem Es_ok_circalaw13_MarksPlain (n : Nat) : ∀ x ∈ Es_circalaw13_MarksPlain n, EntOK Try.prog x := by
  intro x hx
  simp only [Es_circalaw13_MarksPlain, List.mem_cons, List.not_mem_nil, or_false] at hx
  rcases hx with hx | hx | hx | hx | hx
  · rw [hx]; exact ok_circaref13_All n
  · rw [hx]; exact ok_marks_Plain n
  · rw [hx]; exact ok_circalaw13_lives n
  · rw [hx]; exact ok_circaref13_Plain n
  · rw [hx]; exact ok_marks_Spread n
noncomputable def Ls_circalaw13_MarksPlain (_n : Nat) : List Sub := []
theorem subs_circalaw13_MarksPlain (n : Nat) : SubOK Try.prog 72 (Ls_circalaw13_MarksPlain n) (acOf Try.f4) := SubOK_of _ (by
  have e : subs (acOf Try.f4) = [] := by kernel_rfl
  rw [e]; intro p hp; cases hp)
theorem cert_circalaw13_MarksPlain (n : Nat) (a0 : List Int) (a1 : Int) : run Try.prog (Es_circalaw13_MarksPlain n) (Ls_circalaw13_MarksPlain n) Try.f4.ntmps (acOf Try.f4) ⟨argsT [.ai .u8 3 a0, .i .i64 a1] 0, [], 0, 0, 0⟩ (finK Try.prog Try.f4.results.toList (retX unr_circalaw13_MarksPlain)) = circalaw13_MarksPlain n a0 a1 := by kernel_rfl
theorem pure_circalaw13_MarksPlain (n : Nat) : ∀ a r, circalaw13_MarksPlain n a.1 a.2 = some r → PureOK Try.prog 4 (arg_circalaw13_MarksPlain a) (enc_circalaw13_MarksPlain r) := fun a r h => pureX_ok unr_ok_circalaw13_MarksPlain (Es_ok_circalaw13_MarksPlain n) Try.func4 rfl (acOf_code _) (subs_circalaw13_MarksPlain n) rfl ((cert_circalaw13_MarksPlain n a.1 a.2).trans h)
theorem ok_circalaw13_MarksPlain (n : Nat) : EntOK Try.prog (e_circalaw13_MarksPlain n) := pureE_ok Try.call4 una_ok_circalaw13_MarksPlain (fun _ => rfl) (pure_circalaw13_MarksPlain n)

/-! circa/circaref13.Text -/
noncomputable def arg_circaref13_Text (a : Int) : List V := [.i .u8 a]
noncomputable def una_circaref13_Text (l : List V) : Option (Int) := match l with
  | [.i .u8 a0] => some a0
  | _ => none
theorem una_ok_circaref13_Text : ∀ l a, una_circaref13_Text l = some a → l = arg_circaref13_Text a := by
  intro l a h
  unfold una_circaref13_Text at h
  split at h
  · cases h; rfl
  · cases h
noncomputable def enc_circaref13_Text (r : List UInt8) : V := .s r
noncomputable def unr_circaref13_Text (v : V) : Option (List UInt8) := match v with
  | .s r0 => some r0
  | _ => none
theorem unr_ok_circaref13_Text : ∀ v r, unr_circaref13_Text v = some r → v = enc_circaref13_Text r := by
  intro v r h
  unfold unr_circaref13_Text at h
  split at h
  · cases h; rfl
  · cases h
noncomputable def e_circaref13_Text (n : Nat) : Ent := pureE 26 una_circaref13_Text (fun a => circaref13_Text n a) enc_circaref13_Text
noncomputable def t_circaref13_Text (l : List V) (_ : List (Nat × Blk)) : Bool := isS (una_circaref13_Text l)
noncomputable def Es_circaref13_Text (_n : Nat) : List Ent := []
theorem Es_ok_circaref13_Text (n : Nat) : ∀ x ∈ Es_circaref13_Text n, EntOK Try.prog x := by
  intro x hx
  simp [Es_circaref13_Text] at hx
noncomputable def Ls_circaref13_Text (_n : Nat) : List Sub := []
theorem subs_circaref13_Text (n : Nat) : SubOK Try.prog 10 (Ls_circaref13_Text n) (acOf Try.f26) := SubOK_of _ (by
  have e : subs (acOf Try.f26) = [] := by kernel_rfl
  rw [e]; intro p hp; cases hp)
theorem cert_circaref13_Text (n : Nat) (a0 : Int) : run Try.prog (Es_circaref13_Text n) (Ls_circaref13_Text n) Try.f26.ntmps (acOf Try.f26) ⟨argsT [.i .u8 a0] 0, [], 0, 0, 0⟩ (finK Try.prog Try.f26.results.toList (retX unr_circaref13_Text)) = circaref13_Text n a0 := by kernel_rfl
theorem pure_circaref13_Text (n : Nat) : ∀ a r, circaref13_Text n a = some r → PureOK Try.prog 26 (arg_circaref13_Text a) (enc_circaref13_Text r) := fun a r h => pureX_ok unr_ok_circaref13_Text (Es_ok_circaref13_Text n) Try.func26 rfl (acOf_code _) (subs_circaref13_Text n) rfl ((cert_circaref13_Text n a).trans h)
theorem ok_circaref13_Text (n : Nat) : EntOK Try.prog (e_circaref13_Text n) := pureE_ok Try.call26 una_ok_circaref13_Text (fun _ => rfl) (pure_circaref13_Text n)

/-! circa/circaref13.Of -/
noncomputable def arg_circaref13_Of (a : Int) : List V := [.i .u8 a]
noncomputable def una_circaref13_Of (l : List V) : Option (Int) := match l with
  | [.i .u8 a0] => some a0
  | _ => none
theorem una_ok_circaref13_Of : ∀ l a, una_circaref13_Of l = some a → l = arg_circaref13_Of a := by
  intro l a h
  unfold una_circaref13_Of at h
  split at h
  · cases h; rfl
  · cases h
noncomputable def enc_circaref13_Of (r : Int) : V := .i .u8 r
noncomputable def unr_circaref13_Of (v : V) : Option (Int) := match v with
  | .i .u8 r0 => some r0
  | _ => none
theorem unr_ok_circaref13_Of : ∀ v r, unr_circaref13_Of v = some r → v = enc_circaref13_Of r := by
  intro v r h
  unfold unr_circaref13_Of at h
  split at h
  · cases h; rfl
  · cases h
noncomputable def e_circaref13_Of (n : Nat) : Ent := pureE 27 una_circaref13_Of (fun a => circaref13_Of n a) enc_circaref13_Of
noncomputable def t_circaref13_Of (l : List V) (_ : List (Nat × Blk)) : Bool := isS (una_circaref13_Of l)
noncomputable def Es_circaref13_Of (n : Nat) : List Ent := [e_circaref13_Text n]
theorem Es_ok_circaref13_Of (n : Nat) : ∀ x ∈ Es_circaref13_Of n, EntOK Try.prog x := by
  intro x hx
  simp only [Es_circaref13_Of, List.mem_cons, List.not_mem_nil, or_false] at hx
  · rw [hx]; exact ok_circaref13_Text n
noncomputable def an_circaref13_Of_l0 : Ann := ⟨[0, 3], [], 0⟩
noncomputable def emb_circaref13_Of_l0 (x : Int × Int) : St := ⟨[(0, some (.i .u8 x.1)), (3, some (.i .u8 x.2))], [], 0, 0, 0⟩
noncomputable def un_circaref13_Of_l0 (s : St) : Option (Int × Int) := match s with
  | ⟨[(0, some (.i .u8 x0)), (3, some (.i .u8 x1))], [], 0, 0, 0⟩ => some (x0, x1)
  | _ => none
theorem un_ok_circaref13_Of_l0 : ∀ s x, un_circaref13_Of_l0 s = some x → s = emb_circaref13_Of_l0 x := by
  intro s x h
  unfold un_circaref13_Of_l0 at h
  split at h
  · cases h; rfl
  · cases h
noncomputable def ax_circaref13_Of_l0 : Ex → Ann := fun ex => match ex with
  | .ret => ⟨[2], [], 0⟩
  | .exit 0 => ⟨[], [], 0⟩
  | _ => ⟨[], [], 0⟩
noncomputable def out_circaref13_Of_l0 (y : Int ⊕ Unit) : Ex × St := (Sum.casesOn (motive := fun _ => Ex × St) y (fun a0 => (.ret, ⟨[(2, some (.i .u8 a0))], [], 0, 0, 0⟩)) (fun b0 => (.exit 0, ⟨[], [], 0, 0, 0⟩)))
noncomputable def outK_circaref13_Of_l0 (α : Type) (y : Int ⊕ Unit) (k : Ex → St → Option α) : Option α := (Sum.casesOn (motive := fun _ => Option α) y (fun a0 => (k (.ret) ⟨[(2, some (.i .u8 a0))], [], 0, 0, 0⟩)) (fun b0 => (k (.exit 0) ⟨[], [], 0, 0, 0⟩)))
theorem outK_ok_circaref13_Of_l0 : ∀ α y k, outK_circaref13_Of_l0 α y k = k (out_circaref13_Of_l0 y).1 (out_circaref13_Of_l0 y).2 := by
  intro α y k
  rcases y with y | y <;> rfl
noncomputable def ux_circaref13_Of_l0 (ex : Ex) (s : St) : Option (Int ⊕ Unit) := match ex, s with
  | .ret, ⟨[(2, some (.i .u8 y0))], [], 0, 0, 0⟩ => some (.inl y0)
  | .exit 0, ⟨[], [], 0, 0, 0⟩ => some (.inr ())
  | _, _ => none
theorem ux_ok_circaref13_Of_l0 : ∀ ex s y, ux_circaref13_Of_l0 ex s = some y → (ex, s) = out_circaref13_Of_l0 y := by
  intro ex s y h
  unfold ux_circaref13_Of_l0 at h
  split at h
  · cases h; rfl
  · cases h; rfl
  · cases h
noncomputable def Ls_circaref13_Of (n : Nat) : List Sub := [subE 0 an_circaref13_Of_l0 un_circaref13_Of_l0 (fun x => iterL (circaref13_Of_l0 n) n x) outK_circaref13_Of_l0]
noncomputable def sac_circaref13_Of_l0 : AC := getS (subs (acOf Try.f27)) 0
noncomputable def ac_circaref13_Of_l0 : AC := AC.body sac_circaref13_Of_l0
theorem subs_circaref13_Of_l0 (n : Nat) : SubOK Try.prog 14 (Ls_circaref13_Of n) ac_circaref13_Of_l0 := SubOK_of _ (by
  have e : subs ac_circaref13_Of_l0 = [] := by kernel_rfl
  rw [e]; intro p hp; cases hp)
theorem body_circaref13_Of_l0 (n : Nat) : ∀ x, run Try.prog (Es_circaref13_Of n) (Ls_circaref13_Of n) 14 ac_circaref13_Of_l0 (emb_circaref13_Of_l0 x) (roundK an_circaref13_Of_l0 un_circaref13_Of_l0 ax_circaref13_Of_l0 ux_circaref13_Of_l0) = circaref13_Of_l0 n x := fun _ => by kernel_rfl
theorem sub1_circaref13_Of_l0 (n : Nat) : ∀ (α : Type) (s : St) (k : Ex → St → Option α) (z : α), (subE 0 an_circaref13_Of_l0 un_circaref13_Of_l0 (fun x => iterL (circaref13_Of_l0 n) n x) outK_circaref13_Of_l0).e α s k = some z → SemC Try.prog 14 (sac_circaref13_Of_l0).code s fun ex s' => k ex s' = some z := by
  intro α s k z h
  have e : sac_circaref13_Of_l0 = .loop ac_circaref13_Of_l0 := by kernel_rfl
  rw [e]
  exact subE_ok (m := 0) (f := fun x => iterL (circaref13_Of_l0 n) n x) (out := out_circaref13_Of_l0) outK_ok_circaref13_Of_l0 un_ok_circaref13_Of_l0 (fun x y hy => loop_ok (Es_ok_circaref13_Of n) (subs_circaref13_Of_l0 n) un_ok_circaref13_Of_l0 ux_ok_circaref13_Of_l0 (body_circaref13_Of_l0 n) n x y hy) h
theorem sub_circaref13_Of_l0 (n : Nat) : SubSt Try.prog 14 (Ls_circaref13_Of n) 0 sac_circaref13_Of_l0 := fun α s k z => sub1_circaref13_Of_l0 n α s k z
theorem subs_circaref13_Of (n : Nat) : SubOK Try.prog 14 (Ls_circaref13_Of n) (acOf Try.f27) := SubOK_of _ (by
  have e : subs (acOf Try.f27) = [(0, sac_circaref13_Of_l0)] := by kernel_rfl
  rw [e]; intro p hp
  simp only [List.mem_cons, List.not_mem_nil, or_false] at hp
  · rw [hp]; exact sub_circaref13_Of_l0 n
  )
theorem cert_circaref13_Of (n : Nat) (a0 : Int) : run Try.prog (Es_circaref13_Of n) (Ls_circaref13_Of n) Try.f27.ntmps (acOf Try.f27) ⟨argsT [.i .u8 a0] 0, [], 0, 0, 0⟩ (finK Try.prog Try.f27.results.toList (retX unr_circaref13_Of)) = circaref13_Of n a0 := by kernel_rfl
theorem pure_circaref13_Of (n : Nat) : ∀ a r, circaref13_Of n a = some r → PureOK Try.prog 27 (arg_circaref13_Of a) (enc_circaref13_Of r) := fun a r h => pureX_ok unr_ok_circaref13_Of (Es_ok_circaref13_Of n) Try.func27 rfl (acOf_code _) (subs_circaref13_Of n) rfl ((cert_circaref13_Of n a).trans h)
theorem ok_circaref13_Of (n : Nat) : EntOK Try.prog (e_circaref13_Of n) := pureE_ok Try.call27 una_ok_circaref13_Of (fun _ => rfl) (pure_circaref13_Of n)

/-! circa/circalaw13.MarksBytes -/
noncomputable def arg_circalaw13_MarksBytes (a : Int × Int × Int) : List V := [.i .u8 a.1, .i .u8 a.2.1, .i .u8 a.2.2]
noncomputable def una_circalaw13_MarksBytes (l : List V) : Option (Int × Int × Int) := match l with
  | [.i .u8 a0, .i .u8 a1, .i .u8 a2] => some (a0, a1, a2)
  | _ => none
theorem una_ok_circalaw13_MarksBytes : ∀ l a, una_circalaw13_MarksBytes l = some a → l = arg_circalaw13_MarksBytes a := by
  intro l a h
  unfold una_circalaw13_MarksBytes at h
  split at h
  · cases h; rfl
  · cases h
noncomputable def enc_circalaw13_MarksBytes (r : Bool) : V := .b r
noncomputable def unr_circalaw13_MarksBytes (v : V) : Option (Bool) := match v with
  | .b r0 => some r0
  | _ => none
theorem unr_ok_circalaw13_MarksBytes : ∀ v r, unr_circalaw13_MarksBytes v = some r → v = enc_circalaw13_MarksBytes r := by
  intro v r h
  unfold unr_circalaw13_MarksBytes at h
  split at h
  · cases h; rfl
  · cases h
noncomputable def e_circalaw13_MarksBytes (n : Nat) : Ent := pureE 5 una_circalaw13_MarksBytes (fun a => circalaw13_MarksBytes n a.1 a.2.1 a.2.2) enc_circalaw13_MarksBytes
noncomputable def t_circalaw13_MarksBytes (l : List V) (_ : List (Nat × Blk)) : Bool := isS (una_circalaw13_MarksBytes l)
noncomputable def Es_circalaw13_MarksBytes (n : Nat) : List Ent := [e_marks_Text n, e_marks_Of n, e_marks_Add n, e_circaref13_Text n, e_circaref13_Of n, e_marks_Check n, e_marks_Has n, e_circalaw13_lives n]
theorem Es_ok_circalaw13_MarksBytes (n : Nat) : ∀ x ∈ Es_circalaw13_MarksBytes n, EntOK Try.prog x := by
  intro x hx
  simp only [Es_circalaw13_MarksBytes, List.mem_cons, List.not_mem_nil, or_false] at hx
  rcases hx with hx | hx | hx | hx | hx | hx | hx | hx
  · rw [hx]; exact ok_marks_Text n
  · rw [hx]; exact ok_marks_Of n
  · rw [hx]; exact ok_marks_Add n
  · rw [hx]; exact ok_circaref13_Text n
  · rw [hx]; exact ok_circaref13_Of n
  · rw [hx]; exact ok_marks_Check n
  · rw [hx]; exact ok_marks_Has n
  · rw [hx]; exact ok_circalaw13_lives n
noncomputable def Ls_circalaw13_MarksBytes (_n : Nat) : List Sub := []
theorem subs_circalaw13_MarksBytes (n : Nat) : SubOK Try.prog 123 (Ls_circalaw13_MarksBytes n) (acOf Try.f5) := SubOK_of _ (by
  have e : subs (acOf Try.f5) = [] := by kernel_rfl
  rw [e]; intro p hp; cases hp)
theorem cert_circalaw13_MarksBytes (n : Nat) (a0 : Int) (a1 : Int) (a2 : Int) : run Try.prog (Es_circalaw13_MarksBytes n) (Ls_circalaw13_MarksBytes n) Try.f5.ntmps (acOf Try.f5) ⟨argsT [.i .u8 a0, .i .u8 a1, .i .u8 a2] 0, [], 0, 0, 0⟩ (finK Try.prog Try.f5.results.toList (retX unr_circalaw13_MarksBytes)) = circalaw13_MarksBytes n a0 a1 a2 := by kernel_rfl
theorem pure_circalaw13_MarksBytes (n : Nat) : ∀ a r, circalaw13_MarksBytes n a.1 a.2.1 a.2.2 = some r → PureOK Try.prog 5 (arg_circalaw13_MarksBytes a) (enc_circalaw13_MarksBytes r) := fun a r h => pureX_ok unr_ok_circalaw13_MarksBytes (Es_ok_circalaw13_MarksBytes n) Try.func5 rfl (acOf_code _) (subs_circalaw13_MarksBytes n) rfl ((cert_circalaw13_MarksBytes n a.1 a.2.1 a.2.2).trans h)
theorem ok_circalaw13_MarksBytes (n : Nat) : EntOK Try.prog (e_circalaw13_MarksBytes n) := pureE_ok Try.call5 una_ok_circalaw13_MarksBytes (fun _ => rfl) (pure_circalaw13_MarksBytes n)

/-! circa/circalaw13.MarksKnown -/
noncomputable def arg_circalaw13_MarksKnown (_a : Unit) : List V := []
noncomputable def una_circalaw13_MarksKnown (l : List V) : Option (Unit) := match l with
  | [] => some ()
  | _ => none
theorem una_ok_circalaw13_MarksKnown : ∀ l a, una_circalaw13_MarksKnown l = some a → l = arg_circalaw13_MarksKnown a := by
  intro l a h
  unfold una_circalaw13_MarksKnown at h
  split at h
  · cases h; rfl
  · cases h
noncomputable def enc_circalaw13_MarksKnown (r : Bool) : V := .b r
noncomputable def unr_circalaw13_MarksKnown (v : V) : Option (Bool) := match v with
  | .b r0 => some r0
  | _ => none
theorem unr_ok_circalaw13_MarksKnown : ∀ v r, unr_circalaw13_MarksKnown v = some r → v = enc_circalaw13_MarksKnown r := by
  intro v r h
  unfold unr_circalaw13_MarksKnown at h
  split at h
  · cases h; rfl
  · cases h
noncomputable def e_circalaw13_MarksKnown (n : Nat) : Ent := pureE 6 una_circalaw13_MarksKnown (fun _a => circalaw13_MarksKnown n) enc_circalaw13_MarksKnown
noncomputable def t_circalaw13_MarksKnown (l : List V) (_ : List (Nat × Blk)) : Bool := isS (una_circalaw13_MarksKnown l)
noncomputable def Es_circalaw13_MarksKnown (n : Nat) : List Ent := [e_circalaw13_MarksBytes n, e_circalaw13_MarksSpread n, e_circalaw13_MarksPlain n, e_circalaw13_lives n]
theorem Es_ok_circalaw13_MarksKnown (n : Nat) : ∀ x ∈ Es_circalaw13_MarksKnown n, EntOK Try.prog x := by
  intro x hx
  simp only [Es_circalaw13_MarksKnown, List.mem_cons, List.not_mem_nil, or_false] at hx
  rcases hx with hx | hx | hx | hx
  · rw [hx]; exact ok_circalaw13_MarksBytes n
  · rw [hx]; exact ok_circalaw13_MarksSpread n
  · rw [hx]; exact ok_circalaw13_MarksPlain n
  · rw [hx]; exact ok_circalaw13_lives n
noncomputable def an_circalaw13_MarksKnown_l0 : Ann := ⟨[1], [], 0⟩
noncomputable def emb_circalaw13_MarksKnown_l0 (x : Int) : St := ⟨[(1, some (.i .i64 x))], [], 0, 0, 0⟩
noncomputable def un_circalaw13_MarksKnown_l0 (s : St) : Option (Int) := match s with
  | ⟨[(1, some (.i .i64 x0))], [], 0, 0, 0⟩ => some x0
  | _ => none
theorem un_ok_circalaw13_MarksKnown_l0 : ∀ s x, un_circalaw13_MarksKnown_l0 s = some x → s = emb_circalaw13_MarksKnown_l0 x := by
  intro s x h
  unfold un_circalaw13_MarksKnown_l0 at h
  split at h
  · cases h; rfl
  · cases h
noncomputable def ax_circalaw13_MarksKnown_l0 : Ex → Ann := fun ex => match ex with
  | .ret => ⟨[0], [], 0⟩
  | .exit 0 => ⟨[], [], 0⟩
  | _ => ⟨[], [], 0⟩
noncomputable def out_circalaw13_MarksKnown_l0 (y : Bool ⊕ Unit) : Ex × St := (Sum.casesOn (motive := fun _ => Ex × St) y (fun a0 => (.ret, ⟨[(0, some (.b a0))], [], 0, 0, 0⟩)) (fun b0 => (.exit 0, ⟨[], [], 0, 0, 0⟩)))
noncomputable def outK_circalaw13_MarksKnown_l0 (α : Type) (y : Bool ⊕ Unit) (k : Ex → St → Option α) : Option α := (Sum.casesOn (motive := fun _ => Option α) y (fun a0 => (k (.ret) ⟨[(0, some (.b a0))], [], 0, 0, 0⟩)) (fun b0 => (k (.exit 0) ⟨[], [], 0, 0, 0⟩)))
theorem outK_ok_circalaw13_MarksKnown_l0 : ∀ α y k, outK_circalaw13_MarksKnown_l0 α y k = k (out_circalaw13_MarksKnown_l0 y).1 (out_circalaw13_MarksKnown_l0 y).2 := by
  intro α y k
  rcases y with y | y <;> rfl
noncomputable def ux_circalaw13_MarksKnown_l0 (ex : Ex) (s : St) : Option (Bool ⊕ Unit) := match ex, s with
  | .ret, ⟨[(0, some (.b y0))], [], 0, 0, 0⟩ => some (.inl y0)
  | .exit 0, ⟨[], [], 0, 0, 0⟩ => some (.inr ())
  | _, _ => none
theorem ux_ok_circalaw13_MarksKnown_l0 : ∀ ex s y, ux_circalaw13_MarksKnown_l0 ex s = some y → (ex, s) = out_circalaw13_MarksKnown_l0 y := by
  intro ex s y h
  unfold ux_circalaw13_MarksKnown_l0 at h
  split at h
  · cases h; rfl
  · cases h; rfl
  · cases h
noncomputable def an_circalaw13_MarksKnown_l2 : Ann := ⟨[2, 3, 4, 5], [0, 1], 2⟩
noncomputable def emb_circalaw13_MarksKnown_l2 (x : Int × Int × List Int × List Int) : St := ⟨[(2, some (.i .i64 x.1)), (3, some (.p 0 0)), (4, some (.p 1 0)), (5, some (.i .i64 x.2.1))], [(0, .ints .u8 3 x.2.2.1), (1, .ints .u8 3 x.2.2.2)], 2, 0, 0⟩
noncomputable def un_circalaw13_MarksKnown_l2 (s : St) : Option (Int × Int × List Int × List Int) := match s with
  | ⟨[(2, some (.i .i64 x0)), (3, some (.p 0 0)), (4, some (.p 1 0)), (5, some (.i .i64 x1))], [(0, .ints .u8 3 x2), (1, .ints .u8 3 x3)], 2, 0, 0⟩ => some (x0, x1, x2, x3)
  | _ => none
theorem un_ok_circalaw13_MarksKnown_l2 : ∀ s x, un_circalaw13_MarksKnown_l2 s = some x → s = emb_circalaw13_MarksKnown_l2 x := by
  intro s x h
  unfold un_circalaw13_MarksKnown_l2 at h
  split at h
  · cases h; rfl
  · cases h
noncomputable def ax_circalaw13_MarksKnown_l2 : Ex → Ann := fun ex => match ex with
  | .ret => ⟨[0], [], 2⟩
  | .exit 4 => ⟨[2], [], 2⟩
  | _ => ⟨[], [], 0⟩
noncomputable def out_circalaw13_MarksKnown_l2 (y : Bool ⊕ Int) : Ex × St := (Sum.casesOn (motive := fun _ => Ex × St) y (fun a0 => (.ret, ⟨[(0, some (.b a0))], [], 2, 0, 0⟩)) (fun b0 => (.exit 4, ⟨[(2, some (.i .i64 b0))], [], 2, 0, 0⟩)))
noncomputable def outK_circalaw13_MarksKnown_l2 (α : Type) (y : Bool ⊕ Int) (k : Ex → St → Option α) : Option α := (Sum.casesOn (motive := fun _ => Option α) y (fun a0 => (k (.ret) ⟨[(0, some (.b a0))], [], 2, 0, 0⟩)) (fun b0 => (k (.exit 4) ⟨[(2, some (.i .i64 b0))], [], 2, 0, 0⟩)))
theorem outK_ok_circalaw13_MarksKnown_l2 : ∀ α y k, outK_circalaw13_MarksKnown_l2 α y k = k (out_circalaw13_MarksKnown_l2 y).1 (out_circalaw13_MarksKnown_l2 y).2 := by
  intro α y k
  rcases y with y | y <;> rfl
noncomputable def ux_circalaw13_MarksKnown_l2 (ex : Ex) (s : St) : Option (Bool ⊕ Int) := match ex, s with
  | .ret, ⟨[(0, some (.b y0))], [], 2, 0, 0⟩ => some (.inl y0)
  | .exit 4, ⟨[(2, some (.i .i64 y0))], [], 2, 0, 0⟩ => some (.inr y0)
  | _, _ => none
theorem ux_ok_circalaw13_MarksKnown_l2 : ∀ ex s y, ux_circalaw13_MarksKnown_l2 ex s = some y → (ex, s) = out_circalaw13_MarksKnown_l2 y := by
  intro ex s y h
  unfold ux_circalaw13_MarksKnown_l2 at h
  split at h
  · cases h; rfl
  · cases h; rfl
  · cases h
noncomputable def an_circalaw13_MarksKnown_l1 : Ann := ⟨[2], [], 0⟩
noncomputable def emb_circalaw13_MarksKnown_l1 (x : Int) : St := ⟨[(2, some (.i .i64 x))], [], 0, 0, 0⟩
noncomputable def un_circalaw13_MarksKnown_l1 (s : St) : Option (Int) := match s with
  | ⟨[(2, some (.i .i64 x0))], [], 0, 0, 0⟩ => some x0
  | _ => none
theorem un_ok_circalaw13_MarksKnown_l1 : ∀ s x, un_circalaw13_MarksKnown_l1 s = some x → s = emb_circalaw13_MarksKnown_l1 x := by
  intro s x h
  unfold un_circalaw13_MarksKnown_l1 at h
  split at h
  · cases h; rfl
  · cases h
noncomputable def ax_circalaw13_MarksKnown_l1 : Ex → Ann := fun ex => match ex with
  | .ret => ⟨[0], [], 0⟩
  | .exit 2 => ⟨[], [], 0⟩
  | _ => ⟨[], [], 0⟩
noncomputable def out_circalaw13_MarksKnown_l1 (y : Bool ⊕ Unit) : Ex × St := (Sum.casesOn (motive := fun _ => Ex × St) y (fun a0 => (.ret, ⟨[(0, some (.b a0))], [], 0, 0, 0⟩)) (fun b0 => (.exit 2, ⟨[], [], 0, 0, 0⟩)))
noncomputable def outK_circalaw13_MarksKnown_l1 (α : Type) (y : Bool ⊕ Unit) (k : Ex → St → Option α) : Option α := (Sum.casesOn (motive := fun _ => Option α) y (fun a0 => (k (.ret) ⟨[(0, some (.b a0))], [], 0, 0, 0⟩)) (fun b0 => (k (.exit 2) ⟨[], [], 0, 0, 0⟩)))
theorem outK_ok_circalaw13_MarksKnown_l1 : ∀ α y k, outK_circalaw13_MarksKnown_l1 α y k = k (out_circalaw13_MarksKnown_l1 y).1 (out_circalaw13_MarksKnown_l1 y).2 := by
  intro α y k
  rcases y with y | y <;> rfl
noncomputable def ux_circalaw13_MarksKnown_l1 (ex : Ex) (s : St) : Option (Bool ⊕ Unit) := match ex, s with
  | .ret, ⟨[(0, some (.b y0))], [], 0, 0, 0⟩ => some (.inl y0)
  | .exit 2, ⟨[], [], 0, 0, 0⟩ => some (.inr ())
  | _, _ => none
theorem ux_ok_circalaw13_MarksKnown_l1 : ∀ ex s y, ux_circalaw13_MarksKnown_l1 ex s = some y → (ex, s) = out_circalaw13_MarksKnown_l1 y := by
  intro ex s y h
  unfold ux_circalaw13_MarksKnown_l1 at h
  split at h
  · cases h; rfl
  · cases h; rfl
  · cases h
noncomputable def Ls_circalaw13_MarksKnown (n : Nat) : List Sub := [subE 0 an_circalaw13_MarksKnown_l0 un_circalaw13_MarksKnown_l0 (fun x => iterL (circalaw13_MarksKnown_l0 n) n x) outK_circalaw13_MarksKnown_l0, subE 2 an_circalaw13_MarksKnown_l2 un_circalaw13_MarksKnown_l2 (fun x => iterL (circalaw13_MarksKnown_l2 n) n x) outK_circalaw13_MarksKnown_l2, subE 1 an_circalaw13_MarksKnown_l1 un_circalaw13_MarksKnown_l1 (fun x => iterL (circalaw13_MarksKnown_l1 n) n x) outK_circalaw13_MarksKnown_l1]
noncomputable def sac_circalaw13_MarksKnown_l0 : AC := getS (subs (acOf Try.f6)) 0
noncomputable def ac_circalaw13_MarksKnown_l0 : AC := AC.body sac_circalaw13_MarksKnown_l0
theorem subs_circalaw13_MarksKnown_l0 (n : Nat) : SubOK Try.prog 79 (Ls_circalaw13_MarksKnown n) ac_circalaw13_MarksKnown_l0 := SubOK_of _ (by
  have e : subs ac_circalaw13_MarksKnown_l0 = [] := by kernel_rfl
  rw [e]; intro p hp; cases hp)
theorem body_circalaw13_MarksKnown_l0 (n : Nat) : ∀ x, run Try.prog (Es_circalaw13_MarksKnown n) (Ls_circalaw13_MarksKnown n) 79 ac_circalaw13_MarksKnown_l0 (emb_circalaw13_MarksKnown_l0 x) (roundK an_circalaw13_MarksKnown_l0 un_circalaw13_MarksKnown_l0 ax_circalaw13_MarksKnown_l0 ux_circalaw13_MarksKnown_l0) = circalaw13_MarksKnown_l0 n x := fun _ => by kernel_rfl
theorem sub1_circalaw13_MarksKnown_l0 (n : Nat) : ∀ (α : Type) (s : St) (k : Ex → St → Option α) (z : α), (subE 0 an_circalaw13_MarksKnown_l0 un_circalaw13_MarksKnown_l0 (fun x => iterL (circalaw13_MarksKnown_l0 n) n x) outK_circalaw13_MarksKnown_l0).e α s k = some z → SemC Try.prog 79 (sac_circalaw13_MarksKnown_l0).code s fun ex s' => k ex s' = some z := by
  intro α s k z h
  have e : sac_circalaw13_MarksKnown_l0 = .loop ac_circalaw13_MarksKnown_l0 := by kernel_rfl
  rw [e]
  exact subE_ok (m := 0) (f := fun x => iterL (circalaw13_MarksKnown_l0 n) n x) (out := out_circalaw13_MarksKnown_l0) outK_ok_circalaw13_MarksKnown_l0 un_ok_circalaw13_MarksKnown_l0 (fun x y hy => loop_ok (Es_ok_circalaw13_MarksKnown n) (subs_circalaw13_MarksKnown_l0 n) un_ok_circalaw13_MarksKnown_l0 ux_ok_circalaw13_MarksKnown_l0 (body_circalaw13_MarksKnown_l0 n) n x y hy) h
theorem sub_circalaw13_MarksKnown_l0 (n : Nat) : SubSt Try.prog 79 (Ls_circalaw13_MarksKnown n) 0 sac_circalaw13_MarksKnown_l0 := fun α s k z => sub1_circalaw13_MarksKnown_l0 n α s k z
noncomputable def sac_circalaw13_MarksKnown_l1 : AC := getS (subs (acOf Try.f6)) 1
noncomputable def ac_circalaw13_MarksKnown_l1 : AC := AC.body sac_circalaw13_MarksKnown_l1
noncomputable def sac_circalaw13_MarksKnown_l2 : AC := getS (subs ac_circalaw13_MarksKnown_l1) 2
noncomputable def ac_circalaw13_MarksKnown_l2 : AC := AC.body sac_circalaw13_MarksKnown_l2
theorem subs_circalaw13_MarksKnown_l2 (n : Nat) : SubOK Try.prog 79 (Ls_circalaw13_MarksKnown n) ac_circalaw13_MarksKnown_l2 := SubOK_of _ (by
  have e : subs ac_circalaw13_MarksKnown_l2 = [] := by kernel_rfl
  rw [e]; intro p hp; cases hp)
theorem body_circalaw13_MarksKnown_l2 (n : Nat) : ∀ x, run Try.prog (Es_circalaw13_MarksKnown n) (Ls_circalaw13_MarksKnown n) 79 ac_circalaw13_MarksKnown_l2 (emb_circalaw13_MarksKnown_l2 x) (roundK an_circalaw13_MarksKnown_l2 un_circalaw13_MarksKnown_l2 ax_circalaw13_MarksKnown_l2 ux_circalaw13_MarksKnown_l2) = circalaw13_MarksKnown_l2 n x := fun _ => by kernel_rfl
theorem sub1_circalaw13_MarksKnown_l2 (n : Nat) : ∀ (α : Type) (s : St) (k : Ex → St → Option α) (z : α), (subE 2 an_circalaw13_MarksKnown_l2 un_circalaw13_MarksKnown_l2 (fun x => iterL (circalaw13_MarksKnown_l2 n) n x) outK_circalaw13_MarksKnown_l2).e α s k = some z → SemC Try.prog 79 (sac_circalaw13_MarksKnown_l2).code s fun ex s' => k ex s' = some z := by
  intro α s k z h
  have e : sac_circalaw13_MarksKnown_l2 = .loop ac_circalaw13_MarksKnown_l2 := by kernel_rfl
  rw [e]
  exact subE_ok (m := 2) (f := fun x => iterL (circalaw13_MarksKnown_l2 n) n x) (out := out_circalaw13_MarksKnown_l2) outK_ok_circalaw13_MarksKnown_l2 un_ok_circalaw13_MarksKnown_l2 (fun x y hy => loop_ok (Es_ok_circalaw13_MarksKnown n) (subs_circalaw13_MarksKnown_l2 n) un_ok_circalaw13_MarksKnown_l2 ux_ok_circalaw13_MarksKnown_l2 (body_circalaw13_MarksKnown_l2 n) n x y hy) h
theorem sub_circalaw13_MarksKnown_l2 (n : Nat) : SubSt Try.prog 79 (Ls_circalaw13_MarksKnown n) 2 sac_circalaw13_MarksKnown_l2 := fun α s k z => sub1_circalaw13_MarksKnown_l2 n α s k z
theorem subs_circalaw13_MarksKnown_l1 (n : Nat) : SubOK Try.prog 79 (Ls_circalaw13_MarksKnown n) ac_circalaw13_MarksKnown_l1 := SubOK_of _ (by
  have e : subs ac_circalaw13_MarksKnown_l1 = [(2, sac_circalaw13_MarksKnown_l2)] := by kernel_rfl
  rw [e]; intro p hp
  simp only [List.mem_cons, List.not_mem_nil, or_false] at hp
  · rw [hp]; exact sub_circalaw13_MarksKnown_l2 n
  )
theorem body_circalaw13_MarksKnown_l1 (n : Nat) : ∀ x, run Try.prog (Es_circalaw13_MarksKnown n) (Ls_circalaw13_MarksKnown n) 79 ac_circalaw13_MarksKnown_l1 (emb_circalaw13_MarksKnown_l1 x) (roundK an_circalaw13_MarksKnown_l1 un_circalaw13_MarksKnown_l1 ax_circalaw13_MarksKnown_l1 ux_circalaw13_MarksKnown_l1) = circalaw13_MarksKnown_l1 n x := fun _ => by kernel_rfl
theorem sub1_circalaw13_MarksKnown_l1 (n : Nat) : ∀ (α : Type) (s : St) (k : Ex → St → Option α) (z : α), (subE 1 an_circalaw13_MarksKnown_l1 un_circalaw13_MarksKnown_l1 (fun x => iterL (circalaw13_MarksKnown_l1 n) n x) outK_circalaw13_MarksKnown_l1).e α s k = some z → SemC Try.prog 79 (sac_circalaw13_MarksKnown_l1).code s fun ex s' => k ex s' = some z := by
  intro α s k z h
  have e : sac_circalaw13_MarksKnown_l1 = .loop ac_circalaw13_MarksKnown_l1 := by kernel_rfl
  rw [e]
  exact subE_ok (m := 1) (f := fun x => iterL (circalaw13_MarksKnown_l1 n) n x) (out := out_circalaw13_MarksKnown_l1) outK_ok_circalaw13_MarksKnown_l1 un_ok_circalaw13_MarksKnown_l1 (fun x y hy => loop_ok (Es_ok_circalaw13_MarksKnown n) (subs_circalaw13_MarksKnown_l1 n) un_ok_circalaw13_MarksKnown_l1 ux_ok_circalaw13_MarksKnown_l1 (body_circalaw13_MarksKnown_l1 n) n x y hy) h
theorem sub_circalaw13_MarksKnown_l1 (n : Nat) : SubSt Try.prog 79 (Ls_circalaw13_MarksKnown n) 1 sac_circalaw13_MarksKnown_l1 := fun α s k z => sub1_circalaw13_MarksKnown_l1 n α s k z
theorem subs_circalaw13_MarksKnown (n : Nat) : SubOK Try.prog 79 (Ls_circalaw13_MarksKnown n) (acOf Try.f6) := SubOK_of _ (by
  have e : subs (acOf Try.f6) = [(0, sac_circalaw13_MarksKnown_l0), (1, sac_circalaw13_MarksKnown_l1)] := by kernel_rfl
  rw [e]; intro p hp
  simp only [List.mem_cons, List.not_mem_nil, or_false] at hp
  rcases hp with hp | hp
  · rw [hp]; exact sub_circalaw13_MarksKnown_l0 n
  · rw [hp]; exact sub_circalaw13_MarksKnown_l1 n
  )
theorem cert_circalaw13_MarksKnown (n : Nat) : run Try.prog (Es_circalaw13_MarksKnown n) (Ls_circalaw13_MarksKnown n) Try.f6.ntmps (acOf Try.f6) ⟨argsT [] 0, [], 0, 0, 0⟩ (finK Try.prog Try.f6.results.toList (retX unr_circalaw13_MarksKnown)) = circalaw13_MarksKnown n := by kernel_rfl
theorem pure_circalaw13_MarksKnown (n : Nat) : ∀ a r, circalaw13_MarksKnown n = some r → PureOK Try.prog 6 (arg_circalaw13_MarksKnown a) (enc_circalaw13_MarksKnown r) := fun a r h => pureX_ok unr_ok_circalaw13_MarksKnown (Es_ok_circalaw13_MarksKnown n) Try.func6 rfl (acOf_code _) (subs_circalaw13_MarksKnown n) rfl ((cert_circalaw13_MarksKnown n).trans h)
theorem ok_circalaw13_MarksKnown (n : Nat) : EntOK Try.prog (e_circalaw13_MarksKnown n) := pureE_ok Try.call6 una_ok_circalaw13_MarksKnown (fun _ => rfl) (pure_circalaw13_MarksKnown n)

end Go.Sh
