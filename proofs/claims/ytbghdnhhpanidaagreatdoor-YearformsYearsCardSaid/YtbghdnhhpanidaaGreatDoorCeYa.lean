/- Each function of the program computes its plain function: the certificates.
   Conditions: none. Printed by the bench tool gen.py. -/
import Derived.Test.YtbghdnhhpanidaaGreatDoorCeY
set_option linter.unusedVariables false
set_option linter.unusedSimpArgs false
set_option maxRecDepth 100000
namespace Go.Sh
open Go.Abs Go.Proofs

/-! circa/yearforms.Read$1 -/
noncomputable def arg_yearforms_Read_1 (a : List UInt8 × List UInt8 × Int) : List V := [.s a.1, .p 0 0]
noncomputable def H0_yearforms_Read_1 (a : List UInt8 × List UInt8 × Int) : List (Nat × Blk) := [(0, .cells [.p 1 0]), (1, .cells [.s a.2.1, .i .i64 a.2.2])]
noncomputable def una_yearforms_Read_1 (l : List V) (H : List (Nat × Blk)) : Option ((List UInt8 × List UInt8 × Int) × List Nat) := match l with
  | [.s a0, .p b0 0] => (match Abs.look H b0 with
    | some (.cells [.p b1 0]) => (match Abs.look H b1 with
    | some (.cells [.s a1, .i .i64 a2]) => (cond (Abs.distinct [b0, b1] && true) (some ((a0, a1, a2), [b0, b1])) none)
    | _ => none)
    | _ => none)
  | _ => none
theorem una_ok_yearforms_Read_1 : ∀ l H a ρ, una_yearforms_Read_1 l H = some (a, ρ) → ρ.length = 2 ∧ ρ.Nodup ∧ l = V.rens ρ (arg_yearforms_Read_1 a) ∧ ∀ b blk, Abs.look (H0_yearforms_Read_1 a) b = some blk → Abs.look H (getN ρ b) = some (blk.ren ρ) := by
  intro l H a ρ h
  unfold una_yearforms_Read_1 at h
  split at h
  · split at h
    · rename_i e0
      split at h
      · rename_i e1
        obtain ⟨hd, h⟩ := cond_some h
        simp only [Bool.and_eq_true] at hd
        obtain ⟨hd, _⟩ := hd
        cases h
        exact ⟨rfl, distinct_ok hd, rfl, eachH_look ⟨e0, e1, trivial⟩⟩
      · cases h
    · cases h
  · cases h
noncomputable def out_yearforms_Read_1 (r : (Int × List UInt8 × Int) ⊕ (Int × Int × List UInt8 × Int)) : FOut := (Sum.casesOn (motive := fun _ => FOut) r (fun a0 => (⟨false, .i .i64 a0.1, [(1, .cells [.s a0.2.1, .i .i64 a0.2.2])], []⟩ : FOut)) (fun b0 => (⟨true, .it 91 (.ag [.i .i64 b0.1, .i .i64 b0.2.1]), [(1, .cells [.s b0.2.2.1, .i .i64 b0.2.2.2])], []⟩ : FOut)))
noncomputable def outK_yearforms_Read_1 (α : Type) (r : (Int × List UInt8 × Int) ⊕ (Int × Int × List UInt8 × Int)) (k : FOut → Option α) : Option α := (Sum.casesOn (motive := fun _ => Option α) r (fun a0 => (k ⟨false, .i .i64 a0.1, [(1, .cells [.s a0.2.1, .i .i64 a0.2.2])], []⟩)) (fun b0 => (k ⟨true, .it 91 (.ag [.i .i64 b0.1, .i .i64 b0.2.1]), [(1, .cells [.s b0.2.2.1, .i .i64 b0.2.2.2])], []⟩)))
theorem outK_ok_yearforms_Read_1 : ∀ α r k, outK_yearforms_Read_1 α r k = k (out_yearforms_Read_1 r) := by
  intro α r k
  rcases r with r | r <;> rfl
noncomputable def unr_yearforms_Read_1 (pan : Bool) (v : V) (H : List (Nat × Blk)) (nw : List Nat) : Option ((Int × List UInt8 × Int) ⊕ (Int × Int × List UInt8 × Int)) := match pan, v, H, nw with
  | false, .i .i64 r0, [(1, .cells [.s r1, .i .i64 r2])], [] => some (.inl (r0, r1, r2))
  | true, .it 91 (.ag [.i .i64 r0, .i .i64 r1]), [(1, .cells [.s r2, .i .i64 r3])], [] => some (.inr (r0, r1, r2, r3))
  | _, _, _, _ => none
theorem unr_ok_yearforms_Read_1 : ∀ pan v H nw r, unr_yearforms_Read_1 pan v H nw = some r → (out_yearforms_Read_1 r).pan = pan ∧ (out_yearforms_Read_1 r).news = nw ∧ v = V.ren (upTo 0 2 ++ (out_yearforms_Read_1 r).news) (out_yearforms_Read_1 r).val ∧ H = renH (upTo 0 2 ++ (out_yearforms_Read_1 r).news) (out_yearforms_Read_1 r).H := by
  intro pan v H nw r h
  unfold unr_yearforms_Read_1 at h
  split at h
  · cases h; exact ⟨rfl, rfl, rfl, rfl⟩
  · cases h; exact ⟨rfl, rfl, rfl, rfl⟩
  · cases h
theorem hv_yearforms_Read_1 : ∀ r, V.lt (2 + (out_yearforms_Read_1 r).news.length) (out_yearforms_Read_1 r).val = true := fun r => (by rcases r with r | r <;> rfl)
theorem hc_yearforms_Read_1 : ∀ r, chkH (2 + (out_yearforms_Read_1 r).news.length) (out_yearforms_Read_1 r).H = true := fun r => (by rcases r with r | r <;> rfl)
theorem hk_yearforms_Read_1 : ∀ r, hasKeys (out_yearforms_Read_1 r).H 1 (1 + (out_yearforms_Read_1 r).news.length) = true := fun r => (by rcases r with r | r <;> rfl)
noncomputable def e_yearforms_Read_1 (n : Nat) : Ent := funE 51 2 una_yearforms_Read_1 (fun a => yearforms_Read_1 n a.1 a.2.1 a.2.2) outK_yearforms_Read_1
noncomputable def t_yearforms_Read_1 (l : List V) (H : List (Nat × Blk)) : Bool := isS (una_yearforms_Read_1 l H)
noncomputable def Es_yearforms_Read_1 (n : Nat) : List Ent := [e_cursors_Cursor_Take n, e_cursors_Cursor_One n, e_cursors_Cursor_Some n, e_lib_54 n]
theorem Es_ok_yearforms_Read_1 (n : Nat) : ∀ x ∈ Es_yearforms_Read_1 n, EntOK Tryz.prog x := by
  intro x hx
  simp only [Es_yearforms_Read_1, List.mem_cons, List.not_mem_nil, or_false] at hx
  rcases hx with hx | hx | hx | hx
  · rw [hx]; exact ok_cursors_Cursor_Take n
  · rw [hx]; exact ok_cursors_Cursor_One n
  · rw [hx]; exact ok_cursors_Cursor_Some n
  · rw [hx]; exact ok_lib_54 n
noncomputable def Ls_yearforms_Read_1 (_n : Nat) : List Sub := []
theorem subs_yearforms_Read_1 (n : Nat) : SubOK Tryz.prog 23 (Ls_yearforms_Read_1 n) (acOf Tryz.f51) := SubOK_of _ (by
  have e : subs (acOf Tryz.f51) = [] := by kernel_rfl
  rw [e]; intro p hp; cases hp)
theorem cert_yearforms_Read_1 (n : Nat) (a0 : List UInt8) (a1 : List UInt8) (a2 : Int) : run Tryz.prog (Es_yearforms_Read_1 n) (Ls_yearforms_Read_1 n) Tryz.f51.ntmps (acOf Tryz.f51) ⟨argsT [.s a0, .p 0 0] 0, [(0, .cells [.p 1 0]), (1, .cells [.s a1, .i .i64 a2])], 2, 2, 1, 2⟩ (finK Tryz.prog Tryz.f51.results.toList (funX [1] 2 1 2 unr_yearforms_Read_1)) = yearforms_Read_1 n a0 a1 a2 := by kernel_rfl
theorem fun_yearforms_Read_1 (n : Nat) : ∀ a r, yearforms_Read_1 n a.1 a.2.1 a.2.2 = some r → FunOK Tryz.prog 51 (arg_yearforms_Read_1 a) (H0_yearforms_Read_1 a) 2 1 2 (out_yearforms_Read_1 r) := fun a r h => funX_ok (ws := [1]) unr_ok_yearforms_Read_1 hv_yearforms_Read_1 (fun r b blk hl => (chkH_look (hc_yearforms_Read_1 r) b blk hl).2) (fun r => chkH_keys (hc_yearforms_Read_1 r)) (by decide) (Es_ok_yearforms_Read_1 n) Tryz.func51 rfl (acOf_code _) (subs_yearforms_Read_1 n) rfl rfl ((cert_yearforms_Read_1 n a.1 a.2.1 a.2.2).trans h)
theorem ok_yearforms_Read_1 (n : Nat) : EntOK Tryz.prog (e_yearforms_Read_1 n) := funE_ok (m := 2) (ro := 1) (rb := 2) (out := out_yearforms_Read_1) (arg := arg_yearforms_Read_1) (H0 := H0_yearforms_Read_1) Tryz.call51 (by decide) (by decide) outK_ok_yearforms_Read_1 una_ok_yearforms_Read_1 (fun _ => rfl) (fun a => chkH_look (m := 2) (H := H0_yearforms_Read_1 a) rfl) (fun _ => rfl) (fun r => chkH_keys (hc_yearforms_Read_1 r)) (fun r b blk h => (chkH_look (hc_yearforms_Read_1 r) b blk h).2) (fun r b h1 h2 => hasKeys_ok (hk_yearforms_Read_1 r) b h1 (by omega)) hv_yearforms_Read_1 (fun_yearforms_Read_1 n)

/-! circa/yearforms.Read -/
noncomputable def arg_yearforms_Read (a : List UInt8 × Int) : List V := [.p 0 0]
noncomputable def H0_yearforms_Read (a : List UInt8 × Int) : List (Nat × Blk) := [(0, .cells [.s a.1, .i .i64 a.2])]
noncomputable def una_yearforms_Read (l : List V) (H : List (Nat × Blk)) : Option ((List UInt8 × Int) × List Nat) := match l with
  | [.p b0 0] => (match Abs.look H b0 with
    | some (.cells [.s a0, .i .i64 a1]) => (cond (Abs.distinct [b0] && true) (some ((a0, a1), [b0])) none)
    | _ => none)
  | _ => none
theorem una_ok_yearforms_Read : ∀ l H a ρ, una_yearforms_Read l H = some (a, ρ) → ρ.length = 1 ∧ ρ.Nodup ∧ l = V.rens ρ (arg_yearforms_Read a) ∧ ∀ b blk, Abs.look (H0_yearforms_Read a) b = some blk → Abs.look H (getN ρ b) = some (blk.ren ρ) := by
  intro l H a ρ h
  unfold una_yearforms_Read at h
  split at h
  · split at h
    · rename_i e0
      obtain ⟨hd, h⟩ := cond_some h
      simp only [Bool.and_eq_true] at hd
      obtain ⟨hd, _⟩ := hd
      cases h
      exact ⟨rfl, distinct_ok hd, rfl, eachH_look ⟨e0, trivial⟩⟩
    · cases h
  · cases h
noncomputable def out_yearforms_Read (r : (Int × Int × List UInt8 × Int) ⊕ (Bool × Bool × List UInt8 × Int × Int × List UInt8 × Int)) : FOut := (Sum.casesOn (motive := fun _ => FOut) r (fun a0 => (⟨true, .it 91 (.ag [.i .i64 a0.1, .i .i64 a0.2.1]), [(0, .cells [.s a0.2.2.1, .i .i64 a0.2.2.2])], []⟩ : FOut)) (fun b0 => (⟨false, .ag [.b b0.1, .b b0.2.1, .s b0.2.2.1, .i .i64 b0.2.2.2.1, .i .i64 b0.2.2.2.2.1], [(0, .cells [.s b0.2.2.2.2.2.1, .i .i64 b0.2.2.2.2.2.2])], []⟩ : FOut)))
noncomputable def outK_yearforms_Read (α : Type) (r : (Int × Int × List UInt8 × Int) ⊕ (Bool × Bool × List UInt8 × Int × Int × List UInt8 × Int)) (k : FOut → Option α) : Option α := (Sum.casesOn (motive := fun _ => Option α) r (fun a0 => (k ⟨true, .it 91 (.ag [.i .i64 a0.1, .i .i64 a0.2.1]), [(0, .cells [.s a0.2.2.1, .i .i64 a0.2.2.2])], []⟩)) (fun b0 => (k ⟨false, .ag [.b b0.1, .b b0.2.1, .s b0.2.2.1, .i .i64 b0.2.2.2.1, .i .i64 b0.2.2.2.2.1], [(0, .cells [.s b0.2.2.2.2.2.1, .i .i64 b0.2.2.2.2.2.2])], []⟩)))
theorem outK_ok_yearforms_Read : ∀ α r k, outK_yearforms_Read α r k = k (out_yearforms_Read r) := by
  intro α r k
  rcases r with r | r <;> rfl
noncomputable def unr_yearforms_Read (pan : Bool) (v : V) (H : List (Nat × Blk)) (nw : List Nat) : Option ((Int × Int × List UInt8 × Int) ⊕ (Bool × Bool × List UInt8 × Int × Int × List UInt8 × Int)) := match pan, v, H, nw with
  | true, .it 91 (.ag [.i .i64 r0, .i .i64 r1]), [(0, .cells [.s r2, .i .i64 r3])], [] => some (.inl (r0, r1, r2, r3))
  | false, .ag [.b r0, .b r1, .s r2, .i .i64 r3, .i .i64 r4], [(0, .cells [.s r5, .i .i64 r6])], [] => some (.inr (r0, r1, r2, r3, r4, r5, r6))
  | _, _, _, _ => none
theorem unr_ok_yearforms_Read : ∀ pan v H nw r, unr_yearforms_Read pan v H nw = some r → (out_yearforms_Read r).pan = pan ∧ (out_yearforms_Read r).news = nw ∧ v = V.ren (upTo 0 1 ++ (out_yearforms_Read r).news) (out_yearforms_Read r).val ∧ H = renH (upTo 0 1 ++ (out_yearforms_Read r).news) (out_yearforms_Read r).H := by
  intro pan v H nw r h
  unfold unr_yearforms_Read at h
  split at h
  · cases h; exact ⟨rfl, rfl, rfl, rfl⟩
  · cases h; exact ⟨rfl, rfl, rfl, rfl⟩
  · cases h
theorem hv_yearforms_Read : ∀ r, V.lt (1 + (out_yearforms_Read r).news.length) (out_yearforms_Read r).val = true := fun r => (by rcases r with r | r <;> rfl)
theorem hc_yearforms_Read : ∀ r, chkH (1 + (out_yearforms_Read r).news.length) (out_yearforms_Read r).H = true := fun r => (by rcases r with r | r <;> rfl)
theorem hk_yearforms_Read : ∀ r, hasKeys (out_yearforms_Read r).H 0 (1 + (out_yearforms_Read r).news.length) = true := fun r => (by rcases r with r | r <;> rfl)
noncomputable def e_yearforms_Read (n : Nat) : Ent := funE 32 1 una_yearforms_Read (fun a => yearforms_Read n a.1 a.2) outK_yearforms_Read
noncomputable def t_yearforms_Read (l : List V) (H : List (Nat × Blk)) : Bool := isS (una_yearforms_Read l H)
noncomputable def Es_yearforms_Read (n : Nat) : List Ent := [e_cursors_Cursor_Take n, e_cursors_Cursor_One n, e_cursors_Cursor_Some n, e_yearforms_Read_1 n]
theorem Es_ok_yearforms_Read (n : Nat) : ∀ x ∈ Es_yearforms_Read n, EntOK Tryz.prog x := by
  intro x hx
  simp only [Es_yearforms_Read, List.mem_cons, List.not_mem_nil, or_false] at hx
  rcases hx with hx | hx | hx | hx
  · rw [hx]; exact ok_cursors_Cursor_Take n
  · rw [hx]; exact ok_cursors_Cursor_One n
  · rw [hx]; exact ok_cursors_Cursor_Some n
  · rw [hx]; exact ok_yearforms_Read_1 n
noncomputable def Ls_yearforms_Read (_n : Nat) : List Sub := []
theorem subs_yearforms_Read (n : Nat) : SubOK Tryz.prog 30 (Ls_yearforms_Read n) (acOf Tryz.f32) := SubOK_of _ (by
  have e : subs (acOf Tryz.f32) = [] := by kernel_rfl
  rw [e]; intro p hp; cases hp)
theorem cert_yearforms_Read (n : Nat) (a0 : List UInt8) (a1 : Int) : run Tryz.prog (Es_yearforms_Read n) (Ls_yearforms_Read n) Tryz.f32.ntmps (acOf Tryz.f32) ⟨argsT [.p 0 0] 0, [(0, .cells [.s a0, .i .i64 a1])], 1, 1, 0, 1⟩ (finK Tryz.prog Tryz.f32.results.toList (funX [0] 1 0 1 unr_yearforms_Read)) = yearforms_Read n a0 a1 := by kernel_rfl
theorem fun_yearforms_Read (n : Nat) : ∀ a r, yearforms_Read n a.1 a.2 = some r → FunOK Tryz.prog 32 (arg_yearforms_Read a) (H0_yearforms_Read a) 1 0 1 (out_yearforms_Read r) := fun a r h => funX_ok (ws := [0]) unr_ok_yearforms_Read hv_yearforms_Read (fun r b blk hl => (chkH_look (hc_yearforms_Read r) b blk hl).2) (fun r => chkH_keys (hc_yearforms_Read r)) (by decide) (Es_ok_yearforms_Read n) Tryz.func32 rfl (acOf_code _) (subs_yearforms_Read n) rfl rfl ((cert_yearforms_Read n a.1 a.2).trans h)
theorem ok_yearforms_Read (n : Nat) : EntOK Tryz.prog (e_yearforms_Read n) := funE_ok (m := 1) (ro := 0) (rb := 1) (out := out_yearforms_Read) (arg := arg_yearforms_Read) (H0 := H0_yearforms_Read) Tryz.call32 (by decide) (by decide) outK_ok_yearforms_Read una_ok_yearforms_Read (fun _ => rfl) (fun a => chkH_look (m := 1) (H := H0_yearforms_Read a) rfl) (fun _ => rfl) (fun r => chkH_keys (hc_yearforms_Read r)) (fun r b blk h => (chkH_look (hc_yearforms_Read r) b blk h).2) (fun r b h1 h2 => hasKeys_ok (hk_yearforms_Read r) b h1 (by omega)) hv_yearforms_Read (fun_yearforms_Read n)

/-! circa/yearforms.Parse$1 -/
noncomputable def arg_yearforms_Parse_1 (a : List UInt8 × Int × Bool × Bool × List UInt8 × Int × Int) : List V := [.p 0 0, .p 1 0]
noncomputable def H0_yearforms_Parse_1 (a : List UInt8 × Int × Bool × Bool × List UInt8 × Int × Int) : List (Nat × Blk) := [(0, .cells [.s a.1, .i .i64 a.2.1]), (1, .cells [.b a.2.2.1, .b a.2.2.2.1, .s a.2.2.2.2.1, .i .i64 a.2.2.2.2.2.1, .i .i64 a.2.2.2.2.2.2])]
noncomputable def una_yearforms_Parse_1 (l : List V) (H : List (Nat × Blk)) : Option ((List UInt8 × Int × Bool × Bool × List UInt8 × Int × Int) × List Nat) := match l with
  | [.p b0 0, .p b1 0] => (match Abs.look H b0 with
    | some (.cells [.s a0, .i .i64 a1]) => (match Abs.look H b1 with
    | some (.cells [.b a2, .b a3, .s a4, .i .i64 a5, .i .i64 a6]) => (cond (Abs.distinct [b0, b1] && true) (some ((a0, a1, a2, a3, a4, a5, a6), [b0, b1])) none)
    | _ => none)
    | _ => none)
  | _ => none
theorem una_ok_yearforms_Parse_1 : ∀ l H a ρ, una_yearforms_Parse_1 l H = some (a, ρ) → ρ.length = 2 ∧ ρ.Nodup ∧ l = V.rens ρ (arg_yearforms_Parse_1 a) ∧ ∀ b blk, Abs.look (H0_yearforms_Parse_1 a) b = some blk → Abs.look H (getN ρ b) = some (blk.ren ρ) := by
  intro l H a ρ h
  unfold una_yearforms_Parse_1 at h
  split at h
  · split at h
    · rename_i e0
      split at h
      · rename_i e1
        obtain ⟨hd, h⟩ := cond_some h
        simp only [Bool.and_eq_true] at hd
        obtain ⟨hd, _⟩ := hd
        cases h
        exact ⟨rfl, distinct_ok hd, rfl, eachH_look ⟨e0, e1, trivial⟩⟩
      · cases h
    · cases h
  · cases h
noncomputable def out_yearforms_Parse_1 (r : (Int × Int × List UInt8 × Int × Bool × Bool × List UInt8 × Int × Int) ⊕ (List UInt8 × Int × Bool × Bool × List UInt8 × Int × Int)) : FOut := (Sum.casesOn (motive := fun _ => FOut) r (fun a0 => (⟨true, .it 91 (.ag [.i .i64 a0.1, .i .i64 a0.2.1]), [(0, .cells [.s a0.2.2.1, .i .i64 a0.2.2.2.1]), (1, .cells [.b a0.2.2.2.2.1, .b a0.2.2.2.2.2.1, .s a0.2.2.2.2.2.2.1, .i .i64 a0.2.2.2.2.2.2.2.1, .i .i64 a0.2.2.2.2.2.2.2.2])], []⟩ : FOut)) (fun b0 => (⟨false, .tp [], [(0, .cells [.s b0.1, .i .i64 b0.2.1]), (1, .cells [.b b0.2.2.1, .b b0.2.2.2.1, .s b0.2.2.2.2.1, .i .i64 b0.2.2.2.2.2.1, .i .i64 b0.2.2.2.2.2.2])], []⟩ : FOut)))
noncomputable def outK_yearforms_Parse_1 (α : Type) (r : (Int × Int × List UInt8 × Int × Bool × Bool × List UInt8 × Int × Int) ⊕ (List UInt8 × Int × Bool × Bool × List UInt8 × Int × Int)) (k : FOut → Option α) : Option α := (Sum.casesOn (motive := fun _ => Option α) r (fun a0 => (k ⟨true, .it 91 (.ag [.i .i64 a0.1, .i .i64 a0.2.1]), [(0, .cells [.s a0.2.2.1, .i .i64 a0.2.2.2.1]), (1, .cells [.b a0.2.2.2.2.1, .b a0.2.2.2.2.2.1, .s a0.2.2.2.2.2.2.1, .i .i64 a0.2.2.2.2.2.2.2.1, .i .i64 a0.2.2.2.2.2.2.2.2])], []⟩)) (fun b0 => (k ⟨false, .tp [], [(0, .cells [.s b0.1, .i .i64 b0.2.1]), (1, .cells [.b b0.2.2.1, .b b0.2.2.2.1, .s b0.2.2.2.2.1, .i .i64 b0.2.2.2.2.2.1, .i .i64 b0.2.2.2.2.2.2])], []⟩)))
theorem outK_ok_yearforms_Parse_1 : ∀ α r k, outK_yearforms_Parse_1 α r k = k (out_yearforms_Parse_1 r) := by
  intro α r k
  rcases r with r | r <;> rfl
noncomputable def unr_yearforms_Parse_1 (pan : Bool) (v : V) (H : List (Nat × Blk)) (nw : List Nat) : Option ((Int × Int × List UInt8 × Int × Bool × Bool × List UInt8 × Int × Int) ⊕ (List UInt8 × Int × Bool × Bool × List UInt8 × Int × Int)) := match pan, v, H, nw with
  | true, .it 91 (.ag [.i .i64 r0, .i .i64 r1]), [(0, .cells [.s r2, .i .i64 r3]), (1, .cells [.b r4, .b r5, .s r6, .i .i64 r7, .i .i64 r8])], [] => some (.inl (r0, r1, r2, r3, r4, r5, r6, r7, r8))
  | false, .tp [], [(0, .cells [.s r0, .i .i64 r1]), (1, .cells [.b r2, .b r3, .s r4, .i .i64 r5, .i .i64 r6])], [] => some (.inr (r0, r1, r2, r3, r4, r5, r6))
  | _, _, _, _ => none
theorem unr_ok_yearforms_Parse_1 : ∀ pan v H nw r, unr_yearforms_Parse_1 pan v H nw = some r → (out_yearforms_Parse_1 r).pan = pan ∧ (out_yearforms_Parse_1 r).news = nw ∧ v = V.ren (upTo 0 2 ++ (out_yearforms_Parse_1 r).news) (out_yearforms_Parse_1 r).val ∧ H = renH (upTo 0 2 ++ (out_yearforms_Parse_1 r).news) (out_yearforms_Parse_1 r).H := by
  intro pan v H nw r h
  unfold unr_yearforms_Parse_1 at h
  split at h
  · cases h; exact ⟨rfl, rfl, rfl, rfl⟩
  · cases h; exact ⟨rfl, rfl, rfl, rfl⟩
  · cases h
theorem hv_yearforms_Parse_1 : ∀ r, V.lt (2 + (out_yearforms_Parse_1 r).news.length) (out_yearforms_Parse_1 r).val = true := fun r => (by rcases r with r | r <;> rfl)
theorem hc_yearforms_Parse_1 : ∀ r, chkH (2 + (out_yearforms_Parse_1 r).news.length) (out_yearforms_Parse_1 r).H = true := fun r => (by rcases r with r | r <;> rfl)
theorem hk_yearforms_Parse_1 : ∀ r, hasKeys (out_yearforms_Parse_1 r).H 0 (2 + (out_yearforms_Parse_1 r).news.length) = true := fun r => (by rcases r with r | r <;> rfl)
noncomputable def e_yearforms_Parse_1 (n : Nat) : Ent := funE 31 2 una_yearforms_Parse_1 (fun a => yearforms_Parse_1 n a.1 a.2.1 a.2.2.1 a.2.2.2.1 a.2.2.2.2.1 a.2.2.2.2.2.1 a.2.2.2.2.2.2) outK_yearforms_Parse_1
noncomputable def t_yearforms_Parse_1 (l : List V) (H : List (Nat × Blk)) : Bool := isS (una_yearforms_Parse_1 l H)
noncomputable def Es_yearforms_Parse_1 (n : Nat) : List Ent := [e_yearforms_Read n]
theorem Es_ok_yearforms_Parse_1 (n : Nat) : ∀ x ∈ Es_yearforms_Parse_1 n, EntOK Tryz.prog x := by
  intro x hx
  simp only [Es_yearforms_Parse_1, List.mem_cons, List.not_mem_nil, or_false] at hx
  · rw [hx]; exact ok_yearforms_Read n
noncomputable def Ls_yearforms_Parse_1 (_n : Nat) : List Sub := []
theorem subs_yearforms_Parse_1 (n : Nat) : SubOK Tryz.prog 5 (Ls_yearforms_Parse_1 n) (acOf Tryz.f31) := SubOK_of _ (by
  have e : subs (acOf Tryz.f31) = [] := by kernel_rfl
  rw [e]; intro p hp; cases hp)
theorem cert_yearforms_Parse_1 (n : Nat) (a0 : List UInt8) (a1 : Int) (a2 : Bool) (a3 : Bool) (a4 : List UInt8) (a5 : Int) (a6 : Int) : run Tryz.prog (Es_yearforms_Parse_1 n) (Ls_yearforms_Parse_1 n) Tryz.f31.ntmps (acOf Tryz.f31) ⟨argsT [.p 0 0, .p 1 0] 0, [(0, .cells [.s a0, .i .i64 a1]), (1, .cells [.b a2, .b a3, .s a4, .i .i64 a5, .i .i64 a6])], 2, 2, 0, 2⟩ (finK Tryz.prog Tryz.f31.results.toList (funX [0, 1] 2 0 2 unr_yearforms_Parse_1)) = yearforms_Parse_1 n a0 a1 a2 a3 a4 a5 a6 := by kernel_rfl
theorem fun_yearforms_Parse_1 (n : Nat) : ∀ a r, yearforms_Parse_1 n a.1 a.2.1 a.2.2.1 a.2.2.2.1 a.2.2.2.2.1 a.2.2.2.2.2.1 a.2.2.2.2.2.2 = some r → FunOK Tryz.prog 31 (arg_yearforms_Parse_1 a) (H0_yearforms_Parse_1 a) 2 0 2 (out_yearforms_Parse_1 r) := fun a r h => funX_ok (ws := [0, 1]) unr_ok_yearforms_Parse_1 hv_yearforms_Parse_1 (fun r b blk hl => (chkH_look (hc_yearforms_Parse_1 r) b blk hl).2) (fun r => chkH_keys (hc_yearforms_Parse_1 r)) (by decide) (Es_ok_yearforms_Parse_1 n) Tryz.func31 rfl (acOf_code _) (subs_yearforms_Parse_1 n) rfl rfl ((cert_yearforms_Parse_1 n a.1 a.2.1 a.2.2.1 a.2.2.2.1 a.2.2.2.2.1 a.2.2.2.2.2.1 a.2.2.2.2.2.2).trans h)
theorem ok_yearforms_Parse_1 (n : Nat) : EntOK Tryz.prog (e_yearforms_Parse_1 n) := funE_ok (m := 2) (ro := 0) (rb := 2) (out := out_yearforms_Parse_1) (arg := arg_yearforms_Parse_1) (H0 := H0_yearforms_Parse_1) Tryz.call31 (by decide) (by decide) outK_ok_yearforms_Parse_1 una_ok_yearforms_Parse_1 (fun _ => rfl) (fun a => chkH_look (m := 2) (H := H0_yearforms_Parse_1 a) rfl) (fun _ => rfl) (fun r => chkH_keys (hc_yearforms_Parse_1 r)) (fun r b blk h => (chkH_look (hc_yearforms_Parse_1 r) b blk h).2) (fun r b h1 h2 => hasKeys_ok (hk_yearforms_Parse_1 r) b h1 (by omega)) hv_yearforms_Parse_1 (fun_yearforms_Parse_1 n)

/-! circa/cursors.Run -/
noncomputable def arg_cursors_Run (a : List UInt8 × Bool × Bool × List UInt8 × Int × Int) : List V := [.s a.1, .fn 31 [.p 0 0]]
noncomputable def H0_cursors_Run (a : List UInt8 × Bool × Bool × List UInt8 × Int × Int) : List (Nat × Blk) := [(0, .cells [.b a.2.1, .b a.2.2.1, .s a.2.2.2.1, .i .i64 a.2.2.2.2.1, .i .i64 a.2.2.2.2.2])]
noncomputable def una_cursors_Run (l : List V) (H : List (Nat × Blk)) : Option ((List UInt8 × Bool × Bool × List UInt8 × Int × Int) × List Nat) := match l with
  | [.s a0, .fn 31 [.p b0 0]] => (match Abs.look H b0 with
    | some (.cells [.b a1, .b a2, .s a3, .i .i64 a4, .i .i64 a5]) => (cond (Abs.distinct [b0] && true) (some ((a0, a1, a2, a3, a4, a5), [b0])) none)
    | _ => none)
  | _ => none
theorem una_ok_cursors_Run : ∀ l H a ρ, una_cursors_Run l H = some (a, ρ) → ρ.length = 1 ∧ ρ.Nodup ∧ l = V.rens ρ (arg_cursors_Run a) ∧ ∀ b blk, Abs.look (H0_cursors_Run a) b = some blk → Abs.look H (getN ρ b) = some (blk.ren ρ) := by
  intro l H a ρ h
  unfold una_cursors_Run at h
  split at h
  · split at h
    · rename_i e0
      obtain ⟨hd, h⟩ := cond_some h
      simp only [Bool.and_eq_true] at hd
      obtain ⟨hd, _⟩ := hd
      cases h
      exact ⟨rfl, distinct_ok hd, rfl, eachH_look ⟨e0, trivial⟩⟩
    · cases h
  · cases h
noncomputable def out_cursors_Run (r : (Int × Int × Bool × Bool × List UInt8 × Int × Int)) : FOut := (⟨false, .tp [.i .i64 r.1, .i .i64 r.2.1], [(0, .cells [.b r.2.2.1, .b r.2.2.2.1, .s r.2.2.2.2.1, .i .i64 r.2.2.2.2.2.1, .i .i64 r.2.2.2.2.2.2])], []⟩ : FOut)
noncomputable def outK_cursors_Run (α : Type) (r : (Int × Int × Bool × Bool × List UInt8 × Int × Int)) (k : FOut → Option α) : Option α := (k ⟨false, .tp [.i .i64 r.1, .i .i64 r.2.1], [(0, .cells [.b r.2.2.1, .b r.2.2.2.1, .s r.2.2.2.2.1, .i .i64 r.2.2.2.2.2.1, .i .i64 r.2.2.2.2.2.2])], []⟩)
theorem outK_ok_cursors_Run : ∀ α r k, outK_cursors_Run α r k = k (out_cursors_Run r) := by
  intro α r k
  rfl
noncomputable def unr_cursors_Run (pan : Bool) (v : V) (H : List (Nat × Blk)) (nw : List Nat) : Option ((Int × Int × Bool × Bool × List UInt8 × Int × Int)) := match pan, v, H, nw with
  | false, .tp [.i .i64 r0, .i .i64 r1], [(0, .cells [.b r2, .b r3, .s r4, .i .i64 r5, .i .i64 r6])], [] => some (r0, r1, r2, r3, r4, r5, r6)
  | _, _, _, _ => none
theorem unr_ok_cursors_Run : ∀ pan v H nw r, unr_cursors_Run pan v H nw = some r → (out_cursors_Run r).pan = pan ∧ (out_cursors_Run r).news = nw ∧ v = V.ren (upTo 0 1 ++ (out_cursors_Run r).news) (out_cursors_Run r).val ∧ H = renH (upTo 0 1 ++ (out_cursors_Run r).news) (out_cursors_Run r).H := by
  intro pan v H nw r h
  unfold unr_cursors_Run at h
  split at h
  · cases h; exact ⟨rfl, rfl, rfl, rfl⟩
  · cases h
theorem hv_cursors_Run : ∀ r, V.lt (1 + (out_cursors_Run r).news.length) (out_cursors_Run r).val = true := fun r => (by rfl)
theorem hc_cursors_Run : ∀ r, chkH (1 + (out_cursors_Run r).news.length) (out_cursors_Run r).H = true := fun r => (by rfl)
theorem hk_cursors_Run : ∀ r, hasKeys (out_cursors_Run r).H 0 (1 + (out_cursors_Run r).news.length) = true := fun r => (by rfl)
noncomputable def e_cursors_Run (n : Nat) : Ent := funE 30 1 una_cursors_Run (fun a => cursors_Run n a.1 a.2.1 a.2.2.1 a.2.2.2.1 a.2.2.2.2.1 a.2.2.2.2.2) outK_cursors_Run
noncomputable def t_cursors_Run (l : List V) (H : List (Nat × Blk)) : Bool := isS (una_cursors_Run l H)
noncomputable def Es_cursors_Run (n : Nat) : List Ent := [e_yearforms_Parse_1 n]
theorem Es_ok_cursors_Run (n : Nat) : ∀ x ∈ Es_cursors_Run n, EntOK Tryz.prog x := by
  intro x hx
  simp only [Es_cursors_Run, List.mem_cons, List.not_mem_nil, or_false] at hx
  · rw [hx]; exact ok_yearforms_Parse_1 n
noncomputable def Ls_cursors_Run (_n : Nat) : List Sub := []
theorem subs_cursors_Run (n : Nat) : SubOK Tryz.prog 27 (Ls_cursors_Run n) (acOf Tryz.f30) := SubOK_of _ (by
  have e : subs (acOf Tryz.f30) = [] := by kernel_rfl
  rw [e]; intro p hp; cases hp)
theorem cert_cursors_Run (n : Nat) (a0 : List UInt8) (a1 : Bool) (a2 : Bool) (a3 : List UInt8) (a4 : Int) (a5 : Int) : runDf Tryz.prog (Es_cursors_Run n) (Ls_cursors_Run n) Tryz.f30.ntmps (spineL 2 (acOf Tryz.f30)) (getO (regOps (spineR 2 (acOf Tryz.f30))) 0) (.tmp 9) 49 (spineR 3 (acOf Tryz.f30)) [] [] Tryz.f49.ntmps (spineR 1 (acOf Tryz.f49)) 5 Tryz.f30.results.toList (funX [0] 1 0 1 unr_cursors_Run) ⟨argsT [.s a0, .fn 31 [.p 0 0]] 0, [(0, .cells [.b a1, .b a2, .s a3, .i .i64 a4, .i .i64 a5])], 1, 1, 0, 1⟩ = cursors_Run n a0 a1 a2 a3 a4 a5 := by kernel_rfl
theorem subsC_cursors_Run : SubOK Tryz.prog Tryz.f49.ntmps [] (acOf Tryz.f49) := SubOK_of _ (by
  have e : subs (acOf Tryz.f49) = [] := by kernel_rfl
  rw [e]; intro p hp; cases hp)
theorem fun_cursors_Run (n : Nat) : ∀ a r, cursors_Run n a.1 a.2.1 a.2.2.1 a.2.2.2.1 a.2.2.2.2.1 a.2.2.2.2.2 = some r → FunOK Tryz.prog 30 (arg_cursors_Run a) (H0_cursors_Run a) 1 0 1 (out_cursors_Run r) := fun a r h => funX_of (ws := [0]) unr_ok_cursors_Run hv_cursors_Run (fun r b blk hl => (chkH_look (hc_cursors_Run r) b blk hl).2) (fun r => chkH_keys (hc_cursors_Run r)) (by decide) rfl (funcD2_ok (Es_ok_cursors_Run n) (k := 2) (idD := 3) (o1 := (getO (regOps (spineR 2 (acOf Tryz.f30))) 0)) (oD := (getO (regOps (spineR 2 (acOf Tryz.f30))) 1)) (acB := (spineR 3 (acOf Tryz.f30))) (idR := 0) (oR := (getO (regOps (acOf Tryz.f49)) 0)) Tryz.func30 rfl (acOf_code _) (by kernel_rfl) (subs_cursors_Run n) (by kernel_rfl) (by kernel_rfl) (by kernel_rfl) (by kernel_rfl) (EC := []) (fun x hx => by cases hx) Tryz.func49 rfl (acOf_code _) (by kernel_rfl) (by kernel_rfl) (by kernel_rfl) (by kernel_rfl) (by kernel_rfl) subsC_cursors_Run Tryz.call49 rfl ((cert_cursors_Run n a.1 a.2.1 a.2.2.1 a.2.2.2.1 a.2.2.2.2.1 a.2.2.2.2.2).trans h))
theorem ok_cursors_Run (n : Nat) : EntOK Tryz.prog (e_cursors_Run n) := funE_ok (m := 1) (ro := 0) (rb := 1) (out := out_cursors_Run) (arg := arg_cursors_Run) (H0 := H0_cursors_Run) Tryz.call30 (by decide) (by decide) outK_ok_cursors_Run una_ok_cursors_Run (fun _ => rfl) (fun a => chkH_look (m := 1) (H := H0_cursors_Run a) rfl) (fun _ => rfl) (fun r => chkH_keys (hc_cursors_Run r)) (fun r b blk h => (chkH_look (hc_cursors_Run r) b blk h).2) (fun r b h1 h2 => hasKeys_ok (hk_cursors_Run r) b h1 (by omega)) hv_cursors_Run (fun_cursors_Run n)

/-! circa/yearforms.Parse -/
noncomputable def arg_yearforms_Parse (a : List UInt8) : List V := [.s a]
noncomputable def una_yearforms_Parse (l : List V) : Option (List UInt8) := match l with
  | [.s a0] => some a0
  | _ => none
theorem una_ok_yearforms_Parse : ∀ l a, una_yearforms_Parse l = some a → l = arg_yearforms_Parse a := by
  intro l a h
  unfold una_yearforms_Parse at h
  split at h
  · cases h; rfl
  · cases h
noncomputable def enc_yearforms_Parse (r : Bool × Bool × List UInt8 × Int × Int × Int × Int) : V := .tp [.ag [.b r.1, .b r.2.1, .s r.2.2.1, .i .i64 r.2.2.2.1, .i .i64 r.2.2.2.2.1], .i .i64 r.2.2.2.2.2.1, .i .i64 r.2.2.2.2.2.2]
noncomputable def unr_yearforms_Parse (v : V) : Option (Bool × Bool × List UInt8 × Int × Int × Int × Int) := match v with
  | .tp [.ag [.b r0, .b r1, .s r2, .i .i64 r3, .i .i64 r4], .i .i64 r5, .i .i64 r6] => some (r0, r1, r2, r3, r4, r5, r6)
  | _ => none
theorem unr_ok_yearforms_Parse : ∀ v r, unr_yearforms_Parse v = some r → v = enc_yearforms_Parse r := by
  intro v r h
  unfold unr_yearforms_Parse at h
  split at h
  · cases h; rfl
  · cases h
noncomputable def e_yearforms_Parse (n : Nat) : Ent := pureE 14 una_yearforms_Parse (fun a => yearforms_Parse n a) enc_yearforms_Parse
noncomputable def t_yearforms_Parse (l : List V) (_ : List (Nat × Blk)) : Bool := isS (una_yearforms_Parse l)
noncomputable def Es_yearforms_Parse (n : Nat) : List Ent := [e_cursors_Run n, e_yearforms_Check n]
theorem Es_ok_yearforms_Parse (n : Nat) : ∀ x ∈ Es_yearforms_Parse n, EntOK Tryz.prog x := by
  intro x hx
  simp only [Es_yearforms_Parse, List.mem_cons, List.not_mem_nil, or_false] at hx
  rcases hx with hx | hx
  · rw [hx]; exact ok_cursors_Run n
  · rw [hx]; exact ok_yearforms_Check n
noncomputable def Ls_yearforms_Parse (_n : Nat) : List Sub := []
theorem subs_yearforms_Parse (n : Nat) : SubOK Tryz.prog 21 (Ls_yearforms_Parse n) (acOf Tryz.f14) := SubOK_of _ (by
  have e : subs (acOf Tryz.f14) = [] := by kernel_rfl
  rw [e]; intro p hp; cases hp)
theorem cert_yearforms_Parse (n : Nat) (a0 : List UInt8) : run Tryz.prog (Es_yearforms_Parse n) (Ls_yearforms_Parse n) Tryz.f14.ntmps (acOf Tryz.f14) ⟨argsT [.s a0] 0, [], 0, 0, 0, 0⟩ (finK Tryz.prog Tryz.f14.results.toList (retX unr_yearforms_Parse)) = yearforms_Parse n a0 := by kernel_rfl
theorem pure_yearforms_Parse (n : Nat) : ∀ a r, yearforms_Parse n a = some r → PureOK Tryz.prog 14 (arg_yearforms_Parse a) (enc_yearforms_Parse r) := fun a r h => pureX_ok unr_ok_yearforms_Parse (Es_ok_yearforms_Parse n) Tryz.func14 rfl (acOf_code _) (subs_yearforms_Parse n) rfl ((cert_yearforms_Parse n a).trans h)
theorem ok_yearforms_Parse (n : Nat) : EntOK Tryz.prog (e_yearforms_Parse n) := pureE_ok Tryz.call14 una_ok_yearforms_Parse (fun _ => rfl) (pure_yearforms_Parse n)

/-! circa/yearforms.Value -/
noncomputable def arg_yearforms_Value (a : Bool × Bool × List UInt8 × Int × Int) : List V := [.ag [.b a.1, .b a.2.1, .s a.2.2.1, .i .i64 a.2.2.2.1, .i .i64 a.2.2.2.2]]
noncomputable def una_yearforms_Value (l : List V) : Option (Bool × Bool × List UInt8 × Int × Int) := match l with
  | [.ag [.b a0, .b a1, .s a2, .i .i64 a3, .i .i64 a4]] => some (a0, a1, a2, a3, a4)
  | _ => none
theorem una_ok_yearforms_Value : ∀ l a, una_yearforms_Value l = some a → l = arg_yearforms_Value a := by
  intro l a h
  unfold una_yearforms_Value at h
  split at h
  · cases h; rfl
  · cases h
noncomputable def enc_yearforms_Value (r : Int × Int) : V := .tp [.i .i64 r.1, .i .i64 r.2]
noncomputable def unr_yearforms_Value (v : V) : Option (Int × Int) := match v with
  | .tp [.i .i64 r0, .i .i64 r1] => some (r0, r1)
  | _ => none
theorem unr_ok_yearforms_Value : ∀ v r, unr_yearforms_Value v = some r → v = enc_yearforms_Value r := by
  intro v r h
  unfold unr_yearforms_Value at h
  split at h
  · cases h; rfl
  · cases h
noncomputable def e_yearforms_Value (n : Nat) : Ent := pureE 21 una_yearforms_Value (fun a => yearforms_Value n a.1 a.2.1 a.2.2.1 a.2.2.2.1 a.2.2.2.2) enc_yearforms_Value
noncomputable def t_yearforms_Value (l : List V) (_ : List (Nat × Blk)) : Bool := isS (una_yearforms_Value l)
noncomputable def Es_yearforms_Value (n : Nat) : List Ent := [e_yearforms_Check n, e_yearforms_Masked n, e_yearforms_magnitude n]
theorem Es_ok_yearforms_Value (n : Nat) : ∀ x ∈ Es_yearforms_Value n, EntOK Tryz.prog x := by
  intro x hx
  simp only [Es_yearforms_Value, List.mem_cons, List.not_mem_nil, or_false] at hx
  rcases hx with hx | hx | hx
  · rw [hx]; exact ok_yearforms_Check n
  · rw [hx]; exact ok_yearforms_Masked n
  · rw [hx]; exact ok_yearforms_magnitude n
noncomputable def Ls_yearforms_Value (_n : Nat) : List Sub := []
theorem subs_yearforms_Value (n : Nat) : SubOK Tryz.prog 24 (Ls_yearforms_Value n) (acOf Tryz.f21) := SubOK_of _ (by
  have e : subs (acOf Tryz.f21) = [] := by kernel_rfl
  rw [e]; intro p hp; cases hp)
theorem cert_yearforms_Value (n : Nat) (a0 : Bool) (a1 : Bool) (a2 : List UInt8) (a3 : Int) (a4 : Int) : run Tryz.prog (Es_yearforms_Value n) (Ls_yearforms_Value n) Tryz.f21.ntmps (acOf Tryz.f21) ⟨argsT [.ag [.b a0, .b a1, .s a2, .i .i64 a3, .i .i64 a4]] 0, [], 0, 0, 0, 0⟩ (finK Tryz.prog Tryz.f21.results.toList (retX unr_yearforms_Value)) = yearforms_Value n a0 a1 a2 a3 a4 := by kernel_rfl
theorem pure_yearforms_Value (n : Nat) : ∀ a r, yearforms_Value n a.1 a.2.1 a.2.2.1 a.2.2.2.1 a.2.2.2.2 = some r → PureOK Tryz.prog 21 (arg_yearforms_Value a) (enc_yearforms_Value r) := fun a r h => pureX_ok unr_ok_yearforms_Value (Es_ok_yearforms_Value n) Tryz.func21 rfl (acOf_code _) (subs_yearforms_Value n) rfl ((cert_yearforms_Value n a.1 a.2.1 a.2.2.1 a.2.2.2.1 a.2.2.2.2).trans h)
theorem ok_yearforms_Value (n : Nat) : EntOK Tryz.prog (e_yearforms_Value n) := pureE_ok Tryz.call21 una_ok_yearforms_Value (fun _ => rfl) (pure_yearforms_Value n)

/-! circa/circalaw14.lives -/
noncomputable def arg_circalaw14_lives (_a : Unit) : List V := []
noncomputable def una_circalaw14_lives (l : List V) : Option (Unit) := match l with
  | [] => some ()
  | _ => none
theorem una_ok_circalaw14_lives : ∀ l a, una_circalaw14_lives l = some a → l = arg_circalaw14_lives a := by
  intro l a h
  unfold una_circalaw14_lives at h
  split at h
  · cases h; rfl
  · cases h
noncomputable def enc_circalaw14_lives (r : Bool) : V := .b r
noncomputable def unr_circalaw14_lives (v : V) : Option (Bool) := match v with
  | .b r0 => some r0
  | _ => none
theorem unr_ok_circalaw14_lives : ∀ v r, unr_circalaw14_lives v = some r → v = enc_circalaw14_lives r := by
  intro v r h
  unfold unr_circalaw14_lives at h
  split at h
  · cases h; rfl
  · cases h
noncomputable def e_circalaw14_lives (n : Nat) : Ent := pureE 12 una_circalaw14_lives (fun _a => circalaw14_lives n) enc_circalaw14_lives
noncomputable def t_circalaw14_lives (l : List V) (_ : List (Nat × Blk)) : Bool := isS (una_circalaw14_lives l)
noncomputable def Es_circalaw14_lives (n : Nat) : List Ent := [e_yearforms_Parse n, e_yearforms_Span n, e_yearforms_Value n]
theorem Es_ok_circalaw14_lives (n : Nat) : ∀ x ∈ Es_circalaw14_lives n, EntOK Tryz.prog x := by
  intro x hx
  simp only [Es_circalaw14_lives, List.mem_cons, List.not_mem_nil, or_false] at hx
  rcases hx with hx | hx | hx
  · rw [hx]; exact ok_yearforms_Parse n
  · rw [hx]; exact ok_yearforms_Span n
  · rw [hx]; exact ok_yearforms_Value n
noncomputable def an_circalaw14_lives_l0 : Ann := ⟨[1, 2, 3], [0, 1], 2, []⟩
noncomputable def emb_circalaw14_lives_l0 (x : Int × List (List UInt8) × List (Int × Int)) : St := ⟨[(1, some (.ws 0)), (2, some (.ws 1)), (3, some (.i .i64 x.1))], [(0, .rows [.s] x.2.1), (1, .rows [.i .i64, .i .i64] x.2.2)], 2, 0, 0, 0⟩
noncomputable def un_circalaw14_lives_l0 (s : St) : Option (Int × List (List UInt8) × List (Int × Int)) := match s with
  | ⟨[(1, some (.ws 0)), (2, some (.ws 1)), (3, some (.i .i64 x0))], [(0, .rows [.s] x1), (1, .rows [.i .i64, .i .i64] x2)], 2, 0, 0, 0⟩ => some (x0, x1, x2)
  | _ => none
theorem un_ok_circalaw14_lives_l0 : ∀ s x, un_circalaw14_lives_l0 s = some x → s = emb_circalaw14_lives_l0 x := by
  intro s x h
  unfold un_circalaw14_lives_l0 at h
  split at h
  · cases h; rfl
  · cases h
noncomputable def ax_circalaw14_lives_l0 : Ex → Ann := fun ex => match ex with
  | .ret => ⟨[0], [], 2, []⟩
  | .exit 0 => ⟨[], [], 2, []⟩
  | _ => ⟨[], [], 0, []⟩
noncomputable def out_circalaw14_lives_l0 (y : Bool ⊕ Unit) : Ex × St := (Sum.casesOn (motive := fun _ => Ex × St) y (fun a0 => (.ret, ⟨[(0, some (.b a0))], [], 2, 0, 0, 0⟩)) (fun b0 => (.exit 0, ⟨[], [], 2, 0, 0, 0⟩)))
noncomputable def outK_circalaw14_lives_l0 (α : Type) (y : Bool ⊕ Unit) (k : Ex → St → Option α) : Option α := (Sum.casesOn (motive := fun _ => Option α) y (fun a0 => (k (.ret) ⟨[(0, some (.b a0))], [], 2, 0, 0, 0⟩)) (fun b0 => (k (.exit 0) ⟨[], [], 2, 0, 0, 0⟩)))
theorem outK_ok_circalaw14_lives_l0 : ∀ α y k, outK_circalaw14_lives_l0 α y k = k (out_circalaw14_lives_l0 y).1 (out_circalaw14_lives_l0 y).2 := by
  intro α y k
  rcases y with y | y <;> rfl
noncomputable def ux_circalaw14_lives_l0 (ex : Ex) (s : St) : Option (Bool ⊕ Unit) := match ex, s with
  | .ret, ⟨[(0, some (.b y0))], [], 2, 0, 0, 0⟩ => some (.inl y0)
  | .exit 0, ⟨[], [], 2, 0, 0, 0⟩ => some (.inr ())
  | _, _ => none
theorem ux_ok_circalaw14_lives_l0 : ∀ ex s y, ux_circalaw14_lives_l0 ex s = some y → (ex, s) = out_circalaw14_lives_l0 y := by
  intro ex s y h
  unfold ux_circalaw14_lives_l0 at h
  split at h
  · cases h; rfl
  · cases h; rfl
  · cases h
noncomputable def an_circalaw14_lives_l1 : Ann := ⟨[10, 11, 12], [2, 3], 4, []⟩
noncomputable def emb_circalaw14_lives_l1 (x : Int × List (List UInt8) × List (Int)) : St := ⟨[(10, some (.ws 2)), (11, some (.ws 3)), (12, some (.i .i64 x.1))], [(2, .rows [.s] x.2.1), (3, .rows [.i .i64] x.2.2)], 4, 0, 0, 0⟩
noncomputable def un_circalaw14_lives_l1 (s : St) : Option (Int × List (List UInt8) × List (Int)) := match s with
  | ⟨[(10, some (.ws 2)), (11, some (.ws 3)), (12, some (.i .i64 x0))], [(2, .rows [.s] x1), (3, .rows [.i .i64] x2)], 4, 0, 0, 0⟩ => some (x0, x1, x2)
  | _ => none
theorem un_ok_circalaw14_lives_l1 : ∀ s x, un_circalaw14_lives_l1 s = some x → s = emb_circalaw14_lives_l1 x := by
  intro s x h
  unfold un_circalaw14_lives_l1 at h
  split at h
  · cases h; rfl
  · cases h
noncomputable def ax_circalaw14_lives_l1 : Ex → Ann := fun ex => match ex with
  | .ret => ⟨[0], [], 4, []⟩
  | .exit 2 => ⟨[], [], 4, []⟩
  | _ => ⟨[], [], 0, []⟩
noncomputable def out_circalaw14_lives_l1 (y : Bool ⊕ Unit) : Ex × St := (Sum.casesOn (motive := fun _ => Ex × St) y (fun a0 => (.ret, ⟨[(0, some (.b a0))], [], 4, 0, 0, 0⟩)) (fun b0 => (.exit 2, ⟨[], [], 4, 0, 0, 0⟩)))
noncomputable def outK_circalaw14_lives_l1 (α : Type) (y : Bool ⊕ Unit) (k : Ex → St → Option α) : Option α := (Sum.casesOn (motive := fun _ => Option α) y (fun a0 => (k (.ret) ⟨[(0, some (.b a0))], [], 4, 0, 0, 0⟩)) (fun b0 => (k (.exit 2) ⟨[], [], 4, 0, 0, 0⟩)))
theorem outK_ok_circalaw14_lives_l1 : ∀ α y k, outK_circalaw14_lives_l1 α y k = k (out_circalaw14_lives_l1 y).1 (out_circalaw14_lives_l1 y).2 := by
  intro α y k
  rcases y with y | y <;> rfl
noncomputable def ux_circalaw14_lives_l1 (ex : Ex) (s : St) : Option (Bool ⊕ Unit) := match ex, s with
  | .ret, ⟨[(0, some (.b y0))], [], 4, 0, 0, 0⟩ => some (.inl y0)
  | .exit 2, ⟨[], [], 4, 0, 0, 0⟩ => some (.inr ())
  | _, _ => none
theorem ux_ok_circalaw14_lives_l1 : ∀ ex s y, ux_circalaw14_lives_l1 ex s = some y → (ex, s) = out_circalaw14_lives_l1 y := by
  intro ex s y h
  unfold ux_circalaw14_lives_l1 at h
  split at h
  · cases h; rfl
  · cases h; rfl
  · cases h
noncomputable def Ls_circalaw14_lives (n : Nat) : List Sub := [subE 0 an_circalaw14_lives_l0 un_circalaw14_lives_l0 (fun x => iterL (circalaw14_lives_l0 n) n x) outK_circalaw14_lives_l0, subE 1 an_circalaw14_lives_l1 un_circalaw14_lives_l1 (fun x => iterL (circalaw14_lives_l1 n) n x) outK_circalaw14_lives_l1]
noncomputable def sac_circalaw14_lives_l0 : AC := getS (subs (acOf Tryz.f12)) 0
noncomputable def ac_circalaw14_lives_l0 : AC := AC.body sac_circalaw14_lives_l0
theorem subs_circalaw14_lives_l0 (n : Nat) : SubOK Tryz.prog 118 (Ls_circalaw14_lives n) ac_circalaw14_lives_l0 := SubOK_of _ (by
  have e : subs ac_circalaw14_lives_l0 = [] := by kernel_rfl
  rw [e]; intro p hp; cases hp)
theorem body_circalaw14_lives_l0 (n : Nat) : ∀ x, run Tryz.prog (Es_circalaw14_lives n) (Ls_circalaw14_lives n) 118 ac_circalaw14_lives_l0 (emb_circalaw14_lives_l0 x) (roundK an_circalaw14_lives_l0 un_circalaw14_lives_l0 ax_circalaw14_lives_l0 ux_circalaw14_lives_l0) = circalaw14_lives_l0 n x := fun _ => by kernel_rfl
theorem sub1_circalaw14_lives_l0 (n : Nat) : ∀ (α : Type) (s : St) (k : Ex → St → Option α) (z : α), (subE 0 an_circalaw14_lives_l0 un_circalaw14_lives_l0 (fun x => iterL (circalaw14_lives_l0 n) n x) outK_circalaw14_lives_l0).e α s k = some z → SemC Tryz.prog 118 (sac_circalaw14_lives_l0).code s fun ex s' => k ex s' = some z := by
  intro α s k z h
  have e : sac_circalaw14_lives_l0 = .loop ac_circalaw14_lives_l0 := by kernel_rfl
  rw [e]
  exact subE_ok (m := 0) (f := fun x => iterL (circalaw14_lives_l0 n) n x) (out := out_circalaw14_lives_l0) outK_ok_circalaw14_lives_l0 un_ok_circalaw14_lives_l0 (fun x y hy => loop_ok (Es_ok_circalaw14_lives n) (subs_circalaw14_lives_l0 n) un_ok_circalaw14_lives_l0 ux_ok_circalaw14_lives_l0 (body_circalaw14_lives_l0 n) n x y hy) h
theorem sub_circalaw14_lives_l0 (n : Nat) : SubSt Tryz.prog 118 (Ls_circalaw14_lives n) 0 sac_circalaw14_lives_l0 := fun α s k z => sub1_circalaw14_lives_l0 n α s k z
noncomputable def sac_circalaw14_lives_l1 : AC := getS (subs (acOf Tryz.f12)) 1
noncomputable def ac_circalaw14_lives_l1 : AC := AC.body sac_circalaw14_lives_l1
theorem subs_circalaw14_lives_l1 (n : Nat) : SubOK Tryz.prog 118 (Ls_circalaw14_lives n) ac_circalaw14_lives_l1 := SubOK_of _ (by
  have e : subs ac_circalaw14_lives_l1 = [] := by kernel_rfl
  rw [e]; intro p hp; cases hp)
theorem body_circalaw14_lives_l1 (n : Nat) : ∀ x, run Tryz.prog (Es_circalaw14_lives n) (Ls_circalaw14_lives n) 118 ac_circalaw14_lives_l1 (emb_circalaw14_lives_l1 x) (roundK an_circalaw14_lives_l1 un_circalaw14_lives_l1 ax_circalaw14_lives_l1 ux_circalaw14_lives_l1) = circalaw14_lives_l1 n x := fun _ => by kernel_rfl
theorem sub1_circalaw14_lives_l1 (n : Nat) : ∀ (α : Type) (s : St) (k : Ex → St → Option α) (z : α), (subE 1 an_circalaw14_lives_l1 un_circalaw14_lives_l1 (fun x => iterL (circalaw14_lives_l1 n) n x) outK_circalaw14_lives_l1).e α s k = some z → SemC Tryz.prog 118 (sac_circalaw14_lives_l1).code s fun ex s' => k ex s' = some z := by
  intro α s k z h
  have e : sac_circalaw14_lives_l1 = .loop ac_circalaw14_lives_l1 := by kernel_rfl
  rw [e]
  exact subE_ok (m := 1) (f := fun x => iterL (circalaw14_lives_l1 n) n x) (out := out_circalaw14_lives_l1) outK_ok_circalaw14_lives_l1 un_ok_circalaw14_lives_l1 (fun x y hy => loop_ok (Es_ok_circalaw14_lives n) (subs_circalaw14_lives_l1 n) un_ok_circalaw14_lives_l1 ux_ok_circalaw14_lives_l1 (body_circalaw14_lives_l1 n) n x y hy) h
theorem sub_circalaw14_lives_l1 (n : Nat) : SubSt Tryz.prog 118 (Ls_circalaw14_lives n) 1 sac_circalaw14_lives_l1 := fun α s k z => sub1_circalaw14_lives_l1 n α s k z
theorem subs_circalaw14_lives (n : Nat) : SubOK Tryz.prog 118 (Ls_circalaw14_lives n) (acOf Tryz.f12) := SubOK_of _ (by
  have e : subs (acOf Tryz.f12) = [(0, sac_circalaw14_lives_l0), (1, sac_circalaw14_lives_l1)] := by kernel_rfl
  rw [e]; intro p hp
  simp only [List.mem_cons, List.not_mem_nil, or_false] at hp
  rcases hp with hp | hp
  · rw [hp]; exact sub_circalaw14_lives_l0 n
  · rw [hp]; exact sub_circalaw14_lives_l1 n
  )
theorem cert_circalaw14_lives (n : Nat) : run Tryz.prog (Es_circalaw14_lives n) (Ls_circalaw14_lives n) Tryz.f12.ntmps (acOf Tryz.f12) ⟨argsT [] 0, [], 0, 0, 0, 0⟩ (finK Tryz.prog Tryz.f12.results.toList (retX unr_circalaw14_lives)) = circalaw14_lives n := by kernel_rfl
theorem pure_circalaw14_lives (n : Nat) : ∀ a r, circalaw14_lives n = some r → PureOK Tryz.prog 12 (arg_circalaw14_lives a) (enc_circalaw14_lives r) := fun a r h => pureX_ok unr_ok_circalaw14_lives (Es_ok_circalaw14_lives n) Tryz.func12 rfl (acOf_code _) (subs_circalaw14_lives n) rfl ((cert_circalaw14_lives n).trans h)
theorem ok_circalaw14_lives (n : Nat) : EntOK Tryz.prog (e_circalaw14_lives n) := pureE_ok Tryz.call12 una_ok_circalaw14_lives (fun _ => rfl) (pure_circalaw14_lives n)

/-! circa/circalaw14.YearformsYears -/
noncomputable def arg_circalaw14_YearformsYears (a : Int × Bool × Int × Int × Int × Int) : List V := [.ag [.i .u8 a.1, .b a.2.1, .i .u16 a.2.2.1, .i .u8 a.2.2.2.1, .i .u8 a.2.2.2.2.1], .i .i64 a.2.2.2.2.2]
noncomputable def una_circalaw14_YearformsYears (l : List V) : Option (Int × Bool × Int × Int × Int × Int) := match l with
  | [.ag [.i .u8 a0, .b a1, .i .u16 a2, .i .u8 a3, .i .u8 a4], .i .i64 a5] => some (a0, a1, a2, a3, a4, a5)
  | _ => none
theorem una_ok_circalaw14_YearformsYears : ∀ l a, una_circalaw14_YearformsYears l = some a → l = arg_circalaw14_YearformsYears a := by
  intro l a h
  unfold una_circalaw14_YearformsYears at h
  split at h
  · cases h; rfl
  · cases h
noncomputable def enc_circalaw14_YearformsYears (r : Bool) : V := .b r
noncomputable def unr_circalaw14_YearformsYears (v : V) : Option (Bool) := match v with
  | .b r0 => some r0
  | _ => none
theorem unr_ok_circalaw14_YearformsYears : ∀ v r, unr_circalaw14_YearformsYears v = some r → v = enc_circalaw14_YearformsYears r := by
  intro v r h
  unfold unr_circalaw14_YearformsYears at h
  split at h
  · cases h; rfl
  · cases h
noncomputable def e_circalaw14_YearformsYears (n : Nat) : Ent := pureE 3 una_circalaw14_YearformsYears (fun a => circalaw14_YearformsYears n a.1 a.2.1 a.2.2.1 a.2.2.2.1 a.2.2.2.2.1 a.2.2.2.2.2) enc_circalaw14_YearformsYears
noncomputable def t_circalaw14_YearformsYears (l : List V) (_ : List (Nat × Blk)) : Bool := isS (una_circalaw14_YearformsYears l)
noncomputable def Es_circalaw14_YearformsYears (n : Nat) : List Ent := [e_circalaw14_Y_Of n, e_yearforms_Span n, e_circaref14_In n, e_circaref14_Check n, e_circalaw14_lives n, e_circaref14_Masked n]
theorem Es_ok_circalaw14_YearformsYears (n : Nat) : ∀ x ∈ Es_circalaw14_YearformsYears n, EntOK Tryz.prog x := by
  intro x hx
  simp only [Es_circalaw14_YearformsYears, List.mem_cons, List.not_mem_nil, or_false] at hx
  rcases hx with hx | hx | hx | hx | hx | hx
  · rw [hx]; exact ok_circalaw14_Y_Of n
  · rw [hx]; exact ok_yearforms_Span n
  · rw [hx]; exact ok_circaref14_In n
  · rw [hx]; exact ok_circaref14_Check n
  · rw [hx]; exact ok_circalaw14_lives n
  · rw [hx]; exact ok_circaref14_Masked n
noncomputable def Ls_circalaw14_YearformsYears (_n : Nat) : List Sub := []
theorem subs_circalaw14_YearformsYears (n : Nat) : SubOK Tryz.prog 154 (Ls_circalaw14_YearformsYears n) (acOf Tryz.f3) := SubOK_of _ (by
  have e : subs (acOf Tryz.f3) = [] := by kernel_rfl
  rw [e]; intro p hp; cases hp)
theorem cert_circalaw14_YearformsYears (n : Nat) (a0 : Int) (a1 : Bool) (a2 : Int) (a3 : Int) (a4 : Int) (a5 : Int) : run Tryz.prog (Es_circalaw14_YearformsYears n) (Ls_circalaw14_YearformsYears n) Tryz.f3.ntmps (acOf Tryz.f3) ⟨argsT [.ag [.i .u8 a0, .b a1, .i .u16 a2, .i .u8 a3, .i .u8 a4], .i .i64 a5] 0, [], 0, 0, 0, 0⟩ (finK Tryz.prog Tryz.f3.results.toList (retX unr_circalaw14_YearformsYears)) = circalaw14_YearformsYears n a0 a1 a2 a3 a4 a5 := by kernel_rfl
theorem pure_circalaw14_YearformsYears (n : Nat) : ∀ a r, circalaw14_YearformsYears n a.1 a.2.1 a.2.2.1 a.2.2.2.1 a.2.2.2.2.1 a.2.2.2.2.2 = some r → PureOK Tryz.prog 3 (arg_circalaw14_YearformsYears a) (enc_circalaw14_YearformsYears r) := fun a r h => pureX_ok unr_ok_circalaw14_YearformsYears (Es_ok_circalaw14_YearformsYears n) Tryz.func3 rfl (acOf_code _) (subs_circalaw14_YearformsYears n) rfl ((cert_circalaw14_YearformsYears n a.1 a.2.1 a.2.2.1 a.2.2.2.1 a.2.2.2.2.1 a.2.2.2.2.2).trans h)
theorem ok_circalaw14_YearformsYears (n : Nat) : EntOK Tryz.prog (e_circalaw14_YearformsYears n) := pureE_ok Tryz.call3 una_ok_circalaw14_YearformsYears (fun _ => rfl) (pure_circalaw14_YearformsYears n)

/-! circa/circaref14.number -/
noncomputable def arg_circaref14_number (a : List UInt8 × Int × Int) : List V := [.s a.1, .i .i64 a.2.1, .i .u8 a.2.2]
noncomputable def una_circaref14_number (l : List V) : Option (List UInt8 × Int × Int) := match l with
  | [.s a0, .i .i64 a1, .i .u8 a2] => some (a0, a1, a2)
  | _ => none
theorem una_ok_circaref14_number : ∀ l a, una_circaref14_number l = some a → l = arg_circaref14_number a := by
  intro l a h
  unfold una_circaref14_number at h
  split at h
  · cases h; rfl
  · cases h
noncomputable def enc_circaref14_number (r : Int × Int) : V := .tp [.i .i64 r.1, .i .i64 r.2]
noncomputable def unr_circaref14_number (v : V) : Option (Int × Int) := match v with
  | .tp [.i .i64 r0, .i .i64 r1] => some (r0, r1)
  | _ => none
theorem unr_ok_circaref14_number : ∀ v r, unr_circaref14_number v = some r → v = enc_circaref14_number r := by
  intro v r h
  unfold unr_circaref14_number at h
  split at h
  · cases h; rfl
  · cases h
noncomputable def e_circaref14_number (n : Nat) : Ent := pureE 33 una_circaref14_number (fun a => circaref14_number n a.1 a.2.1 a.2.2) enc_circaref14_number
noncomputable def t_circaref14_number (l : List V) (_ : List (Nat × Blk)) : Bool := isS (una_circaref14_number l)
noncomputable def Es_circaref14_number (_n : Nat) : List Ent := []
theorem Es_ok_circaref14_number (n : Nat) : ∀ x ∈ Es_circaref14_number n, EntOK Tryz.prog x := by
  intro x hx
  simp [Es_circaref14_number] at hx
noncomputable def Ls_circaref14_number (_n : Nat) : List Sub := []
theorem subs_circaref14_number (n : Nat) : SubOK Tryz.prog 75 (Ls_circaref14_number n) (acOf Tryz.f33) := SubOK_of _ (by
  have e : subs (acOf Tryz.f33) = [] := by kernel_rfl
  rw [e]; intro p hp; cases hp)
theorem cert_circaref14_number (n : Nat) (a0 : List UInt8) (a1 : Int) (a2 : Int) : run Tryz.prog (Es_circaref14_number n) (Ls_circaref14_number n) Tryz.f33.ntmps (acOf Tryz.f33) ⟨argsT [.s a0, .i .i64 a1, .i .u8 a2] 0, [], 0, 0, 0, 0⟩ (finK Tryz.prog Tryz.f33.results.toList (retX unr_circaref14_number)) = circaref14_number n a0 a1 a2 := by kernel_rfl
theorem pure_circaref14_number (n : Nat) : ∀ a r, circaref14_number n a.1 a.2.1 a.2.2 = some r → PureOK Tryz.prog 33 (arg_circaref14_number a) (enc_circaref14_number r) := fun a r h => pureX_ok unr_ok_circaref14_number (Es_ok_circaref14_number n) Tryz.func33 rfl (acOf_code _) (subs_circaref14_number n) rfl ((cert_circaref14_number n a.1 a.2.1 a.2.2).trans h)
theorem ok_circaref14_number (n : Nat) : EntOK Tryz.prog (e_circaref14_number n) := pureE_ok Tryz.call33 una_ok_circaref14_number (fun _ => rfl) (pure_circaref14_number n)

/-! circa/circaref14.Read -/
noncomputable def arg_circaref14_Read (a : List UInt8 × Int) : List V := [.s a.1, .i .i64 a.2]
noncomputable def una_circaref14_Read (l : List V) : Option (List UInt8 × Int) := match l with
  | [.s a0, .i .i64 a1] => some (a0, a1)
  | _ => none
theorem una_ok_circaref14_Read : ∀ l a, una_circaref14_Read l = some a → l = arg_circaref14_Read a := by
  intro l a h
  unfold una_circaref14_Read at h
  split at h
  · cases h; rfl
  · cases h
noncomputable def enc_circaref14_Read (r : Bool × Bool × List UInt8 × Int × Int × Int × Int) : V := .tp [.ag [.b r.1, .b r.2.1, .s r.2.2.1, .i .i64 r.2.2.2.1, .i .i64 r.2.2.2.2.1], .i .i64 r.2.2.2.2.2.1, .i .i64 r.2.2.2.2.2.2]
noncomputable def unr_circaref14_Read (v : V) : Option (Bool × Bool × List UInt8 × Int × Int × Int × Int) := match v with
  | .tp [.ag [.b r0, .b r1, .s r2, .i .i64 r3, .i .i64 r4], .i .i64 r5, .i .i64 r6] => some (r0, r1, r2, r3, r4, r5, r6)
  | _ => none
theorem unr_ok_circaref14_Read : ∀ v r, unr_circaref14_Read v = some r → v = enc_circaref14_Read r := by
  intro v r h
  unfold unr_circaref14_Read at h
  split at h
  · cases h; rfl
  · cases h
noncomputable def e_circaref14_Read (n : Nat) : Ent := pureE 15 una_circaref14_Read (fun a => circaref14_Read n a.1 a.2) enc_circaref14_Read
noncomputable def t_circaref14_Read (l : List V) (_ : List (Nat × Blk)) : Bool := isS (una_circaref14_Read l)
noncomputable def Es_circaref14_Read (n : Nat) : List Ent := [e_circaref14_number n]
theorem Es_ok_circaref14_Read (n : Nat) : ∀ x ∈ Es_circaref14_Read n, EntOK Tryz.prog x := by
  intro x hx
  simp only [Es_circaref14_Read, List.mem_cons, List.not_mem_nil, or_false] at hx
  · rw [hx]; exact ok_circaref14_number n
noncomputable def an_circaref14_Read_l0 : Ann := ⟨[0, 4, 7, 8, 9, 10], [0, 1], 2, []⟩
noncomputable def emb_circaref14_Read_l0 (x : List UInt8 × Int × Int × Int × Bool × Bool × List UInt8 × Int × Int × Bool × Bool × List UInt8 × Int × Int) : St := ⟨[(0, some (.s x.1)), (4, some (.p 0 0)), (7, some (.p 1 0)), (8, some (.i .i64 x.2.1)), (9, some (.i .i64 x.2.2.1)), (10, some (.i .i64 x.2.2.2.1))], [(0, .cells [.b x.2.2.2.2.1, .b x.2.2.2.2.2.1, .s x.2.2.2.2.2.2.1, .i .i64 x.2.2.2.2.2.2.2.1, .i .i64 x.2.2.2.2.2.2.2.2.1]), (1, .cells [.b x.2.2.2.2.2.2.2.2.2.1, .b x.2.2.2.2.2.2.2.2.2.2.1, .s x.2.2.2.2.2.2.2.2.2.2.2.1, .i .i64 x.2.2.2.2.2.2.2.2.2.2.2.2.1, .i .i64 x.2.2.2.2.2.2.2.2.2.2.2.2.2])], 2, 0, 0, 0⟩
noncomputable def un_circaref14_Read_l0 (s : St) : Option (List UInt8 × Int × Int × Int × Bool × Bool × List UInt8 × Int × Int × Bool × Bool × List UInt8 × Int × Int) := match s with
  | ⟨[(0, some (.s x0)), (4, some (.p 0 0)), (7, some (.p 1 0)), (8, some (.i .i64 x1)), (9, some (.i .i64 x2)), (10, some (.i .i64 x3))], [(0, .cells [.b x4, .b x5, .s x6, .i .i64 x7, .i .i64 x8]), (1, .cells [.b x9, .b x10, .s x11, .i .i64 x12, .i .i64 x13])], 2, 0, 0, 0⟩ => some (x0, x1, x2, x3, x4, x5, x6, x7, x8, x9, x10, x11, x12, x13)
  | _ => none
theorem un_ok_circaref14_Read_l0 : ∀ s x, un_circaref14_Read_l0 s = some x → s = emb_circaref14_Read_l0 x := by
  intro s x h
  unfold un_circaref14_Read_l0 at h
  split at h
  · cases h; rfl
  · cases h
noncomputable def ax_circaref14_Read_l0 : Ex → Ann := fun ex => match ex with
  | .ret => ⟨[4, 5, 6], [0], 2, []⟩
  | .exit 0 => ⟨[0, 4, 7, 8, 9], [0, 1], 2, []⟩
  | _ => ⟨[], [], 0, []⟩
noncomputable def out_circaref14_Read_l0 (y : (Int × Int × Bool × Bool × List UInt8 × Int × Int) ⊕ (List UInt8 × Int × Int × Bool × Bool × List UInt8 × Int × Int × Bool × Bool × List UInt8 × Int × Int)) : Ex × St := (Sum.casesOn (motive := fun _ => Ex × St) y (fun a0 => (.ret, ⟨[(4, some (.p 0 0)), (5, some (.i .i64 a0.1)), (6, some (.i .i64 a0.2.1))], [(0, .cells [.b a0.2.2.1, .b a0.2.2.2.1, .s a0.2.2.2.2.1, .i .i64 a0.2.2.2.2.2.1, .i .i64 a0.2.2.2.2.2.2])], 2, 0, 0, 0⟩)) (fun b0 => (.exit 0, ⟨[(0, some (.s b0.1)), (4, some (.p 0 0)), (7, some (.p 1 0)), (8, some (.i .i64 b0.2.1)), (9, some (.i .i64 b0.2.2.1))], [(0, .cells [.b b0.2.2.2.1, .b b0.2.2.2.2.1, .s b0.2.2.2.2.2.1, .i .i64 b0.2.2.2.2.2.2.1, .i .i64 b0.2.2.2.2.2.2.2.1]), (1, .cells [.b b0.2.2.2.2.2.2.2.2.1, .b b0.2.2.2.2.2.2.2.2.2.1, .s b0.2.2.2.2.2.2.2.2.2.2.1, .i .i64 b0.2.2.2.2.2.2.2.2.2.2.2.1, .i .i64 b0.2.2.2.2.2.2.2.2.2.2.2.2])], 2, 0, 0, 0⟩)))
noncomputable def outK_circaref14_Read_l0 (α : Type) (y : (Int × Int × Bool × Bool × List UInt8 × Int × Int) ⊕ (List UInt8 × Int × Int × Bool × Bool × List UInt8 × Int × Int × Bool × Bool × List UInt8 × Int × Int)) (k : Ex → St → Option α) : Option α := (Sum.casesOn (motive := fun _ => Option α) y (fun a0 => (k (.ret) ⟨[(4, some (.p 0 0)), (5, some (.i .i64 a0.1)), (6, some (.i .i64 a0.2.1))], [(0, .cells [.b a0.2.2.1, .b a0.2.2.2.1, .s a0.2.2.2.2.1, .i .i64 a0.2.2.2.2.2.1, .i .i64 a0.2.2.2.2.2.2])], 2, 0, 0, 0⟩)) (fun b0 => (k (.exit 0) ⟨[(0, some (.s b0.1)), (4, some (.p 0 0)), (7, some (.p 1 0)), (8, some (.i .i64 b0.2.1)), (9, some (.i .i64 b0.2.2.1))], [(0, .cells [.b b0.2.2.2.1, .b b0.2.2.2.2.1, .s b0.2.2.2.2.2.1, .i .i64 b0.2.2.2.2.2.2.1, .i .i64 b0.2.2.2.2.2.2.2.1]), (1, .cells [.b b0.2.2.2.2.2.2.2.2.1, .b b0.2.2.2.2.2.2.2.2.2.1, .s b0.2.2.2.2.2.2.2.2.2.2.1, .i .i64 b0.2.2.2.2.2.2.2.2.2.2.2.1, .i .i64 b0.2.2.2.2.2.2.2.2.2.2.2.2])], 2, 0, 0, 0⟩)))
theorem outK_ok_circaref14_Read_l0 : ∀ α y k, outK_circaref14_Read_l0 α y k = k (out_circaref14_Read_l0 y).1 (out_circaref14_Read_l0 y).2 := by
  intro α y k
  rcases y with y | y <;> rfl
noncomputable def ux_circaref14_Read_l0 (ex : Ex) (s : St) : Option ((Int × Int × Bool × Bool × List UInt8 × Int × Int) ⊕ (List UInt8 × Int × Int × Bool × Bool × List UInt8 × Int × Int × Bool × Bool × List UInt8 × Int × Int)) := match ex, s with
  | .ret, ⟨[(4, some (.p 0 0)), (5, some (.i .i64 y0)), (6, some (.i .i64 y1))], [(0, .cells [.b y2, .b y3, .s y4, .i .i64 y5, .i .i64 y6])], 2, 0, 0, 0⟩ => some (.inl (y0, y1, y2, y3, y4, y5, y6))
  | .exit 0, ⟨[(0, some (.s y0)), (4, some (.p 0 0)), (7, some (.p 1 0)), (8, some (.i .i64 y1)), (9, some (.i .i64 y2))], [(0, .cells [.b y3, .b y4, .s y5, .i .i64 y6, .i .i64 y7]), (1, .cells [.b y8, .b y9, .s y10, .i .i64 y11, .i .i64 y12])], 2, 0, 0, 0⟩ => some (.inr (y0, y1, y2, y3, y4, y5, y6, y7, y8, y9, y10, y11, y12))
  | _, _ => none
theorem ux_ok_circaref14_Read_l0 : ∀ ex s y, ux_circaref14_Read_l0 ex s = some y → (ex, s) = out_circaref14_Read_l0 y := by
  intro ex s y h
  unfold ux_circaref14_Read_l0 at h
  split at h
  · cases h; rfl
  · cases h; rfl
  · cases h
noncomputable def Ls_circaref14_Read (n : Nat) : List Sub := [subE 0 an_circaref14_Read_l0 un_circaref14_Read_l0 (fun x => iterL (circaref14_Read_l0 n) n x) outK_circaref14_Read_l0]
noncomputable def sac_circaref14_Read_l0 : AC := getS (subs (acOf Tryz.f15)) 0
noncomputable def ac_circaref14_Read_l0 : AC := AC.body sac_circaref14_Read_l0
theorem subs_circaref14_Read_l0 (n : Nat) : SubOK Tryz.prog 142 (Ls_circaref14_Read n) ac_circaref14_Read_l0 := SubOK_of _ (by
  have e : subs ac_circaref14_Read_l0 = [] := by kernel_rfl
  rw [e]; intro p hp; cases hp)
theorem body_circaref14_Read_l0 (n : Nat) : ∀ x, run Tryz.prog (Es_circaref14_Read n) (Ls_circaref14_Read n) 142 ac_circaref14_Read_l0 (emb_circaref14_Read_l0 x) (roundK an_circaref14_Read_l0 un_circaref14_Read_l0 ax_circaref14_Read_l0 ux_circaref14_Read_l0) = circaref14_Read_l0 n x := fun _ => by kernel_rfl
theorem sub1_circaref14_Read_l0 (n : Nat) : ∀ (α : Type) (s : St) (k : Ex → St → Option α) (z : α), (subE 0 an_circaref14_Read_l0 un_circaref14_Read_l0 (fun x => iterL (circaref14_Read_l0 n) n x) outK_circaref14_Read_l0).e α s k = some z → SemC Tryz.prog 142 (sac_circaref14_Read_l0).code s fun ex s' => k ex s' = some z := by
  intro α s k z h
  have e : sac_circaref14_Read_l0 = .loop ac_circaref14_Read_l0 := by kernel_rfl
  rw [e]
  exact subE_ok (m := 0) (f := fun x => iterL (circaref14_Read_l0 n) n x) (out := out_circaref14_Read_l0) outK_ok_circaref14_Read_l0 un_ok_circaref14_Read_l0 (fun x y hy => loop_ok (Es_ok_circaref14_Read n) (subs_circaref14_Read_l0 n) un_ok_circaref14_Read_l0 ux_ok_circaref14_Read_l0 (body_circaref14_Read_l0 n) n x y hy) h
theorem sub_circaref14_Read_l0 (n : Nat) : SubSt Tryz.prog 142 (Ls_circaref14_Read n) 0 sac_circaref14_Read_l0 := fun α s k z => sub1_circaref14_Read_l0 n α s k z
theorem subs_circaref14_Read (n : Nat) : SubOK Tryz.prog 142 (Ls_circaref14_Read n) (acOf Tryz.f15) := SubOK_of _ (by
  have e : subs (acOf Tryz.f15) = [(0, sac_circaref14_Read_l0)] := by kernel_rfl
  rw [e]; intro p hp
  simp only [List.mem_cons, List.not_mem_nil, or_false] at hp
  · rw [hp]; exact sub_circaref14_Read_l0 n
  )
theorem cert_circaref14_Read (n : Nat) (a0 : List UInt8) (a1 : Int) : run Tryz.prog (Es_circaref14_Read n) (Ls_circaref14_Read n) Tryz.f15.ntmps (acOf Tryz.f15) ⟨argsT [.s a0, .i .i64 a1] 0, [], 0, 0, 0, 0⟩ (finK Tryz.prog Tryz.f15.results.toList (retX unr_circaref14_Read)) = circaref14_Read n a0 a1 := by kernel_rfl
theorem pure_circaref14_Read (n : Nat) : ∀ a r, circaref14_Read n a.1 a.2 = some r → PureOK Tryz.prog 15 (arg_circaref14_Read a) (enc_circaref14_Read r) := fun a r h => pureX_ok unr_ok_circaref14_Read (Es_ok_circaref14_Read n) Tryz.func15 rfl (acOf_code _) (subs_circaref14_Read n) rfl ((cert_circaref14_Read n a.1 a.2).trans h)
theorem ok_circaref14_Read (n : Nat) : EntOK Tryz.prog (e_circaref14_Read n) := pureE_ok Tryz.call15 una_ok_circaref14_Read (fun _ => rfl) (pure_circaref14_Read n)

end Go.Sh
