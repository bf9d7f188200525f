/- Each function of the program computes its plain function: the certificates.
   Conditions: none. Printed by the bench tool gen.py. -/
import Derived.Test.YtpbhbpjobkdgmaaShP
import Derived.Test.YtpbhbpjobkdgmaaProg
import Derived.Test.YtpbhbpjobkdgmaaAbsX
import Derived.Test.YtpbhbpjobkdgmaaAbsU
import Derived.KernelRfl
set_option linter.unusedVariables false
set_option linter.unusedSimpArgs false
set_option maxRecDepth 100000
namespace Go.Sh
open Go.Abs Go.Proofs

/-! (*circa/cursors.Cursor).Rest -/
noncomputable def arg_cursors_Cursor_Rest (a : List UInt8 × Int) : List V := [.p 0 0]
noncomputable def H0_cursors_Cursor_Rest (a : List UInt8 × Int) : List (Nat × Blk) := [(0, .cells [.s a.1, .i .i64 a.2])]
noncomputable def una_cursors_Cursor_Rest (l : List V) (H : List (Nat × Blk)) : Option ((List UInt8 × Int) × List Nat) := match l with
  | [.p b0 0] => (match Abs.look H b0 with
    | some (.cells [.s a0, .i .i64 a1]) => (cond (Abs.distinct [b0] && true) (some ((a0, a1), [b0])) none)
    | _ => none)
  | _ => none
theorem una_ok_cursors_Cursor_Rest : ∀ l H a ρ, una_cursors_Cursor_Rest l H = some (a, ρ) → ρ.length = 1 ∧ ρ.Nodup ∧ l = V.rens ρ (arg_cursors_Cursor_Rest a) ∧ ∀ b blk, Abs.look (H0_cursors_Cursor_Rest a) b = some blk → Abs.look H (getN ρ b) = some (blk.ren ρ) := by
  intro l H a ρ h
  unfold una_cursors_Cursor_Rest at h
  split at h
  · split at h
    · rename_i e0
      obtain ⟨hd, h⟩ := cond_some h
      simp only [Bool.and_eq_true] at hd
      obtain ⟨hd, _⟩ := hd
      cases h
      exact ⟨rfl, distinct_ok hd, rfl, eachH_look ⟨e0, trivial⟩⟩
    · cases h
  · cases h
noncomputable def out_cursors_Cursor_Rest (r : List UInt8) : FOut := (⟨false, .s r, [], []⟩ : FOut)
noncomputable def outK_cursors_Cursor_Rest (α : Type) (r : List UInt8) (k : FOut → Option α) : Option α := (k ⟨false, .s r, [], []⟩)
theorem outK_ok_cursors_Cursor_Rest : ∀ α r k, outK_cursors_Cursor_Rest α r k = k (out_cursors_Cursor_Rest r) := by
  intro α r k
  rfl
noncomputable def unr_cursors_Cursor_Rest (pan : Bool) (v : V) (H : List (Nat × Blk)) (nw : List Nat) : Option (List UInt8) := match pan, v, H, nw with
  | false, .s r0, [], [] => some r0
  | _, _, _, _ => none
theorem unr_ok_cursors_Cursor_Rest : ∀ pan v H nw r, unr_cursors_Cursor_Rest pan v H nw = some r → (out_cursors_Cursor_Rest r).pan = pan ∧ (out_cursors_Cursor_Rest r).news = nw ∧ v = V.ren (upTo 0 1 ++ (out_cursors_Cursor_Rest r).news) (out_cursors_Cursor_Rest r).val ∧ H = renH (upTo 0 1 ++ (out_cursors_Cursor_Rest r).news) (out_cursors_Cursor_Rest r).H := by
  intro pan v H nw r h
  unfold unr_cursors_Cursor_Rest at h
  split at h
  · cases h; exact ⟨rfl, rfl, rfl, rfl⟩
  · cases h
theorem hv_cursors_Cursor_Rest : ∀ r, V.lt (1 + (out_cursors_Cursor_Rest r).news.length) (out_cursors_Cursor_Rest r).val = true := fun r => (by rfl)
theorem hc_cursors_Cursor_Rest : ∀ r, chkH (1 + (out_cursors_Cursor_Rest r).news.length) (out_cursors_Cursor_Rest r).H = true := fun r => (by rfl)
theorem hk_cursors_Cursor_Rest : ∀ r, hasKeys (out_cursors_Cursor_Rest r).H 1 (0 + (out_cursors_Cursor_Rest r).news.length) = true := fun r => (by rfl)
noncomputable def e_cursors_Cursor_Rest (n : Nat) : Ent := funE 37 1 una_cursors_Cursor_Rest (fun a => cursors_Cursor_Rest n a.1 a.2) outK_cursors_Cursor_Rest
noncomputable def t_cursors_Cursor_Rest (l : List V) (H : List (Nat × Blk)) : Bool := isS (una_cursors_Cursor_Rest l H)
noncomputable def Es_cursors_Cursor_Rest (_n : Nat) : List Ent := []
theorem Es_ok_cursors_Cursor_Rest (n : Nat) : ∀ x ∈ Es_cursors_Cursor_Rest n, EntOK Try.prog x := by
  intro x hx
  simp [Es_cursors_Cursor_Rest] at hx
noncomputable def Ls_cursors_Cursor_Rest (_n : Nat) : List Sub := []
theorem subs_cursors_Cursor_Rest (n : Nat) : SubOK Try.prog 14 (Ls_cursors_Cursor_Rest n) (acOf Try.f37) := SubOK_of _ (by
  have e : subs (acOf Try.f37) = [] := by kernel_rfl
  rw [e]; intro p hp; cases hp)
theorem cert_cursors_Cursor_Rest (n : Nat) (a0 : List UInt8) (a1 : Int) : run Try.prog (Es_cursors_Cursor_Rest n) (Ls_cursors_Cursor_Rest n) Try.f37.ntmps (acOf Try.f37) ⟨argsT [.p 0 0] 0, [(0, .cells [.s a0, .i .i64 a1])], 1, 1, 1, 1⟩ (finK Try.prog Try.f37.results.toList (funX [] 1 1 1 unr_cursors_Cursor_Rest)) = cursors_Cursor_Rest n a0 a1 := by kernel_rfl
theorem fun_cursors_Cursor_Rest (n : Nat) : ∀ a r, cursors_Cursor_Rest n a.1 a.2 = some r → FunOK Try.prog 37 (arg_cursors_Cursor_Rest a) (H0_cursors_Cursor_Rest a) 1 1 1 (out_cursors_Cursor_Rest r) := fun a r h => funX_ok (ws := []) unr_ok_cursors_Cursor_Rest hv_cursors_Cursor_Rest (fun r b blk hl => (chkH_look (hc_cursors_Cursor_Rest r) b blk hl).2) (fun r => chkH_keys (hc_cursors_Cursor_Rest r)) (by decide) (Es_ok_cursors_Cursor_Rest n) Try.func37 rfl (acOf_code _) (subs_cursors_Cursor_Rest n) rfl rfl ((cert_cursors_Cursor_Rest n a.1 a.2).trans h)
theorem ok_cursors_Cursor_Rest (n : Nat) : EntOK Try.prog (e_cursors_Cursor_Rest n) := funE_ok (m := 1) (ro := 1) (rb := 1) (out := out_cursors_Cursor_Rest) (arg := arg_cursors_Cursor_Rest) (H0 := H0_cursors_Cursor_Rest) Try.call37 (by decide) (by decide) outK_ok_cursors_Cursor_Rest una_ok_cursors_Cursor_Rest (fun _ => rfl) (fun a => chkH_look (m := 1) (H := H0_cursors_Cursor_Rest a) rfl) (fun _ => rfl) (fun r => chkH_keys (hc_cursors_Cursor_Rest r)) (fun r b blk h => (chkH_look (hc_cursors_Cursor_Rest r) b blk h).2) (fun r b h1 h2 => hasKeys_ok (hk_cursors_Cursor_Rest r) b h1 (by omega)) hv_cursors_Cursor_Rest (fun_cursors_Cursor_Rest n)

/-! internal/stringslite.HasPrefix -/
noncomputable def arg_int_stringslite_HasPrefix (a : List UInt8 × List UInt8) : List V := [.s a.1, .s a.2]
noncomputable def una_int_stringslite_HasPrefix (l : List V) : Option (List UInt8 × List UInt8) := match l with
  | [.s a0, .s a1] => some (a0, a1)
  | _ => none
theorem una_ok_int_stringslite_HasPrefix : ∀ l a, una_int_stringslite_HasPrefix l = some a → l = arg_int_stringslite_HasPrefix a := by
  intro l a h
  unfold una_int_stringslite_HasPrefix at h
  split at h
  · cases h; rfl
  · cases h
noncomputable def enc_int_stringslite_HasPrefix (r : Bool) : V := .b r
noncomputable def unr_int_stringslite_HasPrefix (v : V) : Option (Bool) := match v with
  | .b r0 => some r0
  | _ => none
theorem unr_ok_int_stringslite_HasPrefix : ∀ v r, unr_int_stringslite_HasPrefix v = some r → v = enc_int_stringslite_HasPrefix r := by
  intro v r h
  unfold unr_int_stringslite_HasPrefix at h
  split at h
  · cases h; rfl
  · cases h
noncomputable def e_int_stringslite_HasPrefix (n : Nat) : Ent := pureE 97 una_int_stringslite_HasPrefix (fun a => int_stringslite_HasPrefix n a.1 a.2) enc_int_stringslite_HasPrefix
noncomputable def t_int_stringslite_HasPrefix (l : List V) (_ : List (Nat × Blk)) : Bool := isS (una_int_stringslite_HasPrefix l)
noncomputable def Es_int_stringslite_HasPrefix (_n : Nat) : List Ent := []
theorem Es_ok_int_stringslite_HasPrefix (n : Nat) : ∀ x ∈ Es_int_stringslite_HasPrefix n, EntOK Try.prog x := by
  intro x hx
  simp [Es_int_stringslite_HasPrefix] at hx
noncomputable def Ls_int_stringslite_HasPrefix (_n : Nat) : List Sub := []
theorem subs_int_stringslite_HasPrefix (n : Nat) : SubOK Try.prog 18 (Ls_int_stringslite_HasPrefix n) (acOf Try.f97) := SubOK_of _ (by
  have e : subs (acOf Try.f97) = [] := by kernel_rfl
  rw [e]; intro p hp; cases hp)
theorem cert_int_stringslite_HasPrefix (n : Nat) (a0 : List UInt8) (a1 : List UInt8) : run Try.prog (Es_int_stringslite_HasPrefix n) (Ls_int_stringslite_HasPrefix n) Try.f97.ntmps (acOf Try.f97) ⟨argsT [.s a0, .s a1] 0, [], 0, 0, 0, 0⟩ (finK Try.prog Try.f97.results.toList (retX unr_int_stringslite_HasPrefix)) = int_stringslite_HasPrefix n a0 a1 := by kernel_rfl
theorem pure_int_stringslite_HasPrefix (n : Nat) : ∀ a r, int_stringslite_HasPrefix n a.1 a.2 = some r → PureOK Try.prog 97 (arg_int_stringslite_HasPrefix a) (enc_int_stringslite_HasPrefix r) := fun a r h => pureX_ok unr_ok_int_stringslite_HasPrefix (Es_ok_int_stringslite_HasPrefix n) Try.func97 rfl (acOf_code _) (subs_int_stringslite_HasPrefix n) rfl ((cert_int_stringslite_HasPrefix n a.1 a.2).trans h)
theorem ok_int_stringslite_HasPrefix (n : Nat) : EntOK Try.prog (e_int_stringslite_HasPrefix n) := pureE_ok Try.call97 una_ok_int_stringslite_HasPrefix (fun _ => rfl) (pure_int_stringslite_HasPrefix n)

/-! strings.HasPrefix -/
noncomputable def arg_strings_HasPrefix (a : List UInt8 × List UInt8) : List V := [.s a.1, .s a.2]
noncomputable def una_strings_HasPrefix (l : List V) : Option (List UInt8 × List UInt8) := match l with
  | [.s a0, .s a1] => some (a0, a1)
  | _ => none
theorem una_ok_strings_HasPrefix : ∀ l a, una_strings_HasPrefix l = some a → l = arg_strings_HasPrefix a := by
  intro l a h
  unfold una_strings_HasPrefix at h
  split at h
  · cases h; rfl
  · cases h
noncomputable def enc_strings_HasPrefix (r : Bool) : V := .b r
noncomputable def unr_strings_HasPrefix (v : V) : Option (Bool) := match v with
  | .b r0 => some r0
  | _ => none
theorem unr_ok_strings_HasPrefix : ∀ v r, unr_strings_HasPrefix v = some r → v = enc_strings_HasPrefix r := by
  intro v r h
  unfold unr_strings_HasPrefix at h
  split at h
  · cases h; rfl
  · cases h
noncomputable def e_strings_HasPrefix (n : Nat) : Ent := pureE 82 una_strings_HasPrefix (fun a => strings_HasPrefix n a.1 a.2) enc_strings_HasPrefix
noncomputable def t_strings_HasPrefix (l : List V) (_ : List (Nat × Blk)) : Bool := isS (una_strings_HasPrefix l)
noncomputable def Es_strings_HasPrefix (n : Nat) : List Ent := [e_int_stringslite_HasPrefix n]
theorem Es_ok_strings_HasPrefix (n : Nat) : ∀ x ∈ Es_strings_HasPrefix n, EntOK Try.prog x := by
  intro x hx
  simp only [Es_strings_HasPrefix, List.mem_cons, List.not_mem_nil, or_false] at hx
  · rw [hx]; exact ok_int_stringslite_HasPrefix n
noncomputable def Ls_strings_HasPrefix (_n : Nat) : List Sub := []
theorem subs_strings_HasPrefix (n : Nat) : SubOK Try.prog 8 (Ls_strings_HasPrefix n) (acOf Try.f82) := SubOK_of _ (by
  have e : subs (acOf Try.f82) = [] := by kernel_rfl
  rw [e]; intro p hp; cases hp)
theorem cert_strings_HasPrefix (n : Nat) (a0 : List UInt8) (a1 : List UInt8) : run Try.prog (Es_strings_HasPrefix n) (Ls_strings_HasPrefix n) Try.f82.ntmps (acOf Try.f82) ⟨argsT [.s a0, .s a1] 0, [], 0, 0, 0, 0⟩ (finK Try.prog Try.f82.results.toList (retX unr_strings_HasPrefix)) = strings_HasPrefix n a0 a1 := by kernel_rfl
theorem pure_strings_HasPrefix (n : Nat) : ∀ a r, strings_HasPrefix n a.1 a.2 = some r → PureOK Try.prog 82 (arg_strings_HasPrefix a) (enc_strings_HasPrefix r) := fun a r h => pureX_ok unr_ok_strings_HasPrefix (Es_ok_strings_HasPrefix n) Try.func82 rfl (acOf_code _) (subs_strings_HasPrefix n) rfl ((cert_strings_HasPrefix n a.1 a.2).trans h)
theorem ok_strings_HasPrefix (n : Nat) : EntOK Try.prog (e_strings_HasPrefix n) := pureE_ok Try.call82 una_ok_strings_HasPrefix (fun _ => rfl) (pure_strings_HasPrefix n)

/-! (*circa/cursors.Cursor).Is -/
noncomputable def arg_cursors_Cursor_Is (a : List UInt8 × List UInt8 × Int) : List V := [.p 0 0, .s a.1]
noncomputable def H0_cursors_Cursor_Is (a : List UInt8 × List UInt8 × Int) : List (Nat × Blk) := [(0, .cells [.s a.2.1, .i .i64 a.2.2])]
noncomputable def una_cursors_Cursor_Is (l : List V) (H : List (Nat × Blk)) : Option ((List UInt8 × List UInt8 × Int) × List Nat) := match l with
  | [.p b0 0, .s a0] => (match Abs.look H b0 with
    | some (.cells [.s a1, .i .i64 a2]) => (cond (Abs.distinct [b0] && true) (some ((a0, a1, a2), [b0])) none)
    | _ => none)
  | _ => none
theorem una_ok_cursors_Cursor_Is : ∀ l H a ρ, una_cursors_Cursor_Is l H = some (a, ρ) → ρ.length = 1 ∧ ρ.Nodup ∧ l = V.rens ρ (arg_cursors_Cursor_Is a) ∧ ∀ b blk, Abs.look (H0_cursors_Cursor_Is a) b = some blk → Abs.look H (getN ρ b) = some (blk.ren ρ) := by
  intro l H a ρ h
  unfold una_cursors_Cursor_Is at h
  split at h
  · split at h
    · rename_i e0
      obtain ⟨hd, h⟩ := cond_some h
      simp only [Bool.and_eq_true] at hd
      obtain ⟨hd, _⟩ := hd
      cases h
      exact ⟨rfl, distinct_ok hd, rfl, eachH_look ⟨e0, trivial⟩⟩
    · cases h
  · cases h
noncomputable def out_cursors_Cursor_Is (r : Bool) : FOut := (⟨false, .b r, [], []⟩ : FOut)
noncomputable def outK_cursors_Cursor_Is (α : Type) (r : Bool) (k : FOut → Option α) : Option α := (k ⟨false, .b r, [], []⟩)
theorem outK_ok_cursors_Cursor_Is : ∀ α r k, outK_cursors_Cursor_Is α r k = k (out_cursors_Cursor_Is r) := by
  intro α r k
  rfl
noncomputable def unr_cursors_Cursor_Is (pan : Bool) (v : V) (H : List (Nat × Blk)) (nw : List Nat) : Option (Bool) := match pan, v, H, nw with
  | false, .b r0, [], [] => some r0
  | _, _, _, _ => none
theorem unr_ok_cursors_Cursor_Is : ∀ pan v H nw r, unr_cursors_Cursor_Is pan v H nw = some r → (out_cursors_Cursor_Is r).pan = pan ∧ (out_cursors_Cursor_Is r).news = nw ∧ v = V.ren (upTo 0 1 ++ (out_cursors_Cursor_Is r).news) (out_cursors_Cursor_Is r).val ∧ H = renH (upTo 0 1 ++ (out_cursors_Cursor_Is r).news) (out_cursors_Cursor_Is r).H := by
  intro pan v H nw r h
  unfold unr_cursors_Cursor_Is at h
  split at h
  · cases h; exact ⟨rfl, rfl, rfl, rfl⟩
  · cases h
theorem hv_cursors_Cursor_Is : ∀ r, V.lt (1 + (out_cursors_Cursor_Is r).news.length) (out_cursors_Cursor_Is r).val = true := fun r => (by rfl)
theorem hc_cursors_Cursor_Is : ∀ r, chkH (1 + (out_cursors_Cursor_Is r).news.length) (out_cursors_Cursor_Is r).H = true := fun r => (by rfl)
theorem hk_cursors_Cursor_Is : ∀ r, hasKeys (out_cursors_Cursor_Is r).H 1 (0 + (out_cursors_Cursor_Is r).news.length) = true := fun r => (by rfl)
noncomputable def e_cursors_Cursor_Is (n : Nat) : Ent := funE 38 1 una_cursors_Cursor_Is (fun a => cursors_Cursor_Is n a.1 a.2.1 a.2.2) outK_cursors_Cursor_Is
noncomputable def t_cursors_Cursor_Is (l : List V) (H : List (Nat × Blk)) : Bool := isS (una_cursors_Cursor_Is l H)
noncomputable def Es_cursors_Cursor_Is (n : Nat) : List Ent := [e_cursors_Cursor_Rest n, e_strings_HasPrefix n]
theorem Es_ok_cursors_Cursor_Is (n : Nat) : ∀ x ∈ Es_cursors_Cursor_Is n, EntOK Try.prog x := by
  intro x hx
  simp only [Es_cursors_Cursor_Is, List.mem_cons, List.not_mem_nil, or_false] at hx
  rcases hx with hx | hx
  · rw [hx]; exact ok_cursors_Cursor_Rest n
  · rw [hx]; exact ok_strings_HasPrefix n
noncomputable def Ls_cursors_Cursor_Is (_n : Nat) : List Sub := []
theorem subs_cursors_Cursor_Is (n : Nat) : SubOK Try.prog 13 (Ls_cursors_Cursor_Is n) (acOf Try.f38) := SubOK_of _ (by
  have e : subs (acOf Try.f38) = [] := by kernel_rfl
  rw [e]; intro p hp; cases hp)
theorem cert_cursors_Cursor_Is (n : Nat) (a0 : List UInt8) (a1 : List UInt8) (a2 : Int) : run Try.prog (Es_cursors_Cursor_Is n) (Ls_cursors_Cursor_Is n) Try.f38.ntmps (acOf Try.f38) ⟨argsT [.p 0 0, .s a0] 0, [(0, .cells [.s a1, .i .i64 a2])], 1, 1, 1, 1⟩ (finK Try.prog Try.f38.results.toList (funX [] 1 1 1 unr_cursors_Cursor_Is)) = cursors_Cursor_Is n a0 a1 a2 := by kernel_rfl
theorem fun_cursors_Cursor_Is (n : Nat) : ∀ a r, cursors_Cursor_Is n a.1 a.2.1 a.2.2 = some r → FunOK Try.prog 38 (arg_cursors_Cursor_Is a) (H0_cursors_Cursor_Is a) 1 1 1 (out_cursors_Cursor_Is r) := fun a r h => funX_ok (ws := []) unr_ok_cursors_Cursor_Is hv_cursors_Cursor_Is (fun r b blk hl => (chkH_look (hc_cursors_Cursor_Is r) b blk hl).2) (fun r => chkH_keys (hc_cursors_Cursor_Is r)) (by decide) (Es_ok_cursors_Cursor_Is n) Try.func38 rfl (acOf_code _) (subs_cursors_Cursor_Is n) rfl rfl ((cert_cursors_Cursor_Is n a.1 a.2.1 a.2.2).trans h)
theorem ok_cursors_Cursor_Is (n : Nat) : EntOK Try.prog (e_cursors_Cursor_Is n) := funE_ok (m := 1) (ro := 1) (rb := 1) (out := out_cursors_Cursor_Is) (arg := arg_cursors_Cursor_Is) (H0 := H0_cursors_Cursor_Is) Try.call38 (by decide) (by decide) outK_ok_cursors_Cursor_Is una_ok_cursors_Cursor_Is (fun _ => rfl) (fun a => chkH_look (m := 1) (H := H0_cursors_Cursor_Is a) rfl) (fun _ => rfl) (fun r => chkH_keys (hc_cursors_Cursor_Is r)) (fun r b blk h => (chkH_look (hc_cursors_Cursor_Is r) b blk h).2) (fun r b h1 h2 => hasKeys_ok (hk_cursors_Cursor_Is r) b h1 (by omega)) hv_cursors_Cursor_Is (fun_cursors_Cursor_Is n)

/-! (*circa/cursors.Cursor).Take -/
noncomputable def arg_cursors_Cursor_Take (a : List UInt8 × List UInt8 × Int) : List V := [.p 0 0, .s a.1]
noncomputable def H0_cursors_Cursor_Take (a : List UInt8 × List UInt8 × Int) : List (Nat × Blk) := [(0, .cells [.s a.2.1, .i .i64 a.2.2])]
noncomputable def una_cursors_Cursor_Take (l : List V) (H : List (Nat × Blk)) : Option ((List UInt8 × List UInt8 × Int) × List Nat) := match l with
  | [.p b0 0, .s a0] => (match Abs.look H b0 with
    | some (.cells [.s a1, .i .i64 a2]) => (cond (Abs.distinct [b0] && true) (some ((a0, a1, a2), [b0])) none)
    | _ => none)
  | _ => none
theorem una_ok_cursors_Cursor_Take : ∀ l H a ρ, una_cursors_Cursor_Take l H = some (a, ρ) → ρ.length = 1 ∧ ρ.Nodup ∧ l = V.rens ρ (arg_cursors_Cursor_Take a) ∧ ∀ b blk, Abs.look (H0_cursors_Cursor_Take a) b = some blk → Abs.look H (getN ρ b) = some (blk.ren ρ) := by
  intro l H a ρ h
  unfold una_cursors_Cursor_Take at h
  split at h
  · split at h
    · rename_i e0
      obtain ⟨hd, h⟩ := cond_some h
      simp only [Bool.and_eq_true] at hd
      obtain ⟨hd, _⟩ := hd
      cases h
      exact ⟨rfl, distinct_ok hd, rfl, eachH_look ⟨e0, trivial⟩⟩
    · cases h
  · cases h
noncomputable def out_cursors_Cursor_Take (r : (Bool × List UInt8 × Int)) : FOut := (⟨false, .b r.1, [(0, .cells [.s r.2.1, .i .i64 r.2.2])], []⟩ : FOut)
noncomputable def outK_cursors_Cursor_Take (α : Type) (r : (Bool × List UInt8 × Int)) (k : FOut → Option α) : Option α := (k ⟨false, .b r.1, [(0, .cells [.s r.2.1, .i .i64 r.2.2])], []⟩)
theorem outK_ok_cursors_Cursor_Take : ∀ α r k, outK_cursors_Cursor_Take α r k = k (out_cursors_Cursor_Take r) := by
  intro α r k
  rfl
noncomputable def unr_cursors_Cursor_Take (pan : Bool) (v : V) (H : List (Nat × Blk)) (nw : List Nat) : Option ((Bool × List UInt8 × Int)) := match pan, v, H, nw with
  | false, .b r0, [(0, .cells [.s r1, .i .i64 r2])], [] => some (r0, r1, r2)
  | _, _, _, _ => none
theorem unr_ok_cursors_Cursor_Take : ∀ pan v H nw r, unr_cursors_Cursor_Take pan v H nw = some r → (out_cursors_Cursor_Take r).pan = pan ∧ (out_cursors_Cursor_Take r).news = nw ∧ v = V.ren (upTo 0 1 ++ (out_cursors_Cursor_Take r).news) (out_cursors_Cursor_Take r).val ∧ H = renH (upTo 0 1 ++ (out_cursors_Cursor_Take r).news) (out_cursors_Cursor_Take r).H := by
  intro pan v H nw r h
  unfold unr_cursors_Cursor_Take at h
  split at h
  · cases h; exact ⟨rfl, rfl, rfl, rfl⟩
  · cases h
theorem hv_cursors_Cursor_Take : ∀ r, V.lt (1 + (out_cursors_Cursor_Take r).news.length) (out_cursors_Cursor_Take r).val = true := fun r => (by rfl)
theorem hc_cursors_Cursor_Take : ∀ r, chkH (1 + (out_cursors_Cursor_Take r).news.length) (out_cursors_Cursor_Take r).H = true := fun r => (by rfl)
theorem hk_cursors_Cursor_Take : ∀ r, hasKeys (out_cursors_Cursor_Take r).H 0 (1 + (out_cursors_Cursor_Take r).news.length) = true := fun r => (by rfl)
noncomputable def e_cursors_Cursor_Take (n : Nat) : Ent := funE 39 1 una_cursors_Cursor_Take (fun a => cursors_Cursor_Take n a.1 a.2.1 a.2.2) outK_cursors_Cursor_Take
noncomputable def t_cursors_Cursor_Take (l : List V) (H : List (Nat × Blk)) : Bool := isS (una_cursors_Cursor_Take l H)
noncomputable def Es_cursors_Cursor_Take (n : Nat) : List Ent := [e_cursors_Cursor_Is n]
theorem Es_ok_cursors_Cursor_Take (n : Nat) : ∀ x ∈ Es_cursors_Cursor_Take n, EntOK Try.prog x := by
  intro x hx
  simp only [Es_cursors_Cursor_Take, List.mem_cons, List.not_mem_nil, or_false] at hx
  · rw [hx]; exact ok_cursors_Cursor_Is n
noncomputable def Ls_cursors_Cursor_Take (_n : Nat) : List Sub := []
theorem subs_cursors_Cursor_Take (n : Nat) : SubOK Try.prog 18 (Ls_cursors_Cursor_Take n) (acOf Try.f39) := SubOK_of _ (by
  have e : subs (acOf Try.f39) = [] := by kernel_rfl
  rw [e]; intro p hp; cases hp)
theorem cert_cursors_Cursor_Take (n : Nat) (a0 : List UInt8) (a1 : List UInt8) (a2 : Int) : run Try.prog (Es_cursors_Cursor_Take n) (Ls_cursors_Cursor_Take n) Try.f39.ntmps (acOf Try.f39) ⟨argsT [.p 0 0, .s a0] 0, [(0, .cells [.s a1, .i .i64 a2])], 1, 1, 0, 1⟩ (finK Try.prog Try.f39.results.toList (funX [0] 1 0 1 unr_cursors_Cursor_Take)) = cursors_Cursor_Take n a0 a1 a2 := by kernel_rfl
theorem fun_cursors_Cursor_Take (n : Nat) : ∀ a r, cursors_Cursor_Take n a.1 a.2.1 a.2.2 = some r → FunOK Try.prog 39 (arg_cursors_Cursor_Take a) (H0_cursors_Cursor_Take a) 1 0 1 (out_cursors_Cursor_Take r) := fun a r h => funX_ok (ws := [0]) unr_ok_cursors_Cursor_Take hv_cursors_Cursor_Take (fun r b blk hl => (chkH_look (hc_cursors_Cursor_Take r) b blk hl).2) (fun r => chkH_keys (hc_cursors_Cursor_Take r)) (by decide) (Es_ok_cursors_Cursor_Take n) Try.func39 rfl (acOf_code _) (subs_cursors_Cursor_Take n) rfl rfl ((cert_cursors_Cursor_Take n a.1 a.2.1 a.2.2).trans h)
theorem ok_cursors_Cursor_Take (n : Nat) : EntOK Try.prog (e_cursors_Cursor_Take n) := funE_ok (m := 1) (ro := 0) (rb := 1) (out := out_cursors_Cursor_Take) (arg := arg_cursors_Cursor_Take) (H0 := H0_cursors_Cursor_Take) Try.call39 (by decide) (by decide) outK_ok_cursors_Cursor_Take una_ok_cursors_Cursor_Take (fun _ => rfl) (fun a => chkH_look (m := 1) (H := H0_cursors_Cursor_Take a) rfl) (fun _ => rfl) (fun r => chkH_keys (hc_cursors_Cursor_Take r)) (fun r b blk h => (chkH_look (hc_cursors_Cursor_Take r) b blk h).2) (fun r b h1 h2 => hasKeys_ok (hk_cursors_Cursor_Take r) b h1 (by omega)) hv_cursors_Cursor_Take (fun_cursors_Cursor_Take n)

/-! (*circa/cursors.Cursor).At -/
noncomputable def arg_cursors_Cursor_At (a : List UInt8 × Int) : List V := [.p 0 0]
noncomputable def H0_cursors_Cursor_At (a : List UInt8 × Int) : List (Nat × Blk) := [(0, .cells [.s a.1, .i .i64 a.2])]
noncomputable def una_cursors_Cursor_At (l : List V) (H : List (Nat × Blk)) : Option ((List UInt8 × Int) × List Nat) := match l with
  | [.p b0 0] => (match Abs.look H b0 with
    | some (.cells [.s a0, .i .i64 a1]) => (cond (Abs.distinct [b0] && true) (some ((a0, a1), [b0])) none)
    | _ => none)
  | _ => none
theorem una_ok_cursors_Cursor_At : ∀ l H a ρ, una_cursors_Cursor_At l H = some (a, ρ) → ρ.length = 1 ∧ ρ.Nodup ∧ l = V.rens ρ (arg_cursors_Cursor_At a) ∧ ∀ b blk, Abs.look (H0_cursors_Cursor_At a) b = some blk → Abs.look H (getN ρ b) = some (blk.ren ρ) := by
  intro l H a ρ h
  unfold una_cursors_Cursor_At at h
  split at h
  · split at h
    · rename_i e0
      obtain ⟨hd, h⟩ := cond_some h
      simp only [Bool.and_eq_true] at hd
      obtain ⟨hd, _⟩ := hd
      cases h
      exact ⟨rfl, distinct_ok hd, rfl, eachH_look ⟨e0, trivial⟩⟩
    · cases h
  · cases h
noncomputable def out_cursors_Cursor_At (r : Int) : FOut := (⟨false, .i .i64 r, [], []⟩ : FOut)
noncomputable def outK_cursors_Cursor_At (α : Type) (r : Int) (k : FOut → Option α) : Option α := (k ⟨false, .i .i64 r, [], []⟩)
theorem outK_ok_cursors_Cursor_At : ∀ α r k, outK_cursors_Cursor_At α r k = k (out_cursors_Cursor_At r) := by
  intro α r k
  rfl
noncomputable def unr_cursors_Cursor_At (pan : Bool) (v : V) (H : List (Nat × Blk)) (nw : List Nat) : Option (Int) := match pan, v, H, nw with
  | false, .i .i64 r0, [], [] => some r0
  | _, _, _, _ => none
theorem unr_ok_cursors_Cursor_At : ∀ pan v H nw r, unr_cursors_Cursor_At pan v H nw = some r → (out_cursors_Cursor_At r).pan = pan ∧ (out_cursors_Cursor_At r).news = nw ∧ v = V.ren (upTo 0 1 ++ (out_cursors_Cursor_At r).news) (out_cursors_Cursor_At r).val ∧ H = renH (upTo 0 1 ++ (out_cursors_Cursor_At r).news) (out_cursors_Cursor_At r).H := by
  intro pan v H nw r h
  unfold unr_cursors_Cursor_At at h
  split at h
  · cases h; exact ⟨rfl, rfl, rfl, rfl⟩
  · cases h
theorem hv_cursors_Cursor_At : ∀ r, V.lt (1 + (out_cursors_Cursor_At r).news.length) (out_cursors_Cursor_At r).val = true := fun r => (by rfl)
theorem hc_cursors_Cursor_At : ∀ r, chkH (1 + (out_cursors_Cursor_At r).news.length) (out_cursors_Cursor_At r).H = true := fun r => (by rfl)
theorem hk_cursors_Cursor_At : ∀ r, hasKeys (out_cursors_Cursor_At r).H 1 (0 + (out_cursors_Cursor_At r).news.length) = true := fun r => (by rfl)
noncomputable def e_cursors_Cursor_At (n : Nat) : Ent := funE 36 1 una_cursors_Cursor_At (fun a => cursors_Cursor_At n a.1 a.2) outK_cursors_Cursor_At
noncomputable def t_cursors_Cursor_At (l : List V) (H : List (Nat × Blk)) : Bool := isS (una_cursors_Cursor_At l H)
noncomputable def Es_cursors_Cursor_At (_n : Nat) : List Ent := []
theorem Es_ok_cursors_Cursor_At (n : Nat) : ∀ x ∈ Es_cursors_Cursor_At n, EntOK Try.prog x := by
  intro x hx
  simp [Es_cursors_Cursor_At] at hx
noncomputable def Ls_cursors_Cursor_At (_n : Nat) : List Sub := []
theorem subs_cursors_Cursor_At (n : Nat) : SubOK Try.prog 9 (Ls_cursors_Cursor_At n) (acOf Try.f36) := SubOK_of _ (by
  have e : subs (acOf Try.f36) = [] := by kernel_rfl
  rw [e]; intro p hp; cases hp)
theorem cert_cursors_Cursor_At (n : Nat) (a0 : List UInt8) (a1 : Int) : run Try.prog (Es_cursors_Cursor_At n) (Ls_cursors_Cursor_At n) Try.f36.ntmps (acOf Try.f36) ⟨argsT [.p 0 0] 0, [(0, .cells [.s a0, .i .i64 a1])], 1, 1, 1, 1⟩ (finK Try.prog Try.f36.results.toList (funX [] 1 1 1 unr_cursors_Cursor_At)) = cursors_Cursor_At n a0 a1 := by kernel_rfl
theorem fun_cursors_Cursor_At (n : Nat) : ∀ a r, cursors_Cursor_At n a.1 a.2 = some r → FunOK Try.prog 36 (arg_cursors_Cursor_At a) (H0_cursors_Cursor_At a) 1 1 1 (out_cursors_Cursor_At r) := fun a r h => funX_ok (ws := []) unr_ok_cursors_Cursor_At hv_cursors_Cursor_At (fun r b blk hl => (chkH_look (hc_cursors_Cursor_At r) b blk hl).2) (fun r => chkH_keys (hc_cursors_Cursor_At r)) (by decide) (Es_ok_cursors_Cursor_At n) Try.func36 rfl (acOf_code _) (subs_cursors_Cursor_At n) rfl rfl ((cert_cursors_Cursor_At n a.1 a.2).trans h)
theorem ok_cursors_Cursor_At (n : Nat) : EntOK Try.prog (e_cursors_Cursor_At n) := funE_ok (m := 1) (ro := 1) (rb := 1) (out := out_cursors_Cursor_At) (arg := arg_cursors_Cursor_At) (H0 := H0_cursors_Cursor_At) Try.call36 (by decide) (by decide) outK_ok_cursors_Cursor_At una_ok_cursors_Cursor_At (fun _ => rfl) (fun a => chkH_look (m := 1) (H := H0_cursors_Cursor_At a) rfl) (fun _ => rfl) (fun r => chkH_keys (hc_cursors_Cursor_At r)) (fun r b blk h => (chkH_look (hc_cursors_Cursor_At r) b blk h).2) (fun r b h1 h2 => hasKeys_ok (hk_cursors_Cursor_At r) b h1 (by omega)) hv_cursors_Cursor_At (fun_cursors_Cursor_At n)

/-! (*circa/cursors.Cursor).Peek -/
noncomputable def arg_cursors_Cursor_Peek (a : List UInt8 × Int) : List V := [.p 0 0]
noncomputable def H0_cursors_Cursor_Peek (a : List UInt8 × Int) : List (Nat × Blk) := [(0, .cells [.s a.1, .i .i64 a.2])]
noncomputable def una_cursors_Cursor_Peek (l : List V) (H : List (Nat × Blk)) : Option ((List UInt8 × Int) × List Nat) := match l with
  | [.p b0 0] => (match Abs.look H b0 with
    | some (.cells [.s a0, .i .i64 a1]) => (cond (Abs.distinct [b0] && true) (some ((a0, a1), [b0])) none)
    | _ => none)
  | _ => none
theorem una_ok_cursors_Cursor_Peek : ∀ l H a ρ, una_cursors_Cursor_Peek l H = some (a, ρ) → ρ.length = 1 ∧ ρ.Nodup ∧ l = V.rens ρ (arg_cursors_Cursor_Peek a) ∧ ∀ b blk, Abs.look (H0_cursors_Cursor_Peek a) b = some blk → Abs.look H (getN ρ b) = some (blk.ren ρ) := by
  intro l H a ρ h
  unfold una_cursors_Cursor_Peek at h
  split at h
  · split at h
    · rename_i e0
      obtain ⟨hd, h⟩ := cond_some h
      simp only [Bool.and_eq_true] at hd
      obtain ⟨hd, _⟩ := hd
      cases h
      exact ⟨rfl, distinct_ok hd, rfl, eachH_look ⟨e0, trivial⟩⟩
    · cases h
  · cases h
noncomputable def out_cursors_Cursor_Peek (r : (Int × Bool)) : FOut := (⟨false, .tp [.i .u8 r.1, .b r.2], [], []⟩ : FOut)
noncomputable def outK_cursors_Cursor_Peek (α : Type) (r : (Int × Bool)) (k : FOut → Option α) : Option α := (k ⟨false, .tp [.i .u8 r.1, .b r.2], [], []⟩)
theorem outK_ok_cursors_Cursor_Peek : ∀ α r k, outK_cursors_Cursor_Peek α r k = k (out_cursors_Cursor_Peek r) := by
  intro α r k
  rfl
noncomputable def unr_cursors_Cursor_Peek (pan : Bool) (v : V) (H : List (Nat × Blk)) (nw : List Nat) : Option ((Int × Bool)) := match pan, v, H, nw with
  | false, .tp [.i .u8 r0, .b r1], [], [] => some (r0, r1)
  | _, _, _, _ => none
theorem unr_ok_cursors_Cursor_Peek : ∀ pan v H nw r, unr_cursors_Cursor_Peek pan v H nw = some r → (out_cursors_Cursor_Peek r).pan = pan ∧ (out_cursors_Cursor_Peek r).news = nw ∧ v = V.ren (upTo 0 1 ++ (out_cursors_Cursor_Peek r).news) (out_cursors_Cursor_Peek r).val ∧ H = renH (upTo 0 1 ++ (out_cursors_Cursor_Peek r).news) (out_cursors_Cursor_Peek r).H := by
  intro pan v H nw r h
  unfold unr_cursors_Cursor_Peek at h
  split at h
  · cases h; exact ⟨rfl, rfl, rfl, rfl⟩
  · cases h
theorem hv_cursors_Cursor_Peek : ∀ r, V.lt (1 + (out_cursors_Cursor_Peek r).news.length) (out_cursors_Cursor_Peek r).val = true := fun r => (by rfl)
theorem hc_cursors_Cursor_Peek : ∀ r, chkH (1 + (out_cursors_Cursor_Peek r).news.length) (out_cursors_Cursor_Peek r).H = true := fun r => (by rfl)
theorem hk_cursors_Cursor_Peek : ∀ r, hasKeys (out_cursors_Cursor_Peek r).H 1 (0 + (out_cursors_Cursor_Peek r).news.length) = true := fun r => (by rfl)
noncomputable def e_cursors_Cursor_Peek (n : Nat) : Ent := funE 33 1 una_cursors_Cursor_Peek (fun a => cursors_Cursor_Peek n a.1 a.2) outK_cursors_Cursor_Peek
noncomputable def t_cursors_Cursor_Peek (l : List V) (H : List (Nat × Blk)) : Bool := isS (una_cursors_Cursor_Peek l H)
noncomputable def Es_cursors_Cursor_Peek (n : Nat) : List Ent := [e_cursors_Cursor_Rest n]
theorem Es_ok_cursors_Cursor_Peek (n : Nat) : ∀ x ∈ Es_cursors_Cursor_Peek n, EntOK Try.prog x := by
  intro x hx
  simp only [Es_cursors_Cursor_Peek, List.mem_cons, List.not_mem_nil, or_false] at hx
  · rw [hx]; exact ok_cursors_Cursor_Rest n
noncomputable def Ls_cursors_Cursor_Peek (_n : Nat) : List Sub := []
theorem subs_cursors_Cursor_Peek (n : Nat) : SubOK Try.prog 16 (Ls_cursors_Cursor_Peek n) (acOf Try.f33) := SubOK_of _ (by
  have e : subs (acOf Try.f33) = [] := by kernel_rfl
  rw [e]; intro p hp; cases hp)
theorem cert_cursors_Cursor_Peek (n : Nat) (a0 : List UInt8) (a1 : Int) : run Try.prog (Es_cursors_Cursor_Peek n) (Ls_cursors_Cursor_Peek n) Try.f33.ntmps (acOf Try.f33) ⟨argsT [.p 0 0] 0, [(0, .cells [.s a0, .i .i64 a1])], 1, 1, 1, 1⟩ (finK Try.prog Try.f33.results.toList (funX [] 1 1 1 unr_cursors_Cursor_Peek)) = cursors_Cursor_Peek n a0 a1 := by kernel_rfl
theorem fun_cursors_Cursor_Peek (n : Nat) : ∀ a r, cursors_Cursor_Peek n a.1 a.2 = some r → FunOK Try.prog 33 (arg_cursors_Cursor_Peek a) (H0_cursors_Cursor_Peek a) 1 1 1 (out_cursors_Cursor_Peek r) := fun a r h => funX_ok (ws := []) unr_ok_cursors_Cursor_Peek hv_cursors_Cursor_Peek (fun r b blk hl => (chkH_look (hc_cursors_Cursor_Peek r) b blk hl).2) (fun r => chkH_keys (hc_cursors_Cursor_Peek r)) (by decide) (Es_ok_cursors_Cursor_Peek n) Try.func33 rfl (acOf_code _) (subs_cursors_Cursor_Peek n) rfl rfl ((cert_cursors_Cursor_Peek n a.1 a.2).trans h)
theorem ok_cursors_Cursor_Peek (n : Nat) : EntOK Try.prog (e_cursors_Cursor_Peek n) := funE_ok (m := 1) (ro := 1) (rb := 1) (out := out_cursors_Cursor_Peek) (arg := arg_cursors_Cursor_Peek) (H0 := H0_cursors_Cursor_Peek) Try.call33 (by decide) (by decide) outK_ok_cursors_Cursor_Peek una_ok_cursors_Cursor_Peek (fun _ => rfl) (fun a => chkH_look (m := 1) (H := H0_cursors_Cursor_Peek a) rfl) (fun _ => rfl) (fun r => chkH_keys (hc_cursors_Cursor_Peek r)) (fun r b blk h => (chkH_look (hc_cursors_Cursor_Peek r) b blk h).2) (fun r b h1 h2 => hasKeys_ok (hk_cursors_Cursor_Peek r) b h1 (by omega)) hv_cursors_Cursor_Peek (fun_cursors_Cursor_Peek n)

noncomputable def e_ext_105 (_n : Nat) : Ent := indexE 105
theorem ok_ext_105 (n : Nat) : EntOK Try.prog (e_ext_105 n) := indexE_ok Try.func105 (by kernel_rfl) (by kernel_rfl) (by kernel_rfl) (by kernel_rfl)

/-! internal/stringslite.IndexByte -/
noncomputable def arg_int_stringslite_IndexByte (a : List UInt8 × Int) : List V := [.s a.1, .i .u8 a.2]
noncomputable def una_int_stringslite_IndexByte (l : List V) : Option (List UInt8 × Int) := match l with
  | [.s a0, .i .u8 a1] => some (a0, a1)
  | _ => none
theorem una_ok_int_stringslite_IndexByte : ∀ l a, una_int_stringslite_IndexByte l = some a → l = arg_int_stringslite_IndexByte a := by
  intro l a h
  unfold una_int_stringslite_IndexByte at h
  split at h
  · cases h; rfl
  · cases h
noncomputable def enc_int_stringslite_IndexByte (r : Int) : V := .i .i64 r
noncomputable def unr_int_stringslite_IndexByte (v : V) : Option (Int) := match v with
  | .i .i64 r0 => some r0
  | _ => none
theorem unr_ok_int_stringslite_IndexByte : ∀ v r, unr_int_stringslite_IndexByte v = some r → v = enc_int_stringslite_IndexByte r := by
  intro v r h
  unfold unr_int_stringslite_IndexByte at h
  split at h
  · cases h; rfl
  · cases h
noncomputable def e_int_stringslite_IndexByte (n : Nat) : Ent := pureE 98 una_int_stringslite_IndexByte (fun a => int_stringslite_IndexByte n a.1 a.2) enc_int_stringslite_IndexByte
noncomputable def t_int_stringslite_IndexByte (l : List V) (_ : List (Nat × Blk)) : Bool := isS (una_int_stringslite_IndexByte l)
noncomputable def Es_int_stringslite_IndexByte (n : Nat) : List Ent := [e_ext_105 n]
theorem Es_ok_int_stringslite_IndexByte (n : Nat) : ∀ x ∈ Es_int_stringslite_IndexByte n, EntOK Try.prog x := by
  intro x hx
  simp only [Es_int_stringslite_IndexByte, List.mem_cons, List.not_mem_nil, or_false] at hx
  · rw [hx]; exact ok_ext_105 n
noncomputable def Ls_int_stringslite_IndexByte (_n : Nat) : List Sub := []
theorem subs_int_stringslite_IndexByte (n : Nat) : SubOK Try.prog 8 (Ls_int_stringslite_IndexByte n) (acOf Try.f98) := SubOK_of _ (by
  have e : subs (acOf Try.f98) = [] := by kernel_rfl
  rw [e]; intro p hp; cases hp)
theorem cert_int_stringslite_IndexByte (n : Nat) (a0 : List UInt8) (a1 : Int) : run Try.prog (Es_int_stringslite_IndexByte n) (Ls_int_stringslite_IndexByte n) Try.f98.ntmps (acOf Try.f98) ⟨argsT [.s a0, .i .u8 a1] 0, [], 0, 0, 0, 0⟩ (finK Try.prog Try.f98.results.toList (retX unr_int_stringslite_IndexByte)) = int_stringslite_IndexByte n a0 a1 := by kernel_rfl
theorem pure_int_stringslite_IndexByte (n : Nat) : ∀ a r, int_stringslite_IndexByte n a.1 a.2 = some r → PureOK Try.prog 98 (arg_int_stringslite_IndexByte a) (enc_int_stringslite_IndexByte r) := fun a r h => pureX_ok unr_ok_int_stringslite_IndexByte (Es_ok_int_stringslite_IndexByte n) Try.func98 rfl (acOf_code _) (subs_int_stringslite_IndexByte n) rfl ((cert_int_stringslite_IndexByte n a.1 a.2).trans h)
theorem ok_int_stringslite_IndexByte (n : Nat) : EntOK Try.prog (e_int_stringslite_IndexByte n) := pureE_ok Try.call98 una_ok_int_stringslite_IndexByte (fun _ => rfl) (pure_int_stringslite_IndexByte n)

/-! strings.IndexByte -/
noncomputable def arg_strings_IndexByte (a : List UInt8 × Int) : List V := [.s a.1, .i .u8 a.2]
noncomputable def una_strings_IndexByte (l : List V) : Option (List UInt8 × Int) := match l with
  | [.s a0, .i .u8 a1] => some (a0, a1)
  | _ => none
theorem una_ok_strings_IndexByte : ∀ l a, una_strings_IndexByte l = some a → l = arg_strings_IndexByte a := by
  intro l a h
  unfold una_strings_IndexByte at h
  split at h
  · cases h; rfl
  · cases h
noncomputable def enc_strings_IndexByte (r : Int) : V := .i .i64 r
noncomputable def unr_strings_IndexByte (v : V) : Option (Int) := match v with
  | .i .i64 r0 => some r0
  | _ => none
theorem unr_ok_strings_IndexByte : ∀ v r, unr_strings_IndexByte v = some r → v = enc_strings_IndexByte r := by
  intro v r h
  unfold unr_strings_IndexByte at h
  split at h
  · cases h; rfl
  · cases h
noncomputable def e_strings_IndexByte (n : Nat) : Ent := pureE 83 una_strings_IndexByte (fun a => strings_IndexByte n a.1 a.2) enc_strings_IndexByte
noncomputable def t_strings_IndexByte (l : List V) (_ : List (Nat × Blk)) : Bool := isS (una_strings_IndexByte l)
noncomputable def Es_strings_IndexByte (n : Nat) : List Ent := [e_int_stringslite_IndexByte n]
theorem Es_ok_strings_IndexByte (n : Nat) : ∀ x ∈ Es_strings_IndexByte n, EntOK Try.prog x := by
  intro x hx
  simp only [Es_strings_IndexByte, List.mem_cons, List.not_mem_nil, or_false] at hx
  · rw [hx]; exact ok_int_stringslite_IndexByte n
noncomputable def Ls_strings_IndexByte (_n : Nat) : List Sub := []
theorem subs_strings_IndexByte (n : Nat) : SubOK Try.prog 8 (Ls_strings_IndexByte n) (acOf Try.f83) := SubOK_of _ (by
  have e : subs (acOf Try.f83) = [] := by kernel_rfl
  rw [e]; intro p hp; cases hp)
theorem cert_strings_IndexByte (n : Nat) (a0 : List UInt8) (a1 : Int) : run Try.prog (Es_strings_IndexByte n) (Ls_strings_IndexByte n) Try.f83.ntmps (acOf Try.f83) ⟨argsT [.s a0, .i .u8 a1] 0, [], 0, 0, 0, 0⟩ (finK Try.prog Try.f83.results.toList (retX unr_strings_IndexByte)) = strings_IndexByte n a0 a1 := by kernel_rfl
theorem pure_strings_IndexByte (n : Nat) : ∀ a r, strings_IndexByte n a.1 a.2 = some r → PureOK Try.prog 83 (arg_strings_IndexByte a) (enc_strings_IndexByte r) := fun a r h => pureX_ok unr_ok_strings_IndexByte (Es_ok_strings_IndexByte n) Try.func83 rfl (acOf_code _) (subs_strings_IndexByte n) rfl ((cert_strings_IndexByte n a.1 a.2).trans h)
theorem ok_strings_IndexByte (n : Nat) : EntOK Try.prog (e_strings_IndexByte n) := pureE_ok Try.call83 una_ok_strings_IndexByte (fun _ => rfl) (pure_strings_IndexByte n)

/-! (*circa/cursors.Cursor).Fail -/
noncomputable def arg_cursors_Cursor_Fail (a : Int × Int × List UInt8 × Int) : List V := [.p 0 0, .i .i64 a.1, .i .i64 a.2.1]
noncomputable def H0_cursors_Cursor_Fail (a : Int × Int × List UInt8 × Int) : List (Nat × Blk) := [(0, .cells [.s a.2.2.1, .i .i64 a.2.2.2])]
noncomputable def una_cursors_Cursor_Fail (l : List V) (H : List (Nat × Blk)) : Option ((Int × Int × List UInt8 × Int) × List Nat) := match l with
  | [.p b0 0, .i .i64 a0, .i .i64 a1] => (match Abs.look H b0 with
    | some (.cells [.s a2, .i .i64 a3]) => (cond (Abs.distinct [b0] && true) (some ((a0, a1, a2, a3), [b0])) none)
    | _ => none)
  | _ => none
theorem una_ok_cursors_Cursor_Fail : ∀ l H a ρ, una_cursors_Cursor_Fail l H = some (a, ρ) → ρ.length = 1 ∧ ρ.Nodup ∧ l = V.rens ρ (arg_cursors_Cursor_Fail a) ∧ ∀ b blk, Abs.look (H0_cursors_Cursor_Fail a) b = some blk → Abs.look H (getN ρ b) = some (blk.ren ρ) := by
  intro l H a ρ h
  unfold una_cursors_Cursor_Fail at h
  split at h
  · split at h
    · rename_i e0
      obtain ⟨hd, h⟩ := cond_some h
      simp only [Bool.and_eq_true] at hd
      obtain ⟨hd, _⟩ := hd
      cases h
      exact ⟨rfl, distinct_ok hd, rfl, eachH_look ⟨e0, trivial⟩⟩
    · cases h
  · cases h
noncomputable def out_cursors_Cursor_Fail (r : (Int × Int)) : FOut := (⟨true, .it 107 (.ag [.i .i64 r.1, .i .i64 r.2]), [], []⟩ : FOut)
noncomputable def outK_cursors_Cursor_Fail (α : Type) (r : (Int × Int)) (k : FOut → Option α) : Option α := (k ⟨true, .it 107 (.ag [.i .i64 r.1, .i .i64 r.2]), [], []⟩)
theorem outK_ok_cursors_Cursor_Fail : ∀ α r k, outK_cursors_Cursor_Fail α r k = k (out_cursors_Cursor_Fail r) := by
  intro α r k
  rfl
noncomputable def unr_cursors_Cursor_Fail (pan : Bool) (v : V) (H : List (Nat × Blk)) (nw : List Nat) : Option ((Int × Int)) := match pan, v, H, nw with
  | true, .it 107 (.ag [.i .i64 r0, .i .i64 r1]), [], [] => some (r0, r1)
  | _, _, _, _ => none
theorem unr_ok_cursors_Cursor_Fail : ∀ pan v H nw r, unr_cursors_Cursor_Fail pan v H nw = some r → (out_cursors_Cursor_Fail r).pan = pan ∧ (out_cursors_Cursor_Fail r).news = nw ∧ v = V.ren (upTo 0 1 ++ (out_cursors_Cursor_Fail r).news) (out_cursors_Cursor_Fail r).val ∧ H = renH (upTo 0 1 ++ (out_cursors_Cursor_Fail r).news) (out_cursors_Cursor_Fail r).H := by
  intro pan v H nw r h
  unfold unr_cursors_Cursor_Fail at h
  split at h
  · cases h; exact ⟨rfl, rfl, rfl, rfl⟩
  · cases h
theorem hv_cursors_Cursor_Fail : ∀ r, V.lt (1 + (out_cursors_Cursor_Fail r).news.length) (out_cursors_Cursor_Fail r).val = true := fun r => (by rfl)
theorem hc_cursors_Cursor_Fail : ∀ r, chkH (1 + (out_cursors_Cursor_Fail r).news.length) (out_cursors_Cursor_Fail r).H = true := fun r => (by rfl)
theorem hk_cursors_Cursor_Fail : ∀ r, hasKeys (out_cursors_Cursor_Fail r).H 1 (0 + (out_cursors_Cursor_Fail r).news.length) = true := fun r => (by rfl)
noncomputable def e_cursors_Cursor_Fail (n : Nat) : Ent := funE 35 1 una_cursors_Cursor_Fail (fun a => cursors_Cursor_Fail n a.1 a.2.1 a.2.2.1 a.2.2.2) outK_cursors_Cursor_Fail
noncomputable def t_cursors_Cursor_Fail (l : List V) (H : List (Nat × Blk)) : Bool := isS (una_cursors_Cursor_Fail l H)
noncomputable def Es_cursors_Cursor_Fail (_n : Nat) : List Ent := []
theorem Es_ok_cursors_Cursor_Fail (n : Nat) : ∀ x ∈ Es_cursors_Cursor_Fail n, EntOK Try.prog x := by
  intro x hx
  simp [Es_cursors_Cursor_Fail] at hx
noncomputable def Ls_cursors_Cursor_Fail (_n : Nat) : List Sub := []
theorem subs_cursors_Cursor_Fail (n : Nat) : SubOK Try.prog 14 (Ls_cursors_Cursor_Fail n) (acOf Try.f35) := SubOK_of _ (by
  have e : subs (acOf Try.f35) = [] := by kernel_rfl
  rw [e]; intro p hp; cases hp)
theorem cert_cursors_Cursor_Fail (n : Nat) (a0 : Int) (a1 : Int) (a2 : List UInt8) (a3 : Int) : run Try.prog (Es_cursors_Cursor_Fail n) (Ls_cursors_Cursor_Fail n) Try.f35.ntmps (acOf Try.f35) ⟨argsT [.p 0 0, .i .i64 a0, .i .i64 a1] 0, [(0, .cells [.s a2, .i .i64 a3])], 1, 1, 1, 1⟩ (finK Try.prog Try.f35.results.toList (funX [] 1 1 1 unr_cursors_Cursor_Fail)) = cursors_Cursor_Fail n a0 a1 a2 a3 := by kernel_rfl
theorem fun_cursors_Cursor_Fail (n : Nat) : ∀ a r, cursors_Cursor_Fail n a.1 a.2.1 a.2.2.1 a.2.2.2 = some r → FunOK Try.prog 35 (arg_cursors_Cursor_Fail a) (H0_cursors_Cursor_Fail a) 1 1 1 (out_cursors_Cursor_Fail r) := fun a r h => funX_ok (ws := []) unr_ok_cursors_Cursor_Fail hv_cursors_Cursor_Fail (fun r b blk hl => (chkH_look (hc_cursors_Cursor_Fail r) b blk hl).2) (fun r => chkH_keys (hc_cursors_Cursor_Fail r)) (by decide) (Es_ok_cursors_Cursor_Fail n) Try.func35 rfl (acOf_code _) (subs_cursors_Cursor_Fail n) rfl rfl ((cert_cursors_Cursor_Fail n a.1 a.2.1 a.2.2.1 a.2.2.2).trans h)
theorem ok_cursors_Cursor_Fail (n : Nat) : EntOK Try.prog (e_cursors_Cursor_Fail n) := funE_ok (m := 1) (ro := 1) (rb := 1) (out := out_cursors_Cursor_Fail) (arg := arg_cursors_Cursor_Fail) (H0 := H0_cursors_Cursor_Fail) Try.call35 (by decide) (by decide) outK_ok_cursors_Cursor_Fail una_ok_cursors_Cursor_Fail (fun _ => rfl) (fun a => chkH_look (m := 1) (H := H0_cursors_Cursor_Fail a) rfl) (fun _ => rfl) (fun r => chkH_keys (hc_cursors_Cursor_Fail r)) (fun r b blk h => (chkH_look (hc_cursors_Cursor_Fail r) b blk h).2) (fun r b h1 h2 => hasKeys_ok (hk_cursors_Cursor_Fail r) b h1 (by omega)) hv_cursors_Cursor_Fail (fun_cursors_Cursor_Fail n)

/-! (*circa/cursors.Cursor).Some -/
noncomputable def arg_cursors_Cursor_Some (a : List UInt8 × Int × Int × List UInt8 × Int) : List V := [.p 0 0, .s a.1, .i .i64 a.2.1, .i .i64 a.2.2.1]
noncomputable def H0_cursors_Cursor_Some (a : List UInt8 × Int × Int × List UInt8 × Int) : List (Nat × Blk) := [(0, .cells [.s a.2.2.2.1, .i .i64 a.2.2.2.2])]
noncomputable def una_cursors_Cursor_Some (l : List V) (H : List (Nat × Blk)) : Option ((List UInt8 × Int × Int × List UInt8 × Int) × List Nat) := match l with
  | [.p b0 0, .s a0, .i .i64 a1, .i .i64 a2] => (match Abs.look H b0 with
    | some (.cells [.s a3, .i .i64 a4]) => (cond (Abs.distinct [b0] && true) (some ((a0, a1, a2, a3, a4), [b0])) none)
    | _ => none)
  | _ => none
theorem una_ok_cursors_Cursor_Some : ∀ l H a ρ, una_cursors_Cursor_Some l H = some (a, ρ) → ρ.length = 1 ∧ ρ.Nodup ∧ l = V.rens ρ (arg_cursors_Cursor_Some a) ∧ ∀ b blk, Abs.look (H0_cursors_Cursor_Some a) b = some blk → Abs.look H (getN ρ b) = some (blk.ren ρ) := by
  intro l H a ρ h
  unfold una_cursors_Cursor_Some at h
  split at h
  · split at h
    · rename_i e0
      obtain ⟨hd, h⟩ := cond_some h
      simp only [Bool.and_eq_true] at hd
      obtain ⟨hd, _⟩ := hd
      cases h
      exact ⟨rfl, distinct_ok hd, rfl, eachH_look ⟨e0, trivial⟩⟩
    · cases h
  · cases h
noncomputable def out_cursors_Cursor_Some (r : (Int × Int × List UInt8 × Int) ⊕ (List UInt8 × List UInt8 × Int)) : FOut := (Sum.casesOn (motive := fun _ => FOut) r (fun a0 => (⟨true, .it 107 (.ag [.i .i64 a0.1, .i .i64 a0.2.1]), [(0, .cells [.s a0.2.2.1, .i .i64 a0.2.2.2])], []⟩ : FOut)) (fun b0 => (⟨false, .s b0.1, [(0, .cells [.s b0.2.1, .i .i64 b0.2.2])], []⟩ : FOut)))
noncomputable def outK_cursors_Cursor_Some (α : Type) (r : (Int × Int × List UInt8 × Int) ⊕ (List UInt8 × List UInt8 × Int)) (k : FOut → Option α) : Option α := (Sum.casesOn (motive := fun _ => Option α) r (fun a0 => (k ⟨true, .it 107 (.ag [.i .i64 a0.1, .i .i64 a0.2.1]), [(0, .cells [.s a0.2.2.1, .i .i64 a0.2.2.2])], []⟩)) (fun b0 => (k ⟨false, .s b0.1, [(0, .cells [.s b0.2.1, .i .i64 b0.2.2])], []⟩)))
theorem outK_ok_cursors_Cursor_Some : ∀ α r k, outK_cursors_Cursor_Some α r k = k (out_cursors_Cursor_Some r) := by
  intro α r k
  rcases r with r | r <;> rfl
noncomputable def unr_cursors_Cursor_Some (pan : Bool) (v : V) (H : List (Nat × Blk)) (nw : List Nat) : Option ((Int × Int × List UInt8 × Int) ⊕ (List UInt8 × List UInt8 × Int)) := match pan, v, H, nw with
  | true, .it 107 (.ag [.i .i64 r0, .i .i64 r1]), [(0, .cells [.s r2, .i .i64 r3])], [] => some (.inl (r0, r1, r2, r3))
  | false, .s r0, [(0, .cells [.s r1, .i .i64 r2])], [] => some (.inr (r0, r1, r2))
  | _, _, _, _ => none
theorem unr_ok_cursors_Cursor_Some : ∀ pan v H nw r, unr_cursors_Cursor_Some pan v H nw = some r → (out_cursors_Cursor_Some r).pan = pan ∧ (out_cursors_Cursor_Some r).news = nw ∧ v = V.ren (upTo 0 1 ++ (out_cursors_Cursor_Some r).news) (out_cursors_Cursor_Some r).val ∧ H = renH (upTo 0 1 ++ (out_cursors_Cursor_Some r).news) (out_cursors_Cursor_Some r).H := by
  intro pan v H nw r h
  unfold unr_cursors_Cursor_Some at h
  split at h
  · cases h; exact ⟨rfl, rfl, rfl, rfl⟩
  · cases h; exact ⟨rfl, rfl, rfl, rfl⟩
  · cases h
theorem hv_cursors_Cursor_Some : ∀ r, V.lt (1 + (out_cursors_Cursor_Some r).news.length) (out_cursors_Cursor_Some r).val = true := fun r => (by rcases r with r | r <;> rfl)
theorem hc_cursors_Cursor_Some : ∀ r, chkH (1 + (out_cursors_Cursor_Some r).news.length) (out_cursors_Cursor_Some r).H = true := fun r => (by rcases r with r | r <;> rfl)
theorem hk_cursors_Cursor_Some : ∀ r, hasKeys (out_cursors_Cursor_Some r).H 0 (1 + (out_cursors_Cursor_Some r).news.length) = true := fun r => (by rcases r with r | r <;> rfl)
noncomputable def e_cursors_Cursor_Some (n : Nat) : Ent := funE 41 1 una_cursors_Cursor_Some (fun a => cursors_Cursor_Some n a.1 a.2.1 a.2.2.1 a.2.2.2.1 a.2.2.2.2) outK_cursors_Cursor_Some
noncomputable def t_cursors_Cursor_Some (l : List V) (H : List (Nat × Blk)) : Bool := isS (una_cursors_Cursor_Some l H)
noncomputable def Es_cursors_Cursor_Some (n : Nat) : List Ent := [e_cursors_Cursor_At n, e_cursors_Cursor_Peek n, e_strings_IndexByte n, e_cursors_Cursor_Fail n]
theorem Es_ok_cursors_Cursor_Some (n : Nat) : ∀ x ∈ Es_cursors_Cursor_Some n, EntOK Try.prog x := by
  intro x hx
  simp only [Es_cursors_Cursor_Some, List.mem_cons, List.not_mem_nil, or_false] at hx
  rcases hx with hx | hx | hx | hx
  · rw [hx]; exact ok_cursors_Cursor_At n
  · rw [hx]; exact ok_cursors_Cursor_Peek n
  · rw [hx]; exact ok_strings_IndexByte n
  · rw [hx]; exact ok_cursors_Cursor_Fail n
noncomputable def an_cursors_Cursor_Some_l0 : Ann := ⟨[0, 1, 2, 3, 9, 10, 11], [0], 1, []⟩
noncomputable def emb_cursors_Cursor_Some_l0 (x : List UInt8 × Int × Int × Int × Int × Bool × List UInt8 × Int) : St := ⟨[(0, some (.p 0 0)), (1, some (.s x.1)), (2, some (.i .i64 x.2.1)), (3, some (.i .i64 x.2.2.1)), (9, some (.i .i64 x.2.2.2.1)), (10, some (.i .u8 x.2.2.2.2.1)), (11, some (.b x.2.2.2.2.2.1))], [(0, .cells [.s x.2.2.2.2.2.2.1, .i .i64 x.2.2.2.2.2.2.2])], 1, 1, 0, 1⟩
noncomputable def un_cursors_Cursor_Some_l0 (s : St) : Option (List UInt8 × Int × Int × Int × Int × Bool × List UInt8 × Int) := match s with
  | ⟨[(0, some (.p 0 0)), (1, some (.s x0)), (2, some (.i .i64 x1)), (3, some (.i .i64 x2)), (9, some (.i .i64 x3)), (10, some (.i .u8 x4)), (11, some (.b x5))], [(0, .cells [.s x6, .i .i64 x7])], 1, 1, 0, 1⟩ => some (x0, x1, x2, x3, x4, x5, x6, x7)
  | _ => none
theorem un_ok_cursors_Cursor_Some_l0 : ∀ s x, un_cursors_Cursor_Some_l0 s = some x → s = emb_cursors_Cursor_Some_l0 x := by
  intro s x h
  unfold un_cursors_Cursor_Some_l0 at h
  split at h
  · cases h; rfl
  · cases h
noncomputable def ax_cursors_Cursor_Some_l0 : Ex → Ann := fun ex => match ex with
  | .exit 0 => ⟨[0, 2, 9], [0], 1, []⟩
  | _ => ⟨[], [], 0, []⟩
noncomputable def out_cursors_Cursor_Some_l0 (y : (Int × Int × List UInt8 × Int)) : Ex × St := (.exit 0, ⟨[(0, some (.p 0 0)), (2, some (.i .i64 y.1)), (9, some (.i .i64 y.2.1))], [(0, .cells [.s y.2.2.1, .i .i64 y.2.2.2])], 1, 1, 0, 1⟩)
noncomputable def outK_cursors_Cursor_Some_l0 (α : Type) (y : (Int × Int × List UInt8 × Int)) (k : Ex → St → Option α) : Option α := (k (.exit 0) ⟨[(0, some (.p 0 0)), (2, some (.i .i64 y.1)), (9, some (.i .i64 y.2.1))], [(0, .cells [.s y.2.2.1, .i .i64 y.2.2.2])], 1, 1, 0, 1⟩)
theorem outK_ok_cursors_Cursor_Some_l0 : ∀ α y k, outK_cursors_Cursor_Some_l0 α y k = k (out_cursors_Cursor_Some_l0 y).1 (out_cursors_Cursor_Some_l0 y).2 := by
  intro α y k
  rfl
noncomputable def ux_cursors_Cursor_Some_l0 (ex : Ex) (s : St) : Option ((Int × Int × List UInt8 × Int)) := match ex, s with
  | .exit 0, ⟨[(0, some (.p 0 0)), (2, some (.i .i64 y0)), (9, some (.i .i64 y1))], [(0, .cells [.s y2, .i .i64 y3])], 1, 1, 0, 1⟩ => some (y0, y1, y2, y3)
  | _, _ => none
theorem ux_ok_cursors_Cursor_Some_l0 : ∀ ex s y, ux_cursors_Cursor_Some_l0 ex s = some y → (ex, s) = out_cursors_Cursor_Some_l0 y := by
  intro ex s y h
  unfold ux_cursors_Cursor_Some_l0 at h
  split at h
  · cases h; rfl
  · cases h
noncomputable def Ls_cursors_Cursor_Some (n : Nat) : List Sub := [subE 0 an_cursors_Cursor_Some_l0 un_cursors_Cursor_Some_l0 (fun x => iterL (cursors_Cursor_Some_l0 n) n x) outK_cursors_Cursor_Some_l0]
noncomputable def sac_cursors_Cursor_Some_l0 : AC := getS (subs (acOf Try.f41)) 0
noncomputable def ac_cursors_Cursor_Some_l0 : AC := AC.body sac_cursors_Cursor_Some_l0
theorem subs_cursors_Cursor_Some_l0 (n : Nat) : SubOK Try.prog 70 (Ls_cursors_Cursor_Some n) ac_cursors_Cursor_Some_l0 := SubOK_of _ (by
  have e : subs ac_cursors_Cursor_Some_l0 = [] := by kernel_rfl
  rw [e]; intro p hp; cases hp)
theorem body_cursors_Cursor_Some_l0 (n : Nat) : ∀ x, run Try.prog (Es_cursors_Cursor_Some n) (Ls_cursors_Cursor_Some n) 70 ac_cursors_Cursor_Some_l0 (emb_cursors_Cursor_Some_l0 x) (roundK an_cursors_Cursor_Some_l0 un_cursors_Cursor_Some_l0 ax_cursors_Cursor_Some_l0 ux_cursors_Cursor_Some_l0) = cursors_Cursor_Some_l0 n x := fun _ => by kernel_rfl
theorem sub1_cursors_Cursor_Some_l0 (n : Nat) : ∀ (α : Type) (s : St) (k : Ex → St → Option α) (z : α), (subE 0 an_cursors_Cursor_Some_l0 un_cursors_Cursor_Some_l0 (fun x => iterL (cursors_Cursor_Some_l0 n) n x) outK_cursors_Cursor_Some_l0).e α s k = some z → SemC Try.prog 70 (sac_cursors_Cursor_Some_l0).code s fun ex s' => k ex s' = some z := by
  intro α s k z h
  have e : sac_cursors_Cursor_Some_l0 = .loop ac_cursors_Cursor_Some_l0 := by kernel_rfl
  rw [e]
  exact subE_ok (m := 0) (f := fun x => iterL (cursors_Cursor_Some_l0 n) n x) (out := out_cursors_Cursor_Some_l0) outK_ok_cursors_Cursor_Some_l0 un_ok_cursors_Cursor_Some_l0 (fun x y hy => loop_ok (Es_ok_cursors_Cursor_Some n) (subs_cursors_Cursor_Some_l0 n) un_ok_cursors_Cursor_Some_l0 ux_ok_cursors_Cursor_Some_l0 (body_cursors_Cursor_Some_l0 n) n x y hy) h
theorem sub_cursors_Cursor_Some_l0 (n : Nat) : SubSt Try.prog 70 (Ls_cursors_Cursor_Some n) 0 sac_cursors_Cursor_Some_l0 := fun α s k z => sub1_cursors_Cursor_Some_l0 n α s k z
theorem subs_cursors_Cursor_Some (n : Nat) : SubOK Try.prog 70 (Ls_cursors_Cursor_Some n) (acOf Try.f41) := SubOK_of _ (by
  have e : subs (acOf Try.f41) = [(0, sac_cursors_Cursor_Some_l0)] := by kernel_rfl
  rw [e]; intro p hp
  simp only [List.mem_cons, List.not_mem_nil, or_false] at hp
  · rw [hp]; exact sub_cursors_Cursor_Some_l0 n
  )
theorem cert_cursors_Cursor_Some (n : Nat) (a0 : List UInt8) (a1 : Int) (a2 : Int) (a3 : List UInt8) (a4 : Int) : run Try.prog (Es_cursors_Cursor_Some n) (Ls_cursors_Cursor_Some n) Try.f41.ntmps (acOf Try.f41) ⟨argsT [.p 0 0, .s a0, .i .i64 a1, .i .i64 a2] 0, [(0, .cells [.s a3, .i .i64 a4])], 1, 1, 0, 1⟩ (finK Try.prog Try.f41.results.toList (funX [0] 1 0 1 unr_cursors_Cursor_Some)) = cursors_Cursor_Some n a0 a1 a2 a3 a4 := by kernel_rfl
theorem fun_cursors_Cursor_Some (n : Nat) : ∀ a r, cursors_Cursor_Some n a.1 a.2.1 a.2.2.1 a.2.2.2.1 a.2.2.2.2 = some r → FunOK Try.prog 41 (arg_cursors_Cursor_Some a) (H0_cursors_Cursor_Some a) 1 0 1 (out_cursors_Cursor_Some r) := fun a r h => funX_ok (ws := [0]) unr_ok_cursors_Cursor_Some hv_cursors_Cursor_Some (fun r b blk hl => (chkH_look (hc_cursors_Cursor_Some r) b blk hl).2) (fun r => chkH_keys (hc_cursors_Cursor_Some r)) (by decide) (Es_ok_cursors_Cursor_Some n) Try.func41 rfl (acOf_code _) (subs_cursors_Cursor_Some n) rfl rfl ((cert_cursors_Cursor_Some n a.1 a.2.1 a.2.2.1 a.2.2.2.1 a.2.2.2.2).trans h)
theorem ok_cursors_Cursor_Some (n : Nat) : EntOK Try.prog (e_cursors_Cursor_Some n) := funE_ok (m := 1) (ro := 0) (rb := 1) (out := out_cursors_Cursor_Some) (arg := arg_cursors_Cursor_Some) (H0 := H0_cursors_Cursor_Some) Try.call41 (by decide) (by decide) outK_ok_cursors_Cursor_Some una_ok_cursors_Cursor_Some (fun _ => rfl) (fun a => chkH_look (m := 1) (H := H0_cursors_Cursor_Some a) rfl) (fun _ => rfl) (fun r => chkH_keys (hc_cursors_Cursor_Some r)) (fun r b blk h => (chkH_look (hc_cursors_Cursor_Some r) b blk h).2) (fun r b h1 h2 => hasKeys_ok (hk_cursors_Cursor_Some r) b h1 (by omega)) hv_cursors_Cursor_Some (fun_cursors_Cursor_Some n)

/-! circa/circalaw12.reads -/
noncomputable def arg_circalaw12_reads (a : List UInt8 × Int) : List V := [.p 0 0]
noncomputable def H0_circalaw12_reads (a : List UInt8 × Int) : List (Nat × Blk) := [(0, .cells [.s a.1, .i .i64 a.2])]
noncomputable def una_circalaw12_reads (l : List V) (H : List (Nat × Blk)) : Option ((List UInt8 × Int) × List Nat) := match l with
  | [.p b0 0] => (match Abs.look H b0 with
    | some (.cells [.s a0, .i .i64 a1]) => (cond (Abs.distinct [b0] && true) (some ((a0, a1), [b0])) none)
    | _ => none)
  | _ => none
theorem una_ok_circalaw12_reads : ∀ l H a ρ, una_circalaw12_reads l H = some (a, ρ) → ρ.length = 1 ∧ ρ.Nodup ∧ l = V.rens ρ (arg_circalaw12_reads a) ∧ ∀ b blk, Abs.look (H0_circalaw12_reads a) b = some blk → Abs.look H (getN ρ b) = some (blk.ren ρ) := by
  intro l H a ρ h
  unfold una_circalaw12_reads at h
  split at h
  · split at h
    · rename_i e0
      obtain ⟨hd, h⟩ := cond_some h
      simp only [Bool.and_eq_true] at hd
      obtain ⟨hd, _⟩ := hd
      cases h
      exact ⟨rfl, distinct_ok hd, rfl, eachH_look ⟨e0, trivial⟩⟩
    · cases h
  · cases h
noncomputable def out_circalaw12_reads (r : (Int × Int × List UInt8 × Int) ⊕ (List UInt8 × Int)) : FOut := (Sum.casesOn (motive := fun _ => FOut) r (fun a0 => (⟨true, .it 107 (.ag [.i .i64 a0.1, .i .i64 a0.2.1]), [(0, .cells [.s a0.2.2.1, .i .i64 a0.2.2.2])], []⟩ : FOut)) (fun b0 => (⟨false, .tp [], [(0, .cells [.s b0.1, .i .i64 b0.2])], []⟩ : FOut)))
noncomputable def outK_circalaw12_reads (α : Type) (r : (Int × Int × List UInt8 × Int) ⊕ (List UInt8 × Int)) (k : FOut → Option α) : Option α := (Sum.casesOn (motive := fun _ => Option α) r (fun a0 => (k ⟨true, .it 107 (.ag [.i .i64 a0.1, .i .i64 a0.2.1]), [(0, .cells [.s a0.2.2.1, .i .i64 a0.2.2.2])], []⟩)) (fun b0 => (k ⟨false, .tp [], [(0, .cells [.s b0.1, .i .i64 b0.2])], []⟩)))
theorem outK_ok_circalaw12_reads : ∀ α r k, outK_circalaw12_reads α r k = k (out_circalaw12_reads r) := by
  intro α r k
  rcases r with r | r <;> rfl
noncomputable def unr_circalaw12_reads (pan : Bool) (v : V) (H : List (Nat × Blk)) (nw : List Nat) : Option ((Int × Int × List UInt8 × Int) ⊕ (List UInt8 × Int)) := match pan, v, H, nw with
  | true, .it 107 (.ag [.i .i64 r0, .i .i64 r1]), [(0, .cells [.s r2, .i .i64 r3])], [] => some (.inl (r0, r1, r2, r3))
  | false, .tp [], [(0, .cells [.s r0, .i .i64 r1])], [] => some (.inr (r0, r1))
  | _, _, _, _ => none
theorem unr_ok_circalaw12_reads : ∀ pan v H nw r, unr_circalaw12_reads pan v H nw = some r → (out_circalaw12_reads r).pan = pan ∧ (out_circalaw12_reads r).news = nw ∧ v = V.ren (upTo 0 1 ++ (out_circalaw12_reads r).news) (out_circalaw12_reads r).val ∧ H = renH (upTo 0 1 ++ (out_circalaw12_reads r).news) (out_circalaw12_reads r).H := by
  intro pan v H nw r h
  unfold unr_circalaw12_reads at h
  split at h
  · cases h; exact ⟨rfl, rfl, rfl, rfl⟩
  · cases h; exact ⟨rfl, rfl, rfl, rfl⟩
  · cases h
theorem hv_circalaw12_reads : ∀ r, V.lt (1 + (out_circalaw12_reads r).news.length) (out_circalaw12_reads r).val = true := fun r => (by rcases r with r | r <;> rfl)
theorem hc_circalaw12_reads : ∀ r, chkH (1 + (out_circalaw12_reads r).news.length) (out_circalaw12_reads r).H = true := fun r => (by rcases r with r | r <;> rfl)
theorem hk_circalaw12_reads : ∀ r, hasKeys (out_circalaw12_reads r).H 0 (1 + (out_circalaw12_reads r).news.length) = true := fun r => (by rcases r with r | r <;> rfl)
noncomputable def e_circalaw12_reads (n : Nat) : Ent := funE 73 1 una_circalaw12_reads (fun a => circalaw12_reads n a.1 a.2) outK_circalaw12_reads
noncomputable def t_circalaw12_reads (l : List V) (H : List (Nat × Blk)) : Bool := isS (una_circalaw12_reads l H)
noncomputable def Es_circalaw12_reads (n : Nat) : List Ent := [e_cursors_Cursor_Take n, e_cursors_Cursor_Some n]
theorem Es_ok_circalaw12_reads (n : Nat) : ∀ x ∈ Es_circalaw12_reads n, EntOK Try.prog x := by
  intro x hx
  simp only [Es_circalaw12_reads, List.mem_cons, List.not_mem_nil, or_false] at hx
  rcases hx with hx | hx
  · rw [hx]; exact ok_cursors_Cursor_Take n
  · rw [hx]; exact ok_cursors_Cursor_Some n
noncomputable def Ls_circalaw12_reads (_n : Nat) : List Sub := []
theorem subs_circalaw12_reads (n : Nat) : SubOK Try.prog 6 (Ls_circalaw12_reads n) (acOf Try.f73) := SubOK_of _ (by
  have e : subs (acOf Try.f73) = [] := by kernel_rfl
  rw [e]; intro p hp; cases hp)
theorem cert_circalaw12_reads (n : Nat) (a0 : List UInt8) (a1 : Int) : run Try.prog (Es_circalaw12_reads n) (Ls_circalaw12_reads n) Try.f73.ntmps (acOf Try.f73) ⟨argsT [.p 0 0] 0, [(0, .cells [.s a0, .i .i64 a1])], 1, 1, 0, 1⟩ (finK Try.prog Try.f73.results.toList (funX [0] 1 0 1 unr_circalaw12_reads)) = circalaw12_reads n a0 a1 := by kernel_rfl
theorem fun_circalaw12_reads (n : Nat) : ∀ a r, circalaw12_reads n a.1 a.2 = some r → FunOK Try.prog 73 (arg_circalaw12_reads a) (H0_circalaw12_reads a) 1 0 1 (out_circalaw12_reads r) := fun a r h => funX_ok (ws := [0]) unr_ok_circalaw12_reads hv_circalaw12_reads (fun r b blk hl => (chkH_look (hc_circalaw12_reads r) b blk hl).2) (fun r => chkH_keys (hc_circalaw12_reads r)) (by decide) (Es_ok_circalaw12_reads n) Try.func73 rfl (acOf_code _) (subs_circalaw12_reads n) rfl rfl ((cert_circalaw12_reads n a.1 a.2).trans h)
theorem ok_circalaw12_reads (n : Nat) : EntOK Try.prog (e_circalaw12_reads n) := funE_ok (m := 1) (ro := 0) (rb := 1) (out := out_circalaw12_reads) (arg := arg_circalaw12_reads) (H0 := H0_circalaw12_reads) Try.call73 (by decide) (by decide) outK_ok_circalaw12_reads una_ok_circalaw12_reads (fun _ => rfl) (fun a => chkH_look (m := 1) (H := H0_circalaw12_reads a) rfl) (fun _ => rfl) (fun r => chkH_keys (hc_circalaw12_reads r)) (fun r b blk h => (chkH_look (hc_circalaw12_reads r) b blk h).2) (fun r b h1 h2 => hasKeys_ok (hk_circalaw12_reads r) b h1 (by omega)) hv_circalaw12_reads (fun_circalaw12_reads n)

/-! circa/cursors.Run -/
noncomputable def arg_cursors_Run (a : List UInt8) : List V := [.s a, .fn 73 []]
noncomputable def H0_cursors_Run (a : List UInt8) : List (Nat × Blk) := []
noncomputable def una_cursors_Run (l : List V) (H : List (Nat × Blk)) : Option ((List UInt8) × List Nat) := match l with
  | [.s a0, .fn 73 []] => (cond (Abs.distinct [] && true) (some (a0, [])) none)
  | _ => none
theorem una_ok_cursors_Run : ∀ l H a ρ, una_cursors_Run l H = some (a, ρ) → ρ.length = 0 ∧ ρ.Nodup ∧ l = V.rens ρ (arg_cursors_Run a) ∧ ∀ b blk, Abs.look (H0_cursors_Run a) b = some blk → Abs.look H (getN ρ b) = some (blk.ren ρ) := by
  intro l H a ρ h
  unfold una_cursors_Run at h
  split at h
  · obtain ⟨hd, h⟩ := cond_some h
    simp only [Bool.and_eq_true] at hd
    obtain ⟨hd, _⟩ := hd
    cases h
    exact ⟨rfl, distinct_ok hd, rfl, eachH_look trivial⟩
  · cases h
noncomputable def out_cursors_Run (r : (Int × Int)) : FOut := (⟨false, .tp [.i .i64 r.1, .i .i64 r.2], [], []⟩ : FOut)
noncomputable def outK_cursors_Run (α : Type) (r : (Int × Int)) (k : FOut → Option α) : Option α := (k ⟨false, .tp [.i .i64 r.1, .i .i64 r.2], [], []⟩)
theorem outK_ok_cursors_Run : ∀ α r k, outK_cursors_Run α r k = k (out_cursors_Run r) := by
  intro α r k
  rfl
noncomputable def unr_cursors_Run (pan : Bool) (v : V) (H : List (Nat × Blk)) (nw : List Nat) : Option ((Int × Int)) := match pan, v, H, nw with
  | false, .tp [.i .i64 r0, .i .i64 r1], [], [] => some (r0, r1)
  | _, _, _, _ => none
theorem unr_ok_cursors_Run : ∀ pan v H nw r, unr_cursors_Run pan v H nw = some r → (out_cursors_Run r).pan = pan ∧ (out_cursors_Run r).news = nw ∧ v = V.ren (upTo 0 0 ++ (out_cursors_Run r).news) (out_cursors_Run r).val ∧ H = renH (upTo 0 0 ++ (out_cursors_Run r).news) (out_cursors_Run r).H := by
  intro pan v H nw r h
  unfold unr_cursors_Run at h
  split at h
  · cases h; exact ⟨rfl, rfl, rfl, rfl⟩
  · cases h
theorem hv_cursors_Run : ∀ r, V.lt (0 + (out_cursors_Run r).news.length) (out_cursors_Run r).val = true := fun r => (by rfl)
theorem hc_cursors_Run : ∀ r, chkH (0 + (out_cursors_Run r).news.length) (out_cursors_Run r).H = true := fun r => (by rfl)
theorem hk_cursors_Run : ∀ r, hasKeys (out_cursors_Run r).H 0 (0 + (out_cursors_Run r).news.length) = true := fun r => (by rfl)
noncomputable def e_cursors_Run (n : Nat) : Ent := funE 30 0 una_cursors_Run (fun a => cursors_Run n a) outK_cursors_Run
noncomputable def t_cursors_Run (l : List V) (H : List (Nat × Blk)) : Bool := isS (una_cursors_Run l H)
noncomputable def Es_cursors_Run (n : Nat) : List Ent := [e_circalaw12_reads n]
theorem Es_ok_cursors_Run (n : Nat) : ∀ x ∈ Es_cursors_Run n, EntOK Try.prog x := by
  intro x hx
  simp only [Es_cursors_Run, List.mem_cons, List.not_mem_nil, or_false] at hx
  · rw [hx]; exact ok_circalaw12_reads n
noncomputable def Ls_cursors_Run (_n : Nat) : List Sub := []
theorem subs_cursors_Run (n : Nat) : SubOK Try.prog 27 (Ls_cursors_Run n) (acOf Try.f30) := SubOK_of _ (by
  have e : subs (acOf Try.f30) = [] := by kernel_rfl
  rw [e]; intro p hp; cases hp)
theorem cert_cursors_Run (n : Nat) (a0 : List UInt8) : runDf Try.prog (Es_cursors_Run n) (Ls_cursors_Run n) Try.f30.ntmps (spineL 2 (acOf Try.f30)) (getO (regOps (spineR 2 (acOf Try.f30))) 0) (.tmp 9) 79 (spineR 3 (acOf Try.f30)) [] [] Try.f79.ntmps (spineR 1 (acOf Try.f79)) 5 Try.f30.results.toList (funX [] 0 0 0 unr_cursors_Run) ⟨argsT [.s a0, .fn 73 []] 0, [], 0, 0, 0, 0⟩ = cursors_Run n a0 := by kernel_rfl
theorem subsC_cursors_Run : SubOK Try.prog Try.f79.ntmps [] (acOf Try.f79) := SubOK_of _ (by
  have e : subs (acOf Try.f79) = [] := by kernel_rfl
  rw [e]; intro p hp; cases hp)
theorem fun_cursors_Run (n : Nat) : ∀ a r, cursors_Run n a = some r → FunOK Try.prog 30 (arg_cursors_Run a) (H0_cursors_Run a) 0 0 0 (out_cursors_Run r) := fun a r h => funX_of (ws := []) unr_ok_cursors_Run hv_cursors_Run (fun r b blk hl => (chkH_look (hc_cursors_Run r) b blk hl).2) (fun r => chkH_keys (hc_cursors_Run r)) (by decide) rfl (funcD2_ok (Es_ok_cursors_Run n) (k := 2) (idD := 3) (o1 := (getO (regOps (spineR 2 (acOf Try.f30))) 0)) (oD := (getO (regOps (spineR 2 (acOf Try.f30))) 1)) (acB := (spineR 3 (acOf Try.f30))) (idR := 0) (oR := (getO (regOps (acOf Try.f79)) 0)) Try.func30 rfl (acOf_code _) (by kernel_rfl) (subs_cursors_Run n) (by kernel_rfl) (by kernel_rfl) (by kernel_rfl) (by kernel_rfl) (EC := []) (fun x hx => by cases hx) Try.func79 rfl (acOf_code _) (by kernel_rfl) (by kernel_rfl) (by kernel_rfl) (by kernel_rfl) (by kernel_rfl) subsC_cursors_Run Try.call79 rfl ((cert_cursors_Run n a).trans h))
theorem ok_cursors_Run (n : Nat) : EntOK Try.prog (e_cursors_Run n) := funE_ok (m := 0) (ro := 0) (rb := 0) (out := out_cursors_Run) (arg := arg_cursors_Run) (H0 := H0_cursors_Run) Try.call30 (by decide) (by decide) outK_ok_cursors_Run una_ok_cursors_Run (fun _ => rfl) (fun a => chkH_look (m := 0) (H := H0_cursors_Run a) rfl) (fun _ => rfl) (fun r => chkH_keys (hc_cursors_Run r)) (fun r b blk h => (chkH_look (hc_cursors_Run r) b blk h).2) (fun r b h1 h2 => hasKeys_ok (hk_cursors_Run r) b h1 (by omega)) hv_cursors_Run (fun_cursors_Run n)

/-! circa/circalaw12.short -/
noncomputable def arg_circalaw12_short (a : List UInt8 × Int) : List V := [.p 0 0]
noncomputable def H0_circalaw12_short (a : List UInt8 × Int) : List (Nat × Blk) := [(0, .cells [.s a.1, .i .i64 a.2])]
noncomputable def una_circalaw12_short (l : List V) (H : List (Nat × Blk)) : Option ((List UInt8 × Int) × List Nat) := match l with
  | [.p b0 0] => (match Abs.look H b0 with
    | some (.cells [.s a0, .i .i64 a1]) => (cond (Abs.distinct [b0] && true) (some ((a0, a1), [b0])) none)
    | _ => none)
  | _ => none
theorem una_ok_circalaw12_short : ∀ l H a ρ, una_circalaw12_short l H = some (a, ρ) → ρ.length = 1 ∧ ρ.Nodup ∧ l = V.rens ρ (arg_circalaw12_short a) ∧ ∀ b blk, Abs.look (H0_circalaw12_short a) b = some blk → Abs.look H (getN ρ b) = some (blk.ren ρ) := by
  intro l H a ρ h
  unfold una_circalaw12_short at h
  split at h
  · split at h
    · rename_i e0
      obtain ⟨hd, h⟩ := cond_some h
      simp only [Bool.and_eq_true] at hd
      obtain ⟨hd, _⟩ := hd
      cases h
      exact ⟨rfl, distinct_ok hd, rfl, eachH_look ⟨e0, trivial⟩⟩
    · cases h
  · cases h
noncomputable def out_circalaw12_short (r : (Int × Int × List UInt8 × Int) ⊕ (List UInt8 × Int)) : FOut := (Sum.casesOn (motive := fun _ => FOut) r (fun a0 => (⟨true, .it 107 (.ag [.i .i64 a0.1, .i .i64 a0.2.1]), [(0, .cells [.s a0.2.2.1, .i .i64 a0.2.2.2])], []⟩ : FOut)) (fun b0 => (⟨false, .tp [], [(0, .cells [.s b0.1, .i .i64 b0.2])], []⟩ : FOut)))
noncomputable def outK_circalaw12_short (α : Type) (r : (Int × Int × List UInt8 × Int) ⊕ (List UInt8 × Int)) (k : FOut → Option α) : Option α := (Sum.casesOn (motive := fun _ => Option α) r (fun a0 => (k ⟨true, .it 107 (.ag [.i .i64 a0.1, .i .i64 a0.2.1]), [(0, .cells [.s a0.2.2.1, .i .i64 a0.2.2.2])], []⟩)) (fun b0 => (k ⟨false, .tp [], [(0, .cells [.s b0.1, .i .i64 b0.2])], []⟩)))
theorem outK_ok_circalaw12_short : ∀ α r k, outK_circalaw12_short α r k = k (out_circalaw12_short r) := by
  intro α r k
  rcases r with r | r <;> rfl
noncomputable def unr_circalaw12_short (pan : Bool) (v : V) (H : List (Nat × Blk)) (nw : List Nat) : Option ((Int × Int × List UInt8 × Int) ⊕ (List UInt8 × Int)) := match pan, v, H, nw with
  | true, .it 107 (.ag [.i .i64 r0, .i .i64 r1]), [(0, .cells [.s r2, .i .i64 r3])], [] => some (.inl (r0, r1, r2, r3))
  | false, .tp [], [(0, .cells [.s r0, .i .i64 r1])], [] => some (.inr (r0, r1))
  | _, _, _, _ => none
theorem unr_ok_circalaw12_short : ∀ pan v H nw r, unr_circalaw12_short pan v H nw = some r → (out_circalaw12_short r).pan = pan ∧ (out_circalaw12_short r).news = nw ∧ v = V.ren (upTo 0 1 ++ (out_circalaw12_short r).news) (out_circalaw12_short r).val ∧ H = renH (upTo 0 1 ++ (out_circalaw12_short r).news) (out_circalaw12_short r).H := by
  intro pan v H nw r h
  unfold unr_circalaw12_short at h
  split at h
  · cases h; exact ⟨rfl, rfl, rfl, rfl⟩
  · cases h; exact ⟨rfl, rfl, rfl, rfl⟩
  · cases h
theorem hv_circalaw12_short : ∀ r, V.lt (1 + (out_circalaw12_short r).news.length) (out_circalaw12_short r).val = true := fun r => (by rcases r with r | r <;> rfl)
theorem hc_circalaw12_short : ∀ r, chkH (1 + (out_circalaw12_short r).news.length) (out_circalaw12_short r).H = true := fun r => (by rcases r with r | r <;> rfl)
theorem hk_circalaw12_short : ∀ r, hasKeys (out_circalaw12_short r).H 0 (1 + (out_circalaw12_short r).news.length) = true := fun r => (by rcases r with r | r <;> rfl)
noncomputable def e_circalaw12_short (n : Nat) : Ent := funE 74 1 una_circalaw12_short (fun a => circalaw12_short n a.1 a.2) outK_circalaw12_short
noncomputable def t_circalaw12_short (l : List V) (H : List (Nat × Blk)) : Bool := isS (una_circalaw12_short l H)
noncomputable def Es_circalaw12_short (n : Nat) : List Ent := [e_cursors_Cursor_Take n, e_cursors_Cursor_Some n]
theorem Es_ok_circalaw12_short (n : Nat) : ∀ x ∈ Es_circalaw12_short n, EntOK Try.prog x := by
  intro x hx
  simp only [Es_circalaw12_short, List.mem_cons, List.not_mem_nil, or_false] at hx
  rcases hx with hx | hx
  · rw [hx]; exact ok_cursors_Cursor_Take n
  · rw [hx]; exact ok_cursors_Cursor_Some n
noncomputable def Ls_circalaw12_short (_n : Nat) : List Sub := []
theorem subs_circalaw12_short (n : Nat) : SubOK Try.prog 6 (Ls_circalaw12_short n) (acOf Try.f74) := SubOK_of _ (by
  have e : subs (acOf Try.f74) = [] := by kernel_rfl
  rw [e]; intro p hp; cases hp)
theorem cert_circalaw12_short (n : Nat) (a0 : List UInt8) (a1 : Int) : run Try.prog (Es_circalaw12_short n) (Ls_circalaw12_short n) Try.f74.ntmps (acOf Try.f74) ⟨argsT [.p 0 0] 0, [(0, .cells [.s a0, .i .i64 a1])], 1, 1, 0, 1⟩ (finK Try.prog Try.f74.results.toList (funX [0] 1 0 1 unr_circalaw12_short)) = circalaw12_short n a0 a1 := by kernel_rfl
theorem fun_circalaw12_short (n : Nat) : ∀ a r, circalaw12_short n a.1 a.2 = some r → FunOK Try.prog 74 (arg_circalaw12_short a) (H0_circalaw12_short a) 1 0 1 (out_circalaw12_short r) := fun a r h => funX_ok (ws := [0]) unr_ok_circalaw12_short hv_circalaw12_short (fun r b blk hl => (chkH_look (hc_circalaw12_short r) b blk hl).2) (fun r => chkH_keys (hc_circalaw12_short r)) (by decide) (Es_ok_circalaw12_short n) Try.func74 rfl (acOf_code _) (subs_circalaw12_short n) rfl rfl ((cert_circalaw12_short n a.1 a.2).trans h)
theorem ok_circalaw12_short (n : Nat) : EntOK Try.prog (e_circalaw12_short n) := funE_ok (m := 1) (ro := 0) (rb := 1) (out := out_circalaw12_short) (arg := arg_circalaw12_short) (H0 := H0_circalaw12_short) Try.call74 (by decide) (by decide) outK_ok_circalaw12_short una_ok_circalaw12_short (fun _ => rfl) (fun a => chkH_look (m := 1) (H := H0_circalaw12_short a) rfl) (fun _ => rfl) (fun r => chkH_keys (hc_circalaw12_short r)) (fun r b blk h => (chkH_look (hc_circalaw12_short r) b blk h).2) (fun r b h1 h2 => hasKeys_ok (hk_circalaw12_short r) b h1 (by omega)) hv_circalaw12_short (fun_circalaw12_short n)

/-! circa/cursors.Run -/
noncomputable def arg_cursors_Run_v2 (a : List UInt8) : List V := [.s a, .fn 74 []]
noncomputable def H0_cursors_Run_v2 (a : List UInt8) : List (Nat × Blk) := []
noncomputable def una_cursors_Run_v2 (l : List V) (H : List (Nat × Blk)) : Option ((List UInt8) × List Nat) := match l with
  | [.s a0, .fn 74 []] => (cond (Abs.distinct [] && true) (some (a0, [])) none)
  | _ => none
theorem una_ok_cursors_Run_v2 : ∀ l H a ρ, una_cursors_Run_v2 l H = some (a, ρ) → ρ.length = 0 ∧ ρ.Nodup ∧ l = V.rens ρ (arg_cursors_Run_v2 a) ∧ ∀ b blk, Abs.look (H0_cursors_Run_v2 a) b = some blk → Abs.look H (getN ρ b) = some (blk.ren ρ) := by
  intro l H a ρ h
  unfold una_cursors_Run_v2 at h
  split at h
  · obtain ⟨hd, h⟩ := cond_some h
    simp only [Bool.and_eq_true] at hd
    obtain ⟨hd, _⟩ := hd
    cases h
    exact ⟨rfl, distinct_ok hd, rfl, eachH_look trivial⟩
  · cases h
noncomputable def out_cursors_Run_v2 (r : (Int × Int)) : FOut := (⟨false, .tp [.i .i64 r.1, .i .i64 r.2], [], []⟩ : FOut)
noncomputable def outK_cursors_Run_v2 (α : Type) (r : (Int × Int)) (k : FOut → Option α) : Option α := (k ⟨false, .tp [.i .i64 r.1, .i .i64 r.2], [], []⟩)
theorem outK_ok_cursors_Run_v2 : ∀ α r k, outK_cursors_Run_v2 α r k = k (out_cursors_Run_v2 r) := by
  intro α r k
  rfl
noncomputable def unr_cursors_Run_v2 (pan : Bool) (v : V) (H : List (Nat × Blk)) (nw : List Nat) : Option ((Int × Int)) := match pan, v, H, nw with
  | false, .tp [.i .i64 r0, .i .i64 r1], [], [] => some (r0, r1)
  | _, _, _, _ => none
theorem unr_ok_cursors_Run_v2 : ∀ pan v H nw r, unr_cursors_Run_v2 pan v H nw = some r → (out_cursors_Run_v2 r).pan = pan ∧ (out_cursors_Run_v2 r).news = nw ∧ v = V.ren (upTo 0 0 ++ (out_cursors_Run_v2 r).news) (out_cursors_Run_v2 r).val ∧ H = renH (upTo 0 0 ++ (out_cursors_Run_v2 r).news) (out_cursors_Run_v2 r).H := by
  intro pan v H nw r h
  unfold unr_cursors_Run_v2 at h
  split at h
  · cases h; exact ⟨rfl, rfl, rfl, rfl⟩
  · cases h
theorem hv_cursors_Run_v2 : ∀ r, V.lt (0 + (out_cursors_Run_v2 r).news.length) (out_cursors_Run_v2 r).val = true := fun r => (by rfl)
theorem hc_cursors_Run_v2 : ∀ r, chkH (0 + (out_cursors_Run_v2 r).news.length) (out_cursors_Run_v2 r).H = true := fun r => (by rfl)
theorem hk_cursors_Run_v2 : ∀ r, hasKeys (out_cursors_Run_v2 r).H 0 (0 + (out_cursors_Run_v2 r).news.length) = true := fun r => (by rfl)
noncomputable def e_cursors_Run_v2 (n : Nat) : Ent := funE 30 0 una_cursors_Run_v2 (fun a => cursors_Run_v2 n a) outK_cursors_Run_v2
noncomputable def t_cursors_Run_v2 (l : List V) (H : List (Nat × Blk)) : Bool := isS (una_cursors_Run_v2 l H)
noncomputable def Es_cursors_Run_v2 (n : Nat) : List Ent := [e_circalaw12_short n]
theorem Es_ok_cursors_Run_v2 (n : Nat) : ∀ x ∈ Es_cursors_Run_v2 n, EntOK Try.prog x := by
  intro x hx
  simp only [Es_cursors_Run_v2, List.mem_cons, List.not_mem_nil, or_false] at hx
  · rw [hx]; exact ok_circalaw12_short n
noncomputable def Ls_cursors_Run_v2 (_n : Nat) : List Sub := []
theorem subs_cursors_Run_v2 (n : Nat) : SubOK Try.prog 27 (Ls_cursors_Run_v2 n) (acOf Try.f30) := SubOK_of _ (by
  have e : subs (acOf Try.f30) = [] := by kernel_rfl
  rw [e]; intro p hp; cases hp)
theorem cert_cursors_Run_v2 (n : Nat) (a0 : List UInt8) : runDf Try.prog (Es_cursors_Run_v2 n) (Ls_cursors_Run_v2 n) Try.f30.ntmps (spineL 2 (acOf Try.f30)) (getO (regOps (spineR 2 (acOf Try.f30))) 0) (.tmp 9) 79 (spineR 3 (acOf Try.f30)) [] [] Try.f79.ntmps (spineR 1 (acOf Try.f79)) 5 Try.f30.results.toList (funX [] 0 0 0 unr_cursors_Run_v2) ⟨argsT [.s a0, .fn 74 []] 0, [], 0, 0, 0, 0⟩ = cursors_Run_v2 n a0 := by kernel_rfl
theorem subsC_cursors_Run_v2 : SubOK Try.prog Try.f79.ntmps [] (acOf Try.f79) := SubOK_of _ (by
  have e : subs (acOf Try.f79) = [] := by kernel_rfl
  rw [e]; intro p hp; cases hp)
theorem fun_cursors_Run_v2 (n : Nat) : ∀ a r, cursors_Run_v2 n a = some r → FunOK Try.prog 30 (arg_cursors_Run_v2 a) (H0_cursors_Run_v2 a) 0 0 0 (out_cursors_Run_v2 r) := fun a r h => funX_of (ws := []) unr_ok_cursors_Run_v2 hv_cursors_Run_v2 (fun r b blk hl => (chkH_look (hc_cursors_Run_v2 r) b blk hl).2) (fun r => chkH_keys (hc_cursors_Run_v2 r)) (by decide) rfl (funcD2_ok (Es_ok_cursors_Run_v2 n) (k := 2) (idD := 3) (o1 := (getO (regOps (spineR 2 (acOf Try.f30))) 0)) (oD := (getO (regOps (spineR 2 (acOf Try.f30))) 1)) (acB := (spineR 3 (acOf Try.f30))) (idR := 0) (oR := (getO (regOps (acOf Try.f79)) 0)) Try.func30 rfl (acOf_code _) (by kernel_rfl) (subs_cursors_Run_v2 n) (by kernel_rfl) (by kernel_rfl) (by kernel_rfl) (by kernel_rfl) (EC := []) (fun x hx => by cases hx) Try.func79 rfl (acOf_code _) (by kernel_rfl) (by kernel_rfl) (by kernel_rfl) (by kernel_rfl) (by kernel_rfl) subsC_cursors_Run_v2 Try.call79 rfl ((cert_cursors_Run_v2 n a).trans h))
theorem ok_cursors_Run_v2 (n : Nat) : EntOK Try.prog (e_cursors_Run_v2 n) := funE_ok (m := 0) (ro := 0) (rb := 0) (out := out_cursors_Run_v2) (arg := arg_cursors_Run_v2) (H0 := H0_cursors_Run_v2) Try.call30 (by decide) (by decide) outK_ok_cursors_Run_v2 una_ok_cursors_Run_v2 (fun _ => rfl) (fun a => chkH_look (m := 0) (H := H0_cursors_Run_v2 a) rfl) (fun _ => rfl) (fun r => chkH_keys (hc_cursors_Run_v2 r)) (fun r b blk h => (chkH_look (hc_cursors_Run_v2 r) b blk h).2) (fun r b h1 h2 => hasKeys_ok (hk_cursors_Run_v2 r) b h1 (by omega)) hv_cursors_Run_v2 (fun_cursors_Run_v2 n)

/-! (*circa/cursors.Cursor).Want -/
noncomputable def arg_cursors_Cursor_Want (a : List UInt8 × List UInt8 × Int) : List V := [.p 0 0, .s a.1]
noncomputable def H0_cursors_Cursor_Want (a : List UInt8 × List UInt8 × Int) : List (Nat × Blk) := [(0, .cells [.s a.2.1, .i .i64 a.2.2])]
noncomputable def una_cursors_Cursor_Want (l : List V) (H : List (Nat × Blk)) : Option ((List UInt8 × List UInt8 × Int) × List Nat) := match l with
  | [.p b0 0, .s a0] => (match Abs.look H b0 with
    | some (.cells [.s a1, .i .i64 a2]) => (cond (Abs.distinct [b0] && true) (some ((a0, a1, a2), [b0])) none)
    | _ => none)
  | _ => none
theorem una_ok_cursors_Cursor_Want : ∀ l H a ρ, una_cursors_Cursor_Want l H = some (a, ρ) → ρ.length = 1 ∧ ρ.Nodup ∧ l = V.rens ρ (arg_cursors_Cursor_Want a) ∧ ∀ b blk, Abs.look (H0_cursors_Cursor_Want a) b = some blk → Abs.look H (getN ρ b) = some (blk.ren ρ) := by
  intro l H a ρ h
  unfold una_cursors_Cursor_Want at h
  split at h
  · split at h
    · rename_i e0
      obtain ⟨hd, h⟩ := cond_some h
      simp only [Bool.and_eq_true] at hd
      obtain ⟨hd, _⟩ := hd
      cases h
      exact ⟨rfl, distinct_ok hd, rfl, eachH_look ⟨e0, trivial⟩⟩
    · cases h
  · cases h
noncomputable def out_cursors_Cursor_Want (r : (List UInt8 × Int) ⊕ (Int × Int × List UInt8 × Int)) : FOut := (Sum.casesOn (motive := fun _ => FOut) r (fun a0 => (⟨false, .tp [], [(0, .cells [.s a0.1, .i .i64 a0.2])], []⟩ : FOut)) (fun b0 => (⟨true, .it 107 (.ag [.i .i64 b0.1, .i .i64 b0.2.1]), [(0, .cells [.s b0.2.2.1, .i .i64 b0.2.2.2])], []⟩ : FOut)))
noncomputable def outK_cursors_Cursor_Want (α : Type) (r : (List UInt8 × Int) ⊕ (Int × Int × List UInt8 × Int)) (k : FOut → Option α) : Option α := (Sum.casesOn (motive := fun _ => Option α) r (fun a0 => (k ⟨false, .tp [], [(0, .cells [.s a0.1, .i .i64 a0.2])], []⟩)) (fun b0 => (k ⟨true, .it 107 (.ag [.i .i64 b0.1, .i .i64 b0.2.1]), [(0, .cells [.s b0.2.2.1, .i .i64 b0.2.2.2])], []⟩)))
theorem outK_ok_cursors_Cursor_Want : ∀ α r k, outK_cursors_Cursor_Want α r k = k (out_cursors_Cursor_Want r) := by
  intro α r k
  rcases r with r | r <;> rfl
noncomputable def unr_cursors_Cursor_Want (pan : Bool) (v : V) (H : List (Nat × Blk)) (nw : List Nat) : Option ((List UInt8 × Int) ⊕ (Int × Int × List UInt8 × Int)) := match pan, v, H, nw with
  | false, .tp [], [(0, .cells [.s r0, .i .i64 r1])], [] => some (.inl (r0, r1))
  | true, .it 107 (.ag [.i .i64 r0, .i .i64 r1]), [(0, .cells [.s r2, .i .i64 r3])], [] => some (.inr (r0, r1, r2, r3))
  | _, _, _, _ => none
theorem unr_ok_cursors_Cursor_Want : ∀ pan v H nw r, unr_cursors_Cursor_Want pan v H nw = some r → (out_cursors_Cursor_Want r).pan = pan ∧ (out_cursors_Cursor_Want r).news = nw ∧ v = V.ren (upTo 0 1 ++ (out_cursors_Cursor_Want r).news) (out_cursors_Cursor_Want r).val ∧ H = renH (upTo 0 1 ++ (out_cursors_Cursor_Want r).news) (out_cursors_Cursor_Want r).H := by
  intro pan v H nw r h
  unfold unr_cursors_Cursor_Want at h
  split at h
  · cases h; exact ⟨rfl, rfl, rfl, rfl⟩
  · cases h; exact ⟨rfl, rfl, rfl, rfl⟩
  · cases h
theorem hv_cursors_Cursor_Want : ∀ r, V.lt (1 + (out_cursors_Cursor_Want r).news.length) (out_cursors_Cursor_Want r).val = true := fun r => (by rcases r with r | r <;> rfl)
theorem hc_cursors_Cursor_Want : ∀ r, chkH (1 + (out_cursors_Cursor_Want r).news.length) (out_cursors_Cursor_Want r).H = true := fun r => (by rcases r with r | r <;> rfl)
theorem hk_cursors_Cursor_Want : ∀ r, hasKeys (out_cursors_Cursor_Want r).H 0 (1 + (out_cursors_Cursor_Want r).news.length) = true := fun r => (by rcases r with r | r <;> rfl)
noncomputable def e_cursors_Cursor_Want (n : Nat) : Ent := funE 34 1 una_cursors_Cursor_Want (fun a => cursors_Cursor_Want n a.1 a.2.1 a.2.2) outK_cursors_Cursor_Want
noncomputable def t_cursors_Cursor_Want (l : List V) (H : List (Nat × Blk)) : Bool := isS (una_cursors_Cursor_Want l H)
noncomputable def Es_cursors_Cursor_Want (n : Nat) : List Ent := [e_cursors_Cursor_Take n, e_cursors_Cursor_Rest n, e_cursors_Cursor_At n, e_cursors_Cursor_Fail n]
theorem Es_ok_cursors_Cursor_Want (n : Nat) : ∀ x ∈ Es_cursors_Cursor_Want n, EntOK Try.prog x := by
  intro x hx
  simp only [Es_cursors_Cursor_Want, List.mem_cons, List.not_mem_nil, or_false] at hx
  rcases hx with hx | hx | hx | hx
  · rw [hx]; exact ok_cursors_Cursor_Take n
  · rw [hx]; exact ok_cursors_Cursor_Rest n
  · rw [hx]; exact ok_cursors_Cursor_At n
  · rw [hx]; exact ok_cursors_Cursor_Fail n
noncomputable def an_cursors_Cursor_Want_l0 : Ann := ⟨[0, 1, 4, 5], [0], 1, []⟩
noncomputable def emb_cursors_Cursor_Want_l0 (x : List UInt8 × Int × List UInt8 × List UInt8 × Int) : St := ⟨[(0, some (.p 0 0)), (1, some (.s x.1)), (4, some (.i .i64 x.2.1)), (5, some (.s x.2.2.1))], [(0, .cells [.s x.2.2.2.1, .i .i64 x.2.2.2.2])], 1, 1, 0, 1⟩
noncomputable def un_cursors_Cursor_Want_l0 (s : St) : Option (List UInt8 × Int × List UInt8 × List UInt8 × Int) := match s with
  | ⟨[(0, some (.p 0 0)), (1, some (.s x0)), (4, some (.i .i64 x1)), (5, some (.s x2))], [(0, .cells [.s x3, .i .i64 x4])], 1, 1, 0, 1⟩ => some (x0, x1, x2, x3, x4)
  | _ => none
theorem un_ok_cursors_Cursor_Want_l0 : ∀ s x, un_cursors_Cursor_Want_l0 s = some x → s = emb_cursors_Cursor_Want_l0 x := by
  intro s x h
  unfold un_cursors_Cursor_Want_l0 at h
  split at h
  · cases h; rfl
  · cases h
noncomputable def ax_cursors_Cursor_Want_l0 : Ex → Ann := fun ex => match ex with
  | .exit 0 => ⟨[0, 4], [0], 1, []⟩
  | _ => ⟨[], [], 0, []⟩
noncomputable def out_cursors_Cursor_Want_l0 (y : (Int × List UInt8 × Int)) : Ex × St := (.exit 0, ⟨[(0, some (.p 0 0)), (4, some (.i .i64 y.1))], [(0, .cells [.s y.2.1, .i .i64 y.2.2])], 1, 1, 0, 1⟩)
noncomputable def outK_cursors_Cursor_Want_l0 (α : Type) (y : (Int × List UInt8 × Int)) (k : Ex → St → Option α) : Option α := (k (.exit 0) ⟨[(0, some (.p 0 0)), (4, some (.i .i64 y.1))], [(0, .cells [.s y.2.1, .i .i64 y.2.2])], 1, 1, 0, 1⟩)
theorem outK_ok_cursors_Cursor_Want_l0 : ∀ α y k, outK_cursors_Cursor_Want_l0 α y k = k (out_cursors_Cursor_Want_l0 y).1 (out_cursors_Cursor_Want_l0 y).2 := by
  intro α y k
  rfl
noncomputable def ux_cursors_Cursor_Want_l0 (ex : Ex) (s : St) : Option ((Int × List UInt8 × Int)) := match ex, s with
  | .exit 0, ⟨[(0, some (.p 0 0)), (4, some (.i .i64 y0))], [(0, .cells [.s y1, .i .i64 y2])], 1, 1, 0, 1⟩ => some (y0, y1, y2)
  | _, _ => none
theorem ux_ok_cursors_Cursor_Want_l0 : ∀ ex s y, ux_cursors_Cursor_Want_l0 ex s = some y → (ex, s) = out_cursors_Cursor_Want_l0 y := by
  intro ex s y h
  unfold ux_cursors_Cursor_Want_l0 at h
  split at h
  · cases h; rfl
  · cases h
noncomputable def Ls_cursors_Cursor_Want (n : Nat) : List Sub := [subE 0 an_cursors_Cursor_Want_l0 un_cursors_Cursor_Want_l0 (fun x => iterL (cursors_Cursor_Want_l0 n) n x) outK_cursors_Cursor_Want_l0]
noncomputable def sac_cursors_Cursor_Want_l0 : AC := getS (subs (acOf Try.f34)) 0
noncomputable def ac_cursors_Cursor_Want_l0 : AC := AC.body sac_cursors_Cursor_Want_l0
theorem subs_cursors_Cursor_Want_l0 (n : Nat) : SubOK Try.prog 35 (Ls_cursors_Cursor_Want n) ac_cursors_Cursor_Want_l0 := SubOK_of _ (by
  have e : subs ac_cursors_Cursor_Want_l0 = [] := by kernel_rfl
  rw [e]; intro p hp; cases hp)
theorem body_cursors_Cursor_Want_l0 (n : Nat) : ∀ x, run Try.prog (Es_cursors_Cursor_Want n) (Ls_cursors_Cursor_Want n) 35 ac_cursors_Cursor_Want_l0 (emb_cursors_Cursor_Want_l0 x) (roundK an_cursors_Cursor_Want_l0 un_cursors_Cursor_Want_l0 ax_cursors_Cursor_Want_l0 ux_cursors_Cursor_Want_l0) = cursors_Cursor_Want_l0 n x := fun _ => by kernel_rfl
theorem sub1_cursors_Cursor_Want_l0 (n : Nat) : ∀ (α : Type) (s : St) (k : Ex → St → Option α) (z : α), (subE 0 an_cursors_Cursor_Want_l0 un_cursors_Cursor_Want_l0 (fun x => iterL (cursors_Cursor_Want_l0 n) n x) outK_cursors_Cursor_Want_l0).e α s k = some z → SemC Try.prog 35 (sac_cursors_Cursor_Want_l0).code s fun ex s' => k ex s' = some z := by
  intro α s k z h
  have e : sac_cursors_Cursor_Want_l0 = .loop ac_cursors_Cursor_Want_l0 := by kernel_rfl
  rw [e]
  exact subE_ok (m := 0) (f := fun x => iterL (cursors_Cursor_Want_l0 n) n x) (out := out_cursors_Cursor_Want_l0) outK_ok_cursors_Cursor_Want_l0 un_ok_cursors_Cursor_Want_l0 (fun x y hy => loop_ok (Es_ok_cursors_Cursor_Want n) (subs_cursors_Cursor_Want_l0 n) un_ok_cursors_Cursor_Want_l0 ux_ok_cursors_Cursor_Want_l0 (body_cursors_Cursor_Want_l0 n) n x y hy) h
theorem sub_cursors_Cursor_Want_l0 (n : Nat) : SubSt Try.prog 35 (Ls_cursors_Cursor_Want n) 0 sac_cursors_Cursor_Want_l0 := fun α s k z => sub1_cursors_Cursor_Want_l0 n α s k z
theorem subs_cursors_Cursor_Want (n : Nat) : SubOK Try.prog 35 (Ls_cursors_Cursor_Want n) (acOf Try.f34) := SubOK_of _ (by
  have e : subs (acOf Try.f34) = [(0, sac_cursors_Cursor_Want_l0)] := by kernel_rfl
  rw [e]; intro p hp
  simp only [List.mem_cons, List.not_mem_nil, or_false] at hp
  · rw [hp]; exact sub_cursors_Cursor_Want_l0 n
  )
theorem cert_cursors_Cursor_Want (n : Nat) (a0 : List UInt8) (a1 : List UInt8) (a2 : Int) : run Try.prog (Es_cursors_Cursor_Want n) (Ls_cursors_Cursor_Want n) Try.f34.ntmps (acOf Try.f34) ⟨argsT [.p 0 0, .s a0] 0, [(0, .cells [.s a1, .i .i64 a2])], 1, 1, 0, 1⟩ (finK Try.prog Try.f34.results.toList (funX [0] 1 0 1 unr_cursors_Cursor_Want)) = cursors_Cursor_Want n a0 a1 a2 := by kernel_rfl
theorem fun_cursors_Cursor_Want (n : Nat) : ∀ a r, cursors_Cursor_Want n a.1 a.2.1 a.2.2 = some r → FunOK Try.prog 34 (arg_cursors_Cursor_Want a) (H0_cursors_Cursor_Want a) 1 0 1 (out_cursors_Cursor_Want r) := fun a r h => funX_ok (ws := [0]) unr_ok_cursors_Cursor_Want hv_cursors_Cursor_Want (fun r b blk hl => (chkH_look (hc_cursors_Cursor_Want r) b blk hl).2) (fun r => chkH_keys (hc_cursors_Cursor_Want r)) (by decide) (Es_ok_cursors_Cursor_Want n) Try.func34 rfl (acOf_code _) (subs_cursors_Cursor_Want n) rfl rfl ((cert_cursors_Cursor_Want n a.1 a.2.1 a.2.2).trans h)
theorem ok_cursors_Cursor_Want (n : Nat) : EntOK Try.prog (e_cursors_Cursor_Want n) := funE_ok (m := 1) (ro := 0) (rb := 1) (out := out_cursors_Cursor_Want) (arg := arg_cursors_Cursor_Want) (H0 := H0_cursors_Cursor_Want) Try.call34 (by decide) (by decide) outK_ok_cursors_Cursor_Want una_ok_cursors_Cursor_Want (fun _ => rfl) (fun a => chkH_look (m := 1) (H := H0_cursors_Cursor_Want a) rfl) (fun _ => rfl) (fun r => chkH_keys (hc_cursors_Cursor_Want r)) (fun r b blk h => (chkH_look (hc_cursors_Cursor_Want r) b blk h).2) (fun r b h1 h2 => hasKeys_ok (hk_cursors_Cursor_Want r) b h1 (by omega)) hv_cursors_Cursor_Want (fun_cursors_Cursor_Want n)

/-! circa/circalaw12.wants -/
noncomputable def arg_circalaw12_wants (a : List UInt8 × Int) : List V := [.p 0 0]
noncomputable def H0_circalaw12_wants (a : List UInt8 × Int) : List (Nat × Blk) := [(0, .cells [.s a.1, .i .i64 a.2])]
noncomputable def una_circalaw12_wants (l : List V) (H : List (Nat × Blk)) : Option ((List UInt8 × Int) × List Nat) := match l with
  | [.p b0 0] => (match Abs.look H b0 with
    | some (.cells [.s a0, .i .i64 a1]) => (cond (Abs.distinct [b0] && true) (some ((a0, a1), [b0])) none)
    | _ => none)
  | _ => none
theorem una_ok_circalaw12_wants : ∀ l H a ρ, una_circalaw12_wants l H = some (a, ρ) → ρ.length = 1 ∧ ρ.Nodup ∧ l = V.rens ρ (arg_circalaw12_wants a) ∧ ∀ b blk, Abs.look (H0_circalaw12_wants a) b = some blk → Abs.look H (getN ρ b) = some (blk.ren ρ) := by
  intro l H a ρ h
  unfold una_circalaw12_wants at h
  split at h
  · split at h
    · rename_i e0
      obtain ⟨hd, h⟩ := cond_some h
      simp only [Bool.and_eq_true] at hd
      obtain ⟨hd, _⟩ := hd
      cases h
      exact ⟨rfl, distinct_ok hd, rfl, eachH_look ⟨e0, trivial⟩⟩
    · cases h
  · cases h
noncomputable def out_circalaw12_wants (r : (List UInt8 × Int) ⊕ (Int × Int × List UInt8 × Int)) : FOut := (Sum.casesOn (motive := fun _ => FOut) r (fun a0 => (⟨false, .tp [], [(0, .cells [.s a0.1, .i .i64 a0.2])], []⟩ : FOut)) (fun b0 => (⟨true, .it 107 (.ag [.i .i64 b0.1, .i .i64 b0.2.1]), [(0, .cells [.s b0.2.2.1, .i .i64 b0.2.2.2])], []⟩ : FOut)))
noncomputable def outK_circalaw12_wants (α : Type) (r : (List UInt8 × Int) ⊕ (Int × Int × List UInt8 × Int)) (k : FOut → Option α) : Option α := (Sum.casesOn (motive := fun _ => Option α) r (fun a0 => (k ⟨false, .tp [], [(0, .cells [.s a0.1, .i .i64 a0.2])], []⟩)) (fun b0 => (k ⟨true, .it 107 (.ag [.i .i64 b0.1, .i .i64 b0.2.1]), [(0, .cells [.s b0.2.2.1, .i .i64 b0.2.2.2])], []⟩)))
theorem outK_ok_circalaw12_wants : ∀ α r k, outK_circalaw12_wants α r k = k (out_circalaw12_wants r) := by
  intro α r k
  rcases r with r | r <;> rfl
noncomputable def unr_circalaw12_wants (pan : Bool) (v : V) (H : List (Nat × Blk)) (nw : List Nat) : Option ((List UInt8 × Int) ⊕ (Int × Int × List UInt8 × Int)) := match pan, v, H, nw with
  | false, .tp [], [(0, .cells [.s r0, .i .i64 r1])], [] => some (.inl (r0, r1))
  | true, .it 107 (.ag [.i .i64 r0, .i .i64 r1]), [(0, .cells [.s r2, .i .i64 r3])], [] => some (.inr (r0, r1, r2, r3))
  | _, _, _, _ => none
theorem unr_ok_circalaw12_wants : ∀ pan v H nw r, unr_circalaw12_wants pan v H nw = some r → (out_circalaw12_wants r).pan = pan ∧ (out_circalaw12_wants r).news = nw ∧ v = V.ren (upTo 0 1 ++ (out_circalaw12_wants r).news) (out_circalaw12_wants r).val ∧ H = renH (upTo 0 1 ++ (out_circalaw12_wants r).news) (out_circalaw12_wants r).H := by
  intro pan v H nw r h
  unfold unr_circalaw12_wants at h
  split at h
  · cases h; exact ⟨rfl, rfl, rfl, rfl⟩
  · cases h; exact ⟨rfl, rfl, rfl, rfl⟩
  · cases h
theorem hv_circalaw12_wants : ∀ r, V.lt (1 + (out_circalaw12_wants r).news.length) (out_circalaw12_wants r).val = true := fun r => (by rcases r with r | r <;> rfl)
theorem hc_circalaw12_wants : ∀ r, chkH (1 + (out_circalaw12_wants r).news.length) (out_circalaw12_wants r).H = true := fun r => (by rcases r with r | r <;> rfl)
theorem hk_circalaw12_wants : ∀ r, hasKeys (out_circalaw12_wants r).H 0 (1 + (out_circalaw12_wants r).news.length) = true := fun r => (by rcases r with r | r <;> rfl)
noncomputable def e_circalaw12_wants (n : Nat) : Ent := funE 75 1 una_circalaw12_wants (fun a => circalaw12_wants n a.1 a.2) outK_circalaw12_wants
noncomputable def t_circalaw12_wants (l : List V) (H : List (Nat × Blk)) : Bool := isS (una_circalaw12_wants l H)
noncomputable def Es_circalaw12_wants (n : Nat) : List Ent := [e_cursors_Cursor_Want n]
theorem Es_ok_circalaw12_wants (n : Nat) : ∀ x ∈ Es_circalaw12_wants n, EntOK Try.prog x := by
  intro x hx
  simp only [Es_circalaw12_wants, List.mem_cons, List.not_mem_nil, or_false] at hx
  · rw [hx]; exact ok_cursors_Cursor_Want n
noncomputable def Ls_circalaw12_wants (_n : Nat) : List Sub := []
theorem subs_circalaw12_wants (n : Nat) : SubOK Try.prog 4 (Ls_circalaw12_wants n) (acOf Try.f75) := SubOK_of _ (by
  have e : subs (acOf Try.f75) = [] := by kernel_rfl
  rw [e]; intro p hp; cases hp)
theorem cert_circalaw12_wants (n : Nat) (a0 : List UInt8) (a1 : Int) : run Try.prog (Es_circalaw12_wants n) (Ls_circalaw12_wants n) Try.f75.ntmps (acOf Try.f75) ⟨argsT [.p 0 0] 0, [(0, .cells [.s a0, .i .i64 a1])], 1, 1, 0, 1⟩ (finK Try.prog Try.f75.results.toList (funX [0] 1 0 1 unr_circalaw12_wants)) = circalaw12_wants n a0 a1 := by kernel_rfl
theorem fun_circalaw12_wants (n : Nat) : ∀ a r, circalaw12_wants n a.1 a.2 = some r → FunOK Try.prog 75 (arg_circalaw12_wants a) (H0_circalaw12_wants a) 1 0 1 (out_circalaw12_wants r) := fun a r h => funX_ok (ws := [0]) unr_ok_circalaw12_wants hv_circalaw12_wants (fun r b blk hl => (chkH_look (hc_circalaw12_wants r) b blk hl).2) (fun r => chkH_keys (hc_circalaw12_wants r)) (by decide) (Es_ok_circalaw12_wants n) Try.func75 rfl (acOf_code _) (subs_circalaw12_wants n) rfl rfl ((cert_circalaw12_wants n a.1 a.2).trans h)
theorem ok_circalaw12_wants (n : Nat) : EntOK Try.prog (e_circalaw12_wants n) := funE_ok (m := 1) (ro := 0) (rb := 1) (out := out_circalaw12_wants) (arg := arg_circalaw12_wants) (H0 := H0_circalaw12_wants) Try.call75 (by decide) (by decide) outK_ok_circalaw12_wants una_ok_circalaw12_wants (fun _ => rfl) (fun a => chkH_look (m := 1) (H := H0_circalaw12_wants a) rfl) (fun _ => rfl) (fun r => chkH_keys (hc_circalaw12_wants r)) (fun r b blk h => (chkH_look (hc_circalaw12_wants r) b blk h).2) (fun r b h1 h2 => hasKeys_ok (hk_circalaw12_wants r) b h1 (by omega)) hv_circalaw12_wants (fun_circalaw12_wants n)

/-! circa/cursors.Run -/
noncomputable def arg_cursors_Run_v3 (a : List UInt8) : List V := [.s a, .fn 75 []]
noncomputable def H0_cursors_Run_v3 (a : List UInt8) : List (Nat × Blk) := []
noncomputable def una_cursors_Run_v3 (l : List V) (H : List (Nat × Blk)) : Option ((List UInt8) × List Nat) := match l with
  | [.s a0, .fn 75 []] => (cond (Abs.distinct [] && true) (some (a0, [])) none)
  | _ => none
theorem una_ok_cursors_Run_v3 : ∀ l H a ρ, una_cursors_Run_v3 l H = some (a, ρ) → ρ.length = 0 ∧ ρ.Nodup ∧ l = V.rens ρ (arg_cursors_Run_v3 a) ∧ ∀ b blk, Abs.look (H0_cursors_Run_v3 a) b = some blk → Abs.look H (getN ρ b) = some (blk.ren ρ) := by
  intro l H a ρ h
  unfold una_cursors_Run_v3 at h
  split at h
  · obtain ⟨hd, h⟩ := cond_some h
    simp only [Bool.and_eq_true] at hd
    obtain ⟨hd, _⟩ := hd
    cases h
    exact ⟨rfl, distinct_ok hd, rfl, eachH_look trivial⟩
  · cases h
noncomputable def out_cursors_Run_v3 (r : (Int × Int)) : FOut := (⟨false, .tp [.i .i64 r.1, .i .i64 r.2], [], []⟩ : FOut)
noncomputable def outK_cursors_Run_v3 (α : Type) (r : (Int × Int)) (k : FOut → Option α) : Option α := (k ⟨false, .tp [.i .i64 r.1, .i .i64 r.2], [], []⟩)
theorem outK_ok_cursors_Run_v3 : ∀ α r k, outK_cursors_Run_v3 α r k = k (out_cursors_Run_v3 r) := by
  intro α r k
  rfl
noncomputable def unr_cursors_Run_v3 (pan : Bool) (v : V) (H : List (Nat × Blk)) (nw : List Nat) : Option ((Int × Int)) := match pan, v, H, nw with
  | false, .tp [.i .i64 r0, .i .i64 r1], [], [] => some (r0, r1)
  | _, _, _, _ => none
theorem unr_ok_cursors_Run_v3 : ∀ pan v H nw r, unr_cursors_Run_v3 pan v H nw = some r → (out_cursors_Run_v3 r).pan = pan ∧ (out_cursors_Run_v3 r).news = nw ∧ v = V.ren (upTo 0 0 ++ (out_cursors_Run_v3 r).news) (out_cursors_Run_v3 r).val ∧ H = renH (upTo 0 0 ++ (out_cursors_Run_v3 r).news) (out_cursors_Run_v3 r).H := by
  intro pan v H nw r h
  unfold unr_cursors_Run_v3 at h
  split at h
  · cases h; exact ⟨rfl, rfl, rfl, rfl⟩
  · cases h
theorem hv_cursors_Run_v3 : ∀ r, V.lt (0 + (out_cursors_Run_v3 r).news.length) (out_cursors_Run_v3 r).val = true := fun r => (by rfl)
theorem hc_cursors_Run_v3 : ∀ r, chkH (0 + (out_cursors_Run_v3 r).news.length) (out_cursors_Run_v3 r).H = true := fun r => (by rfl)
theorem hk_cursors_Run_v3 : ∀ r, hasKeys (out_cursors_Run_v3 r).H 0 (0 + (out_cursors_Run_v3 r).news.length) = true := fun r => (by rfl)
noncomputable def e_cursors_Run_v3 (n : Nat) : Ent := funE 30 0 una_cursors_Run_v3 (fun a => cursors_Run_v3 n a) outK_cursors_Run_v3
noncomputable def t_cursors_Run_v3 (l : List V) (H : List (Nat × Blk)) : Bool := isS (una_cursors_Run_v3 l H)
noncomputable def Es_cursors_Run_v3 (n : Nat) : List Ent := [e_circalaw12_wants n]
theorem Es_ok_cursors_Run_v3 (n : Nat) : ∀ x ∈ Es_cursors_Run_v3 n, EntOK Try.prog x := by
  intro x hx
  simp only [Es_cursors_Run_v3, List.mem_cons, List.not_mem_nil, or_false] at hx
  · rw [hx]; exact ok_circalaw12_wants n
noncomputable def Ls_cursors_Run_v3 (_n : Nat) : List Sub := []
theorem subs_cursors_Run_v3 (n : Nat) : SubOK Try.prog 27 (Ls_cursors_Run_v3 n) (acOf Try.f30) := SubOK_of _ (by
  have e : subs (acOf Try.f30) = [] := by kernel_rfl
  rw [e]; intro p hp; cases hp)
theorem cert_cursors_Run_v3 (n : Nat) (a0 : List UInt8) : runDf Try.prog (Es_cursors_Run_v3 n) (Ls_cursors_Run_v3 n) Try.f30.ntmps (spineL 2 (acOf Try.f30)) (getO (regOps (spineR 2 (acOf Try.f30))) 0) (.tmp 9) 79 (spineR 3 (acOf Try.f30)) [] [] Try.f79.ntmps (spineR 1 (acOf Try.f79)) 5 Try.f30.results.toList (funX [] 0 0 0 unr_cursors_Run_v3) ⟨argsT [.s a0, .fn 75 []] 0, [], 0, 0, 0, 0⟩ = cursors_Run_v3 n a0 := by kernel_rfl
theorem subsC_cursors_Run_v3 : SubOK Try.prog Try.f79.ntmps [] (acOf Try.f79) := SubOK_of _ (by
  have e : subs (acOf Try.f79) = [] := by kernel_rfl
  rw [e]; intro p hp; cases hp)
theorem fun_cursors_Run_v3 (n : Nat) : ∀ a r, cursors_Run_v3 n a = some r → FunOK Try.prog 30 (arg_cursors_Run_v3 a) (H0_cursors_Run_v3 a) 0 0 0 (out_cursors_Run_v3 r) := fun a r h => funX_of (ws := []) unr_ok_cursors_Run_v3 hv_cursors_Run_v3 (fun r b blk hl => (chkH_look (hc_cursors_Run_v3 r) b blk hl).2) (fun r => chkH_keys (hc_cursors_Run_v3 r)) (by decide) rfl (funcD2_ok (Es_ok_cursors_Run_v3 n) (k := 2) (idD := 3) (o1 := (getO (regOps (spineR 2 (acOf Try.f30))) 0)) (oD := (getO (regOps (spineR 2 (acOf Try.f30))) 1)) (acB := (spineR 3 (acOf Try.f30))) (idR := 0) (oR := (getO (regOps (acOf Try.f79)) 0)) Try.func30 rfl (acOf_code _) (by kernel_rfl) (subs_cursors_Run_v3 n) (by kernel_rfl) (by kernel_rfl) (by kernel_rfl) (by kernel_rfl) (EC := []) (fun x hx => by cases hx) Try.func79 rfl (acOf_code _) (by kernel_rfl) (by kernel_rfl) (by kernel_rfl) (by kernel_rfl) (by kernel_rfl) subsC_cursors_Run_v3 Try.call79 rfl ((cert_cursors_Run_v3 n a).trans h))
theorem ok_cursors_Run_v3 (n : Nat) : EntOK Try.prog (e_cursors_Run_v3 n) := funE_ok (m := 0) (ro := 0) (rb := 0) (out := out_cursors_Run_v3) (arg := arg_cursors_Run_v3) (H0 := H0_cursors_Run_v3) Try.call30 (by decide) (by decide) outK_ok_cursors_Run_v3 una_ok_cursors_Run_v3 (fun _ => rfl) (fun a => chkH_look (m := 0) (H := H0_cursors_Run_v3 a) rfl) (fun _ => rfl) (fun r => chkH_keys (hc_cursors_Run_v3 r)) (fun r b blk h => (chkH_look (hc_cursors_Run_v3 r) b blk h).2) (fun r b h1 h2 => hasKeys_ok (hk_cursors_Run_v3 r) b h1 (by omega)) hv_cursors_Run_v3 (fun_cursors_Run_v3 n)

/-! (*circa/cursors.Cursor).One -/
noncomputable def arg_cursors_Cursor_One (a : List UInt8 × List UInt8 × Int) : List V := [.p 0 0, .s a.1]
noncomputable def H0_cursors_Cursor_One (a : List UInt8 × List UInt8 × Int) : List (Nat × Blk) := [(0, .cells [.s a.2.1, .i .i64 a.2.2])]
noncomputable def una_cursors_Cursor_One (l : List V) (H : List (Nat × Blk)) : Option ((List UInt8 × List UInt8 × Int) × List Nat) := match l with
  | [.p b0 0, .s a0] => (match Abs.look H b0 with
    | some (.cells [.s a1, .i .i64 a2]) => (cond (Abs.distinct [b0] && true) (some ((a0, a1, a2), [b0])) none)
    | _ => none)
  | _ => none
theorem una_ok_cursors_Cursor_One : ∀ l H a ρ, una_cursors_Cursor_One l H = some (a, ρ) → ρ.length = 1 ∧ ρ.Nodup ∧ l = V.rens ρ (arg_cursors_Cursor_One a) ∧ ∀ b blk, Abs.look (H0_cursors_Cursor_One a) b = some blk → Abs.look H (getN ρ b) = some (blk.ren ρ) := by
  intro l H a ρ h
  unfold una_cursors_Cursor_One at h
  split at h
  · split at h
    · rename_i e0
      obtain ⟨hd, h⟩ := cond_some h
      simp only [Bool.and_eq_true] at hd
      obtain ⟨hd, _⟩ := hd
      cases h
      exact ⟨rfl, distinct_ok hd, rfl, eachH_look ⟨e0, trivial⟩⟩
    · cases h
  · cases h
noncomputable def out_cursors_Cursor_One (r : (Int × Int × List UInt8 × Int) ⊕ (Int × List UInt8 × Int)) : FOut := (Sum.casesOn (motive := fun _ => FOut) r (fun a0 => (⟨true, .it 107 (.ag [.i .i64 a0.1, .i .i64 a0.2.1]), [(0, .cells [.s a0.2.2.1, .i .i64 a0.2.2.2])], []⟩ : FOut)) (fun b0 => (⟨false, .i .u8 b0.1, [(0, .cells [.s b0.2.1, .i .i64 b0.2.2])], []⟩ : FOut)))
noncomputable def outK_cursors_Cursor_One (α : Type) (r : (Int × Int × List UInt8 × Int) ⊕ (Int × List UInt8 × Int)) (k : FOut → Option α) : Option α := (Sum.casesOn (motive := fun _ => Option α) r (fun a0 => (k ⟨true, .it 107 (.ag [.i .i64 a0.1, .i .i64 a0.2.1]), [(0, .cells [.s a0.2.2.1, .i .i64 a0.2.2.2])], []⟩)) (fun b0 => (k ⟨false, .i .u8 b0.1, [(0, .cells [.s b0.2.1, .i .i64 b0.2.2])], []⟩)))
theorem outK_ok_cursors_Cursor_One : ∀ α r k, outK_cursors_Cursor_One α r k = k (out_cursors_Cursor_One r) := by
  intro α r k
  rcases r with r | r <;> rfl
noncomputable def unr_cursors_Cursor_One (pan : Bool) (v : V) (H : List (Nat × Blk)) (nw : List Nat) : Option ((Int × Int × List UInt8 × Int) ⊕ (Int × List UInt8 × Int)) := match pan, v, H, nw with
  | true, .it 107 (.ag [.i .i64 r0, .i .i64 r1]), [(0, .cells [.s r2, .i .i64 r3])], [] => some (.inl (r0, r1, r2, r3))
  | false, .i .u8 r0, [(0, .cells [.s r1, .i .i64 r2])], [] => some (.inr (r0, r1, r2))
  | _, _, _, _ => none
theorem unr_ok_cursors_Cursor_One : ∀ pan v H nw r, unr_cursors_Cursor_One pan v H nw = some r → (out_cursors_Cursor_One r).pan = pan ∧ (out_cursors_Cursor_One r).news = nw ∧ v = V.ren (upTo 0 1 ++ (out_cursors_Cursor_One r).news) (out_cursors_Cursor_One r).val ∧ H = renH (upTo 0 1 ++ (out_cursors_Cursor_One r).news) (out_cursors_Cursor_One r).H := by
  intro pan v H nw r h
  unfold unr_cursors_Cursor_One at h
  split at h
  · cases h; exact ⟨rfl, rfl, rfl, rfl⟩
  · cases h; exact ⟨rfl, rfl, rfl, rfl⟩
  · cases h
theorem hv_cursors_Cursor_One : ∀ r, V.lt (1 + (out_cursors_Cursor_One r).news.length) (out_cursors_Cursor_One r).val = true := fun r => (by rcases r with r | r <;> rfl)
theorem hc_cursors_Cursor_One : ∀ r, chkH (1 + (out_cursors_Cursor_One r).news.length) (out_cursors_Cursor_One r).H = true := fun r => (by rcases r with r | r <;> rfl)
theorem hk_cursors_Cursor_One : ∀ r, hasKeys (out_cursors_Cursor_One r).H 0 (1 + (out_cursors_Cursor_One r).news.length) = true := fun r => (by rcases r with r | r <;> rfl)
noncomputable def e_cursors_Cursor_One (n : Nat) : Ent := funE 40 1 una_cursors_Cursor_One (fun a => cursors_Cursor_One n a.1 a.2.1 a.2.2) outK_cursors_Cursor_One
noncomputable def t_cursors_Cursor_One (l : List V) (H : List (Nat × Blk)) : Bool := isS (una_cursors_Cursor_One l H)
noncomputable def Es_cursors_Cursor_One (n : Nat) : List Ent := [e_cursors_Cursor_Peek n, e_cursors_Cursor_At n, e_cursors_Cursor_Fail n, e_strings_IndexByte n]
theorem Es_ok_cursors_Cursor_One (n : Nat) : ∀ x ∈ Es_cursors_Cursor_One n, EntOK Try.prog x := by
  intro x hx
  simp only [Es_cursors_Cursor_One, List.mem_cons, List.not_mem_nil, or_false] at hx
  rcases hx with hx | hx | hx | hx
  · rw [hx]; exact ok_cursors_Cursor_Peek n
  · rw [hx]; exact ok_cursors_Cursor_At n
  · rw [hx]; exact ok_cursors_Cursor_Fail n
  · rw [hx]; exact ok_strings_IndexByte n
noncomputable def Ls_cursors_Cursor_One (_n : Nat) : List Sub := []
theorem subs_cursors_Cursor_One (n : Nat) : SubOK Try.prog 32 (Ls_cursors_Cursor_One n) (acOf Try.f40) := SubOK_of _ (by
  have e : subs (acOf Try.f40) = [] := by kernel_rfl
  rw [e]; intro p hp; cases hp)
theorem cert_cursors_Cursor_One (n : Nat) (a0 : List UInt8) (a1 : List UInt8) (a2 : Int) : run Try.prog (Es_cursors_Cursor_One n) (Ls_cursors_Cursor_One n) Try.f40.ntmps (acOf Try.f40) ⟨argsT [.p 0 0, .s a0] 0, [(0, .cells [.s a1, .i .i64 a2])], 1, 1, 0, 1⟩ (finK Try.prog Try.f40.results.toList (funX [0] 1 0 1 unr_cursors_Cursor_One)) = cursors_Cursor_One n a0 a1 a2 := by kernel_rfl
theorem fun_cursors_Cursor_One (n : Nat) : ∀ a r, cursors_Cursor_One n a.1 a.2.1 a.2.2 = some r → FunOK Try.prog 40 (arg_cursors_Cursor_One a) (H0_cursors_Cursor_One a) 1 0 1 (out_cursors_Cursor_One r) := fun a r h => funX_ok (ws := [0]) unr_ok_cursors_Cursor_One hv_cursors_Cursor_One (fun r b blk hl => (chkH_look (hc_cursors_Cursor_One r) b blk hl).2) (fun r => chkH_keys (hc_cursors_Cursor_One r)) (by decide) (Es_ok_cursors_Cursor_One n) Try.func40 rfl (acOf_code _) (subs_cursors_Cursor_One n) rfl rfl ((cert_cursors_Cursor_One n a.1 a.2.1 a.2.2).trans h)
theorem ok_cursors_Cursor_One (n : Nat) : EntOK Try.prog (e_cursors_Cursor_One n) := funE_ok (m := 1) (ro := 0) (rb := 1) (out := out_cursors_Cursor_One) (arg := arg_cursors_Cursor_One) (H0 := H0_cursors_Cursor_One) Try.call40 (by decide) (by decide) outK_ok_cursors_Cursor_One una_ok_cursors_Cursor_One (fun _ => rfl) (fun a => chkH_look (m := 1) (H := H0_cursors_Cursor_One a) rfl) (fun _ => rfl) (fun r => chkH_keys (hc_cursors_Cursor_One r)) (fun r b blk h => (chkH_look (hc_cursors_Cursor_One r) b blk h).2) (fun r b h1 h2 => hasKeys_ok (hk_cursors_Cursor_One r) b h1 (by omega)) hv_cursors_Cursor_One (fun_cursors_Cursor_One n)

/-! circa/circalaw12.letters -/
noncomputable def arg_circalaw12_letters (a : List UInt8 × Int) : List V := [.p 0 0]
noncomputable def H0_circalaw12_letters (a : List UInt8 × Int) : List (Nat × Blk) := [(0, .cells [.s a.1, .i .i64 a.2])]
noncomputable def una_circalaw12_letters (l : List V) (H : List (Nat × Blk)) : Option ((List UInt8 × Int) × List Nat) := match l with
  | [.p b0 0] => (match Abs.look H b0 with
    | some (.cells [.s a0, .i .i64 a1]) => (cond (Abs.distinct [b0] && true) (some ((a0, a1), [b0])) none)
    | _ => none)
  | _ => none
theorem una_ok_circalaw12_letters : ∀ l H a ρ, una_circalaw12_letters l H = some (a, ρ) → ρ.length = 1 ∧ ρ.Nodup ∧ l = V.rens ρ (arg_circalaw12_letters a) ∧ ∀ b blk, Abs.look (H0_circalaw12_letters a) b = some blk → Abs.look H (getN ρ b) = some (blk.ren ρ) := by
  intro l H a ρ h
  unfold una_circalaw12_letters at h
  split at h
  · split at h
    · rename_i e0
      obtain ⟨hd, h⟩ := cond_some h
      simp only [Bool.and_eq_true] at hd
      obtain ⟨hd, _⟩ := hd
      cases h
      exact ⟨rfl, distinct_ok hd, rfl, eachH_look ⟨e0, trivial⟩⟩
    · cases h
  · cases h
noncomputable def out_circalaw12_letters (r : (Int × Int × List UInt8 × Int) ⊕ (List UInt8 × Int)) : FOut := (Sum.casesOn (motive := fun _ => FOut) r (fun a0 => (⟨true, .it 107 (.ag [.i .i64 a0.1, .i .i64 a0.2.1]), [(0, .cells [.s a0.2.2.1, .i .i64 a0.2.2.2])], []⟩ : FOut)) (fun b0 => (⟨false, .tp [], [(0, .cells [.s b0.1, .i .i64 b0.2])], []⟩ : FOut)))
noncomputable def outK_circalaw12_letters (α : Type) (r : (Int × Int × List UInt8 × Int) ⊕ (List UInt8 × Int)) (k : FOut → Option α) : Option α := (Sum.casesOn (motive := fun _ => Option α) r (fun a0 => (k ⟨true, .it 107 (.ag [.i .i64 a0.1, .i .i64 a0.2.1]), [(0, .cells [.s a0.2.2.1, .i .i64 a0.2.2.2])], []⟩)) (fun b0 => (k ⟨false, .tp [], [(0, .cells [.s b0.1, .i .i64 b0.2])], []⟩)))
theorem outK_ok_circalaw12_letters : ∀ α r k, outK_circalaw12_letters α r k = k (out_circalaw12_letters r) := by
  intro α r k
  rcases r with r | r <;> rfl
noncomputable def unr_circalaw12_letters (pan : Bool) (v : V) (H : List (Nat × Blk)) (nw : List Nat) : Option ((Int × Int × List UInt8 × Int) ⊕ (List UInt8 × Int)) := match pan, v, H, nw with
  | true, .it 107 (.ag [.i .i64 r0, .i .i64 r1]), [(0, .cells [.s r2, .i .i64 r3])], [] => some (.inl (r0, r1, r2, r3))
  | false, .tp [], [(0, .cells [.s r0, .i .i64 r1])], [] => some (.inr (r0, r1))
  | _, _, _, _ => none
theorem unr_ok_circalaw12_letters : ∀ pan v H nw r, unr_circalaw12_letters pan v H nw = some r → (out_circalaw12_letters r).pan = pan ∧ (out_circalaw12_letters r).news = nw ∧ v = V.ren (upTo 0 1 ++ (out_circalaw12_letters r).news) (out_circalaw12_letters r).val ∧ H = renH (upTo 0 1 ++ (out_circalaw12_letters r).news) (out_circalaw12_letters r).H := by
  intro pan v H nw r h
  unfold unr_circalaw12_letters at h
  split at h
  · cases h; exact ⟨rfl, rfl, rfl, rfl⟩
  · cases h; exact ⟨rfl, rfl, rfl, rfl⟩
  · cases h
theorem hv_circalaw12_letters : ∀ r, V.lt (1 + (out_circalaw12_letters r).news.length) (out_circalaw12_letters r).val = true := fun r => (by rcases r with r | r <;> rfl)
theorem hc_circalaw12_letters : ∀ r, chkH (1 + (out_circalaw12_letters r).news.length) (out_circalaw12_letters r).H = true := fun r => (by rcases r with r | r <;> rfl)
theorem hk_circalaw12_letters : ∀ r, hasKeys (out_circalaw12_letters r).H 0 (1 + (out_circalaw12_letters r).news.length) = true := fun r => (by rcases r with r | r <;> rfl)
noncomputable def e_circalaw12_letters (n : Nat) : Ent := funE 76 1 una_circalaw12_letters (fun a => circalaw12_letters n a.1 a.2) outK_circalaw12_letters
noncomputable def t_circalaw12_letters (l : List V) (H : List (Nat × Blk)) : Bool := isS (una_circalaw12_letters l H)
noncomputable def Es_circalaw12_letters (n : Nat) : List Ent := [e_cursors_Cursor_One n]
theorem Es_ok_circalaw12_letters (n : Nat) : ∀ x ∈ Es_circalaw12_letters n, EntOK Try.prog x := by
  intro x hx
  simp only [Es_circalaw12_letters, List.mem_cons, List.not_mem_nil, or_false] at hx
  · rw [hx]; exact ok_cursors_Cursor_One n
noncomputable def Ls_circalaw12_letters (_n : Nat) : List Sub := []
theorem subs_circalaw12_letters (n : Nat) : SubOK Try.prog 8 (Ls_circalaw12_letters n) (acOf Try.f76) := SubOK_of _ (by
  have e : subs (acOf Try.f76) = [] := by kernel_rfl
  rw [e]; intro p hp; cases hp)
theorem cert_circalaw12_letters (n : Nat) (a0 : List UInt8) (a1 : Int) : run Try.prog (Es_circalaw12_letters n) (Ls_circalaw12_letters n) Try.f76.ntmps (acOf Try.f76) ⟨argsT [.p 0 0] 0, [(0, .cells [.s a0, .i .i64 a1])], 1, 1, 0, 1⟩ (finK Try.prog Try.f76.results.toList (funX [0] 1 0 1 unr_circalaw12_letters)) = circalaw12_letters n a0 a1 := by kernel_rfl
theorem fun_circalaw12_letters (n : Nat) : ∀ a r, circalaw12_letters n a.1 a.2 = some r → FunOK Try.prog 76 (arg_circalaw12_letters a) (H0_circalaw12_letters a) 1 0 1 (out_circalaw12_letters r) := fun a r h => funX_ok (ws := [0]) unr_ok_circalaw12_letters hv_circalaw12_letters (fun r b blk hl => (chkH_look (hc_circalaw12_letters r) b blk hl).2) (fun r => chkH_keys (hc_circalaw12_letters r)) (by decide) (Es_ok_circalaw12_letters n) Try.func76 rfl (acOf_code _) (subs_circalaw12_letters n) rfl rfl ((cert_circalaw12_letters n a.1 a.2).trans h)
theorem ok_circalaw12_letters (n : Nat) : EntOK Try.prog (e_circalaw12_letters n) := funE_ok (m := 1) (ro := 0) (rb := 1) (out := out_circalaw12_letters) (arg := arg_circalaw12_letters) (H0 := H0_circalaw12_letters) Try.call76 (by decide) (by decide) outK_ok_circalaw12_letters una_ok_circalaw12_letters (fun _ => rfl) (fun a => chkH_look (m := 1) (H := H0_circalaw12_letters a) rfl) (fun _ => rfl) (fun r => chkH_keys (hc_circalaw12_letters r)) (fun r b blk h => (chkH_look (hc_circalaw12_letters r) b blk h).2) (fun r b h1 h2 => hasKeys_ok (hk_circalaw12_letters r) b h1 (by omega)) hv_circalaw12_letters (fun_circalaw12_letters n)

/-! circa/cursors.Run -/
noncomputable def arg_cursors_Run_v4 (a : List UInt8) : List V := [.s a, .fn 76 []]
noncomputable def H0_cursors_Run_v4 (a : List UInt8) : List (Nat × Blk) := []
noncomputable def una_cursors_Run_v4 (l : List V) (H : List (Nat × Blk)) : Option ((List UInt8) × List Nat) := match l with
  | [.s a0, .fn 76 []] => (cond (Abs.distinct [] && true) (some (a0, [])) none)
  | _ => none
theorem una_ok_cursors_Run_v4 : ∀ l H a ρ, una_cursors_Run_v4 l H = some (a, ρ) → ρ.length = 0 ∧ ρ.Nodup ∧ l = V.rens ρ (arg_cursors_Run_v4 a) ∧ ∀ b blk, Abs.look (H0_cursors_Run_v4 a) b = some blk → Abs.look H (getN ρ b) = some (blk.ren ρ) := by
  intro l H a ρ h
  unfold una_cursors_Run_v4 at h
  split at h
  · obtain ⟨hd, h⟩ := cond_some h
    simp only [Bool.and_eq_true] at hd
    obtain ⟨hd, _⟩ := hd
    cases h
    exact ⟨rfl, distinct_ok hd, rfl, eachH_look trivial⟩
  · cases h
noncomputable def out_cursors_Run_v4 (r : (Int × Int)) : FOut := (⟨false, .tp [.i .i64 r.1, .i .i64 r.2], [], []⟩ : FOut)
noncomputable def outK_cursors_Run_v4 (α : Type) (r : (Int × Int)) (k : FOut → Option α) : Option α := (k ⟨false, .tp [.i .i64 r.1, .i .i64 r.2], [], []⟩)
theorem outK_ok_cursors_Run_v4 : ∀ α r k, outK_cursors_Run_v4 α r k = k (out_cursors_Run_v4 r) := by
  intro α r k
  rfl
noncomputable def unr_cursors_Run_v4 (pan : Bool) (v : V) (H : List (Nat × Blk)) (nw : List Nat) : Option ((Int × Int)) := match pan, v, H, nw with
  | false, .tp [.i .i64 r0, .i .i64 r1], [], [] => some (r0, r1)
  | _, _, _, _ => none
theorem unr_ok_cursors_Run_v4 : ∀ pan v H nw r, unr_cursors_Run_v4 pan v H nw = some r → (out_cursors_Run_v4 r).pan = pan ∧ (out_cursors_Run_v4 r).news = nw ∧ v = V.ren (upTo 0 0 ++ (out_cursors_Run_v4 r).news) (out_cursors_Run_v4 r).val ∧ H = renH (upTo 0 0 ++ (out_cursors_Run_v4 r).news) (out_cursors_Run_v4 r).H := by
  intro pan v H nw r h
  unfold unr_cursors_Run_v4 at h
  split at h
  · cases h; exact ⟨rfl, rfl, rfl, rfl⟩
  · cases h
theorem hv_cursors_Run_v4 : ∀ r, V.lt (0 + (out_cursors_Run_v4 r).news.length) (out_cursors_Run_v4 r).val = true := fun r => (by rfl)
theorem hc_cursors_Run_v4 : ∀ r, chkH (0 + (out_cursors_Run_v4 r).news.length) (out_cursors_Run_v4 r).H = true := fun r => (by rfl)
theorem hk_cursors_Run_v4 : ∀ r, hasKeys (out_cursors_Run_v4 r).H 0 (0 + (out_cursors_Run_v4 r).news.length) = true := fun r => (by rfl)
noncomputable def e_cursors_Run_v4 (n : Nat) : Ent := funE 30 0 una_cursors_Run_v4 (fun a => cursors_Run_v4 n a) outK_cursors_Run_v4
noncomputable def t_cursors_Run_v4 (l : List V) (H : List (Nat × Blk)) : Bool := isS (una_cursors_Run_v4 l H)
noncomputable def Es_cursors_Run_v4 (n : Nat) : List Ent := [e_circalaw12_letters n]
theorem Es_ok_cursors_Run_v4 (n : Nat) : ∀ x ∈ Es_cursors_Run_v4 n, EntOK Try.prog x := by
  intro x hx
  simp only [Es_cursors_Run_v4, List.mem_cons, List.not_mem_nil, or_false] at hx
  · rw [hx]; exact ok_circalaw12_letters n
noncomputable def Ls_cursors_Run_v4 (_n : Nat) : List Sub := []
theorem subs_cursors_Run_v4 (n : Nat) : SubOK Try.prog 27 (Ls_cursors_Run_v4 n) (acOf Try.f30) := SubOK_of _ (by
  have e : subs (acOf Try.f30) = [] := by kernel_rfl
  rw [e]; intro p hp; cases hp)
theorem cert_cursors_Run_v4 (n : Nat) (a0 : List UInt8) : runDf Try.prog (Es_cursors_Run_v4 n) (Ls_cursors_Run_v4 n) Try.f30.ntmps (spineL 2 (acOf Try.f30)) (getO (regOps (spineR 2 (acOf Try.f30))) 0) (.tmp 9) 79 (spineR 3 (acOf Try.f30)) [] [] Try.f79.ntmps (spineR 1 (acOf Try.f79)) 5 Try.f30.results.toList (funX [] 0 0 0 unr_cursors_Run_v4) ⟨argsT [.s a0, .fn 76 []] 0, [], 0, 0, 0, 0⟩ = cursors_Run_v4 n a0 := by kernel_rfl
theorem subsC_cursors_Run_v4 : SubOK Try.prog Try.f79.ntmps [] (acOf Try.f79) := SubOK_of _ (by
  have e : subs (acOf Try.f79) = [] := by kernel_rfl
  rw [e]; intro p hp; cases hp)
theorem fun_cursors_Run_v4 (n : Nat) : ∀ a r, cursors_Run_v4 n a = some r → FunOK Try.prog 30 (arg_cursors_Run_v4 a) (H0_cursors_Run_v4 a) 0 0 0 (out_cursors_Run_v4 r) := fun a r h => funX_of (ws := []) unr_ok_cursors_Run_v4 hv_cursors_Run_v4 (fun r b blk hl => (chkH_look (hc_cursors_Run_v4 r) b blk hl).2) (fun r => chkH_keys (hc_cursors_Run_v4 r)) (by decide) rfl (funcD2_ok (Es_ok_cursors_Run_v4 n) (k := 2) (idD := 3) (o1 := (getO (regOps (spineR 2 (acOf Try.f30))) 0)) (oD := (getO (regOps (spineR 2 (acOf Try.f30))) 1)) (acB := (spineR 3 (acOf Try.f30))) (idR := 0) (oR := (getO (regOps (acOf Try.f79)) 0)) Try.func30 rfl (acOf_code _) (by kernel_rfl) (subs_cursors_Run_v4 n) (by kernel_rfl) (by kernel_rfl) (by kernel_rfl) (by kernel_rfl) (EC := []) (fun x hx => by cases hx) Try.func79 rfl (acOf_code _) (by kernel_rfl) (by kernel_rfl) (by kernel_rfl) (by kernel_rfl) (by kernel_rfl) subsC_cursors_Run_v4 Try.call79 rfl ((cert_cursors_Run_v4 n a).trans h))
theorem ok_cursors_Run_v4 (n : Nat) : EntOK Try.prog (e_cursors_Run_v4 n) := funE_ok (m := 0) (ro := 0) (rb := 0) (out := out_cursors_Run_v4) (arg := arg_cursors_Run_v4) (H0 := H0_cursors_Run_v4) Try.call30 (by decide) (by decide) outK_ok_cursors_Run_v4 una_ok_cursors_Run_v4 (fun _ => rfl) (fun a => chkH_look (m := 0) (H := H0_cursors_Run_v4 a) rfl) (fun _ => rfl) (fun r => chkH_keys (hc_cursors_Run_v4 r)) (fun r b blk h => (chkH_look (hc_cursors_Run_v4 r) b blk h).2) (fun r b h1 h2 => hasKeys_ok (hk_cursors_Run_v4 r) b h1 (by omega)) hv_cursors_Run_v4 (fun_cursors_Run_v4 n)

/-! circa/circalaw12.nothing -/
noncomputable def arg_circalaw12_nothing (a : List UInt8 × Int) : List V := [.p 0 0]
noncomputable def H0_circalaw12_nothing (a : List UInt8 × Int) : List (Nat × Blk) := [(0, .cells [.s a.1, .i .i64 a.2])]
noncomputable def una_circalaw12_nothing (l : List V) (H : List (Nat × Blk)) : Option ((List UInt8 × Int) × List Nat) := match l with
  | [.p b0 0] => (match Abs.look H b0 with
    | some (.cells [.s a0, .i .i64 a1]) => (cond (Abs.distinct [b0] && true) (some ((a0, a1), [b0])) none)
    | _ => none)
  | _ => none
theorem una_ok_circalaw12_nothing : ∀ l H a ρ, una_circalaw12_nothing l H = some (a, ρ) → ρ.length = 1 ∧ ρ.Nodup ∧ l = V.rens ρ (arg_circalaw12_nothing a) ∧ ∀ b blk, Abs.look (H0_circalaw12_nothing a) b = some blk → Abs.look H (getN ρ b) = some (blk.ren ρ) := by
  intro l H a ρ h
  unfold una_circalaw12_nothing at h
  split at h
  · split at h
    · rename_i e0
      obtain ⟨hd, h⟩ := cond_some h
      simp only [Bool.and_eq_true] at hd
      obtain ⟨hd, _⟩ := hd
      cases h
      exact ⟨rfl, distinct_ok hd, rfl, eachH_look ⟨e0, trivial⟩⟩
    · cases h
  · cases h
noncomputable def out_circalaw12_nothing (r : Unit) : FOut := (⟨false, .tp [], [], []⟩ : FOut)
noncomputable def outK_circalaw12_nothing (α : Type) (r : Unit) (k : FOut → Option α) : Option α := (k ⟨false, .tp [], [], []⟩)
theorem outK_ok_circalaw12_nothing : ∀ α r k, outK_circalaw12_nothing α r k = k (out_circalaw12_nothing r) := by
  intro α r k
  rfl
noncomputable def unr_circalaw12_nothing (pan : Bool) (v : V) (H : List (Nat × Blk)) (nw : List Nat) : Option (Unit) := match pan, v, H, nw with
  | false, .tp [], [], [] => some ()
  | _, _, _, _ => none
theorem unr_ok_circalaw12_nothing : ∀ pan v H nw r, unr_circalaw12_nothing pan v H nw = some r → (out_circalaw12_nothing r).pan = pan ∧ (out_circalaw12_nothing r).news = nw ∧ v = V.ren (upTo 0 1 ++ (out_circalaw12_nothing r).news) (out_circalaw12_nothing r).val ∧ H = renH (upTo 0 1 ++ (out_circalaw12_nothing r).news) (out_circalaw12_nothing r).H := by
  intro pan v H nw r h
  unfold unr_circalaw12_nothing at h
  split at h
  · cases h; exact ⟨rfl, rfl, rfl, rfl⟩
  · cases h
theorem hv_circalaw12_nothing : ∀ r, V.lt (1 + (out_circalaw12_nothing r).news.length) (out_circalaw12_nothing r).val = true := fun r => (by rfl)
theorem hc_circalaw12_nothing : ∀ r, chkH (1 + (out_circalaw12_nothing r).news.length) (out_circalaw12_nothing r).H = true := fun r => (by rfl)
theorem hk_circalaw12_nothing : ∀ r, hasKeys (out_circalaw12_nothing r).H 1 (0 + (out_circalaw12_nothing r).news.length) = true := fun r => (by rfl)
noncomputable def e_circalaw12_nothing (n : Nat) : Ent := funE 77 1 una_circalaw12_nothing (fun a => circalaw12_nothing n a.1 a.2) outK_circalaw12_nothing
noncomputable def t_circalaw12_nothing (l : List V) (H : List (Nat × Blk)) : Bool := isS (una_circalaw12_nothing l H)
noncomputable def Es_circalaw12_nothing (_n : Nat) : List Ent := []
theorem Es_ok_circalaw12_nothing (n : Nat) : ∀ x ∈ Es_circalaw12_nothing n, EntOK Try.prog x := by
  intro x hx
  simp [Es_circalaw12_nothing] at hx
noncomputable def Ls_circalaw12_nothing (_n : Nat) : List Sub := []
theorem subs_circalaw12_nothing (n : Nat) : SubOK Try.prog 2 (Ls_circalaw12_nothing n) (acOf Try.f77) := SubOK_of _ (by
  have e : subs (acOf Try.f77) = [] := by kernel_rfl
  rw [e]; intro p hp; cases hp)
theorem cert_circalaw12_nothing (n : Nat) (a0 : List UInt8) (a1 : Int) : run Try.prog (Es_circalaw12_nothing n) (Ls_circalaw12_nothing n) Try.f77.ntmps (acOf Try.f77) ⟨argsT [.p 0 0] 0, [(0, .cells [.s a0, .i .i64 a1])], 1, 1, 1, 1⟩ (finK Try.prog Try.f77.results.toList (funX [] 1 1 1 unr_circalaw12_nothing)) = circalaw12_nothing n a0 a1 := by kernel_rfl
theorem fun_circalaw12_nothing (n : Nat) : ∀ a r, circalaw12_nothing n a.1 a.2 = some r → FunOK Try.prog 77 (arg_circalaw12_nothing a) (H0_circalaw12_nothing a) 1 1 1 (out_circalaw12_nothing r) := fun a r h => funX_ok (ws := []) unr_ok_circalaw12_nothing hv_circalaw12_nothing (fun r b blk hl => (chkH_look (hc_circalaw12_nothing r) b blk hl).2) (fun r => chkH_keys (hc_circalaw12_nothing r)) (by decide) (Es_ok_circalaw12_nothing n) Try.func77 rfl (acOf_code _) (subs_circalaw12_nothing n) rfl rfl ((cert_circalaw12_nothing n a.1 a.2).trans h)
theorem ok_circalaw12_nothing (n : Nat) : EntOK Try.prog (e_circalaw12_nothing n) := funE_ok (m := 1) (ro := 1) (rb := 1) (out := out_circalaw12_nothing) (arg := arg_circalaw12_nothing) (H0 := H0_circalaw12_nothing) Try.call77 (by decide) (by decide) outK_ok_circalaw12_nothing una_ok_circalaw12_nothing (fun _ => rfl) (fun a => chkH_look (m := 1) (H := H0_circalaw12_nothing a) rfl) (fun _ => rfl) (fun r => chkH_keys (hc_circalaw12_nothing r)) (fun r b blk h => (chkH_look (hc_circalaw12_nothing r) b blk h).2) (fun r b h1 h2 => hasKeys_ok (hk_circalaw12_nothing r) b h1 (by omega)) hv_circalaw12_nothing (fun_circalaw12_nothing n)

/-! circa/cursors.Run -/
noncomputable def arg_cursors_Run_v5 (a : List UInt8) : List V := [.s a, .fn 77 []]
noncomputable def H0_cursors_Run_v5 (a : List UInt8) : List (Nat × Blk) := []
noncomputable def una_cursors_Run_v5 (l : List V) (H : List (Nat × Blk)) : Option ((List UInt8) × List Nat) := match l with
  | [.s a0, .fn 77 []] => (cond (Abs.distinct [] && true) (some (a0, [])) none)
  | _ => none
theorem una_ok_cursors_Run_v5 : ∀ l H a ρ, una_cursors_Run_v5 l H = some (a, ρ) → ρ.length = 0 ∧ ρ.Nodup ∧ l = V.rens ρ (arg_cursors_Run_v5 a) ∧ ∀ b blk, Abs.look (H0_cursors_Run_v5 a) b = some blk → Abs.look H (getN ρ b) = some (blk.ren ρ) := by
  intro l H a ρ h
  unfold una_cursors_Run_v5 at h
  split at h
  · obtain ⟨hd, h⟩ := cond_some h
    simp only [Bool.and_eq_true] at hd
    obtain ⟨hd, _⟩ := hd
    cases h
    exact ⟨rfl, distinct_ok hd, rfl, eachH_look trivial⟩
  · cases h
noncomputable def out_cursors_Run_v5 (r : (Int × Int)) : FOut := (⟨false, .tp [.i .i64 r.1, .i .i64 r.2], [], []⟩ : FOut)
noncomputable def outK_cursors_Run_v5 (α : Type) (r : (Int × Int)) (k : FOut → Option α) : Option α := (k ⟨false, .tp [.i .i64 r.1, .i .i64 r.2], [], []⟩)
theorem outK_ok_cursors_Run_v5 : ∀ α r k, outK_cursors_Run_v5 α r k = k (out_cursors_Run_v5 r) := by
  intro α r k
  rfl
noncomputable def unr_cursors_Run_v5 (pan : Bool) (v : V) (H : List (Nat × Blk)) (nw : List Nat) : Option ((Int × Int)) := match pan, v, H, nw with
  | false, .tp [.i .i64 r0, .i .i64 r1], [], [] => some (r0, r1)
  | _, _, _, _ => none
theorem unr_ok_cursors_Run_v5 : ∀ pan v H nw r, unr_cursors_Run_v5 pan v H nw = some r → (out_cursors_Run_v5 r).pan = pan ∧ (out_cursors_Run_v5 r).news = nw ∧ v = V.ren (upTo 0 0 ++ (out_cursors_Run_v5 r).news) (out_cursors_Run_v5 r).val ∧ H = renH (upTo 0 0 ++ (out_cursors_Run_v5 r).news) (out_cursors_Run_v5 r).H := by
  intro pan v H nw r h
  unfold unr_cursors_Run_v5 at h
  split at h
  · cases h; exact ⟨rfl, rfl, rfl, rfl⟩
  · cases h
theorem hv_cursors_Run_v5 : ∀ r, V.lt (0 + (out_cursors_Run_v5 r).news.length) (out_cursors_Run_v5 r).val = true := fun r => (by rfl)
theorem hc_cursors_Run_v5 : ∀ r, chkH (0 + (out_cursors_Run_v5 r).news.length) (out_cursors_Run_v5 r).H = true := fun r => (by rfl)
theorem hk_cursors_Run_v5 : ∀ r, hasKeys (out_cursors_Run_v5 r).H 0 (0 + (out_cursors_Run_v5 r).news.length) = true := fun r => (by rfl)
noncomputable def e_cursors_Run_v5 (n : Nat) : Ent := funE 30 0 una_cursors_Run_v5 (fun a => cursors_Run_v5 n a) outK_cursors_Run_v5
noncomputable def t_cursors_Run_v5 (l : List V) (H : List (Nat × Blk)) : Bool := isS (una_cursors_Run_v5 l H)
noncomputable def Es_cursors_Run_v5 (n : Nat) : List Ent := [e_circalaw12_nothing n]
theorem Es_ok_cursors_Run_v5 (n : Nat) : ∀ x ∈ Es_cursors_Run_v5 n, EntOK Try.prog x := by
  intro x hx
  simp only [Es_cursors_Run_v5, List.mem_cons, List.not_mem_nil, or_false] at hx
  · rw [hx]; exact ok_circalaw12_nothing n
noncomputable def Ls_cursors_Run_v5 (_n : Nat) : List Sub := []
theorem subs_cursors_Run_v5 (n : Nat) : SubOK Try.prog 27 (Ls_cursors_Run_v5 n) (acOf Try.f30) := SubOK_of _ (by
  have e : subs (acOf Try.f30) = [] := by kernel_rfl
  rw [e]; intro p hp; cases hp)
theorem cert_cursors_Run_v5 (n : Nat) (a0 : List UInt8) : runDf Try.prog (Es_cursors_Run_v5 n) (Ls_cursors_Run_v5 n) Try.f30.ntmps (spineL 2 (acOf Try.f30)) (getO (regOps (spineR 2 (acOf Try.f30))) 0) (.tmp 9) 79 (spineR 3 (acOf Try.f30)) [] [] Try.f79.ntmps (spineR 1 (acOf Try.f79)) 5 Try.f30.results.toList (funX [] 0 0 0 unr_cursors_Run_v5) ⟨argsT [.s a0, .fn 77 []] 0, [], 0, 0, 0, 0⟩ = cursors_Run_v5 n a0 := by kernel_rfl
theorem subsC_cursors_Run_v5 : SubOK Try.prog Try.f79.ntmps [] (acOf Try.f79) := SubOK_of _ (by
  have e : subs (acOf Try.f79) = [] := by kernel_rfl
  rw [e]; intro p hp; cases hp)
theorem fun_cursors_Run_v5 (n : Nat) : ∀ a r, cursors_Run_v5 n a = some r → FunOK Try.prog 30 (arg_cursors_Run_v5 a) (H0_cursors_Run_v5 a) 0 0 0 (out_cursors_Run_v5 r) := fun a r h => funX_of (ws := []) unr_ok_cursors_Run_v5 hv_cursors_Run_v5 (fun r b blk hl => (chkH_look (hc_cursors_Run_v5 r) b blk hl).2) (fun r => chkH_keys (hc_cursors_Run_v5 r)) (by decide) rfl (funcD2_ok (Es_ok_cursors_Run_v5 n) (k := 2) (idD := 3) (o1 := (getO (regOps (spineR 2 (acOf Try.f30))) 0)) (oD := (getO (regOps (spineR 2 (acOf Try.f30))) 1)) (acB := (spineR 3 (acOf Try.f30))) (idR := 0) (oR := (getO (regOps (acOf Try.f79)) 0)) Try.func30 rfl (acOf_code _) (by kernel_rfl) (subs_cursors_Run_v5 n) (by kernel_rfl) (by kernel_rfl) (by kernel_rfl) (by kernel_rfl) (EC := []) (fun x hx => by cases hx) Try.func79 rfl (acOf_code _) (by kernel_rfl) (by kernel_rfl) (by kernel_rfl) (by kernel_rfl) (by kernel_rfl) subsC_cursors_Run_v5 Try.call79 rfl ((cert_cursors_Run_v5 n a).trans h))
theorem ok_cursors_Run_v5 (n : Nat) : EntOK Try.prog (e_cursors_Run_v5 n) := funE_ok (m := 0) (ro := 0) (rb := 0) (out := out_cursors_Run_v5) (arg := arg_cursors_Run_v5) (H0 := H0_cursors_Run_v5) Try.call30 (by decide) (by decide) outK_ok_cursors_Run_v5 una_ok_cursors_Run_v5 (fun _ => rfl) (fun a => chkH_look (m := 0) (H := H0_cursors_Run_v5 a) rfl) (fun _ => rfl) (fun r => chkH_keys (hc_cursors_Run_v5 r)) (fun r b blk h => (chkH_look (hc_cursors_Run_v5 r) b blk h).2) (fun r b h1 h2 => hasKeys_ok (hk_cursors_Run_v5 r) b h1 (by omega)) hv_cursors_Run_v5 (fun_cursors_Run_v5 n)

/-! circa/circalaw12.fails -/
noncomputable def arg_circalaw12_fails (a : List UInt8 × Int) : List V := [.p 0 0]
noncomputable def H0_circalaw12_fails (a : List UInt8 × Int) : List (Nat × Blk) := [(0, .cells [.s a.1, .i .i64 a.2])]
noncomputable def una_circalaw12_fails (l : List V) (H : List (Nat × Blk)) : Option ((List UInt8 × Int) × List Nat) := match l with
  | [.p b0 0] => (match Abs.look H b0 with
    | some (.cells [.s a0, .i .i64 a1]) => (cond (Abs.distinct [b0] && true) (some ((a0, a1), [b0])) none)
    | _ => none)
  | _ => none
theorem una_ok_circalaw12_fails : ∀ l H a ρ, una_circalaw12_fails l H = some (a, ρ) → ρ.length = 1 ∧ ρ.Nodup ∧ l = V.rens ρ (arg_circalaw12_fails a) ∧ ∀ b blk, Abs.look (H0_circalaw12_fails a) b = some blk → Abs.look H (getN ρ b) = some (blk.ren ρ) := by
  intro l H a ρ h
  unfold una_circalaw12_fails at h
  split at h
  · split at h
    · rename_i e0
      obtain ⟨hd, h⟩ := cond_some h
      simp only [Bool.and_eq_true] at hd
      obtain ⟨hd, _⟩ := hd
      cases h
      exact ⟨rfl, distinct_ok hd, rfl, eachH_look ⟨e0, trivial⟩⟩
    · cases h
  · cases h
noncomputable def out_circalaw12_fails (r : (Int × Int)) : FOut := (⟨true, .it 107 (.ag [.i .i64 r.1, .i .i64 r.2]), [], []⟩ : FOut)
noncomputable def outK_circalaw12_fails (α : Type) (r : (Int × Int)) (k : FOut → Option α) : Option α := (k ⟨true, .it 107 (.ag [.i .i64 r.1, .i .i64 r.2]), [], []⟩)
theorem outK_ok_circalaw12_fails : ∀ α r k, outK_circalaw12_fails α r k = k (out_circalaw12_fails r) := by
  intro α r k
  rfl
noncomputable def unr_circalaw12_fails (pan : Bool) (v : V) (H : List (Nat × Blk)) (nw : List Nat) : Option ((Int × Int)) := match pan, v, H, nw with
  | true, .it 107 (.ag [.i .i64 r0, .i .i64 r1]), [], [] => some (r0, r1)
  | _, _, _, _ => none
theorem unr_ok_circalaw12_fails : ∀ pan v H nw r, unr_circalaw12_fails pan v H nw = some r → (out_circalaw12_fails r).pan = pan ∧ (out_circalaw12_fails r).news = nw ∧ v = V.ren (upTo 0 1 ++ (out_circalaw12_fails r).news) (out_circalaw12_fails r).val ∧ H = renH (upTo 0 1 ++ (out_circalaw12_fails r).news) (out_circalaw12_fails r).H := by
  intro pan v H nw r h
  unfold unr_circalaw12_fails at h
  split at h
  · cases h; exact ⟨rfl, rfl, rfl, rfl⟩
  · cases h
theorem hv_circalaw12_fails : ∀ r, V.lt (1 + (out_circalaw12_fails r).news.length) (out_circalaw12_fails r).val = true := fun r => (by rfl)
theorem hc_circalaw12_fails : ∀ r, chkH (1 + (out_circalaw12_fails r).news.length) (out_circalaw12_fails r).H = true := fun r => (by rfl)
theorem hk_circalaw12_fails : ∀ r, hasKeys (out_circalaw12_fails r).H 1 (0 + (out_circalaw12_fails r).news.length) = true := fun r => (by rfl)
noncomputable def e_circalaw12_fails (n : Nat) : Ent := funE 78 1 una_circalaw12_fails (fun a => circalaw12_fails n a.1 a.2) outK_circalaw12_fails
noncomputable def t_circalaw12_fails (l : List V) (H : List (Nat × Blk)) : Bool := isS (una_circalaw12_fails l H)
noncomputable def Es_circalaw12_fails (n : Nat) : List Ent := [e_cursors_Cursor_Fail n]
theorem Es_ok_circalaw12_fails (n : Nat) : ∀ x ∈ Es_circalaw12_fails n, EntOK Try.prog x := by
  intro x hx
  simp only [Es_circalaw12_fails, List.mem_cons, List.not_mem_nil, or_false] at hx
  · rw [hx]; exact ok_cursors_Cursor_Fail n
noncomputable def Ls_circalaw12_fails (_n : Nat) : List Sub := []
theorem subs_circalaw12_fails (n : Nat) : SubOK Try.prog 4 (Ls_circalaw12_fails n) (acOf Try.f78) := SubOK_of _ (by
  have e : subs (acOf Try.f78) = [] := by kernel_rfl
  rw [e]; intro p hp; cases hp)
theorem cert_circalaw12_fails (n : Nat) (a0 : List UInt8) (a1 : Int) : run Try.prog (Es_circalaw12_fails n) (Ls_circalaw12_fails n) Try.f78.ntmps (acOf Try.f78) ⟨argsT [.p 0 0] 0, [(0, .cells [.s a0, .i .i64 a1])], 1, 1, 1, 1⟩ (finK Try.prog Try.f78.results.toList (funX [] 1 1 1 unr_circalaw12_fails)) = circalaw12_fails n a0 a1 := by kernel_rfl
theorem fun_circalaw12_fails (n : Nat) : ∀ a r, circalaw12_fails n a.1 a.2 = some r → FunOK Try.prog 78 (arg_circalaw12_fails a) (H0_circalaw12_fails a) 1 1 1 (out_circalaw12_fails r) := fun a r h => funX_ok (ws := []) unr_ok_circalaw12_fails hv_circalaw12_fails (fun r b blk hl => (chkH_look (hc_circalaw12_fails r) b blk hl).2) (fun r => chkH_keys (hc_circalaw12_fails r)) (by decide) (Es_ok_circalaw12_fails n) Try.func78 rfl (acOf_code _) (subs_circalaw12_fails n) rfl rfl ((cert_circalaw12_fails n a.1 a.2).trans h)
theorem ok_circalaw12_fails (n : Nat) : EntOK Try.prog (e_circalaw12_fails n) := funE_ok (m := 1) (ro := 1) (rb := 1) (out := out_circalaw12_fails) (arg := arg_circalaw12_fails) (H0 := H0_circalaw12_fails) Try.call78 (by decide) (by decide) outK_ok_circalaw12_fails una_ok_circalaw12_fails (fun _ => rfl) (fun a => chkH_look (m := 1) (H := H0_circalaw12_fails a) rfl) (fun _ => rfl) (fun r => chkH_keys (hc_circalaw12_fails r)) (fun r b blk h => (chkH_look (hc_circalaw12_fails r) b blk h).2) (fun r b h1 h2 => hasKeys_ok (hk_circalaw12_fails r) b h1 (by omega)) hv_circalaw12_fails (fun_circalaw12_fails n)

/-! circa/cursors.Run -/
noncomputable def arg_cursors_Run_v6 (a : List UInt8) : List V := [.s a, .fn 78 []]
noncomputable def H0_cursors_Run_v6 (a : List UInt8) : List (Nat × Blk) := []
noncomputable def una_cursors_Run_v6 (l : List V) (H : List (Nat × Blk)) : Option ((List UInt8) × List Nat) := match l with
  | [.s a0, .fn 78 []] => (cond (Abs.distinct [] && true) (some (a0, [])) none)
  | _ => none
theorem una_ok_cursors_Run_v6 : ∀ l H a ρ, una_cursors_Run_v6 l H = some (a, ρ) → ρ.length = 0 ∧ ρ.Nodup ∧ l = V.rens ρ (arg_cursors_Run_v6 a) ∧ ∀ b blk, Abs.look (H0_cursors_Run_v6 a) b = some blk → Abs.look H (getN ρ b) = some (blk.ren ρ) := by
  intro l H a ρ h
  unfold una_cursors_Run_v6 at h
  split at h
  · obtain ⟨hd, h⟩ := cond_some h
    simp only [Bool.and_eq_true] at hd
    obtain ⟨hd, _⟩ := hd
    cases h
    exact ⟨rfl, distinct_ok hd, rfl, eachH_look trivial⟩
  · cases h
noncomputable def out_cursors_Run_v6 (r : (Int × Int)) : FOut := (⟨false, .tp [.i .i64 r.1, .i .i64 r.2], [], []⟩ : FOut)
noncomputable def outK_cursors_Run_v6 (α : Type) (r : (Int × Int)) (k : FOut → Option α) : Option α := (k ⟨false, .tp [.i .i64 r.1, .i .i64 r.2], [], []⟩)
theorem outK_ok_cursors_Run_v6 : ∀ α r k, outK_cursors_Run_v6 α r k = k (out_cursors_Run_v6 r) := by
  intro α r k
  rfl
noncomputable def unr_cursors_Run_v6 (pan : Bool) (v : V) (H : List (Nat × Blk)) (nw : List Nat) : Option ((Int × Int)) := match pan, v, H, nw with
  | false, .tp [.i .i64 r0, .i .i64 r1], [], [] => some (r0, r1)
  | _, _, _, _ => none
theorem unr_ok_cursors_Run_v6 : ∀ pan v H nw r, unr_cursors_Run_v6 pan v H nw = some r → (out_cursors_Run_v6 r).pan = pan ∧ (out_cursors_Run_v6 r).news = nw ∧ v = V.ren (upTo 0 0 ++ (out_cursors_Run_v6 r).news) (out_cursors_Run_v6 r).val ∧ H = renH (upTo 0 0 ++ (out_cursors_Run_v6 r).news) (out_cursors_Run_v6 r).H := by
  intro pan v H nw r h
  unfold unr_cursors_Run_v6 at h
  split at h
  · cases h; exact ⟨rfl, rfl, rfl, rfl⟩
  · cases h
theorem hv_cursors_Run_v6 : ∀ r, V.lt (0 + (out_cursors_Run_v6 r).news.length) (out_cursors_Run_v6 r).val = true := fun r => (by rfl)
theorem hc_cursors_Run_v6 : ∀ r, chkH (0 + (out_cursors_Run_v6 r).news.length) (out_cursors_Run_v6 r).H = true := fun r => (by rfl)
theorem hk_cursors_Run_v6 : ∀ r, hasKeys (out_cursors_Run_v6 r).H 0 (0 + (out_cursors_Run_v6 r).news.length) = true := fun r => (by rfl)
noncomputable def e_cursors_Run_v6 (n : Nat) : Ent := funE 30 0 una_cursors_Run_v6 (fun a => cursors_Run_v6 n a) outK_cursors_Run_v6
noncomputable def t_cursors_Run_v6 (l : List V) (H : List (Nat × Blk)) : Bool := isS (una_cursors_Run_v6 l H)
noncomputable def Es_cursors_Run_v6 (n : Nat) : List Ent := [e_circalaw12_fails n]
theorem Es_ok_cursors_Run_v6 (n : Nat) : ∀ x ∈ Es_cursors_Run_v6 n, EntOK Try.prog x := by
  intro x hx
  simp only [Es_cursors_Run_v6, List.mem_cons, List.not_mem_nil, or_false] at hx
  · rw [hx]; exact ok_circalaw12_fails n
noncomputable def Ls_cursors_Run_v6 (_n : Nat) : List Sub := []
theorem subs_cursors_Run_v6 (n : Nat) : SubOK Try.prog 27 (Ls_cursors_Run_v6 n) (acOf Try.f30) := SubOK_of _ (by
  have e : subs (acOf Try.f30) = [] := by kernel_rfl
  rw [e]; intro p hp; cases hp)
theorem cert_cursors_Run_v6 (n : Nat) (a0 : List UInt8) : runDf Try.prog (Es_cursors_Run_v6 n) (Ls_cursors_Run_v6 n) Try.f30.ntmps (spineL 2 (acOf Try.f30)) (getO (regOps (spineR 2 (acOf Try.f30))) 0) (.tmp 9) 79 (spineR 3 (acOf Try.f30)) [] [] Try.f79.ntmps (spineR 1 (acOf Try.f79)) 5 Try.f30.results.toList (funX [] 0 0 0 unr_cursors_Run_v6) ⟨argsT [.s a0, .fn 78 []] 0, [], 0, 0, 0, 0⟩ = cursors_Run_v6 n a0 := by kernel_rfl
theorem subsC_cursors_Run_v6 : SubOK Try.prog Try.f79.ntmps [] (acOf Try.f79) := SubOK_of _ (by
  have e : subs (acOf Try.f79) = [] := by kernel_rfl
  rw [e]; intro p hp; cases hp)
theorem fun_cursors_Run_v6 (n : Nat) : ∀ a r, cursors_Run_v6 n a = some r → FunOK Try.prog 30 (arg_cursors_Run_v6 a) (H0_cursors_Run_v6 a) 0 0 0 (out_cursors_Run_v6 r) := fun a r h => funX_of (ws := []) unr_ok_cursors_Run_v6 hv_cursors_Run_v6 (fun r b blk hl => (chkH_look (hc_cursors_Run_v6 r) b blk hl).2) (fun r => chkH_keys (hc_cursors_Run_v6 r)) (by decide) rfl (funcD2_ok (Es_ok_cursors_Run_v6 n) (k := 2) (idD := 3) (o1 := (getO (regOps (spineR 2 (acOf Try.f30))) 0)) (oD := (getO (regOps (spineR 2 (acOf Try.f30))) 1)) (acB := (spineR 3 (acOf Try.f30))) (idR := 0) (oR := (getO (regOps (acOf Try.f79)) 0)) Try.func30 rfl (acOf_code _) (by kernel_rfl) (subs_cursors_Run_v6 n) (by kernel_rfl) (by kernel_rfl) (by kernel_rfl) (by kernel_rfl) (EC := []) (fun x hx => by cases hx) Try.func79 rfl (acOf_code _) (by kernel_rfl) (by kernel_rfl) (by kernel_rfl) (by kernel_rfl) (by kernel_rfl) subsC_cursors_Run_v6 Try.call79 rfl ((cert_cursors_Run_v6 n a).trans h))
theorem ok_cursors_Run_v6 (n : Nat) : EntOK Try.prog (e_cursors_Run_v6 n) := funE_ok (m := 0) (ro := 0) (rb := 0) (out := out_cursors_Run_v6) (arg := arg_cursors_Run_v6) (H0 := H0_cursors_Run_v6) Try.call30 (by decide) (by decide) outK_ok_cursors_Run_v6 una_ok_cursors_Run_v6 (fun _ => rfl) (fun a => chkH_look (m := 0) (H := H0_cursors_Run_v6 a) rfl) (fun _ => rfl) (fun r => chkH_keys (hc_cursors_Run_v6 r)) (fun r b blk h => (chkH_look (hc_cursors_Run_v6 r) b blk h).2) (fun r b h1 h2 => hasKeys_ok (hk_cursors_Run_v6 r) b h1 (by omega)) hv_cursors_Run_v6 (fun_cursors_Run_v6 n)

/-! circa/circalaw12.lives -/
noncomputable def arg_circalaw12_lives (_a : Unit) : List V := []
noncomputable def una_circalaw12_lives (l : List V) : Option (Unit) := match l with
  | [] => some ()
  | _ => none
theorem una_ok_circalaw12_lives : ∀ l a, una_circalaw12_lives l = some a → l = arg_circalaw12_lives a := by
  intro l a h
  unfold una_circalaw12_lives at h
  split at h
  · cases h; rfl
  · cases h
noncomputable def enc_circalaw12_lives (r : Bool) : V := .b r
noncomputable def unr_circalaw12_lives (v : V) : Option (Bool) := match v with
  | .b r0 => some r0
  | _ => none
theorem unr_ok_circalaw12_lives : ∀ v r, unr_circalaw12_lives v = some r → v = enc_circalaw12_lives r := by
  intro v r h
  unfold unr_circalaw12_lives at h
  split at h
  · cases h; rfl
  · cases h
noncomputable def e_circalaw12_lives (n : Nat) : Ent := pureE 29 una_circalaw12_lives (fun _a => circalaw12_lives n) enc_circalaw12_lives
noncomputable def t_circalaw12_lives (l : List V) (_ : List (Nat × Blk)) : Bool := isS (una_circalaw12_lives l)
noncomputable def Es_circalaw12_lives (n : Nat) : List Ent := [altE (e_cursors_Run n) t_cursors_Run (altE (e_cursors_Run_v2 n) t_cursors_Run_v2 (altE (e_cursors_Run_v3 n) t_cursors_Run_v3 (altE (e_cursors_Run_v4 n) t_cursors_Run_v4 (altE (e_cursors_Run_v5 n) t_cursors_Run_v5 (e_cursors_Run_v6 n)))))]
theorem Es_ok_circalaw12_lives (n : Nat) : ∀ x ∈ Es_circalaw12_lives n, EntOK Try.prog x := by
  intro x hx
  simp only [Es_circalaw12_lives, List.mem_cons, List.not_mem_nil, or_false] at hx
  · rw [hx]; exact altE_ok (ok_cursors_Run n) (altE_ok (ok_cursors_Run_v2 n) (altE_ok (ok_cursors_Run_v3 n) (altE_ok (ok_cursors_Run_v4 n) (altE_ok (ok_cursors_Run_v5 n) (ok_cursors_Run_v6 n) rfl) rfl) rfl) rfl) rfl
noncomputable def Ls_circalaw12_lives (_n : Nat) : List Sub := []
theorem subs_circalaw12_lives (n : Nat) : SubOK Try.prog 83 (Ls_circalaw12_lives n) (acOf Try.f29) := SubOK_of _ (by
  have e : subs (acOf Try.f29) = [] := by kernel_rfl
  rw [e]; intro p hp; cases hp)
theorem cert_circalaw12_lives (n : Nat) : run Try.prog (Es_circalaw12_lives n) (Ls_circalaw12_lives n) Try.f29.ntmps (acOf Try.f29) ⟨argsT [] 0, [], 0, 0, 0, 0⟩ (finK Try.prog Try.f29.results.toList (retX unr_circalaw12_lives)) = circalaw12_lives n := by kernel_rfl
theorem pure_circalaw12_lives (n : Nat) : ∀ a r, circalaw12_lives n = some r → PureOK Try.prog 29 (arg_circalaw12_lives a) (enc_circalaw12_lives r) := fun a r h => pureX_ok unr_ok_circalaw12_lives (Es_ok_circalaw12_lives n) Try.func29 rfl (acOf_code _) (subs_circalaw12_lives n) rfl ((cert_circalaw12_lives n).trans h)
theorem ok_circalaw12_lives (n : Nat) : EntOK Try.prog (e_circalaw12_lives n) := pureE_ok Try.call29 una_ok_circalaw12_lives (fun _ => rfl) (pure_circalaw12_lives n)

/-! circa/circaref12.Same -/
noncomputable def arg_circaref12_Same (a : List UInt8 × Int × Int × Int × List UInt8) : List V := [.ag [.s a.1, .i .i64 a.2.1, .i .i64 a.2.2.1, .i .i64 a.2.2.2.1], .s a.2.2.2.2]
noncomputable def una_circaref12_Same (l : List V) : Option (List UInt8 × Int × Int × Int × List UInt8) := match l with
  | [.ag [.s a0, .i .i64 a1, .i .i64 a2, .i .i64 a3], .s a4] => some (a0, a1, a2, a3, a4)
  | _ => none
theorem una_ok_circaref12_Same : ∀ l a, una_circaref12_Same l = some a → l = arg_circaref12_Same a := by
  intro l a h
  unfold una_circaref12_Same at h
  split at h
  · cases h; rfl
  · cases h
noncomputable def enc_circaref12_Same (r : Int) : V := .i .i64 r
noncomputable def unr_circaref12_Same (v : V) : Option (Int) := match v with
  | .i .i64 r0 => some r0
  | _ => none
theorem unr_ok_circaref12_Same : ∀ v r, unr_circaref12_Same v = some r → v = enc_circaref12_Same r := by
  intro v r h
  unfold unr_circaref12_Same at h
  split at h
  · cases h; rfl
  · cases h
noncomputable def e_circaref12_Same (n : Nat) : Ent := pureE 95 una_circaref12_Same (fun a => circaref12_Same n a.1 a.2.1 a.2.2.1 a.2.2.2.1 a.2.2.2.2) enc_circaref12_Same
noncomputable def t_circaref12_Same (l : List V) (_ : List (Nat × Blk)) : Bool := isS (una_circaref12_Same l)
noncomputable def Es_circaref12_Same (_n : Nat) : List Ent := []
theorem Es_ok_circaref12_Same (n : Nat) : ∀ x ∈ Es_circaref12_Same n, EntOK Try.prog x := by
  intro x hx
  simp [Es_circaref12_Same] at hx
noncomputable def an_circaref12_Same_l0 : Ann := ⟨[1, 2, 5], [0], 1, []⟩
noncomputable def emb_circaref12_Same_l0 (x : List UInt8 × Int × List UInt8 × Int × Int × Int) : St := ⟨[(1, some (.s x.1)), (2, some (.p 0 0)), (5, some (.i .i64 x.2.1))], [(0, .cells [.s x.2.2.1, .i .i64 x.2.2.2.1, .i .i64 x.2.2.2.2.1, .i .i64 x.2.2.2.2.2])], 1, 0, 0, 0⟩
noncomputable def un_circaref12_Same_l0 (s : St) : Option (List UInt8 × Int × List UInt8 × Int × Int × Int) := match s with
  | ⟨[(1, some (.s x0)), (2, some (.p 0 0)), (5, some (.i .i64 x1))], [(0, .cells [.s x2, .i .i64 x3, .i .i64 x4, .i .i64 x5])], 1, 0, 0, 0⟩ => some (x0, x1, x2, x3, x4, x5)
  | _ => none
theorem un_ok_circaref12_Same_l0 : ∀ s x, un_circaref12_Same_l0 s = some x → s = emb_circaref12_Same_l0 x := by
  intro s x h
  unfold un_circaref12_Same_l0 at h
  split at h
  · cases h; rfl
  · cases h
noncomputable def ax_circaref12_Same_l0 : Ex → Ann := fun ex => match ex with
  | .exit 0 => ⟨[5], [], 1, []⟩
  | _ => ⟨[], [], 0, []⟩
noncomputable def out_circaref12_Same_l0 (y : Int) : Ex × St := (.exit 0, ⟨[(5, some (.i .i64 y))], [], 1, 0, 0, 0⟩)
noncomputable def outK_circaref12_Same_l0 (α : Type) (y : Int) (k : Ex → St → Option α) : Option α := (k (.exit 0) ⟨[(5, some (.i .i64 y))], [], 1, 0, 0, 0⟩)
theorem outK_ok_circaref12_Same_l0 : ∀ α y k, outK_circaref12_Same_l0 α y k = k (out_circaref12_Same_l0 y).1 (out_circaref12_Same_l0 y).2 := by
  intro α y k
  rfl
noncomputable def ux_circaref12_Same_l0 (ex : Ex) (s : St) : Option (Int) := match ex, s with
  | .exit 0, ⟨[(5, some (.i .i64 y0))], [], 1, 0, 0, 0⟩ => some y0
  | _, _ => none
theorem ux_ok_circaref12_Same_l0 : ∀ ex s y, ux_circaref12_Same_l0 ex s = some y → (ex, s) = out_circaref12_Same_l0 y := by
  intro ex s y h
  unfold ux_circaref12_Same_l0 at h
  split at h
  · cases h; rfl
  · cases h
noncomputable def Ls_circaref12_Same (n : Nat) : List Sub := [subE 0 an_circaref12_Same_l0 un_circaref12_Same_l0 (fun x => iterL (circaref12_Same_l0 n) n x) outK_circaref12_Same_l0]
noncomputable def sac_circaref12_Same_l0 : AC := getS (subs (acOf Try.f95)) 0
noncomputable def ac_circaref12_Same_l0 : AC := AC.body sac_circaref12_Same_l0
theorem subs_circaref12_Same_l0 (n : Nat) : SubOK Try.prog 36 (Ls_circaref12_Same n) ac_circaref12_Same_l0 := SubOK_of _ (by
  have e : subs ac_circaref12_Same_l0 = [] := by kernel_rfl
  rw [e]; intro p hp; cases hp)
theorem body_circaref12_Same_l0 (n : Nat) : ∀ x, run Try.prog (Es_circaref12_Same n) (Ls_circaref12_Same n) 36 ac_circaref12_Same_l0 (emb_circaref12_Same_l0 x) (roundK an_circaref12_Same_l0 un_circaref12_Same_l0 ax_circaref12_Same_l0 ux_circaref12_Same_l0) = circaref12_Same_l0 n x := fun _ => by kernel_rfl
theorem sub1_circaref12_Same_l0 (n : Nat) : ∀ (α : Type) (s : St) (k : Ex → St → Option α) (z : α), (subE 0 an_circaref12_Same_l0 un_circaref12_Same_l0 (fun x => iterL (circaref12_Same_l0 n) n x) outK_circaref12_Same_l0).e α s k = some z → SemC Try.prog 36 (sac_circaref12_Same_l0).code s fun ex s' => k ex s' = some z := by
  intro α s k z h
  have e : sac_circaref12_Same_l0 = .loop ac_circaref12_Same_l0 := by kernel_rfl
  rw [e]
  exact subE_ok (m := 0) (f := fun x => iterL (circaref12_Same_l0 n) n x) (out := out_circaref12_Same_l0) outK_ok_circaref12_Same_l0 un_ok_circaref12_Same_l0 (fun x y hy => loop_ok (Es_ok_circaref12_Same n) (subs_circaref12_Same_l0 n) un_ok_circaref12_Same_l0 ux_ok_circaref12_Same_l0 (body_circaref12_Same_l0 n) n x y hy) h
theorem sub_circaref12_Same_l0 (n : Nat) : SubSt Try.prog 36 (Ls_circaref12_Same n) 0 sac_circaref12_Same_l0 := fun α s k z => sub1_circaref12_Same_l0 n α s k z
theorem subs_circaref12_Same (n : Nat) : SubOK Try.prog 36 (Ls_circaref12_Same n) (acOf Try.f95) := SubOK_of _ (by
  have e : subs (acOf Try.f95) = [(0, sac_circaref12_Same_l0)] := by kernel_rfl
  rw [e]; intro p hp
  simp only [List.mem_cons, List.not_mem_nil, or_false] at hp
  · rw [hp]; exact sub_circaref12_Same_l0 n
  )
theorem cert_circaref12_Same (n : Nat) (a0 : List UInt8) (a1 : Int) (a2 : Int) (a3 : Int) (a4 : List UInt8) : run Try.prog (Es_circaref12_Same n) (Ls_circaref12_Same n) Try.f95.ntmps (acOf Try.f95) ⟨argsT [.ag [.s a0, .i .i64 a1, .i .i64 a2, .i .i64 a3], .s a4] 0, [], 0, 0, 0, 0⟩ (finK Try.prog Try.f95.results.toList (retX unr_circaref12_Same)) = circaref12_Same n a0 a1 a2 a3 a4 := by kernel_rfl
theorem pure_circaref12_Same (n : Nat) : ∀ a r, circaref12_Same n a.1 a.2.1 a.2.2.1 a.2.2.2.1 a.2.2.2.2 = some r → PureOK Try.prog 95 (arg_circaref12_Same a) (enc_circaref12_Same r) := fun a r h => pureX_ok unr_ok_circaref12_Same (Es_ok_circaref12_Same n) Try.func95 rfl (acOf_code _) (subs_circaref12_Same n) rfl ((cert_circaref12_Same n a.1 a.2.1 a.2.2.1 a.2.2.2.1 a.2.2.2.2).trans h)
theorem ok_circaref12_Same (n : Nat) : EntOK Try.prog (e_circaref12_Same n) := pureE_ok Try.call95 una_ok_circaref12_Same (fun _ => rfl) (pure_circaref12_Same n)

/-! circa/circaref12.Take -/
noncomputable def arg_circaref12_Take (a : List UInt8 × Int × Int × Int × List UInt8) : List V := [.ag [.s a.1, .i .i64 a.2.1, .i .i64 a.2.2.1, .i .i64 a.2.2.2.1], .s a.2.2.2.2]
noncomputable def una_circaref12_Take (l : List V) : Option (List UInt8 × Int × Int × Int × List UInt8) := match l with
  | [.ag [.s a0, .i .i64 a1, .i .i64 a2, .i .i64 a3], .s a4] => some (a0, a1, a2, a3, a4)
  | _ => none
theorem una_ok_circaref12_Take : ∀ l a, una_circaref12_Take l = some a → l = arg_circaref12_Take a := by
  intro l a h
  unfold una_circaref12_Take at h
  split at h
  · cases h; rfl
  · cases h
noncomputable def enc_circaref12_Take (r : List UInt8 × Int × Int × Int × Int) : V := .tp [.ag [.s r.1, .i .i64 r.2.1, .i .i64 r.2.2.1, .i .i64 r.2.2.2.1], .i .i64 r.2.2.2.2]
noncomputable def unr_circaref12_Take (v : V) : Option (List UInt8 × Int × Int × Int × Int) := match v with
  | .tp [.ag [.s r0, .i .i64 r1, .i .i64 r2, .i .i64 r3], .i .i64 r4] => some (r0, r1, r2, r3, r4)
  | _ => none
theorem unr_ok_circaref12_Take : ∀ v r, unr_circaref12_Take v = some r → v = enc_circaref12_Take r := by
  intro v r h
  unfold unr_circaref12_Take at h
  split at h
  · cases h; rfl
  · cases h
noncomputable def e_circaref12_Take (n : Nat) : Ent := pureE 91 una_circaref12_Take (fun a => circaref12_Take n a.1 a.2.1 a.2.2.1 a.2.2.2.1 a.2.2.2.2) enc_circaref12_Take
noncomputable def t_circaref12_Take (l : List V) (_ : List (Nat × Blk)) : Bool := isS (una_circaref12_Take l)
noncomputable def Es_circaref12_Take (n : Nat) : List Ent := [e_circaref12_Same n]
theorem Es_ok_circaref12_Take (n : Nat) : ∀ x ∈ Es_circaref12_Take n, EntOK Try.prog x := by
  intro x hx
  simp only [Es_circaref12_Take, List.mem_cons, List.not_mem_nil, or_false] at hx
  · rw [hx]; exact ok_circaref12_Same n
noncomputable def Ls_circaref12_Take (_n : Nat) : List Sub := []
theorem subs_circaref12_Take (n : Nat) : SubOK Try.prog 20 (Ls_circaref12_Take n) (acOf Try.f91) := SubOK_of _ (by
  have e : subs (acOf Try.f91) = [] := by kernel_rfl
  rw [e]; intro p hp; cases hp)
theorem cert_circaref12_Take (n : Nat) (a0 : List UInt8) (a1 : Int) (a2 : Int) (a3 : Int) (a4 : List UInt8) : run Try.prog (Es_circaref12_Take n) (Ls_circaref12_Take n) Try.f91.ntmps (acOf Try.f91) ⟨argsT [.ag [.s a0, .i .i64 a1, .i .i64 a2, .i .i64 a3], .s a4] 0, [], 0, 0, 0, 0⟩ (finK Try.prog Try.f91.results.toList (retX unr_circaref12_Take)) = circaref12_Take n a0 a1 a2 a3 a4 := by kernel_rfl
theorem pure_circaref12_Take (n : Nat) : ∀ a r, circaref12_Take n a.1 a.2.1 a.2.2.1 a.2.2.2.1 a.2.2.2.2 = some r → PureOK Try.prog 91 (arg_circaref12_Take a) (enc_circaref12_Take r) := fun a r h => pureX_ok unr_ok_circaref12_Take (Es_ok_circaref12_Take n) Try.func91 rfl (acOf_code _) (subs_circaref12_Take n) rfl ((cert_circaref12_Take n a.1 a.2.1 a.2.2.1 a.2.2.2.1 a.2.2.2.2).trans h)
theorem ok_circaref12_Take (n : Nat) : EntOK Try.prog (e_circaref12_Take n) := pureE_ok Try.call91 una_ok_circaref12_Take (fun _ => rfl) (pure_circaref12_Take n)

/-! circa/circaref12.fail -/
noncomputable def arg_circaref12_fail (a : List UInt8 × Int × Int × Int × Int × Int) : List V := [.ag [.s a.1, .i .i64 a.2.1, .i .i64 a.2.2.1, .i .i64 a.2.2.2.1], .i .i64 a.2.2.2.2.1, .i .i64 a.2.2.2.2.2]
noncomputable def una_circaref12_fail (l : List V) : Option (List UInt8 × Int × Int × Int × Int × Int) := match l with
  | [.ag [.s a0, .i .i64 a1, .i .i64 a2, .i .i64 a3], .i .i64 a4, .i .i64 a5] => some (a0, a1, a2, a3, a4, a5)
  | _ => none
theorem una_ok_circaref12_fail : ∀ l a, una_circaref12_fail l = some a → l = arg_circaref12_fail a := by
  intro l a h
  unfold una_circaref12_fail at h
  split at h
  · cases h; rfl
  · cases h
noncomputable def enc_circaref12_fail (r : List UInt8 × Int × Int × Int) : V := .ag [.s r.1, .i .i64 r.2.1, .i .i64 r.2.2.1, .i .i64 r.2.2.2]
noncomputable def unr_circaref12_fail (v : V) : Option (List UInt8 × Int × Int × Int) := match v with
  | .ag [.s r0, .i .i64 r1, .i .i64 r2, .i .i64 r3] => some (r0, r1, r2, r3)
  | _ => none
theorem unr_ok_circaref12_fail : ∀ v r, unr_circaref12_fail v = some r → v = enc_circaref12_fail r := by
  intro v r h
  unfold unr_circaref12_fail at h
  split at h
  · cases h; rfl
  · cases h
noncomputable def e_circaref12_fail (n : Nat) : Ent := pureE 103 una_circaref12_fail (fun a => circaref12_fail n a.1 a.2.1 a.2.2.1 a.2.2.2.1 a.2.2.2.2.1 a.2.2.2.2.2) enc_circaref12_fail
noncomputable def t_circaref12_fail (l : List V) (_ : List (Nat × Blk)) : Bool := isS (una_circaref12_fail l)
noncomputable def Es_circaref12_fail (_n : Nat) : List Ent := []
theorem Es_ok_circaref12_fail (n : Nat) : ∀ x ∈ Es_circaref12_fail n, EntOK Try.prog x := by
  intro x hx
  simp [Es_circaref12_fail] at hx
noncomputable def Ls_circaref12_fail (_n : Nat) : List Sub := []
theorem subs_circaref12_fail (n : Nat) : SubOK Try.prog 15 (Ls_circaref12_fail n) (acOf Try.f103) := SubOK_of _ (by
  have e : subs (acOf Try.f103) = [] := by kernel_rfl
  rw [e]; intro p hp; cases hp)
theorem cert_circaref12_fail (n : Nat) (a0 : List UInt8) (a1 : Int) (a2 : Int) (a3 : Int) (a4 : Int) (a5 : Int) : run Try.prog (Es_circaref12_fail n) (Ls_circaref12_fail n) Try.f103.ntmps (acOf Try.f103) ⟨argsT [.ag [.s a0, .i .i64 a1, .i .i64 a2, .i .i64 a3], .i .i64 a4, .i .i64 a5] 0, [], 0, 0, 0, 0⟩ (finK Try.prog Try.f103.results.toList (retX unr_circaref12_fail)) = circaref12_fail n a0 a1 a2 a3 a4 a5 := by kernel_rfl
theorem pure_circaref12_fail (n : Nat) : ∀ a r, circaref12_fail n a.1 a.2.1 a.2.2.1 a.2.2.2.1 a.2.2.2.2.1 a.2.2.2.2.2 = some r → PureOK Try.prog 103 (arg_circaref12_fail a) (enc_circaref12_fail r) := fun a r h => pureX_ok unr_ok_circaref12_fail (Es_ok_circaref12_fail n) Try.func103 rfl (acOf_code _) (subs_circaref12_fail n) rfl ((cert_circaref12_fail n a.1 a.2.1 a.2.2.1 a.2.2.2.1 a.2.2.2.2.1 a.2.2.2.2.2).trans h)
theorem ok_circaref12_fail (n : Nat) : EntOK Try.prog (e_circaref12_fail n) := pureE_ok Try.call103 una_ok_circaref12_fail (fun _ => rfl) (pure_circaref12_fail n)

/-! circa/circaref12.Want -/
noncomputable def arg_circaref12_Want (a : List UInt8 × Int × Int × Int × List UInt8) : List V := [.ag [.s a.1, .i .i64 a.2.1, .i .i64 a.2.2.1, .i .i64 a.2.2.2.1], .s a.2.2.2.2]
noncomputable def una_circaref12_Want (l : List V) : Option (List UInt8 × Int × Int × Int × List UInt8) := match l with
  | [.ag [.s a0, .i .i64 a1, .i .i64 a2, .i .i64 a3], .s a4] => some (a0, a1, a2, a3, a4)
  | _ => none
theorem una_ok_circaref12_Want : ∀ l a, una_circaref12_Want l = some a → l = arg_circaref12_Want a := by
  intro l a h
  unfold una_circaref12_Want at h
  split at h
  · cases h; rfl
  · cases h
noncomputable def enc_circaref12_Want (r : List UInt8 × Int × Int × Int) : V := .ag [.s r.1, .i .i64 r.2.1, .i .i64 r.2.2.1, .i .i64 r.2.2.2]
noncomputable def unr_circaref12_Want (v : V) : Option (List UInt8 × Int × Int × Int) := match v with
  | .ag [.s r0, .i .i64 r1, .i .i64 r2, .i .i64 r3] => some (r0, r1, r2, r3)
  | _ => none
theorem unr_ok_circaref12_Want : ∀ v r, unr_circaref12_Want v = some r → v = enc_circaref12_Want r := by
  intro v r h
  unfold unr_circaref12_Want at h
  split at h
  · cases h; rfl
  · cases h
noncomputable def e_circaref12_Want (n : Nat) : Ent := pureE 92 una_circaref12_Want (fun a => circaref12_Want n a.1 a.2.1 a.2.2.1 a.2.2.2.1 a.2.2.2.2) enc_circaref12_Want
noncomputable def t_circaref12_Want (l : List V) (_ : List (Nat × Blk)) : Bool := isS (una_circaref12_Want l)
noncomputable def Es_circaref12_Want (n : Nat) : List Ent := [e_circaref12_Take n, e_circaref12_Same n, e_circaref12_fail n]
theorem Es_ok_circaref12_Want (n : Nat) : ∀ x ∈ Es_circaref12_Want n, EntOK Try.prog x := by
  intro x hx
  simp only [Es_circaref12_Want, List.mem_cons, List.not_mem_nil, or_false] at hx
  rcases hx with hx | hx | hx
  · rw [hx]; exact ok_circaref12_Take n
  · rw [hx]; exact ok_circaref12_Same n
  · rw [hx]; exact ok_circaref12_fail n
noncomputable def Ls_circaref12_Want (_n : Nat) : List Sub := []
theorem subs_circaref12_Want (n : Nat) : SubOK Try.prog 24 (Ls_circaref12_Want n) (acOf Try.f92) := SubOK_of _ (by
  have e : subs (acOf Try.f92) = [] := by kernel_rfl
  rw [e]; intro p hp; cases hp)
theorem cert_circaref12_Want (n : Nat) (a0 : List UInt8) (a1 : Int) (a2 : Int) (a3 : Int) (a4 : List UInt8) : run Try.prog (Es_circaref12_Want n) (Ls_circaref12_Want n) Try.f92.ntmps (acOf Try.f92) ⟨argsT [.ag [.s a0, .i .i64 a1, .i .i64 a2, .i .i64 a3], .s a4] 0, [], 0, 0, 0, 0⟩ (finK Try.prog Try.f92.results.toList (retX unr_circaref12_Want)) = circaref12_Want n a0 a1 a2 a3 a4 := by kernel_rfl
theorem pure_circaref12_Want (n : Nat) : ∀ a r, circaref12_Want n a.1 a.2.1 a.2.2.1 a.2.2.2.1 a.2.2.2.2 = some r → PureOK Try.prog 92 (arg_circaref12_Want a) (enc_circaref12_Want r) := fun a r h => pureX_ok unr_ok_circaref12_Want (Es_ok_circaref12_Want n) Try.func92 rfl (acOf_code _) (subs_circaref12_Want n) rfl ((cert_circaref12_Want n a.1 a.2.1 a.2.2.1 a.2.2.2.1 a.2.2.2.2).trans h)
theorem ok_circaref12_Want (n : Nat) : EntOK Try.prog (e_circaref12_Want n) := pureE_ok Try.call92 una_ok_circaref12_Want (fun _ => rfl) (pure_circaref12_Want n)

/-! circa/circaref12.of -/
noncomputable def arg_circaref12_of (a : Int × List UInt8) : List V := [.i .u8 a.1, .s a.2]
noncomputable def una_circaref12_of (l : List V) : Option (Int × List UInt8) := match l with
  | [.i .u8 a0, .s a1] => some (a0, a1)
  | _ => none
theorem una_ok_circaref12_of : ∀ l a, una_circaref12_of l = some a → l = arg_circaref12_of a := by
  intro l a h
  unfold una_circaref12_of at h
  split at h
  · cases h; rfl
  · cases h
noncomputable def enc_circaref12_of (r : Int) : V := .i .i64 r
noncomputable def unr_circaref12_of (v : V) : Option (Int) := match v with
  | .i .i64 r0 => some r0
  | _ => none
theorem unr_ok_circaref12_of : ∀ v r, unr_circaref12_of v = some r → v = enc_circaref12_of r := by
  intro v r h
  unfold unr_circaref12_of at h
  split at h
  · cases h; rfl
  · cases h
noncomputable def e_circaref12_of (n : Nat) : Ent := pureE 104 una_circaref12_of (fun a => circaref12_of n a.1 a.2) enc_circaref12_of
noncomputable def t_circaref12_of (l : List V) (_ : List (Nat × Blk)) : Bool := isS (una_circaref12_of l)
noncomputable def Es_circaref12_of (_n : Nat) : List Ent := []
theorem Es_ok_circaref12_of (n : Nat) : ∀ x ∈ Es_circaref12_of n, EntOK Try.prog x := by
  intro x hx
  simp [Es_circaref12_of] at hx
noncomputable def an_circaref12_of_l0 : Ann := ⟨[0, 1, 5], [], 0, []⟩
noncomputable def emb_circaref12_of_l0 (x : Int × List UInt8 × Int) : St := ⟨[(0, some (.i .u8 x.1)), (1, some (.s x.2.1)), (5, some (.i .i64 x.2.2))], [], 0, 0, 0, 0⟩
noncomputable def un_circaref12_of_l0 (s : St) : Option (Int × List UInt8 × Int) := match s with
  | ⟨[(0, some (.i .u8 x0)), (1, some (.s x1)), (5, some (.i .i64 x2))], [], 0, 0, 0, 0⟩ => some (x0, x1, x2)
  | _ => none
theorem un_ok_circaref12_of_l0 : ∀ s x, un_circaref12_of_l0 s = some x → s = emb_circaref12_of_l0 x := by
  intro s x h
  unfold un_circaref12_of_l0 at h
  split at h
  · cases h; rfl
  · cases h
noncomputable def ax_circaref12_of_l0 : Ex → Ann := fun ex => match ex with
  | .ret => ⟨[4], [], 0, []⟩
  | .exit 0 => ⟨[], [], 0, []⟩
  | _ => ⟨[], [], 0, []⟩
noncomputable def out_circaref12_of_l0 (y : Int ⊕ Unit) : Ex × St := (Sum.casesOn (motive := fun _ => Ex × St) y (fun a0 => (.ret, ⟨[(4, some (.i .i64 a0))], [], 0, 0, 0, 0⟩)) (fun b0 => (.exit 0, ⟨[], [], 0, 0, 0, 0⟩)))
noncomputable def outK_circaref12_of_l0 (α : Type) (y : Int ⊕ Unit) (k : Ex → St → Option α) : Option α := (Sum.casesOn (motive := fun _ => Option α) y (fun a0 => (k (.ret) ⟨[(4, some (.i .i64 a0))], [], 0, 0, 0, 0⟩)) (fun b0 => (k (.exit 0) ⟨[], [], 0, 0, 0, 0⟩)))
theorem outK_ok_circaref12_of_l0 : ∀ α y k, outK_circaref12_of_l0 α y k = k (out_circaref12_of_l0 y).1 (out_circaref12_of_l0 y).2 := by
  intro α y k
  rcases y with y | y <;> rfl
noncomputable def ux_circaref12_of_l0 (ex : Ex) (s : St) : Option (Int ⊕ Unit) := match ex, s with
  | .ret, ⟨[(4, some (.i .i64 y0))], [], 0, 0, 0, 0⟩ => some (.inl y0)
  | .exit 0, ⟨[], [], 0, 0, 0, 0⟩ => some (.inr ())
  | _, _ => none
theorem ux_ok_circaref12_of_l0 : ∀ ex s y, ux_circaref12_of_l0 ex s = some y → (ex, s) = out_circaref12_of_l0 y := by
  intro ex s y h
  unfold ux_circaref12_of_l0 at h
  split at h
  · cases h; rfl
  · cases h; rfl
  · cases h
noncomputable def Ls_circaref12_of (n : Nat) : List Sub := [subE 0 an_circaref12_of_l0 un_circaref12_of_l0 (fun x => iterL (circaref12_of_l0 n) n x) outK_circaref12_of_l0]
noncomputable def sac_circaref12_of_l0 : AC := getS (subs (acOf Try.f104)) 0
noncomputable def ac_circaref12_of_l0 : AC := AC.body sac_circaref12_of_l0
theorem subs_circaref12_of_l0 (n : Nat) : SubOK Try.prog 17 (Ls_circaref12_of n) ac_circaref12_of_l0 := SubOK_of _ (by
  have e : subs ac_circaref12_of_l0 = [] := by kernel_rfl
  rw [e]; intro p hp; cases hp)
theorem body_circaref12_of_l0 (n : Nat) : ∀ x, run Try.prog (Es_circaref12_of n) (Ls_circaref12_of n) 17 ac_circaref12_of_l0 (emb_circaref12_of_l0 x) (roundK an_circaref12_of_l0 un_circaref12_of_l0 ax_circaref12_of_l0 ux_circaref12_of_l0) = circaref12_of_l0 n x := fun _ => by kernel_rfl
theorem sub1_circaref12_of_l0 (n : Nat) : ∀ (α : Type) (s : St) (k : Ex → St → Option α) (z : α), (subE 0 an_circaref12_of_l0 un_circaref12_of_l0 (fun x => iterL (circaref12_of_l0 n) n x) outK_circaref12_of_l0).e α s k = some z → SemC Try.prog 17 (sac_circaref12_of_l0).code s fun ex s' => k ex s' = some z := by
  intro α s k z h
  have e : sac_circaref12_of_l0 = .loop ac_circaref12_of_l0 := by kernel_rfl
  rw [e]
  exact subE_ok (m := 0) (f := fun x => iterL (circaref12_of_l0 n) n x) (out := out_circaref12_of_l0) outK_ok_circaref12_of_l0 un_ok_circaref12_of_l0 (fun x y hy => loop_ok (Es_ok_circaref12_of n) (subs_circaref12_of_l0 n) un_ok_circaref12_of_l0 ux_ok_circaref12_of_l0 (body_circaref12_of_l0 n) n x y hy) h
theorem sub_circaref12_of_l0 (n : Nat) : SubSt Try.prog 17 (Ls_circaref12_of n) 0 sac_circaref12_of_l0 := fun α s k z => sub1_circaref12_of_l0 n α s k z
theorem subs_circaref12_of (n : Nat) : SubOK Try.prog 17 (Ls_circaref12_of n) (acOf Try.f104) := SubOK_of _ (by
  have e : subs (acOf Try.f104) = [(0, sac_circaref12_of_l0)] := by kernel_rfl
  rw [e]; intro p hp
  simp only [List.mem_cons, List.not_mem_nil, or_false] at hp
  · rw [hp]; exact sub_circaref12_of_l0 n
  )
theorem cert_circaref12_of (n : Nat) (a0 : Int) (a1 : List UInt8) : run Try.prog (Es_circaref12_of n) (Ls_circaref12_of n) Try.f104.ntmps (acOf Try.f104) ⟨argsT [.i .u8 a0, .s a1] 0, [], 0, 0, 0, 0⟩ (finK Try.prog Try.f104.results.toList (retX unr_circaref12_of)) = circaref12_of n a0 a1 := by kernel_rfl
theorem pure_circaref12_of (n : Nat) : ∀ a r, circaref12_of n a.1 a.2 = some r → PureOK Try.prog 104 (arg_circaref12_of a) (enc_circaref12_of r) := fun a r h => pureX_ok unr_ok_circaref12_of (Es_ok_circaref12_of n) Try.func104 rfl (acOf_code _) (subs_circaref12_of n) rfl ((cert_circaref12_of n a.1 a.2).trans h)
theorem ok_circaref12_of (n : Nat) : EntOK Try.prog (e_circaref12_of n) := pureE_ok Try.call104 una_ok_circaref12_of (fun _ => rfl) (pure_circaref12_of n)

/-! circa/circaref12.One -/
noncomputable def arg_circaref12_One (a : List UInt8 × Int × Int × Int × List UInt8) : List V := [.ag [.s a.1, .i .i64 a.2.1, .i .i64 a.2.2.1, .i .i64 a.2.2.2.1], .s a.2.2.2.2]
noncomputable def una_circaref12_One (l : List V) : Option (List UInt8 × Int × Int × Int × List UInt8) := match l with
  | [.ag [.s a0, .i .i64 a1, .i .i64 a2, .i .i64 a3], .s a4] => some (a0, a1, a2, a3, a4)
  | _ => none
theorem una_ok_circaref12_One : ∀ l a, una_circaref12_One l = some a → l = arg_circaref12_One a := by
  intro l a h
  unfold una_circaref12_One at h
  split at h
  · cases h; rfl
  · cases h
noncomputable def enc_circaref12_One (r : Int × List UInt8 × Int × Int × Int) : V := .tp [.i .u8 r.1, .ag [.s r.2.1, .i .i64 r.2.2.1, .i .i64 r.2.2.2.1, .i .i64 r.2.2.2.2]]
noncomputable def unr_circaref12_One (v : V) : Option (Int × List UInt8 × Int × Int × Int) := match v with
  | .tp [.i .u8 r0, .ag [.s r1, .i .i64 r2, .i .i64 r3, .i .i64 r4]] => some (r0, r1, r2, r3, r4)
  | _ => none
theorem unr_ok_circaref12_One : ∀ v r, unr_circaref12_One v = some r → v = enc_circaref12_One r := by
  intro v r h
  unfold unr_circaref12_One at h
  split at h
  · cases h; rfl
  · cases h
noncomputable def e_circaref12_One (n : Nat) : Ent := pureE 93 una_circaref12_One (fun a => circaref12_One n a.1 a.2.1 a.2.2.1 a.2.2.2.1 a.2.2.2.2) enc_circaref12_One
noncomputable def t_circaref12_One (l : List V) (_ : List (Nat × Blk)) : Bool := isS (una_circaref12_One l)
noncomputable def Es_circaref12_One (n : Nat) : List Ent := [e_circaref12_fail n, e_circaref12_of n]
theorem Es_ok_circaref12_One (n : Nat) : ∀ x ∈ Es_circaref12_One n, EntOK Try.prog x := by
  intro x hx
  simp only [Es_circaref12_One, List.mem_cons, List.not_mem_nil, or_false] at hx
  rcases hx with hx | hx
  · rw [hx]; exact ok_circaref12_fail n
  · rw [hx]; exact ok_circaref12_of n
noncomputable def Ls_circaref12_One (_n : Nat) : List Sub := []
theorem subs_circaref12_One (n : Nat) : SubOK Try.prog 37 (Ls_circaref12_One n) (acOf Try.f93) := SubOK_of _ (by
  have e : subs (acOf Try.f93) = [] := by kernel_rfl
  rw [e]; intro p hp; cases hp)
theorem cert_circaref12_One (n : Nat) (a0 : List UInt8) (a1 : Int) (a2 : Int) (a3 : Int) (a4 : List UInt8) : run Try.prog (Es_circaref12_One n) (Ls_circaref12_One n) Try.f93.ntmps (acOf Try.f93) ⟨argsT [.ag [.s a0, .i .i64 a1, .i .i64 a2, .i .i64 a3], .s a4] 0, [], 0, 0, 0, 0⟩ (finK Try.prog Try.f93.results.toList (retX unr_circaref12_One)) = circaref12_One n a0 a1 a2 a3 a4 := by kernel_rfl
theorem pure_circaref12_One (n : Nat) : ∀ a r, circaref12_One n a.1 a.2.1 a.2.2.1 a.2.2.2.1 a.2.2.2.2 = some r → PureOK Try.prog 93 (arg_circaref12_One a) (enc_circaref12_One r) := fun a r h => pureX_ok unr_ok_circaref12_One (Es_ok_circaref12_One n) Try.func93 rfl (acOf_code _) (subs_circaref12_One n) rfl ((cert_circaref12_One n a.1 a.2.1 a.2.2.1 a.2.2.2.1 a.2.2.2.2).trans h)
theorem ok_circaref12_One (n : Nat) : EntOK Try.prog (e_circaref12_One n) := pureE_ok Try.call93 una_ok_circaref12_One (fun _ => rfl) (pure_circaref12_One n)

/-! circa/circaref12.Some -/
noncomputable def arg_circaref12_Some (a : List UInt8 × Int × Int × Int × List UInt8 × Int × Int) : List V := [.ag [.s a.1, .i .i64 a.2.1, .i .i64 a.2.2.1, .i .i64 a.2.2.2.1], .s a.2.2.2.2.1, .i .i64 a.2.2.2.2.2.1, .i .i64 a.2.2.2.2.2.2]
noncomputable def una_circaref12_Some (l : List V) : Option (List UInt8 × Int × Int × Int × List UInt8 × Int × Int) := match l with
  | [.ag [.s a0, .i .i64 a1, .i .i64 a2, .i .i64 a3], .s a4, .i .i64 a5, .i .i64 a6] => some (a0, a1, a2, a3, a4, a5, a6)
  | _ => none
theorem una_ok_circaref12_Some : ∀ l a, una_circaref12_Some l = some a → l = arg_circaref12_Some a := by
  intro l a h
  unfold una_circaref12_Some at h
  split at h
  · cases h; rfl
  · cases h
noncomputable def enc_circaref12_Some (r : List UInt8 × List UInt8 × Int × Int × Int) : V := .tp [.s r.1, .ag [.s r.2.1, .i .i64 r.2.2.1, .i .i64 r.2.2.2.1, .i .i64 r.2.2.2.2]]
noncomputable def unr_circaref12_Some (v : V) : Option (List UInt8 × List UInt8 × Int × Int × Int) := match v with
  | .tp [.s r0, .ag [.s r1, .i .i64 r2, .i .i64 r3, .i .i64 r4]] => some (r0, r1, r2, r3, r4)
  | _ => none
theorem unr_ok_circaref12_Some : ∀ v r, unr_circaref12_Some v = some r → v = enc_circaref12_Some r := by
  intro v r h
  unfold unr_circaref12_Some at h
  split at h
  · cases h; rfl
  · cases h
noncomputable def e_circaref12_Some (n : Nat) : Ent := pureE 94 una_circaref12_Some (fun a => circaref12_Some n a.1 a.2.1 a.2.2.1 a.2.2.2.1 a.2.2.2.2.1 a.2.2.2.2.2.1 a.2.2.2.2.2.2) enc_circaref12_Some
noncomputable def t_circaref12_Some (l : List V) (_ : List (Nat × Blk)) : Bool := isS (una_circaref12_Some l)
noncomputable def Es_circaref12_Some (n : Nat) : List Ent := [e_circaref12_of n, e_circaref12_fail n]
theorem Es_ok_circaref12_Some (n : Nat) : ∀ x ∈ Es_circaref12_Some n, EntOK Try.prog x := by
  intro x hx
  simp only [Es_circaref12_Some, List.mem_cons, List.not_mem_nil, or_false] at hx
  rcases hx with hx | hx
  · rw [hx]; exact ok_circaref12_of n
  · rw [hx]; exact ok_circaref12_fail n
noncomputable def an_circaref12_Some_l0 : Ann := ⟨[1, 2, 3, 4, 9, 10, 11], [0, 1], 2, []⟩
noncomputable def emb_circaref12_Some_l0 (x : List UInt8 × Int × Int × Int × Int × List UInt8 × Int × Int × Int × List UInt8 × Int × Int × Int) : St := ⟨[(1, some (.s x.1)), (2, some (.i .i64 x.2.1)), (3, some (.i .i64 x.2.2.1)), (4, some (.p 0 0)), (9, some (.p 1 0)), (10, some (.i .i64 x.2.2.2.1)), (11, some (.i .i64 x.2.2.2.2.1))], [(0, .cells [.s x.2.2.2.2.2.1, .i .i64 x.2.2.2.2.2.2.1, .i .i64 x.2.2.2.2.2.2.2.1, .i .i64 x.2.2.2.2.2.2.2.2.1]), (1, .cells [.s x.2.2.2.2.2.2.2.2.2.1, .i .i64 x.2.2.2.2.2.2.2.2.2.2.1, .i .i64 x.2.2.2.2.2.2.2.2.2.2.2.1, .i .i64 x.2.2.2.2.2.2.2.2.2.2.2.2])], 2, 0, 0, 0⟩
noncomputable def un_circaref12_Some_l0 (s : St) : Option (List UInt8 × Int × Int × Int × Int × List UInt8 × Int × Int × Int × List UInt8 × Int × Int × Int) := match s with
  | ⟨[(1, some (.s x0)), (2, some (.i .i64 x1)), (3, some (.i .i64 x2)), (4, some (.p 0 0)), (9, some (.p 1 0)), (10, some (.i .i64 x3)), (11, some (.i .i64 x4))], [(0, .cells [.s x5, .i .i64 x6, .i .i64 x7, .i .i64 x8]), (1, .cells [.s x9, .i .i64 x10, .i .i64 x11, .i .i64 x12])], 2, 0, 0, 0⟩ => some (x0, x1, x2, x3, x4, x5, x6, x7, x8, x9, x10, x11, x12)
  | _ => none
theorem un_ok_circaref12_Some_l0 : ∀ s x, un_circaref12_Some_l0 s = some x → s = emb_circaref12_Some_l0 x := by
  intro s x h
  unfold un_circaref12_Some_l0 at h
  split at h
  · cases h; rfl
  · cases h
noncomputable def ax_circaref12_Some_l0 : Ex → Ann := fun ex => match ex with
  | .exit 0 => ⟨[2, 4, 9, 10, 11], [0, 1], 2, []⟩
  | _ => ⟨[], [], 0, []⟩
noncomputable def out_circaref12_Some_l0 (y : (Int × Int × Int × List UInt8 × Int × Int × Int × List UInt8 × Int × Int × Int)) : Ex × St := (.exit 0, ⟨[(2, some (.i .i64 y.1)), (4, some (.p 0 0)), (9, some (.p 1 0)), (10, some (.i .i64 y.2.1)), (11, some (.i .i64 y.2.2.1))], [(0, .cells [.s y.2.2.2.1, .i .i64 y.2.2.2.2.1, .i .i64 y.2.2.2.2.2.1, .i .i64 y.2.2.2.2.2.2.1]), (1, .cells [.s y.2.2.2.2.2.2.2.1, .i .i64 y.2.2.2.2.2.2.2.2.1, .i .i64 y.2.2.2.2.2.2.2.2.2.1, .i .i64 y.2.2.2.2.2.2.2.2.2.2])], 2, 0, 0, 0⟩)
noncomputable def outK_circaref12_Some_l0 (α : Type) (y : (Int × Int × Int × List UInt8 × Int × Int × Int × List UInt8 × Int × Int × Int)) (k : Ex → St → Option α) : Option α := (k (.exit 0) ⟨[(2, some (.i .i64 y.1)), (4, some (.p 0 0)), (9, some (.p 1 0)), (10, some (.i .i64 y.2.1)), (11, some (.i .i64 y.2.2.1))], [(0, .cells [.s y.2.2.2.1, .i .i64 y.2.2.2.2.1, .i .i64 y.2.2.2.2.2.1, .i .i64 y.2.2.2.2.2.2.1]), (1, .cells [.s y.2.2.2.2.2.2.2.1, .i .i64 y.2.2.2.2.2.2.2.2.1, .i .i64 y.2.2.2.2.2.2.2.2.2.1, .i .i64 y.2.2.2.2.2.2.2.2.2.2])], 2, 0, 0, 0⟩)
theorem outK_ok_circaref12_Some_l0 : ∀ α y k, outK_circaref12_Some_l0 α y k = k (out_circaref12_Some_l0 y).1 (out_circaref12_Some_l0 y).2 := by
  intro α y k
  rfl
noncomputable def ux_circaref12_Some_l0 (ex : Ex) (s : St) : Option ((Int × Int × Int × List UInt8 × Int × Int × Int × List UInt8 × Int × Int × Int)) := match ex, s with
  | .exit 0, ⟨[(2, some (.i .i64 y0)), (4, some (.p 0 0)), (9, some (.p 1 0)), (10, some (.i .i64 y1)), (11, some (.i .i64 y2))], [(0, .cells [.s y3, .i .i64 y4, .i .i64 y5, .i .i64 y6]), (1, .cells [.s y7, .i .i64 y8, .i .i64 y9, .i .i64 y10])], 2, 0, 0, 0⟩ => some (y0, y1, y2, y3, y4, y5, y6, y7, y8, y9, y10)
  | _, _ => none
theorem ux_ok_circaref12_Some_l0 : ∀ ex s y, ux_circaref12_Some_l0 ex s = some y → (ex, s) = out_circaref12_Some_l0 y := by
  intro ex s y h
  unfold ux_circaref12_Some_l0 at h
  split at h
  · cases h; rfl
  · cases h
noncomputable def Ls_circaref12_Some (n : Nat) : List Sub := [subE 0 an_circaref12_Some_l0 un_circaref12_Some_l0 (fun x => iterL (circaref12_Some_l0 n) n x) outK_circaref12_Some_l0]
noncomputable def sac_circaref12_Some_l0 : AC := getS (subs (acOf Try.f94)) 0
noncomputable def ac_circaref12_Some_l0 : AC := AC.body sac_circaref12_Some_l0
theorem subs_circaref12_Some_l0 (n : Nat) : SubOK Try.prog 55 (Ls_circaref12_Some n) ac_circaref12_Some_l0 := SubOK_of _ (by
  have e : subs ac_circaref12_Some_l0 = [] := by kernel_rfl
  rw [e]; intro p hp; cases hp)
theorem body_circaref12_Some_l0 (n : Nat) : ∀ x, run Try.prog (Es_circaref12_Some n) (Ls_circaref12_Some n) 55 ac_circaref12_Some_l0 (emb_circaref12_Some_l0 x) (roundK an_circaref12_Some_l0 un_circaref12_Some_l0 ax_circaref12_Some_l0 ux_circaref12_Some_l0) = circaref12_Some_l0 n x := fun _ => by kernel_rfl
theorem sub1_circaref12_Some_l0 (n : Nat) : ∀ (α : Type) (s : St) (k : Ex → St → Option α) (z : α), (subE 0 an_circaref12_Some_l0 un_circaref12_Some_l0 (fun x => iterL (circaref12_Some_l0 n) n x) outK_circaref12_Some_l0).e α s k = some z → SemC Try.prog 55 (sac_circaref12_Some_l0).code s fun ex s' => k ex s' = some z := by
  intro α s k z h
  have e : sac_circaref12_Some_l0 = .loop ac_circaref12_Some_l0 := by kernel_rfl
  rw [e]
  exact subE_ok (m := 0) (f := fun x => iterL (circaref12_Some_l0 n) n x) (out := out_circaref12_Some_l0) outK_ok_circaref12_Some_l0 un_ok_circaref12_Some_l0 (fun x y hy => loop_ok (Es_ok_circaref12_Some n) (subs_circaref12_Some_l0 n) un_ok_circaref12_Some_l0 ux_ok_circaref12_Some_l0 (body_circaref12_Some_l0 n) n x y hy) h
theorem sub_circaref12_Some_l0 (n : Nat) : SubSt Try.prog 55 (Ls_circaref12_Some n) 0 sac_circaref12_Some_l0 := fun α s k z => sub1_circaref12_Some_l0 n α s k z
theorem subs_circaref12_Some (n : Nat) : SubOK Try.prog 55 (Ls_circaref12_Some n) (acOf Try.f94) := SubOK_of _ (by
  have e : subs (acOf Try.f94) = [(0, sac_circaref12_Some_l0)] := by kernel_rfl
  rw [e]; intro p hp
  simp only [List.mem_cons, List.not_mem_nil, or_false] at hp
  · rw [hp]; exact sub_circaref12_Some_l0 n
  )
theorem cert_circaref12_Some (n : Nat) (a0 : List UInt8) (a1 : Int) (a2 : Int) (a3 : Int) (a4 : List UInt8) (a5 : Int) (a6 : Int) : run Try.prog (Es_circaref12_Some n) (Ls_circaref12_Some n) Try.f94.ntmps (acOf Try.f94) ⟨argsT [.ag [.s a0, .i .i64 a1, .i .i64 a2, .i .i64 a3], .s a4, .i .i64 a5, .i .i64 a6] 0, [], 0, 0, 0, 0⟩ (finK Try.prog Try.f94.results.toList (retX unr_circaref12_Some)) = circaref12_Some n a0 a1 a2 a3 a4 a5 a6 := by kernel_rfl
theorem pure_circaref12_Some (n : Nat) : ∀ a r, circaref12_Some n a.1 a.2.1 a.2.2.1 a.2.2.2.1 a.2.2.2.2.1 a.2.2.2.2.2.1 a.2.2.2.2.2.2 = some r → PureOK Try.prog 94 (arg_circaref12_Some a) (enc_circaref12_Some r) := fun a r h => pureX_ok unr_ok_circaref12_Some (Es_ok_circaref12_Some n) Try.func94 rfl (acOf_code _) (subs_circaref12_Some n) rfl ((cert_circaref12_Some n a.1 a.2.1 a.2.2.1 a.2.2.2.1 a.2.2.2.2.1 a.2.2.2.2.2.1 a.2.2.2.2.2.2).trans h)
theorem ok_circaref12_Some (n : Nat) : EntOK Try.prog (e_circaref12_Some n) := pureE_ok Try.call94 una_ok_circaref12_Some (fun _ => rfl) (pure_circaref12_Some n)

/-! (*circa/circalaw12.player).check -/
noncomputable def arg_circalaw12_player_check (a : List UInt8 × Int × List (Int × List UInt8 × Int × Int) × List UInt8 × Int × Int × Int × Int) : List V := [.p 2 0, .p 0 0]
noncomputable def H0_circalaw12_player_check (a : List UInt8 × Int × List (Int × List UInt8 × Int × Int) × List UInt8 × Int × Int × Int × Int) : List (Nat × Blk) := [(0, .cells [.s a.1, .i .i64 a.2.1]), (1, .rows [.i .u8, .s, .i .i64, .i .i64] a.2.2.1), (2, .cells [.ws 1, .s a.2.2.2.1, .i .i64 a.2.2.2.2.1, .i .i64 a.2.2.2.2.2.1, .i .i64 a.2.2.2.2.2.2.1, .i .i64 a.2.2.2.2.2.2.2])]
noncomputable def una_circalaw12_player_check (l : List V) (H : List (Nat × Blk)) : Option ((List UInt8 × Int × List (Int × List UInt8 × Int × Int) × List UInt8 × Int × Int × Int × Int) × List Nat) := match l with
  | [.p b2 0, .p b0 0] => (match Abs.look H b2 with
    | some (.cells [.ws b1, .s a3, .i .i64 a4, .i .i64 a5, .i .i64 a6, .i .i64 a7]) => (match Abs.look H b0 with
    | some (.cells [.s a0, .i .i64 a1]) => (match Abs.look H b1 with
    | some (.rows [.i .u8, .s, .i .i64, .i .i64] a2) => (cond (Abs.distinct [b0, b1, b2] && true) (some ((a0, a1, a2, a3, a4, a5, a6, a7), [b0, b1, b2])) none)
    | _ => none)
    | _ => none)
    | _ => none)
  | _ => none
theorem una_ok_circalaw12_player_check : ∀ l H a ρ, una_circalaw12_player_check l H = some (a, ρ) → ρ.length = 3 ∧ ρ.Nodup ∧ l = V.rens ρ (arg_circalaw12_player_check a) ∧ ∀ b blk, Abs.look (H0_circalaw12_player_check a) b = some blk → Abs.look H (getN ρ b) = some (blk.ren ρ) := by
  intro l H a ρ h
  unfold una_circalaw12_player_check at h
  split at h
  · split at h
    · rename_i e2
      split at h
      · rename_i e0
        split at h
        · rename_i e1
          obtain ⟨hd, h⟩ := cond_some h
          simp only [Bool.and_eq_true] at hd
          obtain ⟨hd, _⟩ := hd
          cases h
          exact ⟨rfl, distinct_ok hd, rfl, eachH_look ⟨e0, e1, e2, trivial⟩⟩
        · cases h
      · cases h
    · cases h
  · cases h
noncomputable def out_circalaw12_player_check (r : (List UInt8 × Int × Int × Int × Int)) : FOut := (⟨false, .tp [], [(2, .cells [.ws 1, .s r.1, .i .i64 r.2.1, .i .i64 r.2.2.1, .i .i64 r.2.2.2.1, .i .i64 r.2.2.2.2])], []⟩ : FOut)
noncomputable def outK_circalaw12_player_check (α : Type) (r : (List UInt8 × Int × Int × Int × Int)) (k : FOut → Option α) : Option α := (k ⟨false, .tp [], [(2, .cells [.ws 1, .s r.1, .i .i64 r.2.1, .i .i64 r.2.2.1, .i .i64 r.2.2.2.1, .i .i64 r.2.2.2.2])], []⟩)
theorem outK_ok_circalaw12_player_check : ∀ α r k, outK_circalaw12_player_check α r k = k (out_circalaw12_player_check r) := by
  intro α r k
  rfl
noncomputable def unr_circalaw12_player_check (pan : Bool) (v : V) (H : List (Nat × Blk)) (nw : List Nat) : Option ((List UInt8 × Int × Int × Int × Int)) := match pan, v, H, nw with
  | false, .tp [], [(2, .cells [.ws 1, .s r0, .i .i64 r1, .i .i64 r2, .i .i64 r3, .i .i64 r4])], [] => some (r0, r1, r2, r3, r4)
  | _, _, _, _ => none
theorem unr_ok_circalaw12_player_check : ∀ pan v H nw r, unr_circalaw12_player_check pan v H nw = some r → (out_circalaw12_player_check r).pan = pan ∧ (out_circalaw12_player_check r).news = nw ∧ v = V.ren (upTo 0 3 ++ (out_circalaw12_player_check r).news) (out_circalaw12_player_check r).val ∧ H = renH (upTo 0 3 ++ (out_circalaw12_player_check r).news) (out_circalaw12_player_check r).H := by
  intro pan v H nw r h
  unfold unr_circalaw12_player_check at h
  split at h
  · cases h; exact ⟨rfl, rfl, rfl, rfl⟩
  · cases h
theorem hv_circalaw12_player_check : ∀ r, V.lt (3 + (out_circalaw12_player_check r).news.length) (out_circalaw12_player_check r).val = true := fun r => (by rfl)
theorem hc_circalaw12_player_check : ∀ r, chkH (3 + (out_circalaw12_player_check r).news.length) (out_circalaw12_player_check r).H = true := fun r => (by rfl)
theorem hk_circalaw12_player_check : ∀ r, hasKeys (out_circalaw12_player_check r).H 2 (1 + (out_circalaw12_player_check r).news.length) = true := fun r => (by rfl)
noncomputable def e_circalaw12_player_check (n : Nat) : Ent := funE 81 3 una_circalaw12_player_check (fun a => circalaw12_player_check n a.1 a.2.1 a.2.2.1 a.2.2.2.1 a.2.2.2.2.1 a.2.2.2.2.2.1 a.2.2.2.2.2.2.1 a.2.2.2.2.2.2.2) outK_circalaw12_player_check
noncomputable def t_circalaw12_player_check (l : List V) (H : List (Nat × Blk)) : Bool := isS (una_circalaw12_player_check l H)
noncomputable def Es_circalaw12_player_check (n : Nat) : List Ent := [e_cursors_Cursor_Peek n, e_cursors_Cursor_At n, e_cursors_Cursor_Rest n]
theorem Es_ok_circalaw12_player_check (n : Nat) : ∀ x ∈ Es_circalaw12_player_check n, EntOK Try.prog x := by
  intro x hx
  simp only [Es_circalaw12_player_check, List.mem_cons, List.not_mem_nil, or_false] at hx
  rcases hx with hx | hx | hx
  · rw [hx]; exact ok_cursors_Cursor_Peek n
  · rw [hx]; exact ok_cursors_Cursor_At n
  · rw [hx]; exact ok_cursors_Cursor_Rest n
noncomputable def Ls_circalaw12_player_check (_n : Nat) : List Sub := []
theorem subs_circalaw12_player_check (n : Nat) : SubOK Try.prog 86 (Ls_circalaw12_player_check n) (acOf Try.f81) := SubOK_of _ (by
  have e : subs (acOf Try.f81) = [] := by kernel_rfl
  rw [e]; intro p hp; cases hp)
theorem cert_circalaw12_player_check (n : Nat) (a0 : List UInt8) (a1 : Int) (a2 : List (Int × List UInt8 × Int × Int)) (a3 : List UInt8) (a4 : Int) (a5 : Int) (a6 : Int) (a7 : Int) : run Try.prog (Es_circalaw12_player_check n) (Ls_circalaw12_player_check n) Try.f81.ntmps (acOf Try.f81) ⟨argsT [.p 2 0, .p 0 0] 0, [(0, .cells [.s a0, .i .i64 a1]), (1, .rows [.i .u8, .s, .i .i64, .i .i64] a2), (2, .cells [.ws 1, .s a3, .i .i64 a4, .i .i64 a5, .i .i64 a6, .i .i64 a7])], 3, 3, 2, 3⟩ (finK Try.prog Try.f81.results.toList (funX [2] 3 2 3 unr_circalaw12_player_check)) = circalaw12_player_check n a0 a1 a2 a3 a4 a5 a6 a7 := by kernel_rfl
theorem fun_circalaw12_player_check (n : Nat) : ∀ a r, circalaw12_player_check n a.1 a.2.1 a.2.2.1 a.2.2.2.1 a.2.2.2.2.1 a.2.2.2.2.2.1 a.2.2.2.2.2.2.1 a.2.2.2.2.2.2.2 = some r → FunOK Try.prog 81 (arg_circalaw12_player_check a) (H0_circalaw12_player_check a) 3 2 3 (out_circalaw12_player_check r) := fun a r h => funX_ok (ws := [2]) unr_ok_circalaw12_player_check hv_circalaw12_player_check (fun r b blk hl => (chkH_look (hc_circalaw12_player_check r) b blk hl).2) (fun r => chkH_keys (hc_circalaw12_player_check r)) (by decide) (Es_ok_circalaw12_player_check n) Try.func81 rfl (acOf_code _) (subs_circalaw12_player_check n) rfl rfl ((cert_circalaw12_player_check n a.1 a.2.1 a.2.2.1 a.2.2.2.1 a.2.2.2.2.1 a.2.2.2.2.2.1 a.2.2.2.2.2.2.1 a.2.2.2.2.2.2.2).trans h)
theorem ok_circalaw12_player_check (n : Nat) : EntOK Try.prog (e_circalaw12_player_check n) := funE_ok (m := 3) (ro := 2) (rb := 3) (out := out_circalaw12_player_check) (arg := arg_circalaw12_player_check) (H0 := H0_circalaw12_player_check) Try.call81 (by decide) (by decide) outK_ok_circalaw12_player_check una_ok_circalaw12_player_check (fun _ => rfl) (fun a => chkH_look (m := 3) (H := H0_circalaw12_player_check a) rfl) (fun _ => rfl) (fun r => chkH_keys (hc_circalaw12_player_check r)) (fun r b blk h => (chkH_look (hc_circalaw12_player_check r) b blk h).2) (fun r b h1 h2 => hasKeys_ok (hk_circalaw12_player_check r) b h1 (by omega)) hv_circalaw12_player_check (fun_circalaw12_player_check n)

/-! circa/circaref12.Fail -/
noncomputable def arg_circaref12_Fail (a : List UInt8 × Int × Int × Int × Int × Int) : List V := [.ag [.s a.1, .i .i64 a.2.1, .i .i64 a.2.2.1, .i .i64 a.2.2.2.1], .i .i64 a.2.2.2.2.1, .i .i64 a.2.2.2.2.2]
noncomputable def una_circaref12_Fail (l : List V) : Option (List UInt8 × Int × Int × Int × Int × Int) := match l with
  | [.ag [.s a0, .i .i64 a1, .i .i64 a2, .i .i64 a3], .i .i64 a4, .i .i64 a5] => some (a0, a1, a2, a3, a4, a5)
  | _ => none
theorem una_ok_circaref12_Fail : ∀ l a, una_circaref12_Fail l = some a → l = arg_circaref12_Fail a := by
  intro l a h
  unfold una_circaref12_Fail at h
  split at h
  · cases h; rfl
  · cases h
noncomputable def enc_circaref12_Fail (r : List UInt8 × Int × Int × Int) : V := .ag [.s r.1, .i .i64 r.2.1, .i .i64 r.2.2.1, .i .i64 r.2.2.2]
noncomputable def unr_circaref12_Fail (v : V) : Option (List UInt8 × Int × Int × Int) := match v with
  | .ag [.s r0, .i .i64 r1, .i .i64 r2, .i .i64 r3] => some (r0, r1, r2, r3)
  | _ => none
theorem unr_ok_circaref12_Fail : ∀ v r, unr_circaref12_Fail v = some r → v = enc_circaref12_Fail r := by
  intro v r h
  unfold unr_circaref12_Fail at h
  split at h
  · cases h; rfl
  · cases h
noncomputable def e_circaref12_Fail (n : Nat) : Ent := pureE 96 una_circaref12_Fail (fun a => circaref12_Fail n a.1 a.2.1 a.2.2.1 a.2.2.2.1 a.2.2.2.2.1 a.2.2.2.2.2) enc_circaref12_Fail
noncomputable def t_circaref12_Fail (l : List V) (_ : List (Nat × Blk)) : Bool := isS (una_circaref12_Fail l)
noncomputable def Es_circaref12_Fail (n : Nat) : List Ent := [e_circaref12_fail n]
theorem Es_ok_circaref12_Fail (n : Nat) : ∀ x ∈ Es_circaref12_Fail n, EntOK Try.prog x := by
  intro x hx
  simp only [Es_circaref12_Fail, List.mem_cons, List.not_mem_nil, or_false] at hx
  · rw [hx]; exact ok_circaref12_fail n
noncomputable def Ls_circaref12_Fail (_n : Nat) : List Sub := []
theorem subs_circaref12_Fail (n : Nat) : SubOK Try.prog 11 (Ls_circaref12_Fail n) (acOf Try.f96) := SubOK_of _ (by
  have e : subs (acOf Try.f96) = [] := by kernel_rfl
  rw [e]; intro p hp; cases hp)
theorem cert_circaref12_Fail (n : Nat) (a0 : List UInt8) (a1 : Int) (a2 : Int) (a3 : Int) (a4 : Int) (a5 : Int) : run Try.prog (Es_circaref12_Fail n) (Ls_circaref12_Fail n) Try.f96.ntmps (acOf Try.f96) ⟨argsT [.ag [.s a0, .i .i64 a1, .i .i64 a2, .i .i64 a3], .i .i64 a4, .i .i64 a5] 0, [], 0, 0, 0, 0⟩ (finK Try.prog Try.f96.results.toList (retX unr_circaref12_Fail)) = circaref12_Fail n a0 a1 a2 a3 a4 a5 := by kernel_rfl
theorem pure_circaref12_Fail (n : Nat) : ∀ a r, circaref12_Fail n a.1 a.2.1 a.2.2.1 a.2.2.2.1 a.2.2.2.2.1 a.2.2.2.2.2 = some r → PureOK Try.prog 96 (arg_circaref12_Fail a) (enc_circaref12_Fail r) := fun a r h => pureX_ok unr_ok_circaref12_Fail (Es_ok_circaref12_Fail n) Try.func96 rfl (acOf_code _) (subs_circaref12_Fail n) rfl ((cert_circaref12_Fail n a.1 a.2.1 a.2.2.1 a.2.2.2.1 a.2.2.2.2.1 a.2.2.2.2.2).trans h)
theorem ok_circaref12_Fail (n : Nat) : EntOK Try.prog (e_circaref12_Fail n) := pureE_ok Try.call96 una_ok_circaref12_Fail (fun _ => rfl) (pure_circaref12_Fail n)

/-! (*circa/circalaw12.player).one -/
noncomputable def arg_circalaw12_player_one (a : Int × List UInt8 × Int × Int × List (Int × List UInt8 × Int × Int) × List UInt8 × Int × Int × Int × Int × List UInt8 × Int) : List V := [.p 1 0, .p 2 0, .ag [.i .u8 a.1, .s a.2.1, .i .i64 a.2.2.1, .i .i64 a.2.2.2.1]]
noncomputable def H0_circalaw12_player_one (a : Int × List UInt8 × Int × Int × List (Int × List UInt8 × Int × Int) × List UInt8 × Int × Int × Int × Int × List UInt8 × Int) : List (Nat × Blk) := [(0, .rows [.i .u8, .s, .i .i64, .i .i64] a.2.2.2.2.1), (1, .cells [.ws 0, .s a.2.2.2.2.2.1, .i .i64 a.2.2.2.2.2.2.1, .i .i64 a.2.2.2.2.2.2.2.1, .i .i64 a.2.2.2.2.2.2.2.2.1, .i .i64 a.2.2.2.2.2.2.2.2.2.1]), (2, .cells [.s a.2.2.2.2.2.2.2.2.2.2.1, .i .i64 a.2.2.2.2.2.2.2.2.2.2.2])]
noncomputable def una_circalaw12_player_one (l : List V) (H : List (Nat × Blk)) : Option ((Int × List UInt8 × Int × Int × List (Int × List UInt8 × Int × Int) × List UInt8 × Int × Int × Int × Int × List UInt8 × Int) × List Nat) := match l with
  | [.p b1 0, .p b2 0, .ag [.i .u8 a0, .s a1, .i .i64 a2, .i .i64 a3]] => (match Abs.look H b1 with
    | some (.cells [.ws b0, .s a5, .i .i64 a6, .i .i64 a7, .i .i64 a8, .i .i64 a9]) => (match Abs.look H b2 with
    | some (.cells [.s a10, .i .i64 a11]) => (match Abs.look H b0 with
    | some (.rows [.i .u8, .s, .i .i64, .i .i64] a4) => (cond (Abs.distinct [b0, b1, b2] && true) (some ((a0, a1, a2, a3, a4, a5, a6, a7, a8, a9, a10, a11), [b0, b1, b2])) none)
    | _ => none)
    | _ => none)
    | _ => none)
  | _ => none
theorem una_ok_circalaw12_player_one : ∀ l H a ρ, una_circalaw12_player_one l H = some (a, ρ) → ρ.length = 3 ∧ ρ.Nodup ∧ l = V.rens ρ (arg_circalaw12_player_one a) ∧ ∀ b blk, Abs.look (H0_circalaw12_player_one a) b = some blk → Abs.look H (getN ρ b) = some (blk.ren ρ) := by
  intro l H a ρ h
  unfold una_circalaw12_player_one at h
  split at h
  · split at h
    · rename_i e1
      split at h
      · rename_i e2
        split at h
        · rename_i e0
          obtain ⟨hd, h⟩ := cond_some h
          simp only [Bool.and_eq_true] at hd
          obtain ⟨hd, _⟩ := hd
          cases h
          exact ⟨rfl, distinct_ok hd, rfl, eachH_look ⟨e0, e1, e2, trivial⟩⟩
        · cases h
      · cases h
    · cases h
  · cases h
noncomputable def out_circalaw12_player_one (r : (List UInt8 × Int × Int × Int × Int × List UInt8 × Int) ⊕ (Int × Int × List UInt8 × Int × Int × Int × Int × List UInt8 × Int)) : FOut := (Sum.casesOn (motive := fun _ => FOut) r (fun a0 => (⟨false, .tp [], [(1, .cells [.ws 0, .s a0.1, .i .i64 a0.2.1, .i .i64 a0.2.2.1, .i .i64 a0.2.2.2.1, .i .i64 a0.2.2.2.2.1]), (2, .cells [.s a0.2.2.2.2.2.1, .i .i64 a0.2.2.2.2.2.2])], []⟩ : FOut)) (fun b0 => (⟨true, .it 107 (.ag [.i .i64 b0.1, .i .i64 b0.2.1]), [(1, .cells [.ws 0, .s b0.2.2.1, .i .i64 b0.2.2.2.1, .i .i64 b0.2.2.2.2.1, .i .i64 b0.2.2.2.2.2.1, .i .i64 b0.2.2.2.2.2.2.1]), (2, .cells [.s b0.2.2.2.2.2.2.2.1, .i .i64 b0.2.2.2.2.2.2.2.2])], []⟩ : FOut)))
noncomputable def outK_circalaw12_player_one (α : Type) (r : (List UInt8 × Int × Int × Int × Int × List UInt8 × Int) ⊕ (Int × Int × List UInt8 × Int × Int × Int × Int × List UInt8 × Int)) (k : FOut → Option α) : Option α := (Sum.casesOn (motive := fun _ => Option α) r (fun a0 => (k ⟨false, .tp [], [(1, .cells [.ws 0, .s a0.1, .i .i64 a0.2.1, .i .i64 a0.2.2.1, .i .i64 a0.2.2.2.1, .i .i64 a0.2.2.2.2.1]), (2, .cells [.s a0.2.2.2.2.2.1, .i .i64 a0.2.2.2.2.2.2])], []⟩)) (fun b0 => (k ⟨true, .it 107 (.ag [.i .i64 b0.1, .i .i64 b0.2.1]), [(1, .cells [.ws 0, .s b0.2.2.1, .i .i64 b0.2.2.2.1, .i .i64 b0.2.2.2.2.1, .i .i64 b0.2.2.2.2.2.1, .i .i64 b0.2.2.2.2.2.2.1]), (2, .cells [.s b0.2.2.2.2.2.2.2.1, .i .i64 b0.2.2.2.2.2.2.2.2])], []⟩)))
theorem outK_ok_circalaw12_player_one : ∀ α r k, outK_circalaw12_player_one α r k = k (out_circalaw12_player_one r) := by
  intro α r k
  rcases r with r | r <;> rfl
noncomputable def unr_circalaw12_player_one (pan : Bool) (v : V) (H : List (Nat × Blk)) (nw : List Nat) : Option ((List UInt8 × Int × Int × Int × Int × List UInt8 × Int) ⊕ (Int × Int × List UInt8 × Int × Int × Int × Int × List UInt8 × Int)) := match pan, v, H, nw with
  | false, .tp [], [(1, .cells [.ws 0, .s r0, .i .i64 r1, .i .i64 r2, .i .i64 r3, .i .i64 r4]), (2, .cells [.s r5, .i .i64 r6])], [] => some (.inl (r0, r1, r2, r3, r4, r5, r6))
  | true, .it 107 (.ag [.i .i64 r0, .i .i64 r1]), [(1, .cells [.ws 0, .s r2, .i .i64 r3, .i .i64 r4, .i .i64 r5, .i .i64 r6]), (2, .cells [.s r7, .i .i64 r8])], [] => some (.inr (r0, r1, r2, r3, r4, r5, r6, r7, r8))
  | _, _, _, _ => none
theorem unr_ok_circalaw12_player_one : ∀ pan v H nw r, unr_circalaw12_player_one pan v H nw = some r → (out_circalaw12_player_one r).pan = pan ∧ (out_circalaw12_player_one r).news = nw ∧ v = V.ren (upTo 0 3 ++ (out_circalaw12_player_one r).news) (out_circalaw12_player_one r).val ∧ H = renH (upTo 0 3 ++ (out_circalaw12_player_one r).news) (out_circalaw12_player_one r).H := by
  intro pan v H nw r h
  unfold unr_circalaw12_player_one at h
  split at h
  · cases h; exact ⟨rfl, rfl, rfl, rfl⟩
  · cases h; exact ⟨rfl, rfl, rfl, rfl⟩
  · cases h
theorem hv_circalaw12_player_one : ∀ r, V.lt (3 + (out_circalaw12_player_one r).news.length) (out_circalaw12_player_one r).val = true := fun r => (by rcases r with r | r <;> rfl)
theorem hc_circalaw12_player_one : ∀ r, chkH (3 + (out_circalaw12_player_one r).news.length) (out_circalaw12_player_one r).H = true := fun r => (by rcases r with r | r <;> rfl)
theorem hk_circalaw12_player_one : ∀ r, hasKeys (out_circalaw12_player_one r).H 1 (2 + (out_circalaw12_player_one r).news.length) = true := fun r => (by rcases r with r | r <;> rfl)
noncomputable def e_circalaw12_player_one (n : Nat) : Ent := funE 80 3 una_circalaw12_player_one (fun a => circalaw12_player_one n a.1 a.2.1 a.2.2.1 a.2.2.2.1 a.2.2.2.2.1 a.2.2.2.2.2.1 a.2.2.2.2.2.2.1 a.2.2.2.2.2.2.2.1 a.2.2.2.2.2.2.2.2.1 a.2.2.2.2.2.2.2.2.2.1 a.2.2.2.2.2.2.2.2.2.2.1 a.2.2.2.2.2.2.2.2.2.2.2) outK_circalaw12_player_one
noncomputable def t_circalaw12_player_one (l : List V) (H : List (Nat × Blk)) : Bool := isS (una_circalaw12_player_one l H)
noncomputable def Es_circalaw12_player_one (n : Nat) : List Ent := [e_circaref12_Take n, e_cursors_Cursor_Take n, e_circaref12_Want n, e_cursors_Cursor_Want n, e_circaref12_One n, e_cursors_Cursor_One n, e_circaref12_Some n, e_cursors_Cursor_Some n, e_circalaw12_player_check n, e_cursors_Cursor_Is n, e_circaref12_Same n, e_circaref12_Fail n, e_cursors_Cursor_Fail n]
theorem Es_ok_circalaw12_player_one (n : Nat) : ∀ x ∈ Es_circalaw12_player_one n, EntOK Try.prog x := by
  intro x hx
  simp only [Es_circalaw12_player_one, List.mem_cons, List.not_mem_nil, or_false] at hx
  rcases hx with hx | hx | hx | hx | hx | hx | hx | hx | hx | hx | hx | hx | hx
  · rw [hx]; exact ok_circaref12_Take n
  · rw [hx]; exact ok_cursors_Cursor_Take n
  · rw [hx]; exact ok_circaref12_Want n
  · rw [hx]; exact ok_cursors_Cursor_Want n
  · rw [hx]; exact ok_circaref12_One n
  · rw [hx]; exact ok_cursors_Cursor_One n
  · rw [hx]; exact ok_circaref12_Some n
  · rw [hx]; exact ok_cursors_Cursor_Some n
  · rw [hx]; exact ok_circalaw12_player_check n
  · rw [hx]; exact ok_cursors_Cursor_Is n
  · rw [hx]; exact ok_circaref12_Same n
  · rw [hx]; exact ok_circaref12_Fail n
  · rw [hx]; exact ok_cursors_Cursor_Fail n
noncomputable def Ls_circalaw12_player_one (_n : Nat) : List Sub := []
theorem subs_circalaw12_player_one (n : Nat) : SubOK Try.prog 193 (Ls_circalaw12_player_one n) (acOf Try.f80) := SubOK_of _ (by
  have e : subs (acOf Try.f80) = [] := by kernel_rfl
  rw [e]; intro p hp; cases hp)
theorem cert_circalaw12_player_one (n : Nat) (a0 : Int) (a1 : List UInt8) (a2 : Int) (a3 : Int) (a4 : List (Int × List UInt8 × Int × Int)) (a5 : List UInt8) (a6 : Int) (a7 : Int) (a8 : Int) (a9 : Int) (a10 : List UInt8) (a11 : Int) : run Try.prog (Es_circalaw12_player_one n) (Ls_circalaw12_player_one n) Try.f80.ntmps (acOf Try.f80) ⟨argsT [.p 1 0, .p 2 0, .ag [.i .u8 a0, .s a1, .i .i64 a2, .i .i64 a3]] 0, [(0, .rows [.i .u8, .s, .i .i64, .i .i64] a4), (1, .cells [.ws 0, .s a5, .i .i64 a6, .i .i64 a7, .i .i64 a8, .i .i64 a9]), (2, .cells [.s a10, .i .i64 a11])], 3, 3, 1, 3⟩ (finK Try.prog Try.f80.results.toList (funX [1, 2] 3 1 3 unr_circalaw12_player_one)) = circalaw12_player_one n a0 a1 a2 a3 a4 a5 a6 a7 a8 a9 a10 a11 := by kernel_rfl
theorem fun_circalaw12_player_one (n : Nat) : ∀ a r, circalaw12_player_one n a.1 a.2.1 a.2.2.1 a.2.2.2.1 a.2.2.2.2.1 a.2.2.2.2.2.1 a.2.2.2.2.2.2.1 a.2.2.2.2.2.2.2.1 a.2.2.2.2.2.2.2.2.1 a.2.2.2.2.2.2.2.2.2.1 a.2.2.2.2.2.2.2.2.2.2.1 a.2.2.2.2.2.2.2.2.2.2.2 = some r → FunOK Try.prog 80 (arg_circalaw12_player_one a) (H0_circalaw12_player_one a) 3 1 3 (out_circalaw12_player_one r) := fun a r h => funX_ok (ws := [1, 2]) unr_ok_circalaw12_player_one hv_circalaw12_player_one (fun r b blk hl => (chkH_look (hc_circalaw12_player_one r) b blk hl).2) (fun r => chkH_keys (hc_circalaw12_player_one r)) (by decide) (Es_ok_circalaw12_player_one n) Try.func80 rfl (acOf_code _) (subs_circalaw12_player_one n) rfl rfl ((cert_circalaw12_player_one n a.1 a.2.1 a.2.2.1 a.2.2.2.1 a.2.2.2.2.1 a.2.2.2.2.2.1 a.2.2.2.2.2.2.1 a.2.2.2.2.2.2.2.1 a.2.2.2.2.2.2.2.2.1 a.2.2.2.2.2.2.2.2.2.1 a.2.2.2.2.2.2.2.2.2.2.1 a.2.2.2.2.2.2.2.2.2.2.2).trans h)
theorem ok_circalaw12_player_one (n : Nat) : EntOK Try.prog (e_circalaw12_player_one n) := funE_ok (m := 3) (ro := 1) (rb := 3) (out := out_circalaw12_player_one) (arg := arg_circalaw12_player_one) (H0 := H0_circalaw12_player_one) Try.call80 (by decide) (by decide) outK_ok_circalaw12_player_one una_ok_circalaw12_player_one (fun _ => rfl) (fun a => chkH_look (m := 3) (H := H0_circalaw12_player_one a) rfl) (fun _ => rfl) (fun r => chkH_keys (hc_circalaw12_player_one r)) (fun r b blk h => (chkH_look (hc_circalaw12_player_one r) b blk h).2) (fun r b h1 h2 => hasKeys_ok (hk_circalaw12_player_one r) b h1 (by omega)) hv_circalaw12_player_one (fun_circalaw12_player_one n)

/-! (*circa/circalaw12.player).play -/
noncomputable def arg_circalaw12_player_play (a : List (Int × List UInt8 × Int × Int) × List UInt8 × Int × Int × Int × Int × List UInt8 × Int) : List V := [.p 1 0, .p 2 0]
noncomputable def H0_circalaw12_player_play (a : List (Int × List UInt8 × Int × Int) × List UInt8 × Int × Int × Int × Int × List UInt8 × Int) : List (Nat × Blk) := [(0, .rows [.i .u8, .s, .i .i64, .i .i64] a.1), (1, .cells [.ws 0, .s a.2.1, .i .i64 a.2.2.1, .i .i64 a.2.2.2.1, .i .i64 a.2.2.2.2.1, .i .i64 a.2.2.2.2.2.1]), (2, .cells [.s a.2.2.2.2.2.2.1, .i .i64 a.2.2.2.2.2.2.2])]
noncomputable def una_circalaw12_player_play (l : List V) (H : List (Nat × Blk)) : Option ((List (Int × List UInt8 × Int × Int) × List UInt8 × Int × Int × Int × Int × List UInt8 × Int) × List Nat) := match l with
  | [.p b1 0, .p b2 0] => (match Abs.look H b1 with
    | some (.cells [.ws b0, .s a1, .i .i64 a2, .i .i64 a3, .i .i64 a4, .i .i64 a5]) => (match Abs.look H b2 with
    | some (.cells [.s a6, .i .i64 a7]) => (match Abs.look H b0 with
    | some (.rows [.i .u8, .s, .i .i64, .i .i64] a0) => (cond (Abs.distinct [b0, b1, b2] && true) (some ((a0, a1, a2, a3, a4, a5, a6, a7), [b0, b1, b2])) none)
    | _ => none)
    | _ => none)
    | _ => none)
  | _ => none
theorem una_ok_circalaw12_player_play : ∀ l H a ρ, una_circalaw12_player_play l H = some (a, ρ) → ρ.length = 3 ∧ ρ.Nodup ∧ l = V.rens ρ (arg_circalaw12_player_play a) ∧ ∀ b blk, Abs.look (H0_circalaw12_player_play a) b = some blk → Abs.look H (getN ρ b) = some (blk.ren ρ) := by
  intro l H a ρ h
  unfold una_circalaw12_player_play at h
  split at h
  · split at h
    · rename_i e1
      split at h
      · rename_i e2
        split at h
        · rename_i e0
          obtain ⟨hd, h⟩ := cond_some h
          simp only [Bool.and_eq_true] at hd
          obtain ⟨hd, _⟩ := hd
          cases h
          exact ⟨rfl, distinct_ok hd, rfl, eachH_look ⟨e0, e1, e2, trivial⟩⟩
        · cases h
      · cases h
    · cases h
  · cases h
noncomputable def out_circalaw12_player_play (r : (Int × Int × List UInt8 × Int × Int × Int × Int × List UInt8 × Int) ⊕ (List UInt8 × Int × Int × Int × Int × List UInt8 × Int)) : FOut := (Sum.casesOn (motive := fun _ => FOut) r (fun a0 => (⟨true, .it 107 (.ag [.i .i64 a0.1, .i .i64 a0.2.1]), [(1, .cells [.ws 0, .s a0.2.2.1, .i .i64 a0.2.2.2.1, .i .i64 a0.2.2.2.2.1, .i .i64 a0.2.2.2.2.2.1, .i .i64 a0.2.2.2.2.2.2.1]), (2, .cells [.s a0.2.2.2.2.2.2.2.1, .i .i64 a0.2.2.2.2.2.2.2.2])], []⟩ : FOut)) (fun b0 => (⟨false, .tp [], [(1, .cells [.ws 0, .s b0.1, .i .i64 b0.2.1, .i .i64 b0.2.2.1, .i .i64 b0.2.2.2.1, .i .i64 b0.2.2.2.2.1]), (2, .cells [.s b0.2.2.2.2.2.1, .i .i64 b0.2.2.2.2.2.2])], []⟩ : FOut)))
noncomputable def outK_circalaw12_player_play (α : Type) (r : (Int × Int × List UInt8 × Int × Int × Int × Int × List UInt8 × Int) ⊕ (List UInt8 × Int × Int × Int × Int × List UInt8 × Int)) (k : FOut → Option α) : Option α := (Sum.casesOn (motive := fun _ => Option α) r (fun a0 => (k ⟨true, .it 107 (.ag [.i .i64 a0.1, .i .i64 a0.2.1]), [(1, .cells [.ws 0, .s a0.2.2.1, .i .i64 a0.2.2.2.1, .i .i64 a0.2.2.2.2.1, .i .i64 a0.2.2.2.2.2.1, .i .i64 a0.2.2.2.2.2.2.1]), (2, .cells [.s a0.2.2.2.2.2.2.2.1, .i .i64 a0.2.2.2.2.2.2.2.2])], []⟩)) (fun b0 => (k ⟨false, .tp [], [(1, .cells [.ws 0, .s b0.1, .i .i64 b0.2.1, .i .i64 b0.2.2.1, .i .i64 b0.2.2.2.1, .i .i64 b0.2.2.2.2.1]), (2, .cells [.s b0.2.2.2.2.2.1, .i .i64 b0.2.2.2.2.2.2])], []⟩)))
theorem outK_ok_circalaw12_player_play : ∀ α r k, outK_circalaw12_player_play α r k = k (out_circalaw12_player_play r) := by
  intro α r k
  rcases r with r | r <;> rfl
noncomputable def unr_circalaw12_player_play (pan : Bool) (v : V) (H : List (Nat × Blk)) (nw : List Nat) : Option ((Int × Int × List UInt8 × Int × Int × Int × Int × List UInt8 × Int) ⊕ (List UInt8 × Int × Int × Int × Int × List UInt8 × Int)) := match pan, v, H, nw with
  | true, .it 107 (.ag [.i .i64 r0, .i .i64 r1]), [(1, .cells [.ws 0, .s r2, .i .i64 r3, .i .i64 r4, .i .i64 r5, .i .i64 r6]), (2, .cells [.s r7, .i .i64 r8])], [] => some (.inl (r0, r1, r2, r3, r4, r5, r6, r7, r8))
  | false, .tp [], [(1, .cells [.ws 0, .s r0, .i .i64 r1, .i .i64 r2, .i .i64 r3, .i .i64 r4]), (2, .cells [.s r5, .i .i64 r6])], [] => some (.inr (r0, r1, r2, r3, r4, r5, r6))
  | _, _, _, _ => none
theorem unr_ok_circalaw12_player_play : ∀ pan v H nw r, unr_circalaw12_player_play pan v H nw = some r → (out_circalaw12_player_play r).pan = pan ∧ (out_circalaw12_player_play r).news = nw ∧ v = V.ren (upTo 0 3 ++ (out_circalaw12_player_play r).news) (out_circalaw12_player_play r).val ∧ H = renH (upTo 0 3 ++ (out_circalaw12_player_play r).news) (out_circalaw12_player_play r).H := by
  intro pan v H nw r h
  unfold unr_circalaw12_player_play at h
  split at h
  · cases h; exact ⟨rfl, rfl, rfl, rfl⟩
  · cases h; exact ⟨rfl, rfl, rfl, rfl⟩
  · cases h
theorem hv_circalaw12_player_play : ∀ r, V.lt (3 + (out_circalaw12_player_play r).news.length) (out_circalaw12_player_play r).val = true := fun r => (by rcases r with r | r <;> rfl)
theorem hc_circalaw12_player_play : ∀ r, chkH (3 + (out_circalaw12_player_play r).news.length) (out_circalaw12_player_play r).H = true := fun r => (by rcases r with r | r <;> rfl)
theorem hk_circalaw12_player_play : ∀ r, hasKeys (out_circalaw12_player_play r).H 1 (2 + (out_circalaw12_player_play r).news.length) = true := fun r => (by rcases r with r | r <;> rfl)
noncomputable def e_circalaw12_player_play (n : Nat) : Ent := funE 31 3 una_circalaw12_player_play (fun a => circalaw12_player_play n a.1 a.2.1 a.2.2.1 a.2.2.2.1 a.2.2.2.2.1 a.2.2.2.2.2.1 a.2.2.2.2.2.2.1 a.2.2.2.2.2.2.2) outK_circalaw12_player_play
noncomputable def t_circalaw12_player_play (l : List V) (H : List (Nat × Blk)) : Bool := isS (una_circalaw12_player_play l H)
noncomputable def Es_circalaw12_player_play (n : Nat) : List Ent := [e_circalaw12_player_one n, e_circalaw12_player_check n]
theorem Es_ok_circalaw12_player_play (n : Nat) : ∀ x ∈ Es_circalaw12_player_play n, EntOK Try.prog x := by
  intro x hx
  simp only [Es_circalaw12_player_play, List.mem_cons, List.not_mem_nil, or_false] at hx
  rcases hx with hx | hx
  · rw [hx]; exact ok_circalaw12_player_one n
  · rw [hx]; exact ok_circalaw12_player_check n
noncomputable def an_circalaw12_player_play_l0 : Ann := ⟨[0, 1, 4], [0, 1, 2], 3, []⟩
noncomputable def emb_circalaw12_player_play_l0 (x : Int × List (Int × List UInt8 × Int × Int) × List UInt8 × Int × Int × Int × Int × List UInt8 × Int) : St := ⟨[(0, some (.p 1 0)), (1, some (.p 2 0)), (4, some (.i .i64 x.1))], [(0, .rows [.i .u8, .s, .i .i64, .i .i64] x.2.1), (1, .cells [.ws 0, .s x.2.2.1, .i .i64 x.2.2.2.1, .i .i64 x.2.2.2.2.1, .i .i64 x.2.2.2.2.2.1, .i .i64 x.2.2.2.2.2.2.1]), (2, .cells [.s x.2.2.2.2.2.2.2.1, .i .i64 x.2.2.2.2.2.2.2.2])], 3, 3, 1, 3⟩
noncomputable def un_circalaw12_player_play_l0 (s : St) : Option (Int × List (Int × List UInt8 × Int × Int) × List UInt8 × Int × Int × Int × Int × List UInt8 × Int) := match s with
  | ⟨[(0, some (.p 1 0)), (1, some (.p 2 0)), (4, some (.i .i64 x0))], [(0, .rows [.i .u8, .s, .i .i64, .i .i64] x1), (1, .cells [.ws 0, .s x2, .i .i64 x3, .i .i64 x4, .i .i64 x5, .i .i64 x6]), (2, .cells [.s x7, .i .i64 x8])], 3, 3, 1, 3⟩ => some (x0, x1, x2, x3, x4, x5, x6, x7, x8)
  | _ => none
theorem un_ok_circalaw12_player_play_l0 : ∀ s x, un_circalaw12_player_play_l0 s = some x → s = emb_circalaw12_player_play_l0 x := by
  intro s x h
  unfold un_circalaw12_player_play_l0 at h
  split at h
  · cases h; rfl
  · cases h
noncomputable def ax_circalaw12_player_play_l0 : Ex → Ann := fun ex => match ex with
  | .pan _ => ⟨[], [0, 1, 2], 3, []⟩
  | .exit 0 => ⟨[], [0, 1, 2], 3, []⟩
  | _ => ⟨[], [], 0, []⟩
noncomputable def out_circalaw12_player_play_l0 (y : (Int × Int × List (Int × List UInt8 × Int × Int) × List UInt8 × Int × Int × Int × Int × List UInt8 × Int) ⊕ (List (Int × List UInt8 × Int × Int) × List UInt8 × Int × Int × Int × Int × List UInt8 × Int)) : Ex × St := (Sum.casesOn (motive := fun _ => Ex × St) y (fun a0 => (.pan (.it 107 (.ag [.i .i64 a0.1, .i .i64 a0.2.1])), ⟨[], [(0, .rows [.i .u8, .s, .i .i64, .i .i64] a0.2.2.1), (1, .cells [.ws 0, .s a0.2.2.2.1, .i .i64 a0.2.2.2.2.1, .i .i64 a0.2.2.2.2.2.1, .i .i64 a0.2.2.2.2.2.2.1, .i .i64 a0.2.2.2.2.2.2.2.1]), (2, .cells [.s a0.2.2.2.2.2.2.2.2.1, .i .i64 a0.2.2.2.2.2.2.2.2.2])], 3, 3, 1, 3⟩)) (fun b0 => (.exit 0, ⟨[], [(0, .rows [.i .u8, .s, .i .i64, .i .i64] b0.1), (1, .cells [.ws 0, .s b0.2.1, .i .i64 b0.2.2.1, .i .i64 b0.2.2.2.1, .i .i64 b0.2.2.2.2.1, .i .i64 b0.2.2.2.2.2.1]), (2, .cells [.s b0.2.2.2.2.2.2.1, .i .i64 b0.2.2.2.2.2.2.2])], 3, 3, 1, 3⟩)))
noncomputable def outK_circalaw12_player_play_l0 (α : Type) (y : (Int × Int × List (Int × List UInt8 × Int × Int) × List UInt8 × Int × Int × Int × Int × List UInt8 × Int) ⊕ (List (Int × List UInt8 × Int × Int) × List UInt8 × Int × Int × Int × Int × List UInt8 × Int)) (k : Ex → St → Option α) : Option α := (Sum.casesOn (motive := fun _ => Option α) y (fun a0 => (k (.pan (.it 107 (.ag [.i .i64 a0.1, .i .i64 a0.2.1]))) ⟨[], [(0, .rows [.i .u8, .s, .i .i64, .i .i64] a0.2.2.1), (1, .cells [.ws 0, .s a0.2.2.2.1, .i .i64 a0.2.2.2.2.1, .i .i64 a0.2.2.2.2.2.1, .i .i64 a0.2.2.2.2.2.2.1, .i .i64 a0.2.2.2.2.2.2.2.1]), (2, .cells [.s a0.2.2.2.2.2.2.2.2.1, .i .i64 a0.2.2.2.2.2.2.2.2.2])], 3, 3, 1, 3⟩)) (fun b0 => (k (.exit 0) ⟨[], [(0, .rows [.i .u8, .s, .i .i64, .i .i64] b0.1), (1, .cells [.ws 0, .s b0.2.1, .i .i64 b0.2.2.1, .i .i64 b0.2.2.2.1, .i .i64 b0.2.2.2.2.1, .i .i64 b0.2.2.2.2.2.1]), (2, .cells [.s b0.2.2.2.2.2.2.1, .i .i64 b0.2.2.2.2.2.2.2])], 3, 3, 1, 3⟩)))
theorem outK_ok_circalaw12_player_play_l0 : ∀ α y k, outK_circalaw12_player_play_l0 α y k = k (out_circalaw12_player_play_l0 y).1 (out_circalaw12_player_play_l0 y).2 := by
  intro α y k
  rcases y with y | y <;> rfl
noncomputable def ux_circalaw12_player_play_l0 (ex : Ex) (s : St) : Option ((Int × Int × List (Int × List UInt8 × Int × Int) × List UInt8 × Int × Int × Int × Int × List UInt8 × Int) ⊕ (List (Int × List UInt8 × Int × Int) × List UInt8 × Int × Int × Int × Int × List UInt8 × Int)) := match ex, s with
  | .pan (.it 107 (.ag [.i .i64 y0, .i .i64 y1])), ⟨[], [(0, .rows [.i .u8, .s, .i .i64, .i .i64] y2), (1, .cells [.ws 0, .s y3, .i .i64 y4, .i .i64 y5, .i .i64 y6, .i .i64 y7]), (2, .cells [.s y8, .i .i64 y9])], 3, 3, 1, 3⟩ => some (.inl (y0, y1, y2, y3, y4, y5, y6, y7, y8, y9))
  | .exit 0, ⟨[], [(0, .rows [.i .u8, .s, .i .i64, .i .i64] y0), (1, .cells [.ws 0, .s y1, .i .i64 y2, .i .i64 y3, .i .i64 y4, .i .i64 y5]), (2, .cells [.s y6, .i .i64 y7])], 3, 3, 1, 3⟩ => some (.inr (y0, y1, y2, y3, y4, y5, y6, y7))
  | _, _ => none
theorem ux_ok_circalaw12_player_play_l0 : ∀ ex s y, ux_circalaw12_player_play_l0 ex s = some y → (ex, s) = out_circalaw12_player_play_l0 y := by
  intro ex s y h
  unfold ux_circalaw12_player_play_l0 at h
  split at h
  · cases h; rfl
  · cases h; rfl
  · cases h
noncomputable def Ls_circalaw12_player_play (n : Nat) : List Sub := [subE 0 an_circalaw12_player_play_l0 un_circalaw12_player_play_l0 (fun x => iterL (circalaw12_player_play_l0 n) n x) outK_circalaw12_player_play_l0]
noncomputable def sac_circalaw12_player_play_l0 : AC := getS (subs (acOf Try.f31)) 0
noncomputable def ac_circalaw12_player_play_l0 : AC := AC.body sac_circalaw12_player_play_l0
theorem subs_circalaw12_player_play_l0 (n : Nat) : SubOK Try.prog 31 (Ls_circalaw12_player_play n) ac_circalaw12_player_play_l0 := SubOK_of _ (by
  have e : subs ac_circalaw12_player_play_l0 = [] := by kernel_rfl
  rw [e]; intro p hp; cases hp)
theorem body_circalaw12_player_play_l0 (n : Nat) : ∀ x, run Try.prog (Es_circalaw12_player_play n) (Ls_circalaw12_player_play n) 31 ac_circalaw12_player_play_l0 (emb_circalaw12_player_play_l0 x) (roundK an_circalaw12_player_play_l0 un_circalaw12_player_play_l0 ax_circalaw12_player_play_l0 ux_circalaw12_player_play_l0) = circalaw12_player_play_l0 n x := fun _ => by kernel_rfl
theorem sub1_circalaw12_player_play_l0 (n : Nat) : ∀ (α : Type) (s : St) (k : Ex → St → Option α) (z : α), (subE 0 an_circalaw12_player_play_l0 un_circalaw12_player_play_l0 (fun x => iterL (circalaw12_player_play_l0 n) n x) outK_circalaw12_player_play_l0).e α s k = some z → SemC Try.prog 31 (sac_circalaw12_player_play_l0).code s fun ex s' => k ex s' = some z := by
  intro α s k z h
  have e : sac_circalaw12_player_play_l0 = .loop ac_circalaw12_player_play_l0 := by kernel_rfl
  rw [e]
  exact subE_ok (m := 0) (f := fun x => iterL (circalaw12_player_play_l0 n) n x) (out := out_circalaw12_player_play_l0) outK_ok_circalaw12_player_play_l0 un_ok_circalaw12_player_play_l0 (fun x y hy => loop_ok (Es_ok_circalaw12_player_play n) (subs_circalaw12_player_play_l0 n) un_ok_circalaw12_player_play_l0 ux_ok_circalaw12_player_play_l0 (body_circalaw12_player_play_l0 n) n x y hy) h
theorem sub_circalaw12_player_play_l0 (n : Nat) : SubSt Try.prog 31 (Ls_circalaw12_player_play n) 0 sac_circalaw12_player_play_l0 := fun α s k z => sub1_circalaw12_player_play_l0 n α s k z
theorem subs_circalaw12_player_play (n : Nat) : SubOK Try.prog 31 (Ls_circalaw12_player_play n) (acOf Try.f31) := SubOK_of _ (by
  have e : subs (acOf Try.f31) = [(0, sac_circalaw12_player_play_l0)] := by kernel_rfl
  rw [e]; intro p hp
  simp only [List.mem_cons, List.not_mem_nil, or_false] at hp
  · rw [hp]; exact sub_circalaw12_player_play_l0 n
  )
theorem cert_circalaw12_player_play (n : Nat) (a0 : List (Int × List UInt8 × Int × Int)) (a1 : List UInt8) (a2 : Int) (a3 : Int) (a4 : Int) (a5 : Int) (a6 : List UInt8) (a7 : Int) : run Try.prog (Es_circalaw12_player_play n) (Ls_circalaw12_player_play n) Try.f31.ntmps (acOf Try.f31) ⟨argsT [.p 1 0, .p 2 0] 0, [(0, .rows [.i .u8, .s, .i .i64, .i .i64] a0), (1, .cells [.ws 0, .s a1, .i .i64 a2, .i .i64 a3, .i .i64 a4, .i .i64 a5]), (2, .cells [.s a6, .i .i64 a7])], 3, 3, 1, 3⟩ (finK Try.prog Try.f31.results.toList (funX [1, 2] 3 1 3 unr_circalaw12_player_play)) = circalaw12_player_play n a0 a1 a2 a3 a4 a5 a6 a7 := by kernel_rfl
theorem fun_circalaw12_player_play (n : Nat) : ∀ a r, circalaw12_player_play n a.1 a.2.1 a.2.2.1 a.2.2.2.1 a.2.2.2.2.1 a.2.2.2.2.2.1 a.2.2.2.2.2.2.1 a.2.2.2.2.2.2.2 = some r → FunOK Try.prog 31 (arg_circalaw12_player_play a) (H0_circalaw12_player_play a) 3 1 3 (out_circalaw12_player_play r) := fun a r h => funX_ok (ws := [1, 2]) unr_ok_circalaw12_player_play hv_circalaw12_player_play (fun r b blk hl => (chkH_look (hc_circalaw12_player_play r) b blk hl).2) (fun r => chkH_keys (hc_circalaw12_player_play r)) (by decide) (Es_ok_circalaw12_player_play n) Try.func31 rfl (acOf_code _) (subs_circalaw12_player_play n) rfl rfl ((cert_circalaw12_player_play n a.1 a.2.1 a.2.2.1 a.2.2.2.1 a.2.2.2.2.1 a.2.2.2.2.2.1 a.2.2.2.2.2.2.1 a.2.2.2.2.2.2.2).trans h)
theorem ok_circalaw12_player_play (n : Nat) : EntOK Try.prog (e_circalaw12_player_play n) := funE_ok (m := 3) (ro := 1) (rb := 3) (out := out_circalaw12_player_play) (arg := arg_circalaw12_player_play) (H0 := H0_circalaw12_player_play) Try.call31 (by decide) (by decide) outK_ok_circalaw12_player_play una_ok_circalaw12_player_play (fun _ => rfl) (fun a => chkH_look (m := 3) (H := H0_circalaw12_player_play a) rfl) (fun _ => rfl) (fun r => chkH_keys (hc_circalaw12_player_play r)) (fun r b blk h => (chkH_look (hc_circalaw12_player_play r) b blk h).2) (fun r b h1 h2 => hasKeys_ok (hk_circalaw12_player_play r) b h1 (by omega)) hv_circalaw12_player_play (fun_circalaw12_player_play n)

/-! circa/cursors.Run -/
noncomputable def arg_cursors_Run_v7 (a : List UInt8 × List (Int × List UInt8 × Int × Int) × List UInt8 × Int × Int × Int × Int) : List V := [.s a.1, .fn 1000031 [.p 1 0]]
noncomputable def H0_cursors_Run_v7 (a : List UInt8 × List (Int × List UInt8 × Int × Int) × List UInt8 × Int × Int × Int × Int) : List (Nat × Blk) := [(0, .rows [.i .u8, .s, .i .i64, .i .i64] a.2.1), (1, .cells [.ws 0, .s a.2.2.1, .i .i64 a.2.2.2.1, .i .i64 a.2.2.2.2.1, .i .i64 a.2.2.2.2.2.1, .i .i64 a.2.2.2.2.2.2])]
noncomputable def una_cursors_Run_v7 (l : List V) (H : List (Nat × Blk)) : Option ((List UInt8 × List (Int × List UInt8 × Int × Int) × List UInt8 × Int × Int × Int × Int) × List Nat) := match l with
  | [.s a0, .fn 1000031 [.p b1 0]] => (match Abs.look H b1 with
    | some (.cells [.ws b0, .s a2, .i .i64 a3, .i .i64 a4, .i .i64 a5, .i .i64 a6]) => (match Abs.look H b0 with
    | some (.rows [.i .u8, .s, .i .i64, .i .i64] a1) => (cond (Abs.distinct [b0, b1] && true) (some ((a0, a1, a2, a3, a4, a5, a6), [b0, b1])) none)
    | _ => none)
    | _ => none)
  | _ => none
theorem una_ok_cursors_Run_v7 : ∀ l H a ρ, una_cursors_Run_v7 l H = some (a, ρ) → ρ.length = 2 ∧ ρ.Nodup ∧ l = V.rens ρ (arg_cursors_Run_v7 a) ∧ ∀ b blk, Abs.look (H0_cursors_Run_v7 a) b = some blk → Abs.look H (getN ρ b) = some (blk.ren ρ) := by
  intro l H a ρ h
  unfold una_cursors_Run_v7 at h
  split at h
  · split at h
    · rename_i e1
      split at h
      · rename_i e0
        obtain ⟨hd, h⟩ := cond_some h
        simp only [Bool.and_eq_true] at hd
        obtain ⟨hd, _⟩ := hd
        cases h
        exact ⟨rfl, distinct_ok hd, rfl, eachH_look ⟨e0, e1, trivial⟩⟩
      · cases h
    · cases h
  · cases h
noncomputable def out_cursors_Run_v7 (r : (Int × Int × List UInt8 × Int × Int × Int × Int)) : FOut := (⟨false, .tp [.i .i64 r.1, .i .i64 r.2.1], [(1, .cells [.ws 0, .s r.2.2.1, .i .i64 r.2.2.2.1, .i .i64 r.2.2.2.2.1, .i .i64 r.2.2.2.2.2.1, .i .i64 r.2.2.2.2.2.2])], []⟩ : FOut)
noncomputable def outK_cursors_Run_v7 (α : Type) (r : (Int × Int × List UInt8 × Int × Int × Int × Int)) (k : FOut → Option α) : Option α := (k ⟨false, .tp [.i .i64 r.1, .i .i64 r.2.1], [(1, .cells [.ws 0, .s r.2.2.1, .i .i64 r.2.2.2.1, .i .i64 r.2.2.2.2.1, .i .i64 r.2.2.2.2.2.1, .i .i64 r.2.2.2.2.2.2])], []⟩)
theorem outK_ok_cursors_Run_v7 : ∀ α r k, outK_cursors_Run_v7 α r k = k (out_cursors_Run_v7 r) := by
  intro α r k
  rfl
noncomputable def unr_cursors_Run_v7 (pan : Bool) (v : V) (H : List (Nat × Blk)) (nw : List Nat) : Option ((Int × Int × List UInt8 × Int × Int × Int × Int)) := match pan, v, H, nw with
  | false, .tp [.i .i64 r0, .i .i64 r1], [(1, .cells [.ws 0, .s r2, .i .i64 r3, .i .i64 r4, .i .i64 r5, .i .i64 r6])], [] => some (r0, r1, r2, r3, r4, r5, r6)
  | _, _, _, _ => none
theorem unr_ok_cursors_Run_v7 : ∀ pan v H nw r, unr_cursors_Run_v7 pan v H nw = some r → (out_cursors_Run_v7 r).pan = pan ∧ (out_cursors_Run_v7 r).news = nw ∧ v = V.ren (upTo 0 2 ++ (out_cursors_Run_v7 r).news) (out_cursors_Run_v7 r).val ∧ H = renH (upTo 0 2 ++ (out_cursors_Run_v7 r).news) (out_cursors_Run_v7 r).H := by
  intro pan v H nw r h
  unfold unr_cursors_Run_v7 at h
  split at h
  · cases h; exact ⟨rfl, rfl, rfl, rfl⟩
  · cases h
theorem hv_cursors_Run_v7 : ∀ r, V.lt (2 + (out_cursors_Run_v7 r).news.length) (out_cursors_Run_v7 r).val = true := fun r => (by rfl)
theorem hc_cursors_Run_v7 : ∀ r, chkH (2 + (out_cursors_Run_v7 r).news.length) (out_cursors_Run_v7 r).H = true := fun r => (by rfl)
theorem hk_cursors_Run_v7 : ∀ r, hasKeys (out_cursors_Run_v7 r).H 1 (1 + (out_cursors_Run_v7 r).news.length) = true := fun r => (by rfl)
noncomputable def e_cursors_Run_v7 (n : Nat) : Ent := funE 30 2 una_cursors_Run_v7 (fun a => cursors_Run_v7 n a.1 a.2.1 a.2.2.1 a.2.2.2.1 a.2.2.2.2.1 a.2.2.2.2.2.1 a.2.2.2.2.2.2) outK_cursors_Run_v7
noncomputable def t_cursors_Run_v7 (l : List V) (H : List (Nat × Blk)) : Bool := isS (una_cursors_Run_v7 l H)
noncomputable def Es_cursors_Run_v7 (n : Nat) : List Ent := [e_circalaw12_player_play n]
theorem Es_ok_cursors_Run_v7 (n : Nat) : ∀ x ∈ Es_cursors_Run_v7 n, EntOK Try.prog x := by
  intro x hx
  simp only [Es_cursors_Run_v7, List.mem_cons, List.not_mem_nil, or_false] at hx
  · rw [hx]; exact ok_circalaw12_player_play n
noncomputable def Ls_cursors_Run_v7 (_n : Nat) : List Sub := []
theorem subs_cursors_Run_v7 (n : Nat) : SubOK Try.prog 27 (Ls_cursors_Run_v7 n) (acOf Try.f30) := SubOK_of _ (by
  have e : subs (acOf Try.f30) = [] := by kernel_rfl
  rw [e]; intro p hp; cases hp)
theorem cert_cursors_Run_v7 (n : Nat) (a0 : List UInt8) (a1 : List (Int × List UInt8 × Int × Int)) (a2 : List UInt8) (a3 : Int) (a4 : Int) (a5 : Int) (a6 : Int) : runDf Try.prog (Es_cursors_Run_v7 n) (Ls_cursors_Run_v7 n) Try.f30.ntmps (spineL 2 (acOf Try.f30)) (getO (regOps (spineR 2 (acOf Try.f30))) 0) (.tmp 9) 79 (spineR 3 (acOf Try.f30)) [] [] Try.f79.ntmps (spineR 1 (acOf Try.f79)) 5 Try.f30.results.toList (funX [1] 2 1 2 unr_cursors_Run_v7) ⟨argsT [.s a0, .fn 1000031 [.p 1 0]] 0, [(0, .rows [.i .u8, .s, .i .i64, .i .i64] a1), (1, .cells [.ws 0, .s a2, .i .i64 a3, .i .i64 a4, .i .i64 a5, .i .i64 a6])], 2, 2, 1, 2⟩ = cursors_Run_v7 n a0 a1 a2 a3 a4 a5 a6 := by kernel_rfl
theorem subsC_cursors_Run_v7 : SubOK Try.prog Try.f79.ntmps [] (acOf Try.f79) := SubOK_of _ (by
  have e : subs (acOf Try.f79) = [] := by kernel_rfl
  rw [e]; intro p hp; cases hp)
theorem fun_cursors_Run_v7 (n : Nat) : ∀ a r, cursors_Run_v7 n a.1 a.2.1 a.2.2.1 a.2.2.2.1 a.2.2.2.2.1 a.2.2.2.2.2.1 a.2.2.2.2.2.2 = some r → FunOK Try.prog 30 (arg_cursors_Run_v7 a) (H0_cursors_Run_v7 a) 2 1 2 (out_cursors_Run_v7 r) := fun a r h => funX_of (ws := [1]) unr_ok_cursors_Run_v7 hv_cursors_Run_v7 (fun r b blk hl => (chkH_look (hc_cursors_Run_v7 r) b blk hl).2) (fun r => chkH_keys (hc_cursors_Run_v7 r)) (by decide) rfl (funcD2_ok (Es_ok_cursors_Run_v7 n) (k := 2) (idD := 3) (o1 := (getO (regOps (spineR 2 (acOf Try.f30))) 0)) (oD := (getO (regOps (spineR 2 (acOf Try.f30))) 1)) (acB := (spineR 3 (acOf Try.f30))) (idR := 0) (oR := (getO (regOps (acOf Try.f79)) 0)) Try.func30 rfl (acOf_code _) (by kernel_rfl) (subs_cursors_Run_v7 n) (by kernel_rfl) (by kernel_rfl) (by kernel_rfl) (by kernel_rfl) (EC := []) (fun x hx => by cases hx) Try.func79 rfl (acOf_code _) (by kernel_rfl) (by kernel_rfl) (by kernel_rfl) (by kernel_rfl) (by kernel_rfl) subsC_cursors_Run_v7 Try.call79 rfl ((cert_cursors_Run_v7 n a.1 a.2.1 a.2.2.1 a.2.2.2.1 a.2.2.2.2.1 a.2.2.2.2.2.1 a.2.2.2.2.2.2).trans h))
theorem ok_cursors_Run_v7 (n : Nat) : EntOK Try.prog (e_cursors_Run_v7 n) := funE_ok (m := 2) (ro := 1) (rb := 2) (out := out_cursors_Run_v7) (arg := arg_cursors_Run_v7) (H0 := H0_cursors_Run_v7) Try.call30 (by decide) (by decide) outK_ok_cursors_Run_v7 una_ok_cursors_Run_v7 (fun _ => rfl) (fun a => chkH_look (m := 2) (H := H0_cursors_Run_v7 a) rfl) (fun _ => rfl) (fun r => chkH_keys (hc_cursors_Run_v7 r)) (fun r b blk h => (chkH_look (hc_cursors_Run_v7 r) b blk h).2) (fun r b h1 h2 => hasKeys_ok (hk_cursors_Run_v7 r) b h1 (by omega)) hv_cursors_Run_v7 (fun_cursors_Run_v7 n)

/-! circa/circaref12.End -/
noncomputable def arg_circaref12_End (a : List UInt8 × Int × Int × Int) : List V := [.ag [.s a.1, .i .i64 a.2.1, .i .i64 a.2.2.1, .i .i64 a.2.2.2]]
noncomputable def una_circaref12_End (l : List V) : Option (List UInt8 × Int × Int × Int) := match l with
  | [.ag [.s a0, .i .i64 a1, .i .i64 a2, .i .i64 a3]] => some (a0, a1, a2, a3)
  | _ => none
theorem una_ok_circaref12_End : ∀ l a, una_circaref12_End l = some a → l = arg_circaref12_End a := by
  intro l a h
  unfold una_circaref12_End at h
  split at h
  · cases h; rfl
  · cases h
noncomputable def enc_circaref12_End (r : Int × Int) : V := .tp [.i .i64 r.1, .i .i64 r.2]
noncomputable def unr_circaref12_End (v : V) : Option (Int × Int) := match v with
  | .tp [.i .i64 r0, .i .i64 r1] => some (r0, r1)
  | _ => none
theorem unr_ok_circaref12_End : ∀ v r, unr_circaref12_End v = some r → v = enc_circaref12_End r := by
  intro v r h
  unfold unr_circaref12_End at h
  split at h
  · cases h; rfl
  · cases h
noncomputable def e_circaref12_End (n : Nat) : Ent := pureE 32 una_circaref12_End (fun a => circaref12_End n a.1 a.2.1 a.2.2.1 a.2.2.2) enc_circaref12_End
noncomputable def t_circaref12_End (l : List V) (_ : List (Nat × Blk)) : Bool := isS (una_circaref12_End l)
noncomputable def Es_circaref12_End (_n : Nat) : List Ent := []
theorem Es_ok_circaref12_End (n : Nat) : ∀ x ∈ Es_circaref12_End n, EntOK Try.prog x := by
  intro x hx
  simp [Es_circaref12_End] at hx
noncomputable def Ls_circaref12_End (_n : Nat) : List Sub := []
theorem subs_circaref12_End (n : Nat) : SubOK Try.prog 19 (Ls_circaref12_End n) (acOf Try.f32) := SubOK_of _ (by
  have e : subs (acOf Try.f32) = [] := by kernel_rfl
  rw [e]; intro p hp; cases hp)
theorem cert_circaref12_End (n : Nat) (a0 : List UInt8) (a1 : Int) (a2 : Int) (a3 : Int) : run Try.prog (Es_circaref12_End n) (Ls_circaref12_End n) Try.f32.ntmps (acOf Try.f32) ⟨argsT [.ag [.s a0, .i .i64 a1, .i .i64 a2, .i .i64 a3]] 0, [], 0, 0, 0, 0⟩ (finK Try.prog Try.f32.results.toList (retX unr_circaref12_End)) = circaref12_End n a0 a1 a2 a3 := by kernel_rfl
theorem pure_circaref12_End (n : Nat) : ∀ a r, circaref12_End n a.1 a.2.1 a.2.2.1 a.2.2.2 = some r → PureOK Try.prog 32 (arg_circaref12_End a) (enc_circaref12_End r) := fun a r h => pureX_ok unr_ok_circaref12_End (Es_ok_circaref12_End n) Try.func32 rfl (acOf_code _) (subs_circaref12_End n) rfl ((cert_circaref12_End n a.1 a.2.1 a.2.2.1 a.2.2.2).trans h)
theorem ok_circaref12_End (n : Nat) : EntOK Try.prog (e_circaref12_End n) := pureE_ok Try.call32 una_ok_circaref12_End (fun _ => rfl) (pure_circaref12_End n)

/-! circa/circalaw12.CursorsPlay -/
noncomputable def arg_circalaw12_CursorsPlay (a : List UInt8 × List (Int × List UInt8 × Int × Int)) : List V := [.s a.1, .ws 0]
noncomputable def H0_circalaw12_CursorsPlay (a : List UInt8 × List (Int × List UInt8 × Int × Int)) : List (Nat × Blk) := [(0, .rows [.i .u8, .s, .i .i64, .i .i64] a.2)]
noncomputable def una_circalaw12_CursorsPlay (l : List V) (H : List (Nat × Blk)) : Option ((List UInt8 × List (Int × List UInt8 × Int × Int)) × List Nat) := match l with
  | [.s a0, .ws b0] => (match Abs.look H b0 with
    | some (.rows [.i .u8, .s, .i .i64, .i .i64] a1) => (cond (Abs.distinct [b0] && true) (some ((a0, a1), [b0])) none)
    | _ => none)
  | _ => none
theorem una_ok_circalaw12_CursorsPlay : ∀ l H a ρ, una_circalaw12_CursorsPlay l H = some (a, ρ) → ρ.length = 1 ∧ ρ.Nodup ∧ l = V.rens ρ (arg_circalaw12_CursorsPlay a) ∧ ∀ b blk, Abs.look (H0_circalaw12_CursorsPlay a) b = some blk → Abs.look H (getN ρ b) = some (blk.ren ρ) := by
  intro l H a ρ h
  unfold una_circalaw12_CursorsPlay at h
  split at h
  · split at h
    · rename_i e0
      obtain ⟨hd, h⟩ := cond_some h
      simp only [Bool.and_eq_true] at hd
      obtain ⟨hd, _⟩ := hd
      cases h
      exact ⟨rfl, distinct_ok hd, rfl, eachH_look ⟨e0, trivial⟩⟩
    · cases h
  · cases h
noncomputable def out_circalaw12_CursorsPlay (r : Bool) : FOut := (⟨false, .b r, [], []⟩ : FOut)
noncomputable def outK_circalaw12_CursorsPlay (α : Type) (r : Bool) (k : FOut → Option α) : Option α := (k ⟨false, .b r, [], []⟩)
theorem outK_ok_circalaw12_CursorsPlay : ∀ α r k, outK_circalaw12_CursorsPlay α r k = k (out_circalaw12_CursorsPlay r) := by
  intro α r k
  rfl
noncomputable def unr_circalaw12_CursorsPlay (pan : Bool) (v : V) (H : List (Nat × Blk)) (nw : List Nat) : Option (Bool) := match pan, v, H, nw with
  | false, .b r0, [], [] => some r0
  | _, _, _, _ => none
theorem unr_ok_circalaw12_CursorsPlay : ∀ pan v H nw r, unr_circalaw12_CursorsPlay pan v H nw = some r → (out_circalaw12_CursorsPlay r).pan = pan ∧ (out_circalaw12_CursorsPlay r).news = nw ∧ v = V.ren (upTo 0 1 ++ (out_circalaw12_CursorsPlay r).news) (out_circalaw12_CursorsPlay r).val ∧ H = renH (upTo 0 1 ++ (out_circalaw12_CursorsPlay r).news) (out_circalaw12_CursorsPlay r).H := by
  intro pan v H nw r h
  unfold unr_circalaw12_CursorsPlay at h
  split at h
  · cases h; exact ⟨rfl, rfl, rfl, rfl⟩
  · cases h
theorem hv_circalaw12_CursorsPlay : ∀ r, V.lt (1 + (out_circalaw12_CursorsPlay r).news.length) (out_circalaw12_CursorsPlay r).val = true := fun r => (by rfl)
theorem hc_circalaw12_CursorsPlay : ∀ r, chkH (1 + (out_circalaw12_CursorsPlay r).news.length) (out_circalaw12_CursorsPlay r).H = true := fun r => (by rfl)
theorem hk_circalaw12_CursorsPlay : ∀ r, hasKeys (out_circalaw12_CursorsPlay r).H 1 (0 + (out_circalaw12_CursorsPlay r).news.length) = true := fun r => (by rfl)
noncomputable def e_circalaw12_CursorsPlay (n : Nat) : Ent := funE 7 1 una_circalaw12_CursorsPlay (fun a => circalaw12_CursorsPlay n a.1 a.2) outK_circalaw12_CursorsPlay
noncomputable def t_circalaw12_CursorsPlay (l : List V) (H : List (Nat × Blk)) : Bool := isS (una_circalaw12_CursorsPlay l H)
noncomputable def Es_circalaw12_CursorsPlay (n : Nat) : List Ent := [e_circalaw12_lives n, e_cursors_Run_v7 n, e_circaref12_End n]
theorem Es_ok_circalaw12_CursorsPlay (n : Nat) : ∀ x ∈ Es_circalaw12_CursorsPlay n, EntOK Try.prog x := by
  intro x hx
  simp only [Es_circalaw12_CursorsPlay, List.mem_cons, List.not_mem_nil, or_false] at hx
  rcases hx with hx | hx | hx
  · rw [hx]; exact ok_circalaw12_lives n
  · rw [hx]; exact ok_cursors_Run_v7 n
  · rw [hx]; exact ok_circaref12_End n
noncomputable def an_circalaw12_CursorsPlay_l0 : Ann := ⟨[0, 1, 5], [0], 1, []⟩
noncomputable def emb_circalaw12_CursorsPlay_l0 (x : List UInt8 × Int × List (Int × List UInt8 × Int × Int)) : St := ⟨[(0, some (.s x.1)), (1, some (.ws 0)), (5, some (.i .i64 x.2.1))], [(0, .rows [.i .u8, .s, .i .i64, .i .i64] x.2.2)], 1, 1, 1, 1⟩
noncomputable def un_circalaw12_CursorsPlay_l0 (s : St) : Option (List UInt8 × Int × List (Int × List UInt8 × Int × Int)) := match s with
  | ⟨[(0, some (.s x0)), (1, some (.ws 0)), (5, some (.i .i64 x1))], [(0, .rows [.i .u8, .s, .i .i64, .i .i64] x2)], 1, 1, 1, 1⟩ => some (x0, x1, x2)
  | _ => none
theorem un_ok_circalaw12_CursorsPlay_l0 : ∀ s x, un_circalaw12_CursorsPlay_l0 s = some x → s = emb_circalaw12_CursorsPlay_l0 x := by
  intro s x h
  unfold un_circalaw12_CursorsPlay_l0 at h
  split at h
  · cases h; rfl
  · cases h
noncomputable def ax_circalaw12_CursorsPlay_l0 : Ex → Ann := fun ex => match ex with
  | .ret => ⟨[4], [], 1, []⟩
  | .exit 0 => ⟨[0, 1], [0], 1, []⟩
  | _ => ⟨[], [], 0, []⟩
noncomputable def out_circalaw12_CursorsPlay_l0 (y : Bool ⊕ (List UInt8 × List (Int × List UInt8 × Int × Int))) : Ex × St := (Sum.casesOn (motive := fun _ => Ex × St) y (fun a0 => (.ret, ⟨[(4, some (.b a0))], [], 1, 1, 1, 1⟩)) (fun b0 => (.exit 0, ⟨[(0, some (.s b0.1)), (1, some (.ws 0))], [(0, .rows [.i .u8, .s, .i .i64, .i .i64] b0.2)], 1, 1, 1, 1⟩)))
noncomputable def outK_circalaw12_CursorsPlay_l0 (α : Type) (y : Bool ⊕ (List UInt8 × List (Int × List UInt8 × Int × Int))) (k : Ex → St → Option α) : Option α := (Sum.casesOn (motive := fun _ => Option α) y (fun a0 => (k (.ret) ⟨[(4, some (.b a0))], [], 1, 1, 1, 1⟩)) (fun b0 => (k (.exit 0) ⟨[(0, some (.s b0.1)), (1, some (.ws 0))], [(0, .rows [.i .u8, .s, .i .i64, .i .i64] b0.2)], 1, 1, 1, 1⟩)))
theorem outK_ok_circalaw12_CursorsPlay_l0 : ∀ α y k, outK_circalaw12_CursorsPlay_l0 α y k = k (out_circalaw12_CursorsPlay_l0 y).1 (out_circalaw12_CursorsPlay_l0 y).2 := by
  intro α y k
  rcases y with y | y <;> rfl
noncomputable def ux_circalaw12_CursorsPlay_l0 (ex : Ex) (s : St) : Option (Bool ⊕ (List UInt8 × List (Int × List UInt8 × Int × Int))) := match ex, s with
  | .ret, ⟨[(4, some (.b y0))], [], 1, 1, 1, 1⟩ => some (.inl y0)
  | .exit 0, ⟨[(0, some (.s y0)), (1, some (.ws 0))], [(0, .rows [.i .u8, .s, .i .i64, .i .i64] y1)], 1, 1, 1, 1⟩ => some (.inr (y0, y1))
  | _, _ => none
theorem ux_ok_circalaw12_CursorsPlay_l0 : ∀ ex s y, ux_circalaw12_CursorsPlay_l0 ex s = some y → (ex, s) = out_circalaw12_CursorsPlay_l0 y := by
  intro ex s y h
  unfold ux_circalaw12_CursorsPlay_l0 at h
  split at h
  · cases h; rfl
  · cases h; rfl
  · cases h
noncomputable def Ls_circalaw12_CursorsPlay (n : Nat) : List Sub := [subE 0 an_circalaw12_CursorsPlay_l0 un_circalaw12_CursorsPlay_l0 (fun x => iterL (circalaw12_CursorsPlay_l0 n) n x) outK_circalaw12_CursorsPlay_l0]
noncomputable def sac_circalaw12_CursorsPlay_l0 : AC := getS (subs (acOf Try.f7)) 0
noncomputable def ac_circalaw12_CursorsPlay_l0 : AC := AC.body sac_circalaw12_CursorsPlay_l0
theorem subs_circalaw12_CursorsPlay_l0 (n : Nat) : SubOK Try.prog 67 (Ls_circalaw12_CursorsPlay n) ac_circalaw12_CursorsPlay_l0 := SubOK_of _ (by
  have e : subs ac_circalaw12_CursorsPlay_l0 = [] := by kernel_rfl
  rw [e]; intro p hp; cases hp)
theorem body_circalaw12_CursorsPlay_l0 (n : Nat) : ∀ x, run Try.prog (Es_circalaw12_CursorsPlay n) (Ls_circalaw12_CursorsPlay n) 67 ac_circalaw12_CursorsPlay_l0 (emb_circalaw12_CursorsPlay_l0 x) (roundK an_circalaw12_CursorsPlay_l0 un_circalaw12_CursorsPlay_l0 ax_circalaw12_CursorsPlay_l0 ux_circalaw12_CursorsPlay_l0) = circalaw12_CursorsPlay_l0 n x := fun _ => by kernel_rfl
theorem sub1_circalaw12_CursorsPlay_l0 (n : Nat) : ∀ (α : Type) (s : St) (k : Ex → St → Option α) (z : α), (subE 0 an_circalaw12_CursorsPlay_l0 un_circalaw12_CursorsPlay_l0 (fun x => iterL (circalaw12_CursorsPlay_l0 n) n x) outK_circalaw12_CursorsPlay_l0).e α s k = some z → SemC Try.prog 67 (sac_circalaw12_CursorsPlay_l0).code s fun ex s' => k ex s' = some z := by
  intro α s k z h
  have e : sac_circalaw12_CursorsPlay_l0 = .loop ac_circalaw12_CursorsPlay_l0 := by kernel_rfl
  rw [e]
  exact subE_ok (m := 0) (f := fun x => iterL (circalaw12_CursorsPlay_l0 n) n x) (out := out_circalaw12_CursorsPlay_l0) outK_ok_circalaw12_CursorsPlay_l0 un_ok_circalaw12_CursorsPlay_l0 (fun x y hy => loop_ok (Es_ok_circalaw12_CursorsPlay n) (subs_circalaw12_CursorsPlay_l0 n) un_ok_circalaw12_CursorsPlay_l0 ux_ok_circalaw12_CursorsPlay_l0 (body_circalaw12_CursorsPlay_l0 n) n x y hy) h
theorem sub_circalaw12_CursorsPlay_l0 (n : Nat) : SubSt Try.prog 67 (Ls_circalaw12_CursorsPlay n) 0 sac_circalaw12_CursorsPlay_l0 := fun α s k z => sub1_circalaw12_CursorsPlay_l0 n α s k z
theorem subs_circalaw12_CursorsPlay (n : Nat) : SubOK Try.prog 67 (Ls_circalaw12_CursorsPlay n) (acOf Try.f7) := SubOK_of _ (by
  have e : subs (acOf Try.f7) = [(0, sac_circalaw12_CursorsPlay_l0)] := by kernel_rfl
  rw [e]; intro p hp
  simp only [List.mem_cons, List.not_mem_nil, or_false] at hp
  · rw [hp]; exact sub_circalaw12_CursorsPlay_l0 n
  )
theorem cert_circalaw12_CursorsPlay (n : Nat) (a0 : List UInt8) (a1 : List (Int × List UInt8 × Int × Int)) : run Try.prog (Es_circalaw12_CursorsPlay n) (Ls_circalaw12_CursorsPlay n) Try.f7.ntmps (acOf Try.f7) ⟨argsT [.s a0, .ws 0] 0, [(0, .rows [.i .u8, .s, .i .i64, .i .i64] a1)], 1, 1, 1, 1⟩ (finK Try.prog Try.f7.results.toList (funX [] 1 1 1 unr_circalaw12_CursorsPlay)) = circalaw12_CursorsPlay n a0 a1 := by kernel_rfl
theorem fun_circalaw12_CursorsPlay (n : Nat) : ∀ a r, circalaw12_CursorsPlay n a.1 a.2 = some r → FunOK Try.prog 7 (arg_circalaw12_CursorsPlay a) (H0_circalaw12_CursorsPlay a) 1 1 1 (out_circalaw12_CursorsPlay r) := fun a r h => funX_ok (ws := []) unr_ok_circalaw12_CursorsPlay hv_circalaw12_CursorsPlay (fun r b blk hl => (chkH_look (hc_circalaw12_CursorsPlay r) b blk hl).2) (fun r => chkH_keys (hc_circalaw12_CursorsPlay r)) (by decide) (Es_ok_circalaw12_CursorsPlay n) Try.func7 rfl (acOf_code _) (subs_circalaw12_CursorsPlay n) rfl rfl ((cert_circalaw12_CursorsPlay n a.1 a.2).trans h)
theorem ok_circalaw12_CursorsPlay (n : Nat) : EntOK Try.prog (e_circalaw12_CursorsPlay n) := funE_ok (m := 1) (ro := 1) (rb := 1) (out := out_circalaw12_CursorsPlay) (arg := arg_circalaw12_CursorsPlay) (H0 := H0_circalaw12_CursorsPlay) Try.call7 (by decide) (by decide) outK_ok_circalaw12_CursorsPlay una_ok_circalaw12_CursorsPlay (fun _ => rfl) (fun a => chkH_look (m := 1) (H := H0_circalaw12_CursorsPlay a) rfl) (fun _ => rfl) (fun r => chkH_keys (hc_circalaw12_CursorsPlay r)) (fun r b blk h => (chkH_look (hc_circalaw12_CursorsPlay r) b blk h).2) (fun r b h1 h2 => hasKeys_ok (hk_circalaw12_CursorsPlay r) b h1 (by omega)) hv_circalaw12_CursorsPlay (fun_circalaw12_CursorsPlay n)

/-! circa/cursors.Run -/
noncomputable def arg_cursors_Run_v8 (a : List UInt8) : List V := [.s a, .nf]
noncomputable def H0_cursors_Run_v8 (a : List UInt8) : List (Nat × Blk) := []
noncomputable def una_cursors_Run_v8 (l : List V) (H : List (Nat × Blk)) : Option ((List UInt8) × List Nat) := match l with
  | [.s a0, .nf] => (cond (Abs.distinct [] && true) (some (a0, [])) none)
  | _ => none
theorem una_ok_cursors_Run_v8 : ∀ l H a ρ, una_cursors_Run_v8 l H = some (a, ρ) → ρ.length = 0 ∧ ρ.Nodup ∧ l = V.rens ρ (arg_cursors_Run_v8 a) ∧ ∀ b blk, Abs.look (H0_cursors_Run_v8 a) b = some blk → Abs.look H (getN ρ b) = some (blk.ren ρ) := by
  intro l H a ρ h
  unfold una_cursors_Run_v8 at h
  split at h
  · obtain ⟨hd, h⟩ := cond_some h
    simp only [Bool.and_eq_true] at hd
    obtain ⟨hd, _⟩ := hd
    cases h
    exact ⟨rfl, distinct_ok hd, rfl, eachH_look trivial⟩
  · cases h
noncomputable def out_cursors_Run_v8 (r : (Int × Int)) : FOut := (⟨false, .tp [.i .i64 r.1, .i .i64 r.2], [], []⟩ : FOut)
noncomputable def outK_cursors_Run_v8 (α : Type) (r : (Int × Int)) (k : FOut → Option α) : Option α := (k ⟨false, .tp [.i .i64 r.1, .i .i64 r.2], [], []⟩)
theorem outK_ok_cursors_Run_v8 : ∀ α r k, outK_cursors_Run_v8 α r k = k (out_cursors_Run_v8 r) := by
  intro α r k
  rfl
noncomputable def unr_cursors_Run_v8 (pan : Bool) (v : V) (H : List (Nat × Blk)) (nw : List Nat) : Option ((Int × Int)) := match pan, v, H, nw with
  | false, .tp [.i .i64 r0, .i .i64 r1], [], [] => some (r0, r1)
  | _, _, _, _ => none
theorem unr_ok_cursors_Run_v8 : ∀ pan v H nw r, unr_cursors_Run_v8 pan v H nw = some r → (out_cursors_Run_v8 r).pan = pan ∧ (out_cursors_Run_v8 r).news = nw ∧ v = V.ren (upTo 0 0 ++ (out_cursors_Run_v8 r).news) (out_cursors_Run_v8 r).val ∧ H = renH (upTo 0 0 ++ (out_cursors_Run_v8 r).news) (out_cursors_Run_v8 r).H := by
  intro pan v H nw r h
  unfold unr_cursors_Run_v8 at h
  split at h
  · cases h; exact ⟨rfl, rfl, rfl, rfl⟩
  · cases h
theorem hv_cursors_Run_v8 : ∀ r, V.lt (0 + (out_cursors_Run_v8 r).news.length) (out_cursors_Run_v8 r).val = true := fun r => (by rfl)
theorem hc_cursors_Run_v8 : ∀ r, chkH (0 + (out_cursors_Run_v8 r).news.length) (out_cursors_Run_v8 r).H = true := fun r => (by rfl)
theorem hk_cursors_Run_v8 : ∀ r, hasKeys (out_cursors_Run_v8 r).H 0 (0 + (out_cursors_Run_v8 r).news.length) = true := fun r => (by rfl)
noncomputable def e_cursors_Run_v8 (n : Nat) : Ent := funE 30 0 una_cursors_Run_v8 (fun a => cursors_Run_v8 n a) outK_cursors_Run_v8
noncomputable def t_cursors_Run_v8 (l : List V) (H : List (Nat × Blk)) : Bool := isS (una_cursors_Run_v8 l H)
noncomputable def Es_cursors_Run_v8 (_n : Nat) : List Ent := []
theorem Es_ok_cursors_Run_v8 (n : Nat) : ∀ x ∈ Es_cursors_Run_v8 n, EntOK Try.prog x := by
  intro x hx
  simp [Es_cursors_Run_v8] at hx
noncomputable def Ls_cursors_Run_v8 (_n : Nat) : List Sub := []
theorem subs_cursors_Run_v8 (n : Nat) : SubOK Try.prog 27 (Ls_cursors_Run_v8 n) (acOf Try.f30) := SubOK_of _ (by
  have e : subs (acOf Try.f30) = [] := by kernel_rfl
  rw [e]; intro p hp; cases hp)
theorem cert_cursors_Run_v8 (n : Nat) (a0 : List UInt8) : runDf Try.prog (Es_cursors_Run_v8 n) (Ls_cursors_Run_v8 n) Try.f30.ntmps (spineL 2 (acOf Try.f30)) (getO (regOps (spineR 2 (acOf Try.f30))) 0) (.tmp 9) 79 (spineR 3 (acOf Try.f30)) [] [] Try.f79.ntmps (spineR 1 (acOf Try.f79)) 5 Try.f30.results.toList (funX [] 0 0 0 unr_cursors_Run_v8) ⟨argsT [.s a0, .nf] 0, [], 0, 0, 0, 0⟩ = cursors_Run_v8 n a0 := by kernel_rfl
theorem subsC_cursors_Run_v8 : SubOK Try.prog Try.f79.ntmps [] (acOf Try.f79) := SubOK_of _ (by
  have e : subs (acOf Try.f79) = [] := by kernel_rfl
  rw [e]; intro p hp; cases hp)
theorem fun_cursors_Run_v8 (n : Nat) : ∀ a r, cursors_Run_v8 n a = some r → FunOK Try.prog 30 (arg_cursors_Run_v8 a) (H0_cursors_Run_v8 a) 0 0 0 (out_cursors_Run_v8 r) := fun a r h => funX_of (ws := []) unr_ok_cursors_Run_v8 hv_cursors_Run_v8 (fun r b blk hl => (chkH_look (hc_cursors_Run_v8 r) b blk hl).2) (fun r => chkH_keys (hc_cursors_Run_v8 r)) (by decide) rfl (funcD2_ok (Es_ok_cursors_Run_v8 n) (k := 2) (idD := 3) (o1 := (getO (regOps (spineR 2 (acOf Try.f30))) 0)) (oD := (getO (regOps (spineR 2 (acOf Try.f30))) 1)) (acB := (spineR 3 (acOf Try.f30))) (idR := 0) (oR := (getO (regOps (acOf Try.f79)) 0)) Try.func30 rfl (acOf_code _) (by kernel_rfl) (subs_cursors_Run_v8 n) (by kernel_rfl) (by kernel_rfl) (by kernel_rfl) (by kernel_rfl) (EC := []) (fun x hx => by cases hx) Try.func79 rfl (acOf_code _) (by kernel_rfl) (by kernel_rfl) (by kernel_rfl) (by kernel_rfl) (by kernel_rfl) subsC_cursors_Run_v8 Try.call79 rfl ((cert_cursors_Run_v8 n a).trans h))
theorem ok_cursors_Run_v8 (n : Nat) : EntOK Try.prog (e_cursors_Run_v8 n) := funE_ok (m := 0) (ro := 0) (rb := 0) (out := out_cursors_Run_v8) (arg := arg_cursors_Run_v8) (H0 := H0_cursors_Run_v8) Try.call30 (by decide) (by decide) outK_ok_cursors_Run_v8 una_ok_cursors_Run_v8 (fun _ => rfl) (fun a => chkH_look (m := 0) (H := H0_cursors_Run_v8 a) rfl) (fun _ => rfl) (fun r => chkH_keys (hc_cursors_Run_v8 r)) (fun r b blk h => (chkH_look (hc_cursors_Run_v8 r) b blk h).2) (fun r b h1 h2 => hasKeys_ok (hk_cursors_Run_v8 r) b h1 (by omega)) hv_cursors_Run_v8 (fun_cursors_Run_v8 n)

/-! (*circa/cursors.Cursor).Rest -/
noncomputable def arg_cursors_Cursor_Rest_v2 (_a : Unit) : List V := [.pn]
noncomputable def una_cursors_Cursor_Rest_v2 (l : List V) : Option (Unit) := match l with
  | [.pn] => some ()
  | _ => none
theorem una_ok_cursors_Cursor_Rest_v2 : ∀ l a, una_cursors_Cursor_Rest_v2 l = some a → l = arg_cursors_Cursor_Rest_v2 a := by
  intro l a h
  unfold una_cursors_Cursor_Rest_v2 at h
  split at h
  · cases h; rfl
  · cases h
noncomputable def enc_cursors_Cursor_Rest_v2 (r : List UInt8) : V := .s r
noncomputable def unr_cursors_Cursor_Rest_v2 (v : V) : Option (List UInt8) := match v with
  | .s r0 => some r0
  | _ => none
theorem unr_ok_cursors_Cursor_Rest_v2 : ∀ v r, unr_cursors_Cursor_Rest_v2 v = some r → v = enc_cursors_Cursor_Rest_v2 r := by
  intro v r h
  unfold unr_cursors_Cursor_Rest_v2 at h
  split at h
  · cases h; rfl
  · cases h
noncomputable def e_cursors_Cursor_Rest_v2 (n : Nat) : Ent := pureE 37 una_cursors_Cursor_Rest_v2 (fun _a => cursors_Cursor_Rest_v2 n) enc_cursors_Cursor_Rest_v2
noncomputable def t_cursors_Cursor_Rest_v2 (l : List V) (_ : List (Nat × Blk)) : Bool := isS (una_cursors_Cursor_Rest_v2 l)
noncomputable def Es_cursors_Cursor_Rest_v2 (_n : Nat) : List Ent := []
theorem Es_ok_cursors_Cursor_Rest_v2 (n : Nat) : ∀ x ∈ Es_cursors_Cursor_Rest_v2 n, EntOK Try.prog x := by
  intro x hx
  simp [Es_cursors_Cursor_Rest_v2] at hx
noncomputable def Ls_cursors_Cursor_Rest_v2 (_n : Nat) : List Sub := []
theorem subs_cursors_Cursor_Rest_v2 (n : Nat) : SubOK Try.prog 14 (Ls_cursors_Cursor_Rest_v2 n) (acOf Try.f37) := SubOK_of _ (by
  have e : subs (acOf Try.f37) = [] := by kernel_rfl
  rw [e]; intro p hp; cases hp)
theorem cert_cursors_Cursor_Rest_v2 (n : Nat) : run Try.prog (Es_cursors_Cursor_Rest_v2 n) (Ls_cursors_Cursor_Rest_v2 n) Try.f37.ntmps (acOf Try.f37) ⟨argsT [.pn] 0, [], 0, 0, 0, 0⟩ (finK Try.prog Try.f37.results.toList (retX unr_cursors_Cursor_Rest_v2)) = cursors_Cursor_Rest_v2 n := by kernel_rfl
theorem pure_cursors_Cursor_Rest_v2 (n : Nat) : ∀ a r, cursors_Cursor_Rest_v2 n = some r → PureOK Try.prog 37 (arg_cursors_Cursor_Rest_v2 a) (enc_cursors_Cursor_Rest_v2 r) := fun a r h => pureX_ok unr_ok_cursors_Cursor_Rest_v2 (Es_ok_cursors_Cursor_Rest_v2 n) Try.func37 rfl (acOf_code _) (subs_cursors_Cursor_Rest_v2 n) rfl ((cert_cursors_Cursor_Rest_v2 n).trans h)
theorem ok_cursors_Cursor_Rest_v2 (n : Nat) : EntOK Try.prog (e_cursors_Cursor_Rest_v2 n) := pureE_ok Try.call37 una_ok_cursors_Cursor_Rest_v2 (fun _ => rfl) (pure_cursors_Cursor_Rest_v2 n)

/-! (*circa/cursors.Cursor).Peek -/
noncomputable def arg_cursors_Cursor_Peek_v2 (_a : Unit) : List V := [.pn]
noncomputable def una_cursors_Cursor_Peek_v2 (l : List V) : Option (Unit) := match l with
  | [.pn] => some ()
  | _ => none
theorem una_ok_cursors_Cursor_Peek_v2 : ∀ l a, una_cursors_Cursor_Peek_v2 l = some a → l = arg_cursors_Cursor_Peek_v2 a := by
  intro l a h
  unfold una_cursors_Cursor_Peek_v2 at h
  split at h
  · cases h; rfl
  · cases h
noncomputable def enc_cursors_Cursor_Peek_v2 (r : Int × Bool) : V := .tp [.i .u8 r.1, .b r.2]
noncomputable def unr_cursors_Cursor_Peek_v2 (v : V) : Option (Int × Bool) := match v with
  | .tp [.i .u8 r0, .b r1] => some (r0, r1)
  | _ => none
theorem unr_ok_cursors_Cursor_Peek_v2 : ∀ v r, unr_cursors_Cursor_Peek_v2 v = some r → v = enc_cursors_Cursor_Peek_v2 r := by
  intro v r h
  unfold unr_cursors_Cursor_Peek_v2 at h
  split at h
  · cases h; rfl
  · cases h
noncomputable def e_cursors_Cursor_Peek_v2 (n : Nat) : Ent := pureE 33 una_cursors_Cursor_Peek_v2 (fun _a => cursors_Cursor_Peek_v2 n) enc_cursors_Cursor_Peek_v2
noncomputable def t_cursors_Cursor_Peek_v2 (l : List V) (_ : List (Nat × Blk)) : Bool := isS (una_cursors_Cursor_Peek_v2 l)
noncomputable def Es_cursors_Cursor_Peek_v2 (n : Nat) : List Ent := [e_cursors_Cursor_Rest_v2 n]
theorem Es_ok_cursors_Cursor_Peek_v2 (n : Nat) : ∀ x ∈ Es_cursors_Cursor_Peek_v2 n, EntOK Try.prog x := by
  intro x hx
  simp only [Es_cursors_Cursor_Peek_v2, List.mem_cons, List.not_mem_nil, or_false] at hx
  · rw [hx]; exact ok_cursors_Cursor_Rest_v2 n
noncomputable def Ls_cursors_Cursor_Peek_v2 (_n : Nat) : List Sub := []
theorem subs_cursors_Cursor_Peek_v2 (n : Nat) : SubOK Try.prog 16 (Ls_cursors_Cursor_Peek_v2 n) (acOf Try.f33) := SubOK_of _ (by
  have e : subs (acOf Try.f33) = [] := by kernel_rfl
  rw [e]; intro p hp; cases hp)
theorem cert_cursors_Cursor_Peek_v2 (n : Nat) : run Try.prog (Es_cursors_Cursor_Peek_v2 n) (Ls_cursors_Cursor_Peek_v2 n) Try.f33.ntmps (acOf Try.f33) ⟨argsT [.pn] 0, [], 0, 0, 0, 0⟩ (finK Try.prog Try.f33.results.toList (retX unr_cursors_Cursor_Peek_v2)) = cursors_Cursor_Peek_v2 n := by kernel_rfl
theorem pure_cursors_Cursor_Peek_v2 (n : Nat) : ∀ a r, cursors_Cursor_Peek_v2 n = some r → PureOK Try.prog 33 (arg_cursors_Cursor_Peek_v2 a) (enc_cursors_Cursor_Peek_v2 r) := fun a r h => pureX_ok unr_ok_cursors_Cursor_Peek_v2 (Es_ok_cursors_Cursor_Peek_v2 n) Try.func33 rfl (acOf_code _) (subs_cursors_Cursor_Peek_v2 n) rfl ((cert_cursors_Cursor_Peek_v2 n).trans h)
theorem ok_cursors_Cursor_Peek_v2 (n : Nat) : EntOK Try.prog (e_cursors_Cursor_Peek_v2 n) := pureE_ok Try.call33 una_ok_cursors_Cursor_Peek_v2 (fun _ => rfl) (pure_cursors_Cursor_Peek_v2 n)

/-! (*circa/cursors.Cursor).Is -/
noncomputable def arg_cursors_Cursor_Is_v2 (a : List UInt8) : List V := [.pn, .s a]
noncomputable def una_cursors_Cursor_Is_v2 (l : List V) : Option (List UInt8) := match l with
  | [.pn, .s a0] => some a0
  | _ => none
theorem una_ok_cursors_Cursor_Is_v2 : ∀ l a, una_cursors_Cursor_Is_v2 l = some a → l = arg_cursors_Cursor_Is_v2 a := by
  intro l a h
  unfold una_cursors_Cursor_Is_v2 at h
  split at h
  · cases h; rfl
  · cases h
noncomputable def enc_cursors_Cursor_Is_v2 (r : Bool) : V := .b r
noncomputable def unr_cursors_Cursor_Is_v2 (v : V) : Option (Bool) := match v with
  | .b r0 => some r0
  | _ => none
theorem unr_ok_cursors_Cursor_Is_v2 : ∀ v r, unr_cursors_Cursor_Is_v2 v = some r → v = enc_cursors_Cursor_Is_v2 r := by
  intro v r h
  unfold unr_cursors_Cursor_Is_v2 at h
  split at h
  · cases h; rfl
  · cases h
noncomputable def e_cursors_Cursor_Is_v2 (n : Nat) : Ent := pureE 38 una_cursors_Cursor_Is_v2 (fun a => cursors_Cursor_Is_v2 n a) enc_cursors_Cursor_Is_v2
noncomputable def t_cursors_Cursor_Is_v2 (l : List V) (_ : List (Nat × Blk)) : Bool := isS (una_cursors_Cursor_Is_v2 l)
noncomputable def Es_cursors_Cursor_Is_v2 (_n : Nat) : List Ent := []
theorem Es_ok_cursors_Cursor_Is_v2 (n : Nat) : ∀ x ∈ Es_cursors_Cursor_Is_v2 n, EntOK Try.prog x := by
  intro x hx
  simp [Es_cursors_Cursor_Is_v2] at hx
noncomputable def Ls_cursors_Cursor_Is_v2 (_n : Nat) : List Sub := []
theorem subs_cursors_Cursor_Is_v2 (n : Nat) : SubOK Try.prog 13 (Ls_cursors_Cursor_Is_v2 n) (acOf Try.f38) := SubOK_of _ (by
  have e : subs (acOf Try.f38) = [] := by kernel_rfl
  rw [e]; intro p hp; cases hp)
theorem cert_cursors_Cursor_Is_v2 (n : Nat) (a0 : List UInt8) : run Try.prog (Es_cursors_Cursor_Is_v2 n) (Ls_cursors_Cursor_Is_v2 n) Try.f38.ntmps (acOf Try.f38) ⟨argsT [.pn, .s a0] 0, [], 0, 0, 0, 0⟩ (finK Try.prog Try.f38.results.toList (retX unr_cursors_Cursor_Is_v2)) = cursors_Cursor_Is_v2 n a0 := by kernel_rfl
theorem pure_cursors_Cursor_Is_v2 (n : Nat) : ∀ a r, cursors_Cursor_Is_v2 n a = some r → PureOK Try.prog 38 (arg_cursors_Cursor_Is_v2 a) (enc_cursors_Cursor_Is_v2 r) := fun a r h => pureX_ok unr_ok_cursors_Cursor_Is_v2 (Es_ok_cursors_Cursor_Is_v2 n) Try.func38 rfl (acOf_code _) (subs_cursors_Cursor_Is_v2 n) rfl ((cert_cursors_Cursor_Is_v2 n a).trans h)
theorem ok_cursors_Cursor_Is_v2 (n : Nat) : EntOK Try.prog (e_cursors_Cursor_Is_v2 n) := pureE_ok Try.call38 una_ok_cursors_Cursor_Is_v2 (fun _ => rfl) (pure_cursors_Cursor_Is_v2 n)

/-! (*circa/cursors.Cursor).Take -/
noncomputable def arg_cursors_Cursor_Take_v2 (a : List UInt8) : List V := [.pn, .s a]
noncomputable def una_cursors_Cursor_Take_v2 (l : List V) : Option (List UInt8) := match l with
  | [.pn, .s a0] => some a0
  | _ => none
theorem una_ok_cursors_Cursor_Take_v2 : ∀ l a, una_cursors_Cursor_Take_v2 l = some a → l = arg_cursors_Cursor_Take_v2 a := by
  intro l a h
  unfold una_cursors_Cursor_Take_v2 at h
  split at h
  · cases h; rfl
  · cases h
noncomputable def enc_cursors_Cursor_Take_v2 (r : Bool) : V := .b r
noncomputable def unr_cursors_Cursor_Take_v2 (v : V) : Option (Bool) := match v with
  | .b r0 => some r0
  | _ => none
theorem unr_ok_cursors_Cursor_Take_v2 : ∀ v r, unr_cursors_Cursor_Take_v2 v = some r → v = enc_cursors_Cursor_Take_v2 r := by
  intro v r h
  unfold unr_cursors_Cursor_Take_v2 at h
  split at h
  · cases h; rfl
  · cases h
noncomputable def e_cursors_Cursor_Take_v2 (n : Nat) : Ent := pureE 39 una_cursors_Cursor_Take_v2 (fun a => cursors_Cursor_Take_v2 n a) enc_cursors_Cursor_Take_v2
noncomputable def t_cursors_Cursor_Take_v2 (l : List V) (_ : List (Nat × Blk)) : Bool := isS (una_cursors_Cursor_Take_v2 l)
noncomputable def Es_cursors_Cursor_Take_v2 (n : Nat) : List Ent := [e_cursors_Cursor_Is_v2 n]
theorem Es_ok_cursors_Cursor_Take_v2 (n : Nat) : ∀ x ∈ Es_cursors_Cursor_Take_v2 n, EntOK Try.prog x := by
  intro x hx
  simp only [Es_cursors_Cursor_Take_v2, List.mem_cons, List.not_mem_nil, or_false] at hx
  · rw [hx]; exact ok_cursors_Cursor_Is_v2 n
noncomputable def Ls_cursors_Cursor_Take_v2 (_n : Nat) : List Sub := []
theorem subs_cursors_Cursor_Take_v2 (n : Nat) : SubOK Try.prog 18 (Ls_cursors_Cursor_Take_v2 n) (acOf Try.f39) := SubOK_of _ (by
  have e : subs (acOf Try.f39) = [] := by kernel_rfl
  rw [e]; intro p hp; cases hp)
theorem cert_cursors_Cursor_Take_v2 (n : Nat) (a0 : List UInt8) : run Try.prog (Es_cursors_Cursor_Take_v2 n) (Ls_cursors_Cursor_Take_v2 n) Try.f39.ntmps (acOf Try.f39) ⟨argsT [.pn, .s a0] 0, [], 0, 0, 0, 0⟩ (finK Try.prog Try.f39.results.toList (retX unr_cursors_Cursor_Take_v2)) = cursors_Cursor_Take_v2 n a0 := by kernel_rfl
theorem pure_cursors_Cursor_Take_v2 (n : Nat) : ∀ a r, cursors_Cursor_Take_v2 n a = some r → PureOK Try.prog 39 (arg_cursors_Cursor_Take_v2 a) (enc_cursors_Cursor_Take_v2 r) := fun a r h => pureX_ok unr_ok_cursors_Cursor_Take_v2 (Es_ok_cursors_Cursor_Take_v2 n) Try.func39 rfl (acOf_code _) (subs_cursors_Cursor_Take_v2 n) rfl ((cert_cursors_Cursor_Take_v2 n a).trans h)
theorem ok_cursors_Cursor_Take_v2 (n : Nat) : EntOK Try.prog (e_cursors_Cursor_Take_v2 n) := pureE_ok Try.call39 una_ok_cursors_Cursor_Take_v2 (fun _ => rfl) (pure_cursors_Cursor_Take_v2 n)

/-! (*circa/cursors.Cursor).At -/
noncomputable def arg_cursors_Cursor_At_v2 (_a : Unit) : List V := [.pn]
noncomputable def una_cursors_Cursor_At_v2 (l : List V) : Option (Unit) := match l with
  | [.pn] => some ()
  | _ => none
theorem una_ok_cursors_Cursor_At_v2 : ∀ l a, una_cursors_Cursor_At_v2 l = some a → l = arg_cursors_Cursor_At_v2 a := by
  intro l a h
  unfold una_cursors_Cursor_At_v2 at h
  split at h
  · cases h; rfl
  · cases h
noncomputable def enc_cursors_Cursor_At_v2 (r : Int) : V := .i .i64 r
noncomputable def unr_cursors_Cursor_At_v2 (v : V) : Option (Int) := match v with
  | .i .i64 r0 => some r0
  | _ => none
theorem unr_ok_cursors_Cursor_At_v2 : ∀ v r, unr_cursors_Cursor_At_v2 v = some r → v = enc_cursors_Cursor_At_v2 r := by
  intro v r h
  unfold unr_cursors_Cursor_At_v2 at h
  split at h
  · cases h; rfl
  · cases h
noncomputable def e_cursors_Cursor_At_v2 (n : Nat) : Ent := pureE 36 una_cursors_Cursor_At_v2 (fun _a => cursors_Cursor_At_v2 n) enc_cursors_Cursor_At_v2
noncomputable def t_cursors_Cursor_At_v2 (l : List V) (_ : List (Nat × Blk)) : Bool := isS (una_cursors_Cursor_At_v2 l)
noncomputable def Es_cursors_Cursor_At_v2 (_n : Nat) : List Ent := []
theorem Es_ok_cursors_Cursor_At_v2 (n : Nat) : ∀ x ∈ Es_cursors_Cursor_At_v2 n, EntOK Try.prog x := by
  intro x hx
  simp [Es_cursors_Cursor_At_v2] at hx
noncomputable def Ls_cursors_Cursor_At_v2 (_n : Nat) : List Sub := []
theorem subs_cursors_Cursor_At_v2 (n : Nat) : SubOK Try.prog 9 (Ls_cursors_Cursor_At_v2 n) (acOf Try.f36) := SubOK_of _ (by
  have e : subs (acOf Try.f36) = [] := by kernel_rfl
  rw [e]; intro p hp; cases hp)
theorem cert_cursors_Cursor_At_v2 (n : Nat) : run Try.prog (Es_cursors_Cursor_At_v2 n) (Ls_cursors_Cursor_At_v2 n) Try.f36.ntmps (acOf Try.f36) ⟨argsT [.pn] 0, [], 0, 0, 0, 0⟩ (finK Try.prog Try.f36.results.toList (retX unr_cursors_Cursor_At_v2)) = cursors_Cursor_At_v2 n := by kernel_rfl
theorem pure_cursors_Cursor_At_v2 (n : Nat) : ∀ a r, cursors_Cursor_At_v2 n = some r → PureOK Try.prog 36 (arg_cursors_Cursor_At_v2 a) (enc_cursors_Cursor_At_v2 r) := fun a r h => pureX_ok unr_ok_cursors_Cursor_At_v2 (Es_ok_cursors_Cursor_At_v2 n) Try.func36 rfl (acOf_code _) (subs_cursors_Cursor_At_v2 n) rfl ((cert_cursors_Cursor_At_v2 n).trans h)
theorem ok_cursors_Cursor_At_v2 (n : Nat) : EntOK Try.prog (e_cursors_Cursor_At_v2 n) := pureE_ok Try.call36 una_ok_cursors_Cursor_At_v2 (fun _ => rfl) (pure_cursors_Cursor_At_v2 n)

/-! (*circa/cursors.Cursor).Fail -/
noncomputable def arg_cursors_Cursor_Fail_v2 (a : Int × Int) : List V := [.pn, .i .i64 a.1, .i .i64 a.2]
noncomputable def una_cursors_Cursor_Fail_v2 (l : List V) : Option (Int × Int) := match l with
  | [.pn, .i .i64 a0, .i .i64 a1] => some (a0, a1)
  | _ => none
theorem una_ok_cursors_Cursor_Fail_v2 : ∀ l a, una_cursors_Cursor_Fail_v2 l = some a → l = arg_cursors_Cursor_Fail_v2 a := by
  intro l a h
  unfold una_cursors_Cursor_Fail_v2 at h
  split at h
  · cases h; rfl
  · cases h
noncomputable def enc_cursors_Cursor_Fail_v2 (_r : Unit) : V := .tp []
noncomputable def unr_cursors_Cursor_Fail_v2 (v : V) : Option (Unit) := match v with
  | .tp [] => some ()
  | _ => none
theorem unr_ok_cursors_Cursor_Fail_v2 : ∀ v r, unr_cursors_Cursor_Fail_v2 v = some r → v = enc_cursors_Cursor_Fail_v2 r := by
  intro v r h
  unfold unr_cursors_Cursor_Fail_v2 at h
  split at h
  · cases h; rfl
  · cases h
noncomputable def e_cursors_Cursor_Fail_v2 (n : Nat) : Ent := pureE 35 una_cursors_Cursor_Fail_v2 (fun a => cursors_Cursor_Fail_v2 n a.1 a.2) enc_cursors_Cursor_Fail_v2
noncomputable def t_cursors_Cursor_Fail_v2 (l : List V) (_ : List (Nat × Blk)) : Bool := isS (una_cursors_Cursor_Fail_v2 l)
noncomputable def Es_cursors_Cursor_Fail_v2 (_n : Nat) : List Ent := []
theorem Es_ok_cursors_Cursor_Fail_v2 (n : Nat) : ∀ x ∈ Es_cursors_Cursor_Fail_v2 n, EntOK Try.prog x := by
  intro x hx
  simp [Es_cursors_Cursor_Fail_v2] at hx
noncomputable def Ls_cursors_Cursor_Fail_v2 (_n : Nat) : List Sub := []
theorem subs_cursors_Cursor_Fail_v2 (n : Nat) : SubOK Try.prog 14 (Ls_cursors_Cursor_Fail_v2 n) (acOf Try.f35) := SubOK_of _ (by
  have e : subs (acOf Try.f35) = [] := by kernel_rfl
  rw [e]; intro p hp; cases hp)
theorem cert_cursors_Cursor_Fail_v2 (n : Nat) (a0 : Int) (a1 : Int) : run Try.prog (Es_cursors_Cursor_Fail_v2 n) (Ls_cursors_Cursor_Fail_v2 n) Try.f35.ntmps (acOf Try.f35) ⟨argsT [.pn, .i .i64 a0, .i .i64 a1] 0, [], 0, 0, 0, 0⟩ (finK Try.prog Try.f35.results.toList (retX unr_cursors_Cursor_Fail_v2)) = cursors_Cursor_Fail_v2 n a0 a1 := by kernel_rfl
theorem pure_cursors_Cursor_Fail_v2 (n : Nat) : ∀ a r, cursors_Cursor_Fail_v2 n a.1 a.2 = some r → PureOK Try.prog 35 (arg_cursors_Cursor_Fail_v2 a) (enc_cursors_Cursor_Fail_v2 r) := fun a r h => pureX_ok unr_ok_cursors_Cursor_Fail_v2 (Es_ok_cursors_Cursor_Fail_v2 n) Try.func35 rfl (acOf_code _) (subs_cursors_Cursor_Fail_v2 n) rfl ((cert_cursors_Cursor_Fail_v2 n a.1 a.2).trans h)
theorem ok_cursors_Cursor_Fail_v2 (n : Nat) : EntOK Try.prog (e_cursors_Cursor_Fail_v2 n) := pureE_ok Try.call35 una_ok_cursors_Cursor_Fail_v2 (fun _ => rfl) (pure_cursors_Cursor_Fail_v2 n)

/-! (*circa/cursors.Cursor).Want -/
noncomputable def arg_cursors_Cursor_Want_v2 (a : List UInt8) : List V := [.pn, .s a]
noncomputable def una_cursors_Cursor_Want_v2 (l : List V) : Option (List UInt8) := match l with
  | [.pn, .s a0] => some a0
  | _ => none
theorem una_ok_cursors_Cursor_Want_v2 : ∀ l a, una_cursors_Cursor_Want_v2 l = some a → l = arg_cursors_Cursor_Want_v2 a := by
  intro l a h
  unfold una_cursors_Cursor_Want_v2 at h
  split at h
  · cases h; rfl
  · cases h
noncomputable def enc_cursors_Cursor_Want_v2 (_r : Unit) : V := .tp []
noncomputable def unr_cursors_Cursor_Want_v2 (v : V) : Option (Unit) := match v with
  | .tp [] => some ()
  | _ => none
theorem unr_ok_cursors_Cursor_Want_v2 : ∀ v r, unr_cursors_Cursor_Want_v2 v = some r → v = enc_cursors_Cursor_Want_v2 r := by
  intro v r h
  unfold unr_cursors_Cursor_Want_v2 at h
  split at h
  · cases h; rfl
  · cases h
noncomputable def e_cursors_Cursor_Want_v2 (n : Nat) : Ent := pureE 34 una_cursors_Cursor_Want_v2 (fun a => cursors_Cursor_Want_v2 n a) enc_cursors_Cursor_Want_v2
noncomputable def t_cursors_Cursor_Want_v2 (l : List V) (_ : List (Nat × Blk)) : Bool := isS (una_cursors_Cursor_Want_v2 l)
noncomputable def Es_cursors_Cursor_Want_v2 (n : Nat) : List Ent := [e_cursors_Cursor_Take_v2 n, e_cursors_Cursor_Rest_v2 n, e_cursors_Cursor_At_v2 n, e_cursors_Cursor_Fail_v2 n]
theorem Es_ok_cursors_Cursor_Want_v2 (n : Nat) : ∀ x ∈ Es_cursors_Cursor_Want_v2 n, EntOK Try.prog x := by
  intro x hx
  simp only [Es_cursors_Cursor_Want_v2, List.mem_cons, List.not_mem_nil, or_false] at hx
  rcases hx with hx | hx | hx | hx
  · rw [hx]; exact ok_cursors_Cursor_Take_v2 n
  · rw [hx]; exact ok_cursors_Cursor_Rest_v2 n
  · rw [hx]; exact ok_cursors_Cursor_At_v2 n
  · rw [hx]; exact ok_cursors_Cursor_Fail_v2 n
noncomputable def an_cursors_Cursor_Want_v2_l0 : Ann := ⟨[0, 1, 4, 5], [], 0, []⟩
noncomputable def emb_cursors_Cursor_Want_v2_l0 (x : List UInt8 × Int × List UInt8) : St := ⟨[(0, some (.pn)), (1, some (.s x.1)), (4, some (.i .i64 x.2.1)), (5, some (.s x.2.2))], [], 0, 0, 0, 0⟩
noncomputable def un_cursors_Cursor_Want_v2_l0 (s : St) : Option (List UInt8 × Int × List UInt8) := match s with
  | ⟨[(0, some (.pn)), (1, some (.s x0)), (4, some (.i .i64 x1)), (5, some (.s x2))], [], 0, 0, 0, 0⟩ => some (x0, x1, x2)
  | _ => none
theorem un_ok_cursors_Cursor_Want_v2_l0 : ∀ s x, un_cursors_Cursor_Want_v2_l0 s = some x → s = emb_cursors_Cursor_Want_v2_l0 x := by
  intro s x h
  unfold un_cursors_Cursor_Want_v2_l0 at h
  split at h
  · cases h; rfl
  · cases h
noncomputable def ax_cursors_Cursor_Want_v2_l0 : Ex → Ann := fun ex => match ex with
  | .exit 0 => ⟨[0, 4], [], 0, []⟩
  | _ => ⟨[], [], 0, []⟩
noncomputable def out_cursors_Cursor_Want_v2_l0 (y : Int) : Ex × St := (.exit 0, ⟨[(0, some (.pn)), (4, some (.i .i64 y))], [], 0, 0, 0, 0⟩)
noncomputable def outK_cursors_Cursor_Want_v2_l0 (α : Type) (y : Int) (k : Ex → St → Option α) : Option α := (k (.exit 0) ⟨[(0, some (.pn)), (4, some (.i .i64 y))], [], 0, 0, 0, 0⟩)
theorem outK_ok_cursors_Cursor_Want_v2_l0 : ∀ α y k, outK_cursors_Cursor_Want_v2_l0 α y k = k (out_cursors_Cursor_Want_v2_l0 y).1 (out_cursors_Cursor_Want_v2_l0 y).2 := by
  intro α y k
  rfl
noncomputable def ux_cursors_Cursor_Want_v2_l0 (ex : Ex) (s : St) : Option (Int) := match ex, s with
  | .exit 0, ⟨[(0, some (.pn)), (4, some (.i .i64 y0))], [], 0, 0, 0, 0⟩ => some y0
  | _, _ => none
theorem ux_ok_cursors_Cursor_Want_v2_l0 : ∀ ex s y, ux_cursors_Cursor_Want_v2_l0 ex s = some y → (ex, s) = out_cursors_Cursor_Want_v2_l0 y := by
  intro ex s y h
  unfold ux_cursors_Cursor_Want_v2_l0 at h
  split at h
  · cases h; rfl
  · cases h
noncomputable def Ls_cursors_Cursor_Want_v2 (n : Nat) : List Sub := [subE 0 an_cursors_Cursor_Want_v2_l0 un_cursors_Cursor_Want_v2_l0 (fun x => iterL (cursors_Cursor_Want_v2_l0 n) n x) outK_cursors_Cursor_Want_v2_l0]
noncomputable def sac_cursors_Cursor_Want_v2_l0 : AC := getS (subs (acOf Try.f34)) 0
noncomputable def ac_cursors_Cursor_Want_v2_l0 : AC := AC.body sac_cursors_Cursor_Want_v2_l0
theorem subs_cursors_Cursor_Want_v2_l0 (n : Nat) : SubOK Try.prog 35 (Ls_cursors_Cursor_Want_v2 n) ac_cursors_Cursor_Want_v2_l0 := SubOK_of _ (by
  have e : subs ac_cursors_Cursor_Want_v2_l0 = [] := by kernel_rfl
  rw [e]; intro p hp; cases hp)
theorem body_cursors_Cursor_Want_v2_l0 (n : Nat) : ∀ x, run Try.prog (Es_cursors_Cursor_Want_v2 n) (Ls_cursors_Cursor_Want_v2 n) 35 ac_cursors_Cursor_Want_v2_l0 (emb_cursors_Cursor_Want_v2_l0 x) (roundK an_cursors_Cursor_Want_v2_l0 un_cursors_Cursor_Want_v2_l0 ax_cursors_Cursor_Want_v2_l0 ux_cursors_Cursor_Want_v2_l0) = cursors_Cursor_Want_v2_l0 n x := fun _ => by kernel_rfl
theorem sub1_cursors_Cursor_Want_v2_l0 (n : Nat) : ∀ (α : Type) (s : St) (k : Ex → St → Option α) (z : α), (subE 0 an_cursors_Cursor_Want_v2_l0 un_cursors_Cursor_Want_v2_l0 (fun x => iterL (cursors_Cursor_Want_v2_l0 n) n x) outK_cursors_Cursor_Want_v2_l0).e α s k = some z → SemC Try.prog 35 (sac_cursors_Cursor_Want_v2_l0).code s fun ex s' => k ex s' = some z := by
  intro α s k z h
  have e : sac_cursors_Cursor_Want_v2_l0 = .loop ac_cursors_Cursor_Want_v2_l0 := by kernel_rfl
  rw [e]
  exact subE_ok (m := 0) (f := fun x => iterL (cursors_Cursor_Want_v2_l0 n) n x) (out := out_cursors_Cursor_Want_v2_l0) outK_ok_cursors_Cursor_Want_v2_l0 un_ok_cursors_Cursor_Want_v2_l0 (fun x y hy => loop_ok (Es_ok_cursors_Cursor_Want_v2 n) (subs_cursors_Cursor_Want_v2_l0 n) un_ok_cursors_Cursor_Want_v2_l0 ux_ok_cursors_Cursor_Want_v2_l0 (body_cursors_Cursor_Want_v2_l0 n) n x y hy) h
theorem sub_cursors_Cursor_Want_v2_l0 (n : Nat) : SubSt Try.prog 35 (Ls_cursors_Cursor_Want_v2 n) 0 sac_cursors_Cursor_Want_v2_l0 := fun α s k z => sub1_cursors_Cursor_Want_v2_l0 n α s k z
theorem subs_cursors_Cursor_Want_v2 (n : Nat) : SubOK Try.prog 35 (Ls_cursors_Cursor_Want_v2 n) (acOf Try.f34) := SubOK_of _ (by
  have e : subs (acOf Try.f34) = [(0, sac_cursors_Cursor_Want_v2_l0)] := by kernel_rfl
  rw [e]; intro p hp
  simp only [List.mem_cons, List.not_mem_nil, or_false] at hp
  · rw [hp]; exact sub_cursors_Cursor_Want_v2_l0 n
  )
theorem cert_cursors_Cursor_Want_v2 (n : Nat) (a0 : List UInt8) : run Try.prog (Es_cursors_Cursor_Want_v2 n) (Ls_cursors_Cursor_Want_v2 n) Try.f34.ntmps (acOf Try.f34) ⟨argsT [.pn, .s a0] 0, [], 0, 0, 0, 0⟩ (finK Try.prog Try.f34.results.toList (retX unr_cursors_Cursor_Want_v2)) = cursors_Cursor_Want_v2 n a0 := by kernel_rfl
theorem pure_cursors_Cursor_Want_v2 (n : Nat) : ∀ a r, cursors_Cursor_Want_v2 n a = some r → PureOK Try.prog 34 (arg_cursors_Cursor_Want_v2 a) (enc_cursors_Cursor_Want_v2 r) := fun a r h => pureX_ok unr_ok_cursors_Cursor_Want_v2 (Es_ok_cursors_Cursor_Want_v2 n) Try.func34 rfl (acOf_code _) (subs_cursors_Cursor_Want_v2 n) rfl ((cert_cursors_Cursor_Want_v2 n a).trans h)
theorem ok_cursors_Cursor_Want_v2 (n : Nat) : EntOK Try.prog (e_cursors_Cursor_Want_v2 n) := pureE_ok Try.call34 una_ok_cursors_Cursor_Want_v2 (fun _ => rfl) (pure_cursors_Cursor_Want_v2 n)

/-! (*circa/cursors.Cursor).One -/
noncomputable def arg_cursors_Cursor_One_v2 (a : List UInt8) : List V := [.pn, .s a]
noncomputable def una_cursors_Cursor_One_v2 (l : List V) : Option (List UInt8) := match l with
  | [.pn, .s a0] => some a0
  | _ => none
theorem una_ok_cursors_Cursor_One_v2 : ∀ l a, una_cursors_Cursor_One_v2 l = some a → l = arg_cursors_Cursor_One_v2 a := by
  intro l a h
  unfold una_cursors_Cursor_One_v2 at h
  split at h
  · cases h; rfl
  · cases h
noncomputable def enc_cursors_Cursor_One_v2 (r : Int) : V := .i .u8 r
noncomputable def unr_cursors_Cursor_One_v2 (v : V) : Option (Int) := match v with
  | .i .u8 r0 => some r0
  | _ => none
theorem unr_ok_cursors_Cursor_One_v2 : ∀ v r, unr_cursors_Cursor_One_v2 v = some r → v = enc_cursors_Cursor_One_v2 r := by
  intro v r h
  unfold unr_cursors_Cursor_One_v2 at h
  split at h
  · cases h; rfl
  · cases h
noncomputable def e_cursors_Cursor_One_v2 (n : Nat) : Ent := pureE 40 una_cursors_Cursor_One_v2 (fun a => cursors_Cursor_One_v2 n a) enc_cursors_Cursor_One_v2
noncomputable def t_cursors_Cursor_One_v2 (l : List V) (_ : List (Nat × Blk)) : Bool := isS (una_cursors_Cursor_One_v2 l)
noncomputable def Es_cursors_Cursor_One_v2 (n : Nat) : List Ent := [e_cursors_Cursor_Peek_v2 n, e_cursors_Cursor_At_v2 n, e_cursors_Cursor_Fail_v2 n, e_strings_IndexByte n]
theorem Es_ok_cursors_Cursor_One_v2 (n : Nat) : ∀ x ∈ Es_cursors_Cursor_One_v2 n, EntOK Try.prog x := by
  intro x hx
  simp only [Es_cursors_Cursor_One_v2, List.mem_cons, List.not_mem_nil, or_false] at hx
  rcases hx with hx | hx | hx | hx
  · rw [hx]; exact ok_cursors_Cursor_Peek_v2 n
  · rw [hx]; exact ok_cursors_Cursor_At_v2 n
  · rw [hx]; exact ok_cursors_Cursor_Fail_v2 n
  · rw [hx]; exact ok_strings_IndexByte n
noncomputable def Ls_cursors_Cursor_One_v2 (_n : Nat) : List Sub := []
theorem subs_cursors_Cursor_One_v2 (n : Nat) : SubOK Try.prog 32 (Ls_cursors_Cursor_One_v2 n) (acOf Try.f40) := SubOK_of _ (by
  have e : subs (acOf Try.f40) = [] := by kernel_rfl
  rw [e]; intro p hp; cases hp)
theorem cert_cursors_Cursor_One_v2 (n : Nat) (a0 : List UInt8) : run Try.prog (Es_cursors_Cursor_One_v2 n) (Ls_cursors_Cursor_One_v2 n) Try.f40.ntmps (acOf Try.f40) ⟨argsT [.pn, .s a0] 0, [], 0, 0, 0, 0⟩ (finK Try.prog Try.f40.results.toList (retX unr_cursors_Cursor_One_v2)) = cursors_Cursor_One_v2 n a0 := by kernel_rfl
theorem pure_cursors_Cursor_One_v2 (n : Nat) : ∀ a r, cursors_Cursor_One_v2 n a = some r → PureOK Try.prog 40 (arg_cursors_Cursor_One_v2 a) (enc_cursors_Cursor_One_v2 r) := fun a r h => pureX_ok unr_ok_cursors_Cursor_One_v2 (Es_ok_cursors_Cursor_One_v2 n) Try.func40 rfl (acOf_code _) (subs_cursors_Cursor_One_v2 n) rfl ((cert_cursors_Cursor_One_v2 n a).trans h)
theorem ok_cursors_Cursor_One_v2 (n : Nat) : EntOK Try.prog (e_cursors_Cursor_One_v2 n) := pureE_ok Try.call40 una_ok_cursors_Cursor_One_v2 (fun _ => rfl) (pure_cursors_Cursor_One_v2 n)

/-! (*circa/cursors.Cursor).Some -/
noncomputable def arg_cursors_Cursor_Some_v2 (a : List UInt8 × Int × Int) : List V := [.pn, .s a.1, .i .i64 a.2.1, .i .i64 a.2.2]
noncomputable def una_cursors_Cursor_Some_v2 (l : List V) : Option (List UInt8 × Int × Int) := match l with
  | [.pn, .s a0, .i .i64 a1, .i .i64 a2] => some (a0, a1, a2)
  | _ => none
theorem una_ok_cursors_Cursor_Some_v2 : ∀ l a, una_cursors_Cursor_Some_v2 l = some a → l = arg_cursors_Cursor_Some_v2 a := by
  intro l a h
  unfold una_cursors_Cursor_Some_v2 at h
  split at h
  · cases h; rfl
  · cases h
noncomputable def enc_cursors_Cursor_Some_v2 (r : List UInt8) : V := .s r
noncomputable def unr_cursors_Cursor_Some_v2 (v : V) : Option (List UInt8) := match v with
  | .s r0 => some r0
  | _ => none
theorem unr_ok_cursors_Cursor_Some_v2 : ∀ v r, unr_cursors_Cursor_Some_v2 v = some r → v = enc_cursors_Cursor_Some_v2 r := by
  intro v r h
  unfold unr_cursors_Cursor_Some_v2 at h
  split at h
  · cases h; rfl
  · cases h
noncomputable def e_cursors_Cursor_Some_v2 (n : Nat) : Ent := pureE 41 una_cursors_Cursor_Some_v2 (fun a => cursors_Cursor_Some_v2 n a.1 a.2.1 a.2.2) enc_cursors_Cursor_Some_v2
noncomputable def t_cursors_Cursor_Some_v2 (l : List V) (_ : List (Nat × Blk)) : Bool := isS (una_cursors_Cursor_Some_v2 l)
noncomputable def Es_cursors_Cursor_Some_v2 (n : Nat) : List Ent := [e_cursors_Cursor_At_v2 n, e_cursors_Cursor_Peek_v2 n, e_cursors_Cursor_Fail_v2 n]
theorem Es_ok_cursors_Cursor_Some_v2 (n : Nat) : ∀ x ∈ Es_cursors_Cursor_Some_v2 n, EntOK Try.prog x := by
  intro x hx
  simp only [Es_cursors_Cursor_Some_v2, List.mem_cons, List.not_mem_nil, or_false] at hx
  rcases hx with hx | hx | hx
  · rw [hx]; exact ok_cursors_Cursor_At_v2 n
  · rw [hx]; exact ok_cursors_Cursor_Peek_v2 n
  · rw [hx]; exact ok_cursors_Cursor_Fail_v2 n
noncomputable def an_cursors_Cursor_Some_v2_l0 : Ann := ⟨[0, 1, 2, 3, 9, 10, 11], [], 0, []⟩
noncomputable def emb_cursors_Cursor_Some_v2_l0 (x : List UInt8 × Int × Int × Int × Int × Bool) : St := ⟨[(0, some (.pn)), (1, some (.s x.1)), (2, some (.i .i64 x.2.1)), (3, some (.i .i64 x.2.2.1)), (9, some (.i .i64 x.2.2.2.1)), (10, some (.i .u8 x.2.2.2.2.1)), (11, some (.b x.2.2.2.2.2))], [], 0, 0, 0, 0⟩
noncomputable def un_cursors_Cursor_Some_v2_l0 (s : St) : Option (List UInt8 × Int × Int × Int × Int × Bool) := match s with
  | ⟨[(0, some (.pn)), (1, some (.s x0)), (2, some (.i .i64 x1)), (3, some (.i .i64 x2)), (9, some (.i .i64 x3)), (10, some (.i .u8 x4)), (11, some (.b x5))], [], 0, 0, 0, 0⟩ => some (x0, x1, x2, x3, x4, x5)
  | _ => none
theorem un_ok_cursors_Cursor_Some_v2_l0 : ∀ s x, un_cursors_Cursor_Some_v2_l0 s = some x → s = emb_cursors_Cursor_Some_v2_l0 x := by
  intro s x h
  unfold un_cursors_Cursor_Some_v2_l0 at h
  split at h
  · cases h; rfl
  · cases h
noncomputable def ax_cursors_Cursor_Some_v2_l0 : Ex → Ann := fun ex => match ex with
  | .exit 0 => ⟨[0, 2, 9], [], 0, []⟩
  | _ => ⟨[], [], 0, []⟩
noncomputable def out_cursors_Cursor_Some_v2_l0 (y : (Int × Int)) : Ex × St := (.exit 0, ⟨[(0, some (.pn)), (2, some (.i .i64 y.1)), (9, some (.i .i64 y.2))], [], 0, 0, 0, 0⟩)
noncomputable def outK_cursors_Cursor_Some_v2_l0 (α : Type) (y : (Int × Int)) (k : Ex → St → Option α) : Option α := (k (.exit 0) ⟨[(0, some (.pn)), (2, some (.i .i64 y.1)), (9, some (.i .i64 y.2))], [], 0, 0, 0, 0⟩)
theorem outK_ok_cursors_Cursor_Some_v2_l0 : ∀ α y k, outK_cursors_Cursor_Some_v2_l0 α y k = k (out_cursors_Cursor_Some_v2_l0 y).1 (out_cursors_Cursor_Some_v2_l0 y).2 := by
  intro α y k
  rfl
noncomputable def ux_cursors_Cursor_Some_v2_l0 (ex : Ex) (s : St) : Option ((Int × Int)) := match ex, s with
  | .exit 0, ⟨[(0, some (.pn)), (2, some (.i .i64 y0)), (9, some (.i .i64 y1))], [], 0, 0, 0, 0⟩ => some (y0, y1)
  | _, _ => none
theorem ux_ok_cursors_Cursor_Some_v2_l0 : ∀ ex s y, ux_cursors_Cursor_Some_v2_l0 ex s = some y → (ex, s) = out_cursors_Cursor_Some_v2_l0 y := by
  intro ex s y h
  unfold ux_cursors_Cursor_Some_v2_l0 at h
  split at h
  · cases h; rfl
  · cases h
noncomputable def Ls_cursors_Cursor_Some_v2 (n : Nat) : List Sub := [subE 0 an_cursors_Cursor_Some_v2_l0 un_cursors_Cursor_Some_v2_l0 (fun x => iterL (cursors_Cursor_Some_v2_l0 n) n x) outK_cursors_Cursor_Some_v2_l0]
noncomputable def sac_cursors_Cursor_Some_v2_l0 : AC := getS (subs (acOf Try.f41)) 0
noncomputable def ac_cursors_Cursor_Some_v2_l0 : AC := AC.body sac_cursors_Cursor_Some_v2_l0
theorem subs_cursors_Cursor_Some_v2_l0 (n : Nat) : SubOK Try.prog 70 (Ls_cursors_Cursor_Some_v2 n) ac_cursors_Cursor_Some_v2_l0 := SubOK_of _ (by
  have e : subs ac_cursors_Cursor_Some_v2_l0 = [] := by kernel_rfl
  rw [e]; intro p hp; cases hp)
theorem body_cursors_Cursor_Some_v2_l0 (n : Nat) : ∀ x, run Try.prog (Es_cursors_Cursor_Some_v2 n) (Ls_cursors_Cursor_Some_v2 n) 70 ac_cursors_Cursor_Some_v2_l0 (emb_cursors_Cursor_Some_v2_l0 x) (roundK an_cursors_Cursor_Some_v2_l0 un_cursors_Cursor_Some_v2_l0 ax_cursors_Cursor_Some_v2_l0 ux_cursors_Cursor_Some_v2_l0) = cursors_Cursor_Some_v2_l0 n x := fun _ => by kernel_rfl
theorem sub1_cursors_Cursor_Some_v2_l0 (n : Nat) : ∀ (α : Type) (s : St) (k : Ex → St → Option α) (z : α), (subE 0 an_cursors_Cursor_Some_v2_l0 un_cursors_Cursor_Some_v2_l0 (fun x => iterL (cursors_Cursor_Some_v2_l0 n) n x) outK_cursors_Cursor_Some_v2_l0).e α s k = some z → SemC Try.prog 70 (sac_cursors_Cursor_Some_v2_l0).code s fun ex s' => k ex s' = some z := by
  intro α s k z h
  have e : sac_cursors_Cursor_Some_v2_l0 = .loop ac_cursors_Cursor_Some_v2_l0 := by kernel_rfl
  rw [e]
  exact subE_ok (m := 0) (f := fun x => iterL (cursors_Cursor_Some_v2_l0 n) n x) (out := out_cursors_Cursor_Some_v2_l0) outK_ok_cursors_Cursor_Some_v2_l0 un_ok_cursors_Cursor_Some_v2_l0 (fun x y hy => loop_ok (Es_ok_cursors_Cursor_Some_v2 n) (subs_cursors_Cursor_Some_v2_l0 n) un_ok_cursors_Cursor_Some_v2_l0 ux_ok_cursors_Cursor_Some_v2_l0 (body_cursors_Cursor_Some_v2_l0 n) n x y hy) h
theorem sub_cursors_Cursor_Some_v2_l0 (n : Nat) : SubSt Try.prog 70 (Ls_cursors_Cursor_Some_v2 n) 0 sac_cursors_Cursor_Some_v2_l0 := fun α s k z => sub1_cursors_Cursor_Some_v2_l0 n α s k z
theorem subs_cursors_Cursor_Some_v2 (n : Nat) : SubOK Try.prog 70 (Ls_cursors_Cursor_Some_v2 n) (acOf Try.f41) := SubOK_of _ (by
  have e : subs (acOf Try.f41) = [(0, sac_cursors_Cursor_Some_v2_l0)] := by kernel_rfl
  rw [e]; intro p hp
  simp only [List.mem_cons, List.not_mem_nil, or_false] at hp
  · rw [hp]; exact sub_cursors_Cursor_Some_v2_l0 n
  )
theorem cert_cursors_Cursor_Some_v2 (n : Nat) (a0 : List UInt8) (a1 : Int) (a2 : Int) : run Try.prog (Es_cursors_Cursor_Some_v2 n) (Ls_cursors_Cursor_Some_v2 n) Try.f41.ntmps (acOf Try.f41) ⟨argsT [.pn, .s a0, .i .i64 a1, .i .i64 a2] 0, [], 0, 0, 0, 0⟩ (finK Try.prog Try.f41.results.toList (retX unr_cursors_Cursor_Some_v2)) = cursors_Cursor_Some_v2 n a0 a1 a2 := by kernel_rfl
theorem pure_cursors_Cursor_Some_v2 (n : Nat) : ∀ a r, cursors_Cursor_Some_v2 n a.1 a.2.1 a.2.2 = some r → PureOK Try.prog 41 (arg_cursors_Cursor_Some_v2 a) (enc_cursors_Cursor_Some_v2 r) := fun a r h => pureX_ok unr_ok_cursors_Cursor_Some_v2 (Es_ok_cursors_Cursor_Some_v2 n) Try.func41 rfl (acOf_code _) (subs_cursors_Cursor_Some_v2 n) rfl ((cert_cursors_Cursor_Some_v2 n a.1 a.2.1 a.2.2).trans h)
theorem ok_cursors_Cursor_Some_v2 (n : Nat) : EntOK Try.prog (e_cursors_Cursor_Some_v2 n) := pureE_ok Try.call41 una_ok_cursors_Cursor_Some_v2 (fun _ => rfl) (pure_cursors_Cursor_Some_v2 n)

/-! circa/circalaw12.CursorsNil -/
noncomputable def arg_circalaw12_CursorsNil (a : List UInt8 × Int × List UInt8 × Int × Int) : List V := [.s a.1, .ag [.i .u8 a.2.1, .s a.2.2.1, .i .i64 a.2.2.2.1, .i .i64 a.2.2.2.2]]
noncomputable def una_circalaw12_CursorsNil (l : List V) : Option (List UInt8 × Int × List UInt8 × Int × Int) := match l with
  | [.s a0, .ag [.i .u8 a1, .s a2, .i .i64 a3, .i .i64 a4]] => some (a0, a1, a2, a3, a4)
  | _ => none
theorem una_ok_circalaw12_CursorsNil : ∀ l a, una_circalaw12_CursorsNil l = some a → l = arg_circalaw12_CursorsNil a := by
  intro l a h
  unfold una_circalaw12_CursorsNil at h
  split at h
  · cases h; rfl
  · cases h
noncomputable def enc_circalaw12_CursorsNil (r : Bool) : V := .b r
noncomputable def unr_circalaw12_CursorsNil (v : V) : Option (Bool) := match v with
  | .b r0 => some r0
  | _ => none
theorem unr_ok_circalaw12_CursorsNil : ∀ v r, unr_circalaw12_CursorsNil v = some r → v = enc_circalaw12_CursorsNil r := by
  intro v r h
  unfold unr_circalaw12_CursorsNil at h
  split at h
  · cases h; rfl
  · cases h
noncomputable def e_circalaw12_CursorsNil (n : Nat) : Ent := pureE 8 una_circalaw12_CursorsNil (fun a => circalaw12_CursorsNil n a.1 a.2.1 a.2.2.1 a.2.2.2.1 a.2.2.2.2) enc_circalaw12_CursorsNil
noncomputable def t_circalaw12_CursorsNil (l : List V) (_ : List (Nat × Blk)) : Bool := isS (una_circalaw12_CursorsNil l)
noncomputable def Es_circalaw12_CursorsNil (n : Nat) : List Ent := [e_circalaw12_lives n, e_cursors_Run_v8 n, e_cursors_Cursor_Peek_v2 n, e_cursors_Cursor_Want_v2 n, e_cursors_Cursor_Fail_v2 n, e_cursors_Cursor_At_v2 n, e_cursors_Cursor_Rest_v2 n, e_cursors_Cursor_Is_v2 n, e_cursors_Cursor_Take_v2 n, e_cursors_Cursor_One_v2 n, e_cursors_Cursor_Some_v2 n]
theorem Es_ok_circalaw12_CursorsNil (n : Nat) : ∀ x ∈ Es_circalaw12_CursorsNil n, EntOK Try.prog x := by
  intro x hx
  simp only [Es_circalaw12_CursorsNil, List.mem_cons, List.not_mem_nil, or_false] at hx
  rcases hx with hx | hx | hx | hx | hx | hx | hx | hx | hx | hx | hx
  · rw [hx]; exact ok_circalaw12_lives n
  · rw [hx]; exact ok_cursors_Run_v8 n
  · rw [hx]; exact ok_cursors_Cursor_Peek_v2 n
  · rw [hx]; exact ok_cursors_Cursor_Want_v2 n
  · rw [hx]; exact ok_cursors_Cursor_Fail_v2 n
  · rw [hx]; exact ok_cursors_Cursor_At_v2 n
  · rw [hx]; exact ok_cursors_Cursor_Rest_v2 n
  · rw [hx]; exact ok_cursors_Cursor_Is_v2 n
  · rw [hx]; exact ok_cursors_Cursor_Take_v2 n
  · rw [hx]; exact ok_cursors_Cursor_One_v2 n
  · rw [hx]; exact ok_cursors_Cursor_Some_v2 n
noncomputable def Ls_circalaw12_CursorsNil (_n : Nat) : List Sub := []
theorem subs_circalaw12_CursorsNil (n : Nat) : SubOK Try.prog 100 (Ls_circalaw12_CursorsNil n) (acOf Try.f8) := SubOK_of _ (by
  have e : subs (acOf Try.f8) = [] := by kernel_rfl
  rw [e]; intro p hp; cases hp)
theorem cert_circalaw12_CursorsNil (n : Nat) (a0 : List UInt8) (a1 : Int) (a2 : List UInt8) (a3 : Int) (a4 : Int) : run Try.prog (Es_circalaw12_CursorsNil n) (Ls_circalaw12_CursorsNil n) Try.f8.ntmps (acOf Try.f8) ⟨argsT [.s a0, .ag [.i .u8 a1, .s a2, .i .i64 a3, .i .i64 a4]] 0, [], 0, 0, 0, 0⟩ (finK Try.prog Try.f8.results.toList (retX unr_circalaw12_CursorsNil)) = circalaw12_CursorsNil n a0 a1 a2 a3 a4 := by kernel_rfl
theorem pure_circalaw12_CursorsNil (n : Nat) : ∀ a r, circalaw12_CursorsNil n a.1 a.2.1 a.2.2.1 a.2.2.2.1 a.2.2.2.2 = some r → PureOK Try.prog 8 (arg_circalaw12_CursorsNil a) (enc_circalaw12_CursorsNil r) := fun a r h => pureX_ok unr_ok_circalaw12_CursorsNil (Es_ok_circalaw12_CursorsNil n) Try.func8 rfl (acOf_code _) (subs_circalaw12_CursorsNil n) rfl ((cert_circalaw12_CursorsNil n a.1 a.2.1 a.2.2.1 a.2.2.2.1 a.2.2.2.2).trans h)
theorem ok_circalaw12_CursorsNil (n : Nat) : EntOK Try.prog (e_circalaw12_CursorsNil n) := pureE_ok Try.call8 una_ok_circalaw12_CursorsNil (fun _ => rfl) (pure_circalaw12_CursorsNil n)

/-! circa/circalaw12.CursorsKnown -/
noncomputable def arg_circalaw12_CursorsKnown (_a : Unit) : List V := []
noncomputable def una_circalaw12_CursorsKnown (l : List V) : Option (Unit) := match l with
  | [] => some ()
  | _ => none
theorem una_ok_circalaw12_CursorsKnown : ∀ l a, una_circalaw12_CursorsKnown l = some a → l = arg_circalaw12_CursorsKnown a := by
  intro l a h
  unfold una_circalaw12_CursorsKnown at h
  split at h
  · cases h; rfl
  · cases h
noncomputable def enc_circalaw12_CursorsKnown (r : Bool) : V := .b r
noncomputable def unr_circalaw12_CursorsKnown (v : V) : Option (Bool) := match v with
  | .b r0 => some r0
  | _ => none
theorem unr_ok_circalaw12_CursorsKnown : ∀ v r, unr_circalaw12_CursorsKnown v = some r → v = enc_circalaw12_CursorsKnown r := by
  intro v r h
  unfold unr_circalaw12_CursorsKnown at h
  split at h
  · cases h; rfl
  · cases h
noncomputable def e_circalaw12_CursorsKnown (n : Nat) : Ent := pureE 9 una_circalaw12_CursorsKnown (fun _a => circalaw12_CursorsKnown n) enc_circalaw12_CursorsKnown
noncomputable def t_circalaw12_CursorsKnown (l : List V) (_ : List (Nat × Blk)) : Bool := isS (una_circalaw12_CursorsKnown l)
noncomputable def Es_circalaw12_CursorsKnown (n : Nat) : List Ent := [e_circalaw12_CursorsPlay n, e_circalaw12_lives n]
theorem Es_ok_circalaw12_CursorsKnown (n : Nat) : ∀ x ∈ Es_circalaw12_CursorsKnown n, EntOK Try.prog x := by
  intro x hx
  simp only [Es_circalaw12_CursorsKnown, List.mem_cons, List.not_mem_nil, or_false] at hx
  rcases hx with hx | hx
  · rw [hx]; exact ok_circalaw12_CursorsPlay n
  · rw [hx]; exact ok_circalaw12_lives n
noncomputable def an_circalaw12_CursorsKnown_l3 : Ann := ⟨[1, 2, 3, 4, 5], [0], 1, []⟩
noncomputable def emb_circalaw12_CursorsKnown_l3 (x : Int × Int × Int × Int × List (List UInt8)) : St := ⟨[(1, some (.ws 0)), (2, some (.i .i64 x.1)), (3, some (.i .i64 x.2.1)), (4, some (.i .i64 x.2.2.1)), (5, some (.i .i64 x.2.2.2.1))], [(0, .rows [.s] x.2.2.2.2)], 1, 0, 0, 0⟩
noncomputable def un_circalaw12_CursorsKnown_l3 (s : St) : Option (Int × Int × Int × Int × List (List UInt8)) := match s with
  | ⟨[(1, some (.ws 0)), (2, some (.i .i64 x0)), (3, some (.i .i64 x1)), (4, some (.i .i64 x2)), (5, some (.i .i64 x3))], [(0, .rows [.s] x4)], 1, 0, 0, 0⟩ => some (x0, x1, x2, x3, x4)
  | _ => none
theorem un_ok_circalaw12_CursorsKnown_l3 : ∀ s x, un_circalaw12_CursorsKnown_l3 s = some x → s = emb_circalaw12_CursorsKnown_l3 x := by
  intro s x h
  unfold un_circalaw12_CursorsKnown_l3 at h
  split at h
  · cases h; rfl
  · cases h
noncomputable def ax_circalaw12_CursorsKnown_l3 : Ex → Ann := fun ex => match ex with
  | .ret => ⟨[0], [], 1, []⟩
  | .exit 6 => ⟨[1, 2, 3, 4], [0], 1, []⟩
  | _ => ⟨[], [], 0, []⟩
noncomputable def out_circalaw12_CursorsKnown_l3 (y : Bool ⊕ (Int × Int × Int × List (List UInt8))) : Ex × St := (Sum.casesOn (motive := fun _ => Ex × St) y (fun a0 => (.ret, ⟨[(0, some (.b a0))], [], 1, 0, 0, 0⟩)) (fun b0 => (.exit 6, ⟨[(1, some (.ws 0)), (2, some (.i .i64 b0.1)), (3, some (.i .i64 b0.2.1)), (4, some (.i .i64 b0.2.2.1))], [(0, .rows [.s] b0.2.2.2)], 1, 0, 0, 0⟩)))
noncomputable def outK_circalaw12_CursorsKnown_l3 (α : Type) (y : Bool ⊕ (Int × Int × Int × List (List UInt8))) (k : Ex → St → Option α) : Option α := (Sum.casesOn (motive := fun _ => Option α) y (fun a0 => (k (.ret) ⟨[(0, some (.b a0))], [], 1, 0, 0, 0⟩)) (fun b0 => (k (.exit 6) ⟨[(1, some (.ws 0)), (2, some (.i .i64 b0.1)), (3, some (.i .i64 b0.2.1)), (4, some (.i .i64 b0.2.2.1))], [(0, .rows [.s] b0.2.2.2)], 1, 0, 0, 0⟩)))
theorem outK_ok_circalaw12_CursorsKnown_l3 : ∀ α y k, outK_circalaw12_CursorsKnown_l3 α y k = k (out_circalaw12_CursorsKnown_l3 y).1 (out_circalaw12_CursorsKnown_l3 y).2 := by
  intro α y k
  rcases y with y | y <;> rfl
noncomputable def ux_circalaw12_CursorsKnown_l3 (ex : Ex) (s : St) : Option (Bool ⊕ (Int × Int × Int × List (List UInt8))) := match ex, s with
  | .ret, ⟨[(0, some (.b y0))], [], 1, 0, 0, 0⟩ => some (.inl y0)
  | .exit 6, ⟨[(1, some (.ws 0)), (2, some (.i .i64 y0)), (3, some (.i .i64 y1)), (4, some (.i .i64 y2))], [(0, .rows [.s] y3)], 1, 0, 0, 0⟩ => some (.inr (y0, y1, y2, y3))
  | _, _ => none
theorem ux_ok_circalaw12_CursorsKnown_l3 : ∀ ex s y, ux_circalaw12_CursorsKnown_l3 ex s = some y → (ex, s) = out_circalaw12_CursorsKnown_l3 y := by
  intro ex s y h
  unfold ux_circalaw12_CursorsKnown_l3 at h
  split at h
  · cases h; rfl
  · cases h; rfl
  · cases h
noncomputable def an_circalaw12_CursorsKnown_l2 : Ann := ⟨[1, 2, 3, 4], [0], 1, []⟩
noncomputable def emb_circalaw12_CursorsKnown_l2 (x : Int × Int × Int × List (List UInt8)) : St := ⟨[(1, some (.ws 0)), (2, some (.i .i64 x.1)), (3, some (.i .i64 x.2.1)), (4, some (.i .i64 x.2.2.1))], [(0, .rows [.s] x.2.2.2)], 1, 0, 0, 0⟩
noncomputable def un_circalaw12_CursorsKnown_l2 (s : St) : Option (Int × Int × Int × List (List UInt8)) := match s with
  | ⟨[(1, some (.ws 0)), (2, some (.i .i64 x0)), (3, some (.i .i64 x1)), (4, some (.i .i64 x2))], [(0, .rows [.s] x3)], 1, 0, 0, 0⟩ => some (x0, x1, x2, x3)
  | _ => none
theorem un_ok_circalaw12_CursorsKnown_l2 : ∀ s x, un_circalaw12_CursorsKnown_l2 s = some x → s = emb_circalaw12_CursorsKnown_l2 x := by
  intro s x h
  unfold un_circalaw12_CursorsKnown_l2 at h
  split at h
  · cases h; rfl
  · cases h
noncomputable def ax_circalaw12_CursorsKnown_l2 : Ex → Ann := fun ex => match ex with
  | .ret => ⟨[0], [], 1, []⟩
  | .exit 4 => ⟨[1, 2, 3], [0], 1, []⟩
  | _ => ⟨[], [], 0, []⟩
noncomputable def out_circalaw12_CursorsKnown_l2 (y : Bool ⊕ (Int × Int × List (List UInt8))) : Ex × St := (Sum.casesOn (motive := fun _ => Ex × St) y (fun a0 => (.ret, ⟨[(0, some (.b a0))], [], 1, 0, 0, 0⟩)) (fun b0 => (.exit 4, ⟨[(1, some (.ws 0)), (2, some (.i .i64 b0.1)), (3, some (.i .i64 b0.2.1))], [(0, .rows [.s] b0.2.2)], 1, 0, 0, 0⟩)))
noncomputable def outK_circalaw12_CursorsKnown_l2 (α : Type) (y : Bool ⊕ (Int × Int × List (List UInt8))) (k : Ex → St → Option α) : Option α := (Sum.casesOn (motive := fun _ => Option α) y (fun a0 => (k (.ret) ⟨[(0, some (.b a0))], [], 1, 0, 0, 0⟩)) (fun b0 => (k (.exit 4) ⟨[(1, some (.ws 0)), (2, some (.i .i64 b0.1)), (3, some (.i .i64 b0.2.1))], [(0, .rows [.s] b0.2.2)], 1, 0, 0, 0⟩)))
theorem outK_ok_circalaw12_CursorsKnown_l2 : ∀ α y k, outK_circalaw12_CursorsKnown_l2 α y k = k (out_circalaw12_CursorsKnown_l2 y).1 (out_circalaw12_CursorsKnown_l2 y).2 := by
  intro α y k
  rcases y with y | y <;> rfl
noncomputable def ux_circalaw12_CursorsKnown_l2 (ex : Ex) (s : St) : Option (Bool ⊕ (Int × Int × List (List UInt8))) := match ex, s with
  | .ret, ⟨[(0, some (.b y0))], [], 1, 0, 0, 0⟩ => some (.inl y0)
  | .exit 4, ⟨[(1, some (.ws 0)), (2, some (.i .i64 y0)), (3, some (.i .i64 y1))], [(0, .rows [.s] y2)], 1, 0, 0, 0⟩ => some (.inr (y0, y1, y2))
  | _, _ => none
theorem ux_ok_circalaw12_CursorsKnown_l2 : ∀ ex s y, ux_circalaw12_CursorsKnown_l2 ex s = some y → (ex, s) = out_circalaw12_CursorsKnown_l2 y := by
  intro ex s y h
  unfold ux_circalaw12_CursorsKnown_l2 at h
  split at h
  · cases h; rfl
  · cases h; rfl
  · cases h
noncomputable def an_circalaw12_CursorsKnown_l1 : Ann := ⟨[1, 2, 3], [0], 1, []⟩
noncomputable def emb_circalaw12_CursorsKnown_l1 (x : Int × Int × List (List UInt8)) : St := ⟨[(1, some (.ws 0)), (2, some (.i .i64 x.1)), (3, some (.i .i64 x.2.1))], [(0, .rows [.s] x.2.2)], 1, 0, 0, 0⟩
noncomputable def un_circalaw12_CursorsKnown_l1 (s : St) : Option (Int × Int × List (List UInt8)) := match s with
  | ⟨[(1, some (.ws 0)), (2, some (.i .i64 x0)), (3, some (.i .i64 x1))], [(0, .rows [.s] x2)], 1, 0, 0, 0⟩ => some (x0, x1, x2)
  | _ => none
theorem un_ok_circalaw12_CursorsKnown_l1 : ∀ s x, un_circalaw12_CursorsKnown_l1 s = some x → s = emb_circalaw12_CursorsKnown_l1 x := by
  intro s x h
  unfold un_circalaw12_CursorsKnown_l1 at h
  split at h
  · cases h; rfl
  · cases h
noncomputable def ax_circalaw12_CursorsKnown_l1 : Ex → Ann := fun ex => match ex with
  | .ret => ⟨[0], [], 1, []⟩
  | .exit 2 => ⟨[1, 2], [0], 1, []⟩
  | _ => ⟨[], [], 0, []⟩
noncomputable def out_circalaw12_CursorsKnown_l1 (y : Bool ⊕ (Int × List (List UInt8))) : Ex × St := (Sum.casesOn (motive := fun _ => Ex × St) y (fun a0 => (.ret, ⟨[(0, some (.b a0))], [], 1, 0, 0, 0⟩)) (fun b0 => (.exit 2, ⟨[(1, some (.ws 0)), (2, some (.i .i64 b0.1))], [(0, .rows [.s] b0.2)], 1, 0, 0, 0⟩)))
noncomputable def outK_circalaw12_CursorsKnown_l1 (α : Type) (y : Bool ⊕ (Int × List (List UInt8))) (k : Ex → St → Option α) : Option α := (Sum.casesOn (motive := fun _ => Option α) y (fun a0 => (k (.ret) ⟨[(0, some (.b a0))], [], 1, 0, 0, 0⟩)) (fun b0 => (k (.exit 2) ⟨[(1, some (.ws 0)), (2, some (.i .i64 b0.1))], [(0, .rows [.s] b0.2)], 1, 0, 0, 0⟩)))
theorem outK_ok_circalaw12_CursorsKnown_l1 : ∀ α y k, outK_circalaw12_CursorsKnown_l1 α y k = k (out_circalaw12_CursorsKnown_l1 y).1 (out_circalaw12_CursorsKnown_l1 y).2 := by
  intro α y k
  rcases y with y | y <;> rfl
noncomputable def ux_circalaw12_CursorsKnown_l1 (ex : Ex) (s : St) : Option (Bool ⊕ (Int × List (List UInt8))) := match ex, s with
  | .ret, ⟨[(0, some (.b y0))], [], 1, 0, 0, 0⟩ => some (.inl y0)
  | .exit 2, ⟨[(1, some (.ws 0)), (2, some (.i .i64 y0))], [(0, .rows [.s] y1)], 1, 0, 0, 0⟩ => some (.inr (y0, y1))
  | _, _ => none
theorem ux_ok_circalaw12_CursorsKnown_l1 : ∀ ex s y, ux_circalaw12_CursorsKnown_l1 ex s = some y → (ex, s) = out_circalaw12_CursorsKnown_l1 y := by
  intro ex s y h
  unfold ux_circalaw12_CursorsKnown_l1 at h
  split at h
  · cases h; rfl
  · cases h; rfl
  · cases h
noncomputable def an_circalaw12_CursorsKnown_l0 : Ann := ⟨[1, 2], [0], 1, []⟩
noncomputable def emb_circalaw12_CursorsKnown_l0 (x : Int × List (List UInt8)) : St := ⟨[(1, some (.ws 0)), (2, some (.i .i64 x.1))], [(0, .rows [.s] x.2)], 1, 0, 0, 0⟩
noncomputable def un_circalaw12_CursorsKnown_l0 (s : St) : Option (Int × List (List UInt8)) := match s with
  | ⟨[(1, some (.ws 0)), (2, some (.i .i64 x0))], [(0, .rows [.s] x1)], 1, 0, 0, 0⟩ => some (x0, x1)
  | _ => none
theorem un_ok_circalaw12_CursorsKnown_l0 : ∀ s x, un_circalaw12_CursorsKnown_l0 s = some x → s = emb_circalaw12_CursorsKnown_l0 x := by
  intro s x h
  unfold un_circalaw12_CursorsKnown_l0 at h
  split at h
  · cases h; rfl
  · cases h
noncomputable def ax_circalaw12_CursorsKnown_l0 : Ex → Ann := fun ex => match ex with
  | .ret => ⟨[0], [], 1, []⟩
  | .exit 0 => ⟨[], [], 1, []⟩
  | _ => ⟨[], [], 0, []⟩
noncomputable def out_circalaw12_CursorsKnown_l0 (y : Bool ⊕ Unit) : Ex × St := (Sum.casesOn (motive := fun _ => Ex × St) y (fun a0 => (.ret, ⟨[(0, some (.b a0))], [], 1, 0, 0, 0⟩)) (fun b0 => (.exit 0, ⟨[], [], 1, 0, 0, 0⟩)))
noncomputable def outK_circalaw12_CursorsKnown_l0 (α : Type) (y : Bool ⊕ Unit) (k : Ex → St → Option α) : Option α := (Sum.casesOn (motive := fun _ => Option α) y (fun a0 => (k (.ret) ⟨[(0, some (.b a0))], [], 1, 0, 0, 0⟩)) (fun b0 => (k (.exit 0) ⟨[], [], 1, 0, 0, 0⟩)))
theorem outK_ok_circalaw12_CursorsKnown_l0 : ∀ α y k, outK_circalaw12_CursorsKnown_l0 α y k = k (out_circalaw12_CursorsKnown_l0 y).1 (out_circalaw12_CursorsKnown_l0 y).2 := by
  intro α y k
  rcases y with y | y <;> rfl
noncomputable def ux_circalaw12_CursorsKnown_l0 (ex : Ex) (s : St) : Option (Bool ⊕ Unit) := match ex, s with
  | .ret, ⟨[(0, some (.b y0))], [], 1, 0, 0, 0⟩ => some (.inl y0)
  | .exit 0, ⟨[], [], 1, 0, 0, 0⟩ => some (.inr ())
  | _, _ => none
theorem ux_ok_circalaw12_CursorsKnown_l0 : ∀ ex s y, ux_circalaw12_CursorsKnown_l0 ex s = some y → (ex, s) = out_circalaw12_CursorsKnown_l0 y := by
  intro ex s y h
  unfold ux_circalaw12_CursorsKnown_l0 at h
  split at h
  · cases h; rfl
  · cases h; rfl
  · cases h
noncomputable def Ls_circalaw12_CursorsKnown (n : Nat) : List Sub := [subE 3 an_circalaw12_CursorsKnown_l3 un_circalaw12_CursorsKnown_l3 (fun x => iterL (circalaw12_CursorsKnown_l3 n) n x) outK_circalaw12_CursorsKnown_l3, subE 2 an_circalaw12_CursorsKnown_l2 un_circalaw12_CursorsKnown_l2 (fun x => iterL (circalaw12_CursorsKnown_l2 n) n x) outK_circalaw12_CursorsKnown_l2, subE 1 an_circalaw12_CursorsKnown_l1 un_circalaw12_CursorsKnown_l1 (fun x => iterL (circalaw12_CursorsKnown_l1 n) n x) outK_circalaw12_CursorsKnown_l1, subE 0 an_circalaw12_CursorsKnown_l0 un_circalaw12_CursorsKnown_l0 (fun x => iterL (circalaw12_CursorsKnown_l0 n) n x) outK_circalaw12_CursorsKnown_l0]
noncomputable def sac_circalaw12_CursorsKnown_l0 : AC := getS (subs (acOf Try.f9)) 0
noncomputable def ac_circalaw12_CursorsKnown_l0 : AC := AC.body sac_circalaw12_CursorsKnown_l0
noncomputable def sac_circalaw12_CursorsKnown_l1 : AC := getS (subs ac_circalaw12_CursorsKnown_l0) 1
noncomputable def ac_circalaw12_CursorsKnown_l1 : AC := AC.body sac_circalaw12_CursorsKnown_l1
noncomputable def sac_circalaw12_CursorsKnown_l2 : AC := getS (subs ac_circalaw12_CursorsKnown_l1) 2
noncomputable def ac_circalaw12_CursorsKnown_l2 : AC := AC.body sac_circalaw12_CursorsKnown_l2
noncomputable def sac_circalaw12_CursorsKnown_l3 : AC := getS (subs ac_circalaw12_CursorsKnown_l2) 3
noncomputable def ac_circalaw12_CursorsKnown_l3 : AC := AC.body sac_circalaw12_CursorsKnown_l3
theorem subs_circalaw12_CursorsKnown_l3 (n : Nat) : SubOK Try.prog 48 (Ls_circalaw12_CursorsKnown n) ac_circalaw12_CursorsKnown_l3 := SubOK_of _ (by
  have e : subs ac_circalaw12_CursorsKnown_l3 = [] := by kernel_rfl
  rw [e]; intro p hp; cases hp)
theorem body_circalaw12_CursorsKnown_l3 (n : Nat) : ∀ x, run Try.prog (Es_circalaw12_CursorsKnown n) (Ls_circalaw12_CursorsKnown n) 48 ac_circalaw12_CursorsKnown_l3 (emb_circalaw12_CursorsKnown_l3 x) (roundK an_circalaw12_CursorsKnown_l3 un_circalaw12_CursorsKnown_l3 ax_circalaw12_CursorsKnown_l3 ux_circalaw12_CursorsKnown_l3) = circalaw12_CursorsKnown_l3 n x := fun _ => by kernel_rfl
theorem sub1_circalaw12_CursorsKnown_l3 (n : Nat) : ∀ (α : Type) (s : St) (k : Ex → St → Option α) (z : α), (subE 3 an_circalaw12_CursorsKnown_l3 un_circalaw12_CursorsKnown_l3 (fun x => iterL (circalaw12_CursorsKnown_l3 n) n x) outK_circalaw12_CursorsKnown_l3).e α s k = some z → SemC Try.prog 48 (sac_circalaw12_CursorsKnown_l3).code s fun ex s' => k ex s' = some z := by
  intro α s k z h
  have e : sac_circalaw12_CursorsKnown_l3 = .loop ac_circalaw12_CursorsKnown_l3 := by kernel_rfl
  rw [e]
  exact subE_ok (m := 3) (f := fun x => iterL (circalaw12_CursorsKnown_l3 n) n x) (out := out_circalaw12_CursorsKnown_l3) outK_ok_circalaw12_CursorsKnown_l3 un_ok_circalaw12_CursorsKnown_l3 (fun x y hy => loop_ok (Es_ok_circalaw12_CursorsKnown n) (subs_circalaw12_CursorsKnown_l3 n) un_ok_circalaw12_CursorsKnown_l3 ux_ok_circalaw12_CursorsKnown_l3 (body_circalaw12_CursorsKnown_l3 n) n x y hy) h
theorem sub_circalaw12_CursorsKnown_l3 (n : Nat) : SubSt Try.prog 48 (Ls_circalaw12_CursorsKnown n) 3 sac_circalaw12_CursorsKnown_l3 := fun α s k z => sub1_circalaw12_CursorsKnown_l3 n α s k z
theorem subs_circalaw12_CursorsKnown_l2 (n : Nat) : SubOK Try.prog 48 (Ls_circalaw12_CursorsKnown n) ac_circalaw12_CursorsKnown_l2 := SubOK_of _ (by
  have e : subs ac_circalaw12_CursorsKnown_l2 = [(3, sac_circalaw12_CursorsKnown_l3)] := by kernel_rfl
  rw [e]; intro p hp
  simp only [List.mem_cons, List.not_mem_nil, or_false] at hp
  · rw [hp]; exact sub_circalaw12_CursorsKnown_l3 n
  )
theorem body_circalaw12_CursorsKnown_l2 (n : Nat) : ∀ x, run Try.prog (Es_circalaw12_CursorsKnown n) (Ls_circalaw12_CursorsKnown n) 48 ac_circalaw12_CursorsKnown_l2 (emb_circalaw12_CursorsKnown_l2 x) (roundK an_circalaw12_CursorsKnown_l2 un_circalaw12_CursorsKnown_l2 ax_circalaw12_CursorsKnown_l2 ux_circalaw12_CursorsKnown_l2) = circalaw12_CursorsKnown_l2 n x := fun _ => by kernel_rfl
theorem sub1_circalaw12_CursorsKnown_l2 (n : Nat) : ∀ (α : Type) (s : St) (k : Ex → St → Option α) (z : α), (subE 2 an_circalaw12_CursorsKnown_l2 un_circalaw12_CursorsKnown_l2 (fun x => iterL (circalaw12_CursorsKnown_l2 n) n x) outK_circalaw12_CursorsKnown_l2).e α s k = some z → SemC Try.prog 48 (sac_circalaw12_CursorsKnown_l2).code s fun ex s' => k ex s' = some z := by
  intro α s k z h
  have e : sac_circalaw12_CursorsKnown_l2 = .loop ac_circalaw12_CursorsKnown_l2 := by kernel_rfl
  rw [e]
  exact subE_ok (m := 2) (f := fun x => iterL (circalaw12_CursorsKnown_l2 n) n x) (out := out_circalaw12_CursorsKnown_l2) outK_ok_circalaw12_CursorsKnown_l2 un_ok_circalaw12_CursorsKnown_l2 (fun x y hy => loop_ok (Es_ok_circalaw12_CursorsKnown n) (subs_circalaw12_CursorsKnown_l2 n) un_ok_circalaw12_CursorsKnown_l2 ux_ok_circalaw12_CursorsKnown_l2 (body_circalaw12_CursorsKnown_l2 n) n x y hy) h
theorem sub_circalaw12_CursorsKnown_l2 (n : Nat) : SubSt Try.prog 48 (Ls_circalaw12_CursorsKnown n) 2 sac_circalaw12_CursorsKnown_l2 := fun α s k z => sub1_circalaw12_CursorsKnown_l2 n α s k z
theorem subs_circalaw12_CursorsKnown_l1 (n : Nat) : SubOK Try.prog 48 (Ls_circalaw12_CursorsKnown n) ac_circalaw12_CursorsKnown_l1 := SubOK_of _ (by
  have e : subs ac_circalaw12_CursorsKnown_l1 = [(2, sac_circalaw12_CursorsKnown_l2)] := by kernel_rfl
  rw [e]; intro p hp
  simp only [List.mem_cons, List.not_mem_nil, or_false] at hp
  · rw [hp]; exact sub_circalaw12_CursorsKnown_l2 n
  )
theorem body_circalaw12_CursorsKnown_l1 (n : Nat) : ∀ x, run Try.prog (Es_circalaw12_CursorsKnown n) (Ls_circalaw12_CursorsKnown n) 48 ac_circalaw12_CursorsKnown_l1 (emb_circalaw12_CursorsKnown_l1 x) (roundK an_circalaw12_CursorsKnown_l1 un_circalaw12_CursorsKnown_l1 ax_circalaw12_CursorsKnown_l1 ux_circalaw12_CursorsKnown_l1) = circalaw12_CursorsKnown_l1 n x := fun _ => by kernel_rfl
theorem sub1_circalaw12_CursorsKnown_l1 (n : Nat) : ∀ (α : Type) (s : St) (k : Ex → St → Option α) (z : α), (subE 1 an_circalaw12_CursorsKnown_l1 un_circalaw12_CursorsKnown_l1 (fun x => iterL (circalaw12_CursorsKnown_l1 n) n x) outK_circalaw12_CursorsKnown_l1).e α s k = some z → SemC Try.prog 48 (sac_circalaw12_CursorsKnown_l1).code s fun ex s' => k ex s' = some z := by
  intro α s k z h
  have e : sac_circalaw12_CursorsKnown_l1 = .loop ac_circalaw12_CursorsKnown_l1 := by kernel_rfl
  rw [e]
  exact subE_ok (m := 1) (f := fun x => iterL (circalaw12_CursorsKnown_l1 n) n x) (out := out_circalaw12_CursorsKnown_l1) outK_ok_circalaw12_CursorsKnown_l1 un_ok_circalaw12_CursorsKnown_l1 (fun x y hy => loop_ok (Es_ok_circalaw12_CursorsKnown n) (subs_circalaw12_CursorsKnown_l1 n) un_ok_circalaw12_CursorsKnown_l1 ux_ok_circalaw12_CursorsKnown_l1 (body_circalaw12_CursorsKnown_l1 n) n x y hy) h
theorem sub_circalaw12_CursorsKnown_l1 (n : Nat) : SubSt Try.prog 48 (Ls_circalaw12_CursorsKnown n) 1 sac_circalaw12_CursorsKnown_l1 := fun α s k z => sub1_circalaw12_CursorsKnown_l1 n α s k z
theorem subs_circalaw12_CursorsKnown_l0 (n : Nat) : SubOK Try.prog 48 (Ls_circalaw12_CursorsKnown n) ac_circalaw12_CursorsKnown_l0 := SubOK_of _ (by
  have e : subs ac_circalaw12_CursorsKnown_l0 = [(1, sac_circalaw12_CursorsKnown_l1)] := by kernel_rfl
  rw [e]; intro p hp
  simp only [List.mem_cons, List.not_mem_nil, or_false] at hp
  · rw [hp]; exact sub_circalaw12_CursorsKnown_l1 n
  )
theorem body_circalaw12_CursorsKnown_l0 (n : Nat) : ∀ x, run Try.prog (Es_circalaw12_CursorsKnown n) (Ls_circalaw12_CursorsKnown n) 48 ac_circalaw12_CursorsKnown_l0 (emb_circalaw12_CursorsKnown_l0 x) (roundK an_circalaw12_CursorsKnown_l0 un_circalaw12_CursorsKnown_l0 ax_circalaw12_CursorsKnown_l0 ux_circalaw12_CursorsKnown_l0) = circalaw12_CursorsKnown_l0 n x := fun _ => by kernel_rfl
theorem sub1_circalaw12_CursorsKnown_l0 (n : Nat) : ∀ (α : Type) (s : St) (k : Ex → St → Option α) (z : α), (subE 0 an_circalaw12_CursorsKnown_l0 un_circalaw12_CursorsKnown_l0 (fun x => iterL (circalaw12_CursorsKnown_l0 n) n x) outK_circalaw12_CursorsKnown_l0).e α s k = some z → SemC Try.prog 48 (sac_circalaw12_CursorsKnown_l0).code s fun ex s' => k ex s' = some z := by
  intro α s k z h
  have e : sac_circalaw12_CursorsKnown_l0 = .loop ac_circalaw12_CursorsKnown_l0 := by kernel_rfl
  rw [e]
  exact subE_ok (m := 0) (f := fun x => iterL (circalaw12_CursorsKnown_l0 n) n x) (out := out_circalaw12_CursorsKnown_l0) outK_ok_circalaw12_CursorsKnown_l0 un_ok_circalaw12_CursorsKnown_l0 (fun x y hy => loop_ok (Es_ok_circalaw12_CursorsKnown n) (subs_circalaw12_CursorsKnown_l0 n) un_ok_circalaw12_CursorsKnown_l0 ux_ok_circalaw12_CursorsKnown_l0 (body_circalaw12_CursorsKnown_l0 n) n x y hy) h
theorem sub_circalaw12_CursorsKnown_l0 (n : Nat) : SubSt Try.prog 48 (Ls_circalaw12_CursorsKnown n) 0 sac_circalaw12_CursorsKnown_l0 := fun α s k z => sub1_circalaw12_CursorsKnown_l0 n α s k z
theorem subs_circalaw12_CursorsKnown (n : Nat) : SubOK Try.prog 48 (Ls_circalaw12_CursorsKnown n) (acOf Try.f9) := SubOK_of _ (by
  have e : subs (acOf Try.f9) = [(0, sac_circalaw12_CursorsKnown_l0)] := by kernel_rfl
  rw [e]; intro p hp
  simp only [List.mem_cons, List.not_mem_nil, or_false] at hp
  · rw [hp]; exact sub_circalaw12_CursorsKnown_l0 n
  )
theorem cert_circalaw12_CursorsKnown (n : Nat) : run Try.prog (Es_circalaw12_CursorsKnown n) (Ls_circalaw12_CursorsKnown n) Try.f9.ntmps (acOf Try.f9) ⟨argsT [] 0, [], 0, 0, 0, 0⟩ (finK Try.prog Try.f9.results.toList (retX unr_circalaw12_CursorsKnown)) = circalaw12_CursorsKnown n := by kernel_rfl
theorem pure_circalaw12_CursorsKnown (n : Nat) : ∀ a r, circalaw12_CursorsKnown n = some r → PureOK Try.prog 9 (arg_circalaw12_CursorsKnown a) (enc_circalaw12_CursorsKnown r) := fun a r h => pureX_ok unr_ok_circalaw12_CursorsKnown (Es_ok_circalaw12_CursorsKnown n) Try.func9 rfl (acOf_code _) (subs_circalaw12_CursorsKnown n) rfl ((cert_circalaw12_CursorsKnown n).trans h)
theorem ok_circalaw12_CursorsKnown (n : Nat) : EntOK Try.prog (e_circalaw12_CursorsKnown n) := pureE_ok Try.call9 una_ok_circalaw12_CursorsKnown (fun _ => rfl) (pure_circalaw12_CursorsKnown n)

end Go.Sh
