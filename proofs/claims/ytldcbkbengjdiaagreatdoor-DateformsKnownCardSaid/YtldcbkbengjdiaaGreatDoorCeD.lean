/- Each function of the program computes its plain function: the certificates.
   Conditions: none. Printed by the bench tool gen.py. -/
import Derived.Test.YtldcbkbengjdiaaGreatDoorShD
import Derived.Test.YtldcbkbengjdiaaGreatDoorProg
import Derived.Test.YtldcbkbengjdiaaGreatDoorAbsX
import Derived.Test.YtldcbkbengjdiaaGreatDoorAbsU
import Derived.Test.YtldcbkbengjdiaaGreatDoorAbsW
import Derived.KernelRfl
import Derived.Test.YtldcbkbengjdiaaGreatDoorShelf
import Derived.Test.YtldcbkbengjdiaaGreatDoorHGa
import Derived.Test.YtldcbkbengjdiaaGreatDoorHGb
import Derived.Test.YtldcbkbengjdiaaGreatDoorHGe
import Derived.Test.YtldcbkbengjdiaaGreatDoorHGm
import Derived.Test.YtldcbkbengjdiaaGreatDoorHGs
set_option linter.unusedVariables false
set_option linter.unusedSimpArgs false
set_option maxRecDepth 100000
set_option maxHeartbeats 4000000
namespace Go.Sh
open Go.Abs Go.Proofs

/-! (*circa/cursors.Cursor).Rest -/
noncomputable def arg_cursors_Cursor_Rest (a : List UInt8 × Int) : List V := [.p 0 0]
noncomputable def H0_cursors_Cursor_Rest (a : List UInt8 × Int) : List (Nat × Blk) := [(0, .cells [.s a.1, .i .i64 a.2])]
noncomputable def una_cursors_Cursor_Rest (l : List V) (H : List (Nat × Blk)) : Option ((List UInt8 × Int) × List Nat) := match l with
  | [.p b0 0] => (match Abs.look H b0 with
    | some (.cells [.s a0, .i .i64 a1]) => (cond (Abs.distinct [b0] && true) (some ((a0, a1), [b0])) none)
    | _ => none)
  | _ => none
theorem una_ok_cursors_Cursor_Rest : ∀ l H a ρ, una_cursors_Cursor_Rest l H = some (a, ρ) → ρ.length = 1 ∧ ρ.Nodup ∧ l = V.rens ρ (arg_cursors_Cursor_Rest a) ∧ ∀ b blk, Abs.look (H0_cursors_Cursor_Rest a) b = some blk → Abs.look H (getN ρ b) = some (blk.ren ρ) := by
  intro l H a ρ h
  unfold una_cursors_Cursor_Rest at h
  split at h
  · split at h
    · rename_i e0
      obtain ⟨hd, h⟩ := cond_some h
      simp only [Bool.and_eq_true] at hd
      obtain ⟨hd, _⟩ := hd
      cases h
      exact ⟨rfl, distinct_ok hd, rfl, eachH_look ⟨e0, trivial⟩⟩
    · cases h
  · cases h
noncomputable def out_cursors_Cursor_Rest (r : List UInt8) : FOut := (⟨false, .s r, [], []⟩ : FOut)
noncomputable def outK_cursors_Cursor_Rest (α : Type) (r : List UInt8) (k : FOut → Option α) : Option α := (k ⟨false, .s r, [], []⟩)
theorem outK_ok_cursors_Cursor_Rest : ∀ α r k, outK_cursors_Cursor_Rest α r k = k (out_cursors_Cursor_Rest r) := by
  intro α r k
  rfl
noncomputable def unr_cursors_Cursor_Rest (pan : Bool) (v : V) (H : List (Nat × Blk)) (nw : List Nat) : Option (List UInt8) := match pan, v, H, nw with
  | false, .s r0, [], [] => some r0
  | _, _, _, _ => none
theorem unr_ok_cursors_Cursor_Rest : ∀ pan v H nw r, unr_cursors_Cursor_Rest pan v H nw = some r → (out_cursors_Cursor_Rest r).pan = pan ∧ (out_cursors_Cursor_Rest r).news = nw ∧ v = V.ren (upTo 0 1 ++ (out_cursors_Cursor_Rest r).news) (out_cursors_Cursor_Rest r).val ∧ H = renH (upTo 0 1 ++ (out_cursors_Cursor_Rest r).news) (out_cursors_Cursor_Rest r).H := by
  intro pan v H nw r h
  unfold unr_cursors_Cursor_Rest at h
  split at h
  · cases h; exact ⟨rfl, rfl, rfl, rfl⟩
  · cases h
theorem hv_cursors_Cursor_Rest : ∀ r, V.lt (1 + (out_cursors_Cursor_Rest r).news.length) (out_cursors_Cursor_Rest r).val = true := fun r => (by rfl)
theorem hc_cursors_Cursor_Rest : ∀ r, chkH (1 + (out_cursors_Cursor_Rest r).news.length) (out_cursors_Cursor_Rest r).H = true := fun r => (by rfl)
theorem hk_cursors_Cursor_Rest : ∀ r, hasKeys (out_cursors_Cursor_Rest r).H 1 (0 + (out_cursors_Cursor_Rest r).news.length) = true := fun r => (by rfl)
noncomputable def e_cursors_Cursor_Rest (n : Nat) : Ent := funE 159 1 una_cursors_Cursor_Rest (fun a => cursors_Cursor_Rest n a.1 a.2) outK_cursors_Cursor_Rest
noncomputable def t_cursors_Cursor_Rest (l : List V) (H : List (Nat × Blk)) : Bool := isS (una_cursors_Cursor_Rest l H)
noncomputable def Es_cursors_Cursor_Rest (_n : Nat) : List Ent := []
theorem Es_ok_cursors_Cursor_Rest (n : Nat) : ∀ x ∈ Es_cursors_Cursor_Rest n, EntOK Tryz.prog x := by
  intro x hx
  simp [Es_cursors_Cursor_Rest] at hx
noncomputable def Ls_cursors_Cursor_Rest (_n : Nat) : List Sub := []
theorem subs_cursors_Cursor_Rest (n : Nat) : SubOK Tryz.prog 14 (Ls_cursors_Cursor_Rest n) (acOf Tryz.f159) := SubOK_of _ (by
  have e : subs (acOf Tryz.f159) = [] := by kernel_rfl
  rw [e]; intro p hp; cases hp)
theorem cert_cursors_Cursor_Rest (n : Nat) (a0 : List UInt8) (a1 : Int) : run Tryz.prog (Es_cursors_Cursor_Rest n) (Ls_cursors_Cursor_Rest n) Tryz.f159.ntmps (acOf Tryz.f159) ⟨argsT [.p 0 0] 0, [(0, .cells [.s a0, .i .i64 a1])], 1, 1, 1, 1⟩ (finK Tryz.prog Tryz.f159.results.toList (funX [] 1 1 1 unr_cursors_Cursor_Rest)) = cursors_Cursor_Rest n a0 a1 := by kernel_rfl
theorem fun_cursors_Cursor_Rest (n : Nat) : ∀ a r, cursors_Cursor_Rest n a.1 a.2 = some r → FunOK Tryz.prog 159 (arg_cursors_Cursor_Rest a) (H0_cursors_Cursor_Rest a) 1 1 1 (out_cursors_Cursor_Rest r) := fun a r h => funX_ok (ws := []) unr_ok_cursors_Cursor_Rest hv_cursors_Cursor_Rest (fun r b blk hl => (chkH_look (hc_cursors_Cursor_Rest r) b blk hl).2) (fun r => chkH_keys (hc_cursors_Cursor_Rest r)) (by decide) (Es_ok_cursors_Cursor_Rest n) Tryz.func159 rfl (acOf_code _) (subs_cursors_Cursor_Rest n) rfl rfl ((cert_cursors_Cursor_Rest n a.1 a.2).trans h)
theorem ok_cursors_Cursor_Rest (n : Nat) : EntOK Tryz.prog (e_cursors_Cursor_Rest n) := funE_ok (m := 1) (ro := 1) (rb := 1) (out := out_cursors_Cursor_Rest) (arg := arg_cursors_Cursor_Rest) (H0 := H0_cursors_Cursor_Rest) Tryz.call159 (by decide) (by decide) outK_ok_cursors_Cursor_Rest una_ok_cursors_Cursor_Rest (fun _ => rfl) (fun a => chkH_look (m := 1) (H := H0_cursors_Cursor_Rest a) rfl) (fun _ => rfl) (fun r => chkH_keys (hc_cursors_Cursor_Rest r)) (fun r b blk h => (chkH_look (hc_cursors_Cursor_Rest r) b blk h).2) (fun r b h1 h2 => hasKeys_ok (hk_cursors_Cursor_Rest r) b h1 (by omega)) hv_cursors_Cursor_Rest (fun_cursors_Cursor_Rest n)

/-! (*circa/cursors.Cursor).Peek -/
noncomputable def arg_cursors_Cursor_Peek (a : List UInt8 × Int) : List V := [.p 0 0]
noncomputable def H0_cursors_Cursor_Peek (a : List UInt8 × Int) : List (Nat × Blk) := [(0, .cells [.s a.1, .i .i64 a.2])]
noncomputable def una_cursors_Cursor_Peek (l : List V) (H : List (Nat × Blk)) : Option ((List UInt8 × Int) × List Nat) := match l with
  | [.p b0 0] => (match Abs.look H b0 with
    | some (.cells [.s a0, .i .i64 a1]) => (cond (Abs.distinct [b0] && true) (some ((a0, a1), [b0])) none)
    | _ => none)
  | _ => none
theorem una_ok_cursors_Cursor_Peek : ∀ l H a ρ, una_cursors_Cursor_Peek l H = some (a, ρ) → ρ.length = 1 ∧ ρ.Nodup ∧ l = V.rens ρ (arg_cursors_Cursor_Peek a) ∧ ∀ b blk, Abs.look (H0_cursors_Cursor_Peek a) b = some blk → Abs.look H (getN ρ b) = some (blk.ren ρ) := by
  intro l H a ρ h
  unfold una_cursors_Cursor_Peek at h
  split at h
  · split at h
    · rename_i e0
      obtain ⟨hd, h⟩ := cond_some h
      simp only [Bool.and_eq_true] at hd
      obtain ⟨hd, _⟩ := hd
      cases h
      exact ⟨rfl, distinct_ok hd, rfl, eachH_look ⟨e0, trivial⟩⟩
    · cases h
  · cases h
noncomputable def out_cursors_Cursor_Peek (r : (Int × Bool)) : FOut := (⟨false, .tp [.i .u8 r.1, .b r.2], [], []⟩ : FOut)
noncomputable def outK_cursors_Cursor_Peek (α : Type) (r : (Int × Bool)) (k : FOut → Option α) : Option α := (k ⟨false, .tp [.i .u8 r.1, .b r.2], [], []⟩)
theorem outK_ok_cursors_Cursor_Peek : ∀ α r k, outK_cursors_Cursor_Peek α r k = k (out_cursors_Cursor_Peek r) := by
  intro α r k
  rfl
noncomputable def unr_cursors_Cursor_Peek (pan : Bool) (v : V) (H : List (Nat × Blk)) (nw : List Nat) : Option ((Int × Bool)) := match pan, v, H, nw with
  | false, .tp [.i .u8 r0, .b r1], [], [] => some (r0, r1)
  | _, _, _, _ => none
theorem unr_ok_cursors_Cursor_Peek : ∀ pan v H nw r, unr_cursors_Cursor_Peek pan v H nw = some r → (out_cursors_Cursor_Peek r).pan = pan ∧ (out_cursors_Cursor_Peek r).news = nw ∧ v = V.ren (upTo 0 1 ++ (out_cursors_Cursor_Peek r).news) (out_cursors_Cursor_Peek r).val ∧ H = renH (upTo 0 1 ++ (out_cursors_Cursor_Peek r).news) (out_cursors_Cursor_Peek r).H := by
  intro pan v H nw r h
  unfold unr_cursors_Cursor_Peek at h
  split at h
  · cases h; exact ⟨rfl, rfl, rfl, rfl⟩
  · cases h
theorem hv_cursors_Cursor_Peek : ∀ r, V.lt (1 + (out_cursors_Cursor_Peek r).news.length) (out_cursors_Cursor_Peek r).val = true := fun r => (by rfl)
theorem hc_cursors_Cursor_Peek : ∀ r, chkH (1 + (out_cursors_Cursor_Peek r).news.length) (out_cursors_Cursor_Peek r).H = true := fun r => (by rfl)
theorem hk_cursors_Cursor_Peek : ∀ r, hasKeys (out_cursors_Cursor_Peek r).H 1 (0 + (out_cursors_Cursor_Peek r).news.length) = true := fun r => (by rfl)
noncomputable def e_cursors_Cursor_Peek (n : Nat) : Ent := funE 102 1 una_cursors_Cursor_Peek (fun a => cursors_Cursor_Peek n a.1 a.2) outK_cursors_Cursor_Peek
noncomputable def t_cursors_Cursor_Peek (l : List V) (H : List (Nat × Blk)) : Bool := isS (una_cursors_Cursor_Peek l H)
noncomputable def Es_cursors_Cursor_Peek (n : Nat) : List Ent := [e_cursors_Cursor_Rest n]
theorem Es_ok_cursors_Cursor_Peek (n : Nat) : ∀ x ∈ Es_cursors_Cursor_Peek n, EntOK Tryz.prog x := by
  intro x hx
  simp only [Es_cursors_Cursor_Peek, List.mem_cons, List.not_mem_nil, or_false] at hx
  · rw [hx]; exact ok_cursors_Cursor_Rest n
noncomputable def Ls_cursors_Cursor_Peek (_n : Nat) : List Sub := []
theorem subs_cursors_Cursor_Peek (n : Nat) : SubOK Tryz.prog 16 (Ls_cursors_Cursor_Peek n) (acOf Tryz.f102) := SubOK_of _ (by
  have e : subs (acOf Tryz.f102) = [] := by kernel_rfl
  rw [e]; intro p hp; cases hp)
theorem cert_cursors_Cursor_Peek (n : Nat) (a0 : List UInt8) (a1 : Int) : run Tryz.prog (Es_cursors_Cursor_Peek n) (Ls_cursors_Cursor_Peek n) Tryz.f102.ntmps (acOf Tryz.f102) ⟨argsT [.p 0 0] 0, [(0, .cells [.s a0, .i .i64 a1])], 1, 1, 1, 1⟩ (finK Tryz.prog Tryz.f102.results.toList (funX [] 1 1 1 unr_cursors_Cursor_Peek)) = cursors_Cursor_Peek n a0 a1 := by kernel_rfl
theorem fun_cursors_Cursor_Peek (n : Nat) : ∀ a r, cursors_Cursor_Peek n a.1 a.2 = some r → FunOK Tryz.prog 102 (arg_cursors_Cursor_Peek a) (H0_cursors_Cursor_Peek a) 1 1 1 (out_cursors_Cursor_Peek r) := fun a r h => funX_ok (ws := []) unr_ok_cursors_Cursor_Peek hv_cursors_Cursor_Peek (fun r b blk hl => (chkH_look (hc_cursors_Cursor_Peek r) b blk hl).2) (fun r => chkH_keys (hc_cursors_Cursor_Peek r)) (by decide) (Es_ok_cursors_Cursor_Peek n) Tryz.func102 rfl (acOf_code _) (subs_cursors_Cursor_Peek n) rfl rfl ((cert_cursors_Cursor_Peek n a.1 a.2).trans h)
theorem ok_cursors_Cursor_Peek (n : Nat) : EntOK Tryz.prog (e_cursors_Cursor_Peek n) := funE_ok (m := 1) (ro := 1) (rb := 1) (out := out_cursors_Cursor_Peek) (arg := arg_cursors_Cursor_Peek) (H0 := H0_cursors_Cursor_Peek) Tryz.call102 (by decide) (by decide) outK_ok_cursors_Cursor_Peek una_ok_cursors_Cursor_Peek (fun _ => rfl) (fun a => chkH_look (m := 1) (H := H0_cursors_Cursor_Peek a) rfl) (fun _ => rfl) (fun r => chkH_keys (hc_cursors_Cursor_Peek r)) (fun r b blk h => (chkH_look (hc_cursors_Cursor_Peek r) b blk h).2) (fun r b h1 h2 => hasKeys_ok (hk_cursors_Cursor_Peek r) b h1 (by omega)) hv_cursors_Cursor_Peek (fun_cursors_Cursor_Peek n)

/-! circa/marks.texts -/
noncomputable def arg_marks_texts (_a : Unit) : List V := []
noncomputable def una_marks_texts (l : List V) : Option (Unit) := match l with
  | [] => some ()
  | _ => none
theorem una_ok_marks_texts : ∀ l a, una_marks_texts l = some a → l = arg_marks_texts a := by
  intro l a h
  unfold una_marks_texts at h
  split at h
  · cases h; rfl
  · cases h
noncomputable def enc_marks_texts (r : List UInt8 × List UInt8 × List UInt8 × List UInt8) : V := .ag [.s r.1, .s r.2.1, .s r.2.2.1, .s r.2.2.2]
noncomputable def unr_marks_texts (v : V) : Option (List UInt8 × List UInt8 × List UInt8 × List UInt8) := match v with
  | .ag [.s r0, .s r1, .s r2, .s r3] => some (r0, r1, r2, r3)
  | _ => none
theorem unr_ok_marks_texts : ∀ v r, unr_marks_texts v = some r → v = enc_marks_texts r := by
  intro v r h
  unfold unr_marks_texts at h
  split at h
  · cases h; rfl
  · cases h
noncomputable def e_marks_texts (n : Nat) : Ent := pureE 120 una_marks_texts (fun _a => marks_texts n) enc_marks_texts
noncomputable def t_marks_texts (l : List V) (_ : List (Nat × Blk)) : Bool := isS (una_marks_texts l)
noncomputable def Es_marks_texts (_n : Nat) : List Ent := []
theorem Es_ok_marks_texts (n : Nat) : ∀ x ∈ Es_marks_texts n, EntOK Tryz.prog x := by
  intro x hx
  simp [Es_marks_texts] at hx
noncomputable def Ls_marks_texts (_n : Nat) : List Sub := []
theorem subs_marks_texts (n : Nat) : SubOK Tryz.prog 2 (Ls_marks_texts n) (acOf Tryz.f120) := SubOK_of _ (by
  have e : subs (acOf Tryz.f120) = [] := by kernel_rfl
  rw [e]; intro p hp; cases hp)
theorem cert_marks_texts (n : Nat) : run Tryz.prog (Es_marks_texts n) (Ls_marks_texts n) Tryz.f120.ntmps (acOf Tryz.f120) ⟨argsT [] 0, [], 0, 0, 0, 0⟩ (finK Tryz.prog Tryz.f120.results.toList (retX unr_marks_texts)) = marks_texts n := by kernel_rfl
theorem pure_marks_texts (n : Nat) : ∀ a r, marks_texts n = some r → PureOK Tryz.prog 120 (arg_marks_texts a) (enc_marks_texts r) := fun a r h => pureX_ok unr_ok_marks_texts (Es_ok_marks_texts n) Tryz.func120 rfl (acOf_code _) (subs_marks_texts n) rfl ((cert_marks_texts n).trans h)
theorem ok_marks_texts (n : Nat) : EntOK Tryz.prog (e_marks_texts n) := pureE_ok Tryz.call120 una_ok_marks_texts (fun _ => rfl) (pure_marks_texts n)

/-! slices.Index[[]string,string] -/
noncomputable def arg_slices_Index_string_string (a : List UInt8 × List UInt8 × List UInt8 × List UInt8 × List UInt8) : List V := [.sl 0 0 4 (some 4), .s a.1]
noncomputable def H0_slices_Index_string_string (a : List UInt8 × List UInt8 × List UInt8 × List UInt8 × List UInt8) : List (Nat × Blk) := [(0, .cells [.s a.2.1, .s a.2.2.1, .s a.2.2.2.1, .s a.2.2.2.2])]
noncomputable def una_slices_Index_string_string (l : List V) (H : List (Nat × Blk)) : Option ((List UInt8 × List UInt8 × List UInt8 × List UInt8 × List UInt8) × List Nat) := match l with
  | [.sl b0 0 4 (some 4), .s a0] => (match Abs.look H b0 with
    | some (.cells [.s a1, .s a2, .s a3, .s a4]) => (cond (Abs.distinct [b0] && true) (some ((a0, a1, a2, a3, a4), [b0])) none)
    | _ => none)
  | _ => none
theorem una_ok_slices_Index_string_string : ∀ l H a ρ, una_slices_Index_string_string l H = some (a, ρ) → ρ.length = 1 ∧ ρ.Nodup ∧ l = V.rens ρ (arg_slices_Index_string_string a) ∧ ∀ b blk, Abs.look (H0_slices_Index_string_string a) b = some blk → Abs.look H (getN ρ b) = some (blk.ren ρ) := by
  intro l H a ρ h
  unfold una_slices_Index_string_string at h
  split at h
  · split at h
    · rename_i e0
      obtain ⟨hd, h⟩ := cond_some h
      simp only [Bool.and_eq_true] at hd
      obtain ⟨hd, _⟩ := hd
      cases h
      exact ⟨rfl, distinct_ok hd, rfl, eachH_look ⟨e0, trivial⟩⟩
    · cases h
  · cases h
noncomputable def out_slices_Index_string_string (r : Int) : FOut := (⟨false, .i .i64 r, [], []⟩ : FOut)
noncomputable def outK_slices_Index_string_string (α : Type) (r : Int) (k : FOut → Option α) : Option α := (k ⟨false, .i .i64 r, [], []⟩)
theorem outK_ok_slices_Index_string_string : ∀ α r k, outK_slices_Index_string_string α r k = k (out_slices_Index_string_string r) := by
  intro α r k
  rfl
noncomputable def unr_slices_Index_string_string (pan : Bool) (v : V) (H : List (Nat × Blk)) (nw : List Nat) : Option (Int) := match pan, v, H, nw with
  | false, .i .i64 r0, [], [] => some r0
  | _, _, _, _ => none
theorem unr_ok_slices_Index_string_string : ∀ pan v H nw r, unr_slices_Index_string_string pan v H nw = some r → (out_slices_Index_string_string r).pan = pan ∧ (out_slices_Index_string_string r).news = nw ∧ v = V.ren (upTo 0 1 ++ (out_slices_Index_string_string r).news) (out_slices_Index_string_string r).val ∧ H = renH (upTo 0 1 ++ (out_slices_Index_string_string r).news) (out_slices_Index_string_string r).H := by
  intro pan v H nw r h
  unfold unr_slices_Index_string_string at h
  split at h
  · cases h; exact ⟨rfl, rfl, rfl, rfl⟩
  · cases h
theorem hv_slices_Index_string_string : ∀ r, V.lt (1 + (out_slices_Index_string_string r).news.length) (out_slices_Index_string_string r).val = true := fun r => (by rfl)
theorem hc_slices_Index_string_string : ∀ r, chkH (1 + (out_slices_Index_string_string r).news.length) (out_slices_Index_string_string r).H = true := fun r => (by rfl)
theorem hk_slices_Index_string_string : ∀ r, hasKeys (out_slices_Index_string_string r).H 1 (0 + (out_slices_Index_string_string r).news.length) = true := fun r => (by rfl)
noncomputable def e_slices_Index_string_string (n : Nat) : Ent := funE 160 1 una_slices_Index_string_string (fun a => slices_Index_string_string n a.1 a.2.1 a.2.2.1 a.2.2.2.1 a.2.2.2.2) outK_slices_Index_string_string
noncomputable def t_slices_Index_string_string (l : List V) (H : List (Nat × Blk)) : Bool := isS (una_slices_Index_string_string l H)
noncomputable def Es_slices_Index_string_string (_n : Nat) : List Ent := []
theorem Es_ok_slices_Index_string_string (n : Nat) : ∀ x ∈ Es_slices_Index_string_string n, EntOK Tryz.prog x := by
  intro x hx
  simp [Es_slices_Index_string_string] at hx
noncomputable def an_slices_Index_string_string_l0 : Ann := ⟨[0, 1, 7, 8], [0], 1, []⟩
noncomputable def emb_slices_Index_string_string_l0 (x : List UInt8 × Int × Int × List UInt8 × List UInt8 × List UInt8 × List UInt8) : St := ⟨[(0, some (.sl 0 0 4 (some 4))), (1, some (.s x.1)), (7, some (.i .i64 x.2.1)), (8, some (.i .i64 x.2.2.1))], [(0, .cells [.s x.2.2.2.1, .s x.2.2.2.2.1, .s x.2.2.2.2.2.1, .s x.2.2.2.2.2.2])], 1, 1, 1, 1⟩
noncomputable def un_slices_Index_string_string_l0 (s : St) : Option (List UInt8 × Int × Int × List UInt8 × List UInt8 × List UInt8 × List UInt8) := match s with
  | ⟨[(0, some (.sl 0 0 4 (some 4))), (1, some (.s x0)), (7, some (.i .i64 x1)), (8, some (.i .i64 x2))], [(0, .cells [.s x3, .s x4, .s x5, .s x6])], 1, 1, 1, 1⟩ => some (x0, x1, x2, x3, x4, x5, x6)
  | _ => none
theorem un_ok_slices_Index_string_string_l0 : ∀ s x, un_slices_Index_string_string_l0 s = some x → s = emb_slices_Index_string_string_l0 x := by
  intro s x h
  unfold un_slices_Index_string_string_l0 at h
  split at h
  · cases h; rfl
  · cases h
noncomputable def ax_slices_Index_string_string_l0 : Ex → Ann := fun ex => match ex with
  | .ret => ⟨[4], [], 1, []⟩
  | .exit 0 => ⟨[], [], 1, []⟩
  | _ => ⟨[], [], 0, []⟩
noncomputable def out_slices_Index_string_string_l0 (y : Int ⊕ Unit) : Ex × St := (Sum.casesOn (motive := fun _ => Ex × St) y (fun a0 => (.ret, ⟨[(4, some (.i .i64 a0))], [], 1, 1, 1, 1⟩)) (fun b0 => (.exit 0, ⟨[], [], 1, 1, 1, 1⟩)))
noncomputable def outK_slices_Index_string_string_l0 (α : Type) (y : Int ⊕ Unit) (k : Ex → St → Option α) : Option α := (Sum.casesOn (motive := fun _ => Option α) y (fun a0 => (k (.ret) ⟨[(4, some (.i .i64 a0))], [], 1, 1, 1, 1⟩)) (fun b0 => (k (.exit 0) ⟨[], [], 1, 1, 1, 1⟩)))
theorem outK_ok_slices_Index_string_string_l0 : ∀ α y k, outK_slices_Index_string_string_l0 α y k = k (out_slices_Index_string_string_l0 y).1 (out_slices_Index_string_string_l0 y).2 := by
  intro α y k
  rcases y with y | y <;> rfl
noncomputable def ux_slices_Index_string_string_l0 (ex : Ex) (s : St) : Option (Int ⊕ Unit) := match ex, s with
  | .ret, ⟨[(4, some (.i .i64 y0))], [], 1, 1, 1, 1⟩ => some (.inl y0)
  | .exit 0, ⟨[], [], 1, 1, 1, 1⟩ => some (.inr ())
  | _, _ => none
theorem ux_ok_slices_Index_string_string_l0 : ∀ ex s y, ux_slices_Index_string_string_l0 ex s = some y → (ex, s) = out_slices_Index_string_string_l0 y := by
  intro ex s y h
  unfold ux_slices_Index_string_string_l0 at h
  split at h
  · cases h; rfl
  · cases h; rfl
  · cases h
noncomputable def Ls_slices_Index_string_string (n : Nat) : List Sub := [subE 0 an_slices_Index_string_string_l0 un_slices_Index_string_string_l0 (fun x => iterL (slices_Index_string_string_l0 n) n x) outK_slices_Index_string_string_l0]
noncomputable def sac_slices_Index_string_string_l0 : AC := getS (subs (acOf Tryz.f160)) 0
noncomputable def ac_slices_Index_string_string_l0 : AC := AC.body sac_slices_Index_string_string_l0
theorem subs_slices_Index_string_string_l0 (n : Nat) : SubOK Tryz.prog 19 (Ls_slices_Index_string_string n) ac_slices_Index_string_string_l0 := SubOK_of _ (by
  have e : subs ac_slices_Index_string_string_l0 = [] := by kernel_rfl
  rw [e]; intro p hp; cases hp)
theorem body_slices_Index_string_string_l0 (n : Nat) : ∀ x, run Tryz.prog (Es_slices_Index_string_string n) (Ls_slices_Index_string_string n) 19 ac_slices_Index_string_string_l0 (emb_slices_Index_string_string_l0 x) (roundK an_slices_Index_string_string_l0 un_slices_Index_string_string_l0 ax_slices_Index_string_string_l0 ux_slices_Index_string_string_l0) = slices_Index_string_string_l0 n x := fun _ => by kernel_rfl
theorem sub1_slices_Index_string_string_l0 (n : Nat) : ∀ (α : Type) (s : St) (k : Ex → St → Option α) (z : α), (subE 0 an_slices_Index_string_string_l0 un_slices_Index_string_string_l0 (fun x => iterL (slices_Index_string_string_l0 n) n x) outK_slices_Index_string_string_l0).e α s k = some z → SemC Tryz.prog 19 (sac_slices_Index_string_string_l0).code s fun ex s' => k ex s' = some z := by
  intro α s k z h
  have e : sac_slices_Index_string_string_l0 = .loop ac_slices_Index_string_string_l0 := by kernel_rfl
  rw [e]
  exact subE_ok (m := 0) (f := fun x => iterL (slices_Index_string_string_l0 n) n x) (out := out_slices_Index_string_string_l0) outK_ok_slices_Index_string_string_l0 un_ok_slices_Index_string_string_l0 (fun x y hy => loop_ok (Es_ok_slices_Index_string_string n) (subs_slices_Index_string_string_l0 n) un_ok_slices_Index_string_string_l0 ux_ok_slices_Index_string_string_l0 (body_slices_Index_string_string_l0 n) n x y hy) h
theorem sub_slices_Index_string_string_l0 (n : Nat) : SubSt Tryz.prog 19 (Ls_slices_Index_string_string n) 0 sac_slices_Index_string_string_l0 := fun α s k z => sub1_slices_Index_string_string_l0 n α s k z
theorem subs_slices_Index_string_string (n : Nat) : SubOK Tryz.prog 19 (Ls_slices_Index_string_string n) (acOf Tryz.f160) := SubOK_of _ (by
  have e : subs (acOf Tryz.f160) = [(0, sac_slices_Index_string_string_l0)] := by kernel_rfl
  rw [e]; intro p hp
  simp only [List.mem_cons, List.not_mem_nil, or_false] at hp
  · rw [hp]; exact sub_slices_Index_string_string_l0 n
  )
theorem cert_slices_Index_string_string (n : Nat) (a0 : List UInt8) (a1 : List UInt8) (a2 : List UInt8) (a3 : List UInt8) (a4 : List UInt8) : run Tryz.prog (Es_slices_Index_string_string n) (Ls_slices_Index_string_string n) Tryz.f160.ntmps (acOf Tryz.f160) ⟨argsT [.sl 0 0 4 (some 4), .s a0] 0, [(0, .cells [.s a1, .s a2, .s a3, .s a4])], 1, 1, 1, 1⟩ (finK Tryz.prog Tryz.f160.results.toList (funX [] 1 1 1 unr_slices_Index_string_string)) = slices_Index_string_string n a0 a1 a2 a3 a4 := by kernel_rfl
theorem fun_slices_Index_string_string (n : Nat) : ∀ a r, slices_Index_string_string n a.1 a.2.1 a.2.2.1 a.2.2.2.1 a.2.2.2.2 = some r → FunOK Tryz.prog 160 (arg_slices_Index_string_string a) (H0_slices_Index_string_string a) 1 1 1 (out_slices_Index_string_string r) := fun a r h => funX_ok (ws := []) unr_ok_slices_Index_string_string hv_slices_Index_string_string (fun r b blk hl => (chkH_look (hc_slices_Index_string_string r) b blk hl).2) (fun r => chkH_keys (hc_slices_Index_string_string r)) (by decide) (Es_ok_slices_Index_string_string n) Tryz.func160 rfl (acOf_code _) (subs_slices_Index_string_string n) rfl rfl ((cert_slices_Index_string_string n a.1 a.2.1 a.2.2.1 a.2.2.2.1 a.2.2.2.2).trans h)
theorem ok_slices_Index_string_string (n : Nat) : EntOK Tryz.prog (e_slices_Index_string_string n) := funE_ok (m := 1) (ro := 1) (rb := 1) (out := out_slices_Index_string_string) (arg := arg_slices_Index_string_string) (H0 := H0_slices_Index_string_string) Tryz.call160 (by decide) (by decide) outK_ok_slices_Index_string_string una_ok_slices_Index_string_string (fun _ => rfl) (fun a => chkH_look (m := 1) (H := H0_slices_Index_string_string a) rfl) (fun _ => rfl) (fun r => chkH_keys (hc_slices_Index_string_string r)) (fun r b blk h => (chkH_look (hc_slices_Index_string_string r) b blk h).2) (fun r b h1 h2 => hasKeys_ok (hk_slices_Index_string_string r) b h1 (by omega)) hv_slices_Index_string_string (fun_slices_Index_string_string n)

/-! circa/marks.Of -/
noncomputable def arg_marks_Of (a : Int) : List V := [.i .u8 a]
noncomputable def una_marks_Of (l : List V) : Option (Int) := match l with
  | [.i .u8 a0] => some a0
  | _ => none
theorem una_ok_marks_Of : ∀ l a, una_marks_Of l = some a → l = arg_marks_Of a := by
  intro l a h
  unfold una_marks_Of at h
  split at h
  · cases h; rfl
  · cases h
noncomputable def enc_marks_Of (r : Int × Bool) : V := .tp [.i .u8 r.1, .b r.2]
noncomputable def unr_marks_Of (v : V) : Option (Int × Bool) := match v with
  | .tp [.i .u8 r0, .b r1] => some (r0, r1)
  | _ => none
theorem unr_ok_marks_Of : ∀ v r, unr_marks_Of v = some r → v = enc_marks_Of r := by
  intro v r h
  unfold unr_marks_Of at h
  split at h
  · cases h; rfl
  · cases h
noncomputable def e_marks_Of (n : Nat) : Ent := pureE 103 una_marks_Of (fun a => marks_Of n a) enc_marks_Of
noncomputable def t_marks_Of (l : List V) (_ : List (Nat × Blk)) : Bool := isS (una_marks_Of l)
noncomputable def Es_marks_Of (n : Nat) : List Ent := [e_marks_texts n, e_slices_Index_string_string n]
theorem Es_ok_marks_Of (n : Nat) : ∀ x ∈ Es_marks_Of n, EntOK Tryz.prog x := by
  intro x hx
  simp only [Es_marks_Of, List.mem_cons, List.not_mem_nil, or_false] at hx
  rcases hx with hx | hx
  · rw [hx]; exact ok_marks_texts n
  · rw [hx]; exact ok_slices_Index_string_string n
noncomputable def Ls_marks_Of (_n : Nat) : List Sub := []
theorem subs_marks_Of (n : Nat) : SubOK Tryz.prog 16 (Ls_marks_Of n) (acOf Tryz.f103) := SubOK_of _ (by
  have e : subs (acOf Tryz.f103) = [] := by kernel_rfl
  rw [e]; intro p hp; cases hp)
theorem cert_marks_Of (n : Nat) (a0 : Int) : run Tryz.prog (Es_marks_Of n) (Ls_marks_Of n) Tryz.f103.ntmps (acOf Tryz.f103) ⟨argsT [.i .u8 a0] 0, [], 0, 0, 0, 0⟩ (finK Tryz.prog Tryz.f103.results.toList (retX unr_marks_Of)) = marks_Of n a0 := by kernel_rfl
theorem pure_marks_Of (n : Nat) : ∀ a r, marks_Of n a = some r → PureOK Tryz.prog 103 (arg_marks_Of a) (enc_marks_Of r) := fun a r h => pureX_ok unr_ok_marks_Of (Es_ok_marks_Of n) Tryz.func103 rfl (acOf_code _) (subs_marks_Of n) rfl ((cert_marks_Of n a).trans h)
theorem ok_marks_Of (n : Nat) : EntOK Tryz.prog (e_marks_Of n) := pureE_ok Tryz.call103 una_ok_marks_Of (fun _ => rfl) (pure_marks_Of n)

/-! (*circa/cursors.Cursor).At -/
noncomputable def arg_cursors_Cursor_At (a : List UInt8 × Int) : List V := [.p 0 0]
noncomputable def H0_cursors_Cursor_At (a : List UInt8 × Int) : List (Nat × Blk) := [(0, .cells [.s a.1, .i .i64 a.2])]
noncomputable def una_cursors_Cursor_At (l : List V) (H : List (Nat × Blk)) : Option ((List UInt8 × Int) × List Nat) := match l with
  | [.p b0 0] => (match Abs.look H b0 with
    | some (.cells [.s a0, .i .i64 a1]) => (cond (Abs.distinct [b0] && true) (some ((a0, a1), [b0])) none)
    | _ => none)
  | _ => none
theorem una_ok_cursors_Cursor_At : ∀ l H a ρ, una_cursors_Cursor_At l H = some (a, ρ) → ρ.length = 1 ∧ ρ.Nodup ∧ l = V.rens ρ (arg_cursors_Cursor_At a) ∧ ∀ b blk, Abs.look (H0_cursors_Cursor_At a) b = some blk → Abs.look H (getN ρ b) = some (blk.ren ρ) := by
  intro l H a ρ h
  unfold una_cursors_Cursor_At at h
  split at h
  · split at h
    · rename_i e0
      obtain ⟨hd, h⟩ := cond_some h
      simp only [Bool.and_eq_true] at hd
      obtain ⟨hd, _⟩ := hd
      cases h
      exact ⟨rfl, distinct_ok hd, rfl, eachH_look ⟨e0, trivial⟩⟩
    · cases h
  · cases h
noncomputable def out_cursors_Cursor_At (r : Int) : FOut := (⟨false, .i .i64 r, [], []⟩ : FOut)
noncomputable def outK_cursors_Cursor_At (α : Type) (r : Int) (k : FOut → Option α) : Option α := (k ⟨false, .i .i64 r, [], []⟩)
theorem outK_ok_cursors_Cursor_At : ∀ α r k, outK_cursors_Cursor_At α r k = k (out_cursors_Cursor_At r) := by
  intro α r k
  rfl
noncomputable def unr_cursors_Cursor_At (pan : Bool) (v : V) (H : List (Nat × Blk)) (nw : List Nat) : Option (Int) := match pan, v, H, nw with
  | false, .i .i64 r0, [], [] => some r0
  | _, _, _, _ => none
theorem unr_ok_cursors_Cursor_At : ∀ pan v H nw r, unr_cursors_Cursor_At pan v H nw = some r → (out_cursors_Cursor_At r).pan = pan ∧ (out_cursors_Cursor_At r).news = nw ∧ v = V.ren (upTo 0 1 ++ (out_cursors_Cursor_At r).news) (out_cursors_Cursor_At r).val ∧ H = renH (upTo 0 1 ++ (out_cursors_Cursor_At r).news) (out_cursors_Cursor_At r).H := by
  intro pan v H nw r h
  unfold unr_cursors_Cursor_At at h
  split at h
  · cases h; exact ⟨rfl, rfl, rfl, rfl⟩
  · cases h
theorem hv_cursors_Cursor_At : ∀ r, V.lt (1 + (out_cursors_Cursor_At r).news.length) (out_cursors_Cursor_At r).val = true := fun r => (by rfl)
theorem hc_cursors_Cursor_At : ∀ r, chkH (1 + (out_cursors_Cursor_At r).news.length) (out_cursors_Cursor_At r).H = true := fun r => (by rfl)
theorem hk_cursors_Cursor_At : ∀ r, hasKeys (out_cursors_Cursor_At r).H 1 (0 + (out_cursors_Cursor_At r).news.length) = true := fun r => (by rfl)
noncomputable def e_cursors_Cursor_At (n : Nat) : Ent := funE 68 1 una_cursors_Cursor_At (fun a => cursors_Cursor_At n a.1 a.2) outK_cursors_Cursor_At
noncomputable def t_cursors_Cursor_At (l : List V) (H : List (Nat × Blk)) : Bool := isS (una_cursors_Cursor_At l H)
noncomputable def Es_cursors_Cursor_At (_n : Nat) : List Ent := []
theorem Es_ok_cursors_Cursor_At (n : Nat) : ∀ x ∈ Es_cursors_Cursor_At n, EntOK Tryz.prog x := by
  intro x hx
  simp [Es_cursors_Cursor_At] at hx
noncomputable def Ls_cursors_Cursor_At (_n : Nat) : List Sub := []
theorem subs_cursors_Cursor_At (n : Nat) : SubOK Tryz.prog 9 (Ls_cursors_Cursor_At n) (acOf Tryz.f68) := SubOK_of _ (by
  have e : subs (acOf Tryz.f68) = [] := by kernel_rfl
  rw [e]; intro p hp; cases hp)
theorem cert_cursors_Cursor_At (n : Nat) (a0 : List UInt8) (a1 : Int) : run Tryz.prog (Es_cursors_Cursor_At n) (Ls_cursors_Cursor_At n) Tryz.f68.ntmps (acOf Tryz.f68) ⟨argsT [.p 0 0] 0, [(0, .cells [.s a0, .i .i64 a1])], 1, 1, 1, 1⟩ (finK Tryz.prog Tryz.f68.results.toList (funX [] 1 1 1 unr_cursors_Cursor_At)) = cursors_Cursor_At n a0 a1 := by kernel_rfl
theorem fun_cursors_Cursor_At (n : Nat) : ∀ a r, cursors_Cursor_At n a.1 a.2 = some r → FunOK Tryz.prog 68 (arg_cursors_Cursor_At a) (H0_cursors_Cursor_At a) 1 1 1 (out_cursors_Cursor_At r) := fun a r h => funX_ok (ws := []) unr_ok_cursors_Cursor_At hv_cursors_Cursor_At (fun r b blk hl => (chkH_look (hc_cursors_Cursor_At r) b blk hl).2) (fun r => chkH_keys (hc_cursors_Cursor_At r)) (by decide) (Es_ok_cursors_Cursor_At n) Tryz.func68 rfl (acOf_code _) (subs_cursors_Cursor_At n) rfl rfl ((cert_cursors_Cursor_At n a.1 a.2).trans h)
theorem ok_cursors_Cursor_At (n : Nat) : EntOK Tryz.prog (e_cursors_Cursor_At n) := funE_ok (m := 1) (ro := 1) (rb := 1) (out := out_cursors_Cursor_At) (arg := arg_cursors_Cursor_At) (H0 := H0_cursors_Cursor_At) Tryz.call68 (by decide) (by decide) outK_ok_cursors_Cursor_At una_ok_cursors_Cursor_At (fun _ => rfl) (fun a => chkH_look (m := 1) (H := H0_cursors_Cursor_At a) rfl) (fun _ => rfl) (fun r => chkH_keys (hc_cursors_Cursor_At r)) (fun r b blk h => (chkH_look (hc_cursors_Cursor_At r) b blk h).2) (fun r b h1 h2 => hasKeys_ok (hk_cursors_Cursor_At r) b h1 (by omega)) hv_cursors_Cursor_At (fun_cursors_Cursor_At n)

/-! (*circa/cursors.Cursor).Fail -/
noncomputable def arg_cursors_Cursor_Fail (a : Int × Int × List UInt8 × Int) : List V := [.p 0 0, .i .i64 a.1, .i .i64 a.2.1]
noncomputable def H0_cursors_Cursor_Fail (a : Int × Int × List UInt8 × Int) : List (Nat × Blk) := [(0, .cells [.s a.2.2.1, .i .i64 a.2.2.2])]
noncomputable def una_cursors_Cursor_Fail (l : List V) (H : List (Nat × Blk)) : Option ((Int × Int × List UInt8 × Int) × List Nat) := match l with
  | [.p b0 0, .i .i64 a0, .i .i64 a1] => (match Abs.look H b0 with
    | some (.cells [.s a2, .i .i64 a3]) => (cond (Abs.distinct [b0] && true) (some ((a0, a1, a2, a3), [b0])) none)
    | _ => none)
  | _ => none
theorem una_ok_cursors_Cursor_Fail : ∀ l H a ρ, una_cursors_Cursor_Fail l H = some (a, ρ) → ρ.length = 1 ∧ ρ.Nodup ∧ l = V.rens ρ (arg_cursors_Cursor_Fail a) ∧ ∀ b blk, Abs.look (H0_cursors_Cursor_Fail a) b = some blk → Abs.look H (getN ρ b) = some (blk.ren ρ) := by
  intro l H a ρ h
  unfold una_cursors_Cursor_Fail at h
  split at h
  · split at h
    · rename_i e0
      obtain ⟨hd, h⟩ := cond_some h
      simp only [Bool.and_eq_true] at hd
      obtain ⟨hd, _⟩ := hd
      cases h
      exact ⟨rfl, distinct_ok hd, rfl, eachH_look ⟨e0, trivial⟩⟩
    · cases h
  · cases h
noncomputable def out_cursors_Cursor_Fail (r : (Int × Int)) : FOut := (⟨true, .it 125 (.ag [.i .i64 r.1, .i .i64 r.2]), [], []⟩ : FOut)
noncomputable def outK_cursors_Cursor_Fail (α : Type) (r : (Int × Int)) (k : FOut → Option α) : Option α := (k ⟨true, .it 125 (.ag [.i .i64 r.1, .i .i64 r.2]), [], []⟩)
theorem outK_ok_cursors_Cursor_Fail : ∀ α r k, outK_cursors_Cursor_Fail α r k = k (out_cursors_Cursor_Fail r) := by
  intro α r k
  rfl
noncomputable def unr_cursors_Cursor_Fail (pan : Bool) (v : V) (H : List (Nat × Blk)) (nw : List Nat) : Option ((Int × Int)) := match pan, v, H, nw with
  | true, .it 125 (.ag [.i .i64 r0, .i .i64 r1]), [], [] => some (r0, r1)
  | _, _, _, _ => none
theorem unr_ok_cursors_Cursor_Fail : ∀ pan v H nw r, unr_cursors_Cursor_Fail pan v H nw = some r → (out_cursors_Cursor_Fail r).pan = pan ∧ (out_cursors_Cursor_Fail r).news = nw ∧ v = V.ren (upTo 0 1 ++ (out_cursors_Cursor_Fail r).news) (out_cursors_Cursor_Fail r).val ∧ H = renH (upTo 0 1 ++ (out_cursors_Cursor_Fail r).news) (out_cursors_Cursor_Fail r).H := by
  intro pan v H nw r h
  unfold unr_cursors_Cursor_Fail at h
  split at h
  · cases h; exact ⟨rfl, rfl, rfl, rfl⟩
  · cases h
theorem hv_cursors_Cursor_Fail : ∀ r, V.lt (1 + (out_cursors_Cursor_Fail r).news.length) (out_cursors_Cursor_Fail r).val = true := fun r => (by rfl)
theorem hc_cursors_Cursor_Fail : ∀ r, chkH (1 + (out_cursors_Cursor_Fail r).news.length) (out_cursors_Cursor_Fail r).H = true := fun r => (by rfl)
theorem hk_cursors_Cursor_Fail : ∀ r, hasKeys (out_cursors_Cursor_Fail r).H 1 (0 + (out_cursors_Cursor_Fail r).news.length) = true := fun r => (by rfl)
noncomputable def e_cursors_Cursor_Fail (n : Nat) : Ent := funE 162 1 una_cursors_Cursor_Fail (fun a => cursors_Cursor_Fail n a.1 a.2.1 a.2.2.1 a.2.2.2) outK_cursors_Cursor_Fail
noncomputable def t_cursors_Cursor_Fail (l : List V) (H : List (Nat × Blk)) : Bool := isS (una_cursors_Cursor_Fail l H)
noncomputable def Es_cursors_Cursor_Fail (_n : Nat) : List Ent := []
theorem Es_ok_cursors_Cursor_Fail (n : Nat) : ∀ x ∈ Es_cursors_Cursor_Fail n, EntOK Tryz.prog x := by
  intro x hx
  simp [Es_cursors_Cursor_Fail] at hx
noncomputable def Ls_cursors_Cursor_Fail (_n : Nat) : List Sub := []
theorem subs_cursors_Cursor_Fail (n : Nat) : SubOK Tryz.prog 14 (Ls_cursors_Cursor_Fail n) (acOf Tryz.f162) := SubOK_of _ (by
  have e : subs (acOf Tryz.f162) = [] := by kernel_rfl
  rw [e]; intro p hp; cases hp)
theorem cert_cursors_Cursor_Fail (n : Nat) (a0 : Int) (a1 : Int) (a2 : List UInt8) (a3 : Int) : run Tryz.prog (Es_cursors_Cursor_Fail n) (Ls_cursors_Cursor_Fail n) Tryz.f162.ntmps (acOf Tryz.f162) ⟨argsT [.p 0 0, .i .i64 a0, .i .i64 a1] 0, [(0, .cells [.s a2, .i .i64 a3])], 1, 1, 1, 1⟩ (finK Tryz.prog Tryz.f162.results.toList (funX [] 1 1 1 unr_cursors_Cursor_Fail)) = cursors_Cursor_Fail n a0 a1 a2 a3 := by kernel_rfl
theorem fun_cursors_Cursor_Fail (n : Nat) : ∀ a r, cursors_Cursor_Fail n a.1 a.2.1 a.2.2.1 a.2.2.2 = some r → FunOK Tryz.prog 162 (arg_cursors_Cursor_Fail a) (H0_cursors_Cursor_Fail a) 1 1 1 (out_cursors_Cursor_Fail r) := fun a r h => funX_ok (ws := []) unr_ok_cursors_Cursor_Fail hv_cursors_Cursor_Fail (fun r b blk hl => (chkH_look (hc_cursors_Cursor_Fail r) b blk hl).2) (fun r => chkH_keys (hc_cursors_Cursor_Fail r)) (by decide) (Es_ok_cursors_Cursor_Fail n) Tryz.func162 rfl (acOf_code _) (subs_cursors_Cursor_Fail n) rfl rfl ((cert_cursors_Cursor_Fail n a.1 a.2.1 a.2.2.1 a.2.2.2).trans h)
theorem ok_cursors_Cursor_Fail (n : Nat) : EntOK Tryz.prog (e_cursors_Cursor_Fail n) := funE_ok (m := 1) (ro := 1) (rb := 1) (out := out_cursors_Cursor_Fail) (arg := arg_cursors_Cursor_Fail) (H0 := H0_cursors_Cursor_Fail) Tryz.call162 (by decide) (by decide) outK_ok_cursors_Cursor_Fail una_ok_cursors_Cursor_Fail (fun _ => rfl) (fun a => chkH_look (m := 1) (H := H0_cursors_Cursor_Fail a) rfl) (fun _ => rfl) (fun r => chkH_keys (hc_cursors_Cursor_Fail r)) (fun r b blk h => (chkH_look (hc_cursors_Cursor_Fail r) b blk h).2) (fun r b h1 h2 => hasKeys_ok (hk_cursors_Cursor_Fail r) b h1 (by omega)) hv_cursors_Cursor_Fail (fun_cursors_Cursor_Fail n)

noncomputable def e_ext_239 (_n : Nat) : Ent := indexE 239
theorem ok_ext_239 (n : Nat) : EntOK Tryz.prog (e_ext_239 n) := indexE_ok Tryz.func239 (by kernel_rfl) (by kernel_rfl) (by kernel_rfl) (by kernel_rfl)

/-! internal/stringslite.IndexByte -/
noncomputable def arg_int_stringslite_IndexByte (a : List UInt8 × Int) : List V := [.s a.1, .i .u8 a.2]
noncomputable def una_int_stringslite_IndexByte (l : List V) : Option (List UInt8 × Int) := match l with
  | [.s a0, .i .u8 a1] => some (a0, a1)
  | _ => none
theorem una_ok_int_stringslite_IndexByte : ∀ l a, una_int_stringslite_IndexByte l = some a → l = arg_int_stringslite_IndexByte a := by
  intro l a h
  unfold una_int_stringslite_IndexByte at h
  split at h
  · cases h; rfl
  · cases h
noncomputable def enc_int_stringslite_IndexByte (r : Int) : V := .i .i64 r
noncomputable def unr_int_stringslite_IndexByte (v : V) : Option (Int) := match v with
  | .i .i64 r0 => some r0
  | _ => none
theorem unr_ok_int_stringslite_IndexByte : ∀ v r, unr_int_stringslite_IndexByte v = some r → v = enc_int_stringslite_IndexByte r := by
  intro v r h
  unfold unr_int_stringslite_IndexByte at h
  split at h
  · cases h; rfl
  · cases h
noncomputable def e_int_stringslite_IndexByte (n : Nat) : Ent := pureE 196 una_int_stringslite_IndexByte (fun a => int_stringslite_IndexByte n a.1 a.2) enc_int_stringslite_IndexByte
noncomputable def t_int_stringslite_IndexByte (l : List V) (_ : List (Nat × Blk)) : Bool := isS (una_int_stringslite_IndexByte l)
noncomputable def Es_int_stringslite_IndexByte (n : Nat) : List Ent := [e_ext_239 n]
theorem Es_ok_int_stringslite_IndexByte (n : Nat) : ∀ x ∈ Es_int_stringslite_IndexByte n, EntOK Tryz.prog x := by
  intro x hx
  simp only [Es_int_stringslite_IndexByte, List.mem_cons, List.not_mem_nil, or_false] at hx
  · rw [hx]; exact ok_ext_239 n
noncomputable def Ls_int_stringslite_IndexByte (_n : Nat) : List Sub := []
theorem subs_int_stringslite_IndexByte (n : Nat) : SubOK Tryz.prog 8 (Ls_int_stringslite_IndexByte n) (acOf Tryz.f196) := SubOK_of _ (by
  have e : subs (acOf Tryz.f196) = [] := by kernel_rfl
  rw [e]; intro p hp; cases hp)
theorem cert_int_stringslite_IndexByte (n : Nat) (a0 : List UInt8) (a1 : Int) : run Tryz.prog (Es_int_stringslite_IndexByte n) (Ls_int_stringslite_IndexByte n) Tryz.f196.ntmps (acOf Tryz.f196) ⟨argsT [.s a0, .i .u8 a1] 0, [], 0, 0, 0, 0⟩ (finK Tryz.prog Tryz.f196.results.toList (retX unr_int_stringslite_IndexByte)) = int_stringslite_IndexByte n a0 a1 := by kernel_rfl
theorem pure_int_stringslite_IndexByte (n : Nat) : ∀ a r, int_stringslite_IndexByte n a.1 a.2 = some r → PureOK Tryz.prog 196 (arg_int_stringslite_IndexByte a) (enc_int_stringslite_IndexByte r) := fun a r h => pureX_ok unr_ok_int_stringslite_IndexByte (Es_ok_int_stringslite_IndexByte n) Tryz.func196 rfl (acOf_code _) (subs_int_stringslite_IndexByte n) rfl ((cert_int_stringslite_IndexByte n a.1 a.2).trans h)
theorem ok_int_stringslite_IndexByte (n : Nat) : EntOK Tryz.prog (e_int_stringslite_IndexByte n) := pureE_ok Tryz.call196 una_ok_int_stringslite_IndexByte (fun _ => rfl) (pure_int_stringslite_IndexByte n)

/-! strings.IndexByte -/
noncomputable def arg_strings_IndexByte (a : List UInt8 × Int) : List V := [.s a.1, .i .u8 a.2]
noncomputable def una_strings_IndexByte (l : List V) : Option (List UInt8 × Int) := match l with
  | [.s a0, .i .u8 a1] => some (a0, a1)
  | _ => none
theorem una_ok_strings_IndexByte : ∀ l a, una_strings_IndexByte l = some a → l = arg_strings_IndexByte a := by
  intro l a h
  unfold una_strings_IndexByte at h
  split at h
  · cases h; rfl
  · cases h
noncomputable def enc_strings_IndexByte (r : Int) : V := .i .i64 r
noncomputable def unr_strings_IndexByte (v : V) : Option (Int) := match v with
  | .i .i64 r0 => some r0
  | _ => none
theorem unr_ok_strings_IndexByte : ∀ v r, unr_strings_IndexByte v = some r → v = enc_strings_IndexByte r := by
  intro v r h
  unfold unr_strings_IndexByte at h
  split at h
  · cases h; rfl
  · cases h
noncomputable def e_strings_IndexByte (n : Nat) : Ent := pureE 161 una_strings_IndexByte (fun a => strings_IndexByte n a.1 a.2) enc_strings_IndexByte
noncomputable def t_strings_IndexByte (l : List V) (_ : List (Nat × Blk)) : Bool := isS (una_strings_IndexByte l)
noncomputable def Es_strings_IndexByte (n : Nat) : List Ent := [e_int_stringslite_IndexByte n]
theorem Es_ok_strings_IndexByte (n : Nat) : ∀ x ∈ Es_strings_IndexByte n, EntOK Tryz.prog x := by
  intro x hx
  simp only [Es_strings_IndexByte, List.mem_cons, List.not_mem_nil, or_false] at hx
  · rw [hx]; exact ok_int_stringslite_IndexByte n
noncomputable def Ls_strings_IndexByte (_n : Nat) : List Sub := []
theorem subs_strings_IndexByte (n : Nat) : SubOK Tryz.prog 8 (Ls_strings_IndexByte n) (acOf Tryz.f161) := SubOK_of _ (by
  have e : subs (acOf Tryz.f161) = [] := by kernel_rfl
  rw [e]; intro p hp; cases hp)
theorem cert_strings_IndexByte (n : Nat) (a0 : List UInt8) (a1 : Int) : run Tryz.prog (Es_strings_IndexByte n) (Ls_strings_IndexByte n) Tryz.f161.ntmps (acOf Tryz.f161) ⟨argsT [.s a0, .i .u8 a1] 0, [], 0, 0, 0, 0⟩ (finK Tryz.prog Tryz.f161.results.toList (retX unr_strings_IndexByte)) = strings_IndexByte n a0 a1 := by kernel_rfl
theorem pure_strings_IndexByte (n : Nat) : ∀ a r, strings_IndexByte n a.1 a.2 = some r → PureOK Tryz.prog 161 (arg_strings_IndexByte a) (enc_strings_IndexByte r) := fun a r h => pureX_ok unr_ok_strings_IndexByte (Es_ok_strings_IndexByte n) Tryz.func161 rfl (acOf_code _) (subs_strings_IndexByte n) rfl ((cert_strings_IndexByte n a.1 a.2).trans h)
theorem ok_strings_IndexByte (n : Nat) : EntOK Tryz.prog (e_strings_IndexByte n) := pureE_ok Tryz.call161 una_ok_strings_IndexByte (fun _ => rfl) (pure_strings_IndexByte n)

/-! (*circa/cursors.Cursor).One -/
noncomputable def arg_cursors_Cursor_One (a : List UInt8 × List UInt8 × Int) : List V := [.p 0 0, .s a.1]
noncomputable def H0_cursors_Cursor_One (a : List UInt8 × List UInt8 × Int) : List (Nat × Blk) := [(0, .cells [.s a.2.1, .i .i64 a.2.2])]
noncomputable def una_cursors_Cursor_One (l : List V) (H : List (Nat × Blk)) : Option ((List UInt8 × List UInt8 × Int) × List Nat) := match l with
  | [.p b0 0, .s a0] => (match Abs.look H b0 with
    | some (.cells [.s a1, .i .i64 a2]) => (cond (Abs.distinct [b0] && true) (some ((a0, a1, a2), [b0])) none)
    | _ => none)
  | _ => none
theorem una_ok_cursors_Cursor_One : ∀ l H a ρ, una_cursors_Cursor_One l H = some (a, ρ) → ρ.length = 1 ∧ ρ.Nodup ∧ l = V.rens ρ (arg_cursors_Cursor_One a) ∧ ∀ b blk, Abs.look (H0_cursors_Cursor_One a) b = some blk → Abs.look H (getN ρ b) = some (blk.ren ρ) := by
  intro l H a ρ h
  unfold una_cursors_Cursor_One at h
  split at h
  · split at h
    · rename_i e0
      obtain ⟨hd, h⟩ := cond_some h
      simp only [Bool.and_eq_true] at hd
      obtain ⟨hd, _⟩ := hd
      cases h
      exact ⟨rfl, distinct_ok hd, rfl, eachH_look ⟨e0, trivial⟩⟩
    · cases h
  · cases h
noncomputable def out_cursors_Cursor_One (r : (Int × Int × List UInt8 × Int) ⊕ (Int × List UInt8 × Int)) : FOut := (Sum.casesOn (motive := fun _ => FOut) r (fun a0 => (⟨true, .it 125 (.ag [.i .i64 a0.1, .i .i64 a0.2.1]), [(0, .cells [.s a0.2.2.1, .i .i64 a0.2.2.2])], []⟩ : FOut)) (fun b0 => (⟨false, .i .u8 b0.1, [(0, .cells [.s b0.2.1, .i .i64 b0.2.2])], []⟩ : FOut)))
noncomputable def outK_cursors_Cursor_One (α : Type) (r : (Int × Int × List UInt8 × Int) ⊕ (Int × List UInt8 × Int)) (k : FOut → Option α) : Option α := (Sum.casesOn (motive := fun _ => Option α) r (fun a0 => (k ⟨true, .it 125 (.ag [.i .i64 a0.1, .i .i64 a0.2.1]), [(0, .cells [.s a0.2.2.1, .i .i64 a0.2.2.2])], []⟩)) (fun b0 => (k ⟨false, .i .u8 b0.1, [(0, .cells [.s b0.2.1, .i .i64 b0.2.2])], []⟩)))
theorem outK_ok_cursors_Cursor_One : ∀ α r k, outK_cursors_Cursor_One α r k = k (out_cursors_Cursor_One r) := by
  intro α r k
  rcases r with r | r <;> rfl
noncomputable def unr_cursors_Cursor_One (pan : Bool) (v : V) (H : List (Nat × Blk)) (nw : List Nat) : Option ((Int × Int × List UInt8 × Int) ⊕ (Int × List UInt8 × Int)) := match pan, v, H, nw with
  | true, .it 125 (.ag [.i .i64 r0, .i .i64 r1]), [(0, .cells [.s r2, .i .i64 r3])], [] => some (.inl (r0, r1, r2, r3))
  | false, .i .u8 r0, [(0, .cells [.s r1, .i .i64 r2])], [] => some (.inr (r0, r1, r2))
  | _, _, _, _ => none
theorem unr_ok_cursors_Cursor_One : ∀ pan v H nw r, unr_cursors_Cursor_One pan v H nw = some r → (out_cursors_Cursor_One r).pan = pan ∧ (out_cursors_Cursor_One r).news = nw ∧ v = V.ren (upTo 0 1 ++ (out_cursors_Cursor_One r).news) (out_cursors_Cursor_One r).val ∧ H = renH (upTo 0 1 ++ (out_cursors_Cursor_One r).news) (out_cursors_Cursor_One r).H := by
  intro pan v H nw r h
  unfold unr_cursors_Cursor_One at h
  split at h
  · cases h; exact ⟨rfl, rfl, rfl, rfl⟩
  · cases h; exact ⟨rfl, rfl, rfl, rfl⟩
  · cases h
theorem hv_cursors_Cursor_One : ∀ r, V.lt (1 + (out_cursors_Cursor_One r).news.length) (out_cursors_Cursor_One r).val = true := fun r => (by rcases r with r | r <;> rfl)
theorem hc_cursors_Cursor_One : ∀ r, chkH (1 + (out_cursors_Cursor_One r).news.length) (out_cursors_Cursor_One r).H = true := fun r => (by rcases r with r | r <;> rfl)
theorem hk_cursors_Cursor_One : ∀ r, hasKeys (out_cursors_Cursor_One r).H 0 (1 + (out_cursors_Cursor_One r).news.length) = true := fun r => (by rcases r with r | r <;> rfl)
noncomputable def e_cursors_Cursor_One (n : Nat) : Ent := funE 104 1 una_cursors_Cursor_One (fun a => cursors_Cursor_One n a.1 a.2.1 a.2.2) outK_cursors_Cursor_One
noncomputable def t_cursors_Cursor_One (l : List V) (H : List (Nat × Blk)) : Bool := isS (una_cursors_Cursor_One l H)
noncomputable def Es_cursors_Cursor_One (n : Nat) : List Ent := [e_cursors_Cursor_Peek n, e_cursors_Cursor_At n, e_cursors_Cursor_Fail n, e_strings_IndexByte n]
theorem Es_ok_cursors_Cursor_One (n : Nat) : ∀ x ∈ Es_cursors_Cursor_One n, EntOK Tryz.prog x := by
  intro x hx
  simp only [Es_cursors_Cursor_One, List.mem_cons, List.not_mem_nil, or_false] at hx
  rcases hx with hx | hx | hx | hx
  · rw [hx]; exact ok_cursors_Cursor_Peek n
  · rw [hx]; exact ok_cursors_Cursor_At n
  · rw [hx]; exact ok_cursors_Cursor_Fail n
  · rw [hx]; exact ok_strings_IndexByte n
noncomputable def Ls_cursors_Cursor_One (_n : Nat) : List Sub := []
theorem subs_cursors_Cursor_One (n : Nat) : SubOK Tryz.prog 32 (Ls_cursors_Cursor_One n) (acOf Tryz.f104) := SubOK_of _ (by
  have e : subs (acOf Tryz.f104) = [] := by kernel_rfl
  rw [e]; intro p hp; cases hp)
theorem cert_cursors_Cursor_One (n : Nat) (a0 : List UInt8) (a1 : List UInt8) (a2 : Int) : run Tryz.prog (Es_cursors_Cursor_One n) (Ls_cursors_Cursor_One n) Tryz.f104.ntmps (acOf Tryz.f104) ⟨argsT [.p 0 0, .s a0] 0, [(0, .cells [.s a1, .i .i64 a2])], 1, 1, 0, 1⟩ (finK Tryz.prog Tryz.f104.results.toList (funX [0] 1 0 1 unr_cursors_Cursor_One)) = cursors_Cursor_One n a0 a1 a2 := by kernel_rfl
theorem fun_cursors_Cursor_One (n : Nat) : ∀ a r, cursors_Cursor_One n a.1 a.2.1 a.2.2 = some r → FunOK Tryz.prog 104 (arg_cursors_Cursor_One a) (H0_cursors_Cursor_One a) 1 0 1 (out_cursors_Cursor_One r) := fun a r h => funX_ok (ws := [0]) unr_ok_cursors_Cursor_One hv_cursors_Cursor_One (fun r b blk hl => (chkH_look (hc_cursors_Cursor_One r) b blk hl).2) (fun r => chkH_keys (hc_cursors_Cursor_One r)) (by decide) (Es_ok_cursors_Cursor_One n) Tryz.func104 rfl (acOf_code _) (subs_cursors_Cursor_One n) rfl rfl ((cert_cursors_Cursor_One n a.1 a.2.1 a.2.2).trans h)
theorem ok_cursors_Cursor_One (n : Nat) : EntOK Tryz.prog (e_cursors_Cursor_One n) := funE_ok (m := 1) (ro := 0) (rb := 1) (out := out_cursors_Cursor_One) (arg := arg_cursors_Cursor_One) (H0 := H0_cursors_Cursor_One) Tryz.call104 (by decide) (by decide) outK_ok_cursors_Cursor_One una_ok_cursors_Cursor_One (fun _ => rfl) (fun a => chkH_look (m := 1) (H := H0_cursors_Cursor_One a) rfl) (fun _ => rfl) (fun r => chkH_keys (hc_cursors_Cursor_One r)) (fun r b blk h => (chkH_look (hc_cursors_Cursor_One r) b blk h).2) (fun r b h1 h2 => hasKeys_ok (hk_cursors_Cursor_One r) b h1 (by omega)) hv_cursors_Cursor_One (fun_cursors_Cursor_One n)

/-! circa/dateforms.Read$1 -/
noncomputable def arg_dateforms_Read_1 (a : List UInt8 × Int) : List V := [.p 0 0]
noncomputable def H0_dateforms_Read_1 (a : List UInt8 × Int) : List (Nat × Blk) := [(0, .cells [.p 1 0]), (1, .cells [.s a.1, .i .i64 a.2])]
noncomputable def una_dateforms_Read_1 (l : List V) (H : List (Nat × Blk)) : Option ((List UInt8 × Int) × List Nat) := match l with
  | [.p b0 0] => (match Abs.look H b0 with
    | some (.cells [.p b1 0]) => (match Abs.look H b1 with
    | some (.cells [.s a0, .i .i64 a1]) => (cond (Abs.distinct [b0, b1] && true) (some ((a0, a1), [b0, b1])) none)
    | _ => none)
    | _ => none)
  | _ => none
theorem una_ok_dateforms_Read_1 : ∀ l H a ρ, una_dateforms_Read_1 l H = some (a, ρ) → ρ.length = 2 ∧ ρ.Nodup ∧ l = V.rens ρ (arg_dateforms_Read_1 a) ∧ ∀ b blk, Abs.look (H0_dateforms_Read_1 a) b = some blk → Abs.look H (getN ρ b) = some (blk.ren ρ) := by
  intro l H a ρ h
  unfold una_dateforms_Read_1 at h
  split at h
  · split at h
    · rename_i e0
      split at h
      · rename_i e1
        obtain ⟨hd, h⟩ := cond_some h
        simp only [Bool.and_eq_true] at hd
        obtain ⟨hd, _⟩ := hd
        cases h
        exact ⟨rfl, distinct_ok hd, rfl, eachH_look ⟨e0, e1, trivial⟩⟩
      · cases h
    · cases h
  · cases h
noncomputable def out_dateforms_Read_1 (r : (Int × Int × List UInt8 × Int) ⊕ (Int × List UInt8 × Int)) : FOut := (Sum.casesOn (motive := fun _ => FOut) r (fun a0 => (⟨true, .it 125 (.ag [.i .i64 a0.1, .i .i64 a0.2.1]), [(1, .cells [.s a0.2.2.1, .i .i64 a0.2.2.2])], []⟩ : FOut)) (fun b0 => (⟨false, .i .u8 b0.1, [(1, .cells [.s b0.2.1, .i .i64 b0.2.2])], []⟩ : FOut)))
noncomputable def outK_dateforms_Read_1 (α : Type) (r : (Int × Int × List UInt8 × Int) ⊕ (Int × List UInt8 × Int)) (k : FOut → Option α) : Option α := (Sum.casesOn (motive := fun _ => Option α) r (fun a0 => (k ⟨true, .it 125 (.ag [.i .i64 a0.1, .i .i64 a0.2.1]), [(1, .cells [.s a0.2.2.1, .i .i64 a0.2.2.2])], []⟩)) (fun b0 => (k ⟨false, .i .u8 b0.1, [(1, .cells [.s b0.2.1, .i .i64 b0.2.2])], []⟩)))
theorem outK_ok_dateforms_Read_1 : ∀ α r k, outK_dateforms_Read_1 α r k = k (out_dateforms_Read_1 r) := by
  intro α r k
  rcases r with r | r <;> rfl
noncomputable def unr_dateforms_Read_1 (pan : Bool) (v : V) (H : List (Nat × Blk)) (nw : List Nat) : Option ((Int × Int × List UInt8 × Int) ⊕ (Int × List UInt8 × Int)) := match pan, v, H, nw with
  | true, .it 125 (.ag [.i .i64 r0, .i .i64 r1]), [(1, .cells [.s r2, .i .i64 r3])], [] => some (.inl (r0, r1, r2, r3))
  | false, .i .u8 r0, [(1, .cells [.s r1, .i .i64 r2])], [] => some (.inr (r0, r1, r2))
  | _, _, _, _ => none
theorem unr_ok_dateforms_Read_1 : ∀ pan v H nw r, unr_dateforms_Read_1 pan v H nw = some r → (out_dateforms_Read_1 r).pan = pan ∧ (out_dateforms_Read_1 r).news = nw ∧ v = V.ren (upTo 0 2 ++ (out_dateforms_Read_1 r).news) (out_dateforms_Read_1 r).val ∧ H = renH (upTo 0 2 ++ (out_dateforms_Read_1 r).news) (out_dateforms_Read_1 r).H := by
  intro pan v H nw r h
  unfold unr_dateforms_Read_1 at h
  split at h
  · cases h; exact ⟨rfl, rfl, rfl, rfl⟩
  · cases h; exact ⟨rfl, rfl, rfl, rfl⟩
  · cases h
theorem hv_dateforms_Read_1 : ∀ r, V.lt (2 + (out_dateforms_Read_1 r).news.length) (out_dateforms_Read_1 r).val = true := fun r => (by rcases r with r | r <;> rfl)
theorem hc_dateforms_Read_1 : ∀ r, chkH (2 + (out_dateforms_Read_1 r).news.length) (out_dateforms_Read_1 r).H = true := fun r => (by rcases r with r | r <;> rfl)
theorem hk_dateforms_Read_1 : ∀ r, hasKeys (out_dateforms_Read_1 r).H 1 (1 + (out_dateforms_Read_1 r).news.length) = true := fun r => (by rcases r with r | r <;> rfl)
noncomputable def e_dateforms_Read_1 (n : Nat) : Ent := funE 101 2 una_dateforms_Read_1 (fun a => dateforms_Read_1 n a.1 a.2) outK_dateforms_Read_1
noncomputable def t_dateforms_Read_1 (l : List V) (H : List (Nat × Blk)) : Bool := isS (una_dateforms_Read_1 l H)
noncomputable def Es_dateforms_Read_1 (n : Nat) : List Ent := [e_cursors_Cursor_Peek n, e_marks_Of n, e_cursors_Cursor_One n]
theorem Es_ok_dateforms_Read_1 (n : Nat) : ∀ x ∈ Es_dateforms_Read_1 n, EntOK Tryz.prog x := by
  intro x hx
  simp only [Es_dateforms_Read_1, List.mem_cons, List.not_mem_nil, or_false] at hx
  rcases hx with hx | hx | hx
  · rw [hx]; exact ok_cursors_Cursor_Peek n
  · rw [hx]; exact ok_marks_Of n
  · rw [hx]; exact ok_cursors_Cursor_One n
noncomputable def Ls_dateforms_Read_1 (_n : Nat) : List Sub := []
theorem subs_dateforms_Read_1 (n : Nat) : SubOK Tryz.prog 20 (Ls_dateforms_Read_1 n) (acOf Tryz.f101) := SubOK_of _ (by
  have e : subs (acOf Tryz.f101) = [] := by kernel_rfl
  rw [e]; intro p hp; cases hp)
theorem cert_dateforms_Read_1 (n : Nat) (a0 : List UInt8) (a1 : Int) : run Tryz.prog (Es_dateforms_Read_1 n) (Ls_dateforms_Read_1 n) Tryz.f101.ntmps (acOf Tryz.f101) ⟨argsT [.p 0 0] 0, [(0, .cells [.p 1 0]), (1, .cells [.s a0, .i .i64 a1])], 2, 2, 1, 2⟩ (finK Tryz.prog Tryz.f101.results.toList (funX [1] 2 1 2 unr_dateforms_Read_1)) = dateforms_Read_1 n a0 a1 := by kernel_rfl
theorem fun_dateforms_Read_1 (n : Nat) : ∀ a r, dateforms_Read_1 n a.1 a.2 = some r → FunOK Tryz.prog 101 (arg_dateforms_Read_1 a) (H0_dateforms_Read_1 a) 2 1 2 (out_dateforms_Read_1 r) := fun a r h => funX_ok (ws := [1]) unr_ok_dateforms_Read_1 hv_dateforms_Read_1 (fun r b blk hl => (chkH_look (hc_dateforms_Read_1 r) b blk hl).2) (fun r => chkH_keys (hc_dateforms_Read_1 r)) (by decide) (Es_ok_dateforms_Read_1 n) Tryz.func101 rfl (acOf_code _) (subs_dateforms_Read_1 n) rfl rfl ((cert_dateforms_Read_1 n a.1 a.2).trans h)
theorem ok_dateforms_Read_1 (n : Nat) : EntOK Tryz.prog (e_dateforms_Read_1 n) := funE_ok (m := 2) (ro := 1) (rb := 2) (out := out_dateforms_Read_1) (arg := arg_dateforms_Read_1) (H0 := H0_dateforms_Read_1) Tryz.call101 (by decide) (by decide) outK_ok_dateforms_Read_1 una_ok_dateforms_Read_1 (fun _ => rfl) (fun a => chkH_look (m := 2) (H := H0_dateforms_Read_1 a) rfl) (fun _ => rfl) (fun r => chkH_keys (hc_dateforms_Read_1 r)) (fun r b blk h => (chkH_look (hc_dateforms_Read_1 r) b blk h).2) (fun r b h1 h2 => hasKeys_ok (hk_dateforms_Read_1 r) b h1 (by omega)) hv_dateforms_Read_1 (fun_dateforms_Read_1 n)

/-! internal/stringslite.HasPrefix -/
noncomputable def arg_int_stringslite_HasPrefix (a : List UInt8 × List UInt8) : List V := [.s a.1, .s a.2]
noncomputable def una_int_stringslite_HasPrefix (l : List V) : Option (List UInt8 × List UInt8) := match l with
  | [.s a0, .s a1] => some (a0, a1)
  | _ => none
theorem una_ok_int_stringslite_HasPrefix : ∀ l a, una_int_stringslite_HasPrefix l = some a → l = arg_int_stringslite_HasPrefix a := by
  intro l a h
  unfold una_int_stringslite_HasPrefix at h
  split at h
  · cases h; rfl
  · cases h
noncomputable def enc_int_stringslite_HasPrefix (r : Bool) : V := .b r
noncomputable def unr_int_stringslite_HasPrefix (v : V) : Option (Bool) := match v with
  | .b r0 => some r0
  | _ => none
theorem unr_ok_int_stringslite_HasPrefix : ∀ v r, unr_int_stringslite_HasPrefix v = some r → v = enc_int_stringslite_HasPrefix r := by
  intro v r h
  unfold unr_int_stringslite_HasPrefix at h
  split at h
  · cases h; rfl
  · cases h
noncomputable def e_int_stringslite_HasPrefix (n : Nat) : Ent := pureE 223 una_int_stringslite_HasPrefix (fun a => int_stringslite_HasPrefix n a.1 a.2) enc_int_stringslite_HasPrefix
noncomputable def t_int_stringslite_HasPrefix (l : List V) (_ : List (Nat × Blk)) : Bool := isS (una_int_stringslite_HasPrefix l)
noncomputable def Es_int_stringslite_HasPrefix (_n : Nat) : List Ent := []
theorem Es_ok_int_stringslite_HasPrefix (n : Nat) : ∀ x ∈ Es_int_stringslite_HasPrefix n, EntOK Tryz.prog x := by
  intro x hx
  simp [Es_int_stringslite_HasPrefix] at hx
noncomputable def Ls_int_stringslite_HasPrefix (_n : Nat) : List Sub := []
theorem subs_int_stringslite_HasPrefix (n : Nat) : SubOK Tryz.prog 18 (Ls_int_stringslite_HasPrefix n) (acOf Tryz.f223) := SubOK_of _ (by
  have e : subs (acOf Tryz.f223) = [] := by kernel_rfl
  rw [e]; intro p hp; cases hp)
theorem cert_int_stringslite_HasPrefix (n : Nat) (a0 : List UInt8) (a1 : List UInt8) : run Tryz.prog (Es_int_stringslite_HasPrefix n) (Ls_int_stringslite_HasPrefix n) Tryz.f223.ntmps (acOf Tryz.f223) ⟨argsT [.s a0, .s a1] 0, [], 0, 0, 0, 0⟩ (finK Tryz.prog Tryz.f223.results.toList (retX unr_int_stringslite_HasPrefix)) = int_stringslite_HasPrefix n a0 a1 := by kernel_rfl
theorem pure_int_stringslite_HasPrefix (n : Nat) : ∀ a r, int_stringslite_HasPrefix n a.1 a.2 = some r → PureOK Tryz.prog 223 (arg_int_stringslite_HasPrefix a) (enc_int_stringslite_HasPrefix r) := fun a r h => pureX_ok unr_ok_int_stringslite_HasPrefix (Es_ok_int_stringslite_HasPrefix n) Tryz.func223 rfl (acOf_code _) (subs_int_stringslite_HasPrefix n) rfl ((cert_int_stringslite_HasPrefix n a.1 a.2).trans h)
theorem ok_int_stringslite_HasPrefix (n : Nat) : EntOK Tryz.prog (e_int_stringslite_HasPrefix n) := pureE_ok Tryz.call223 una_ok_int_stringslite_HasPrefix (fun _ => rfl) (pure_int_stringslite_HasPrefix n)

/-! strings.HasPrefix -/
noncomputable def arg_strings_HasPrefix (a : List UInt8 × List UInt8) : List V := [.s a.1, .s a.2]
noncomputable def una_strings_HasPrefix (l : List V) : Option (List UInt8 × List UInt8) := match l with
  | [.s a0, .s a1] => some (a0, a1)
  | _ => none
theorem una_ok_strings_HasPrefix : ∀ l a, una_strings_HasPrefix l = some a → l = arg_strings_HasPrefix a := by
  intro l a h
  unfold una_strings_HasPrefix at h
  split at h
  · cases h; rfl
  · cases h
noncomputable def enc_strings_HasPrefix (r : Bool) : V := .b r
noncomputable def unr_strings_HasPrefix (v : V) : Option (Bool) := match v with
  | .b r0 => some r0
  | _ => none
theorem unr_ok_strings_HasPrefix : ∀ v r, unr_strings_HasPrefix v = some r → v = enc_strings_HasPrefix r := by
  intro v r h
  unfold unr_strings_HasPrefix at h
  split at h
  · cases h; rfl
  · cases h
noncomputable def e_strings_HasPrefix (n : Nat) : Ent := pureE 182 una_strings_HasPrefix (fun a => strings_HasPrefix n a.1 a.2) enc_strings_HasPrefix
noncomputable def t_strings_HasPrefix (l : List V) (_ : List (Nat × Blk)) : Bool := isS (una_strings_HasPrefix l)
noncomputable def Es_strings_HasPrefix (n : Nat) : List Ent := [e_int_stringslite_HasPrefix n]
theorem Es_ok_strings_HasPrefix (n : Nat) : ∀ x ∈ Es_strings_HasPrefix n, EntOK Tryz.prog x := by
  intro x hx
  simp only [Es_strings_HasPrefix, List.mem_cons, List.not_mem_nil, or_false] at hx
  · rw [hx]; exact ok_int_stringslite_HasPrefix n
noncomputable def Ls_strings_HasPrefix (_n : Nat) : List Sub := []
theorem subs_strings_HasPrefix (n : Nat) : SubOK Tryz.prog 8 (Ls_strings_HasPrefix n) (acOf Tryz.f182) := SubOK_of _ (by
  have e : subs (acOf Tryz.f182) = [] := by kernel_rfl
  rw [e]; intro p hp; cases hp)
theorem cert_strings_HasPrefix (n : Nat) (a0 : List UInt8) (a1 : List UInt8) : run Tryz.prog (Es_strings_HasPrefix n) (Ls_strings_HasPrefix n) Tryz.f182.ntmps (acOf Tryz.f182) ⟨argsT [.s a0, .s a1] 0, [], 0, 0, 0, 0⟩ (finK Tryz.prog Tryz.f182.results.toList (retX unr_strings_HasPrefix)) = strings_HasPrefix n a0 a1 := by kernel_rfl
theorem pure_strings_HasPrefix (n : Nat) : ∀ a r, strings_HasPrefix n a.1 a.2 = some r → PureOK Tryz.prog 182 (arg_strings_HasPrefix a) (enc_strings_HasPrefix r) := fun a r h => pureX_ok unr_ok_strings_HasPrefix (Es_ok_strings_HasPrefix n) Tryz.func182 rfl (acOf_code _) (subs_strings_HasPrefix n) rfl ((cert_strings_HasPrefix n a.1 a.2).trans h)
theorem ok_strings_HasPrefix (n : Nat) : EntOK Tryz.prog (e_strings_HasPrefix n) := pureE_ok Tryz.call182 una_ok_strings_HasPrefix (fun _ => rfl) (pure_strings_HasPrefix n)

/-! (*circa/cursors.Cursor).Is -/
noncomputable def arg_cursors_Cursor_Is (a : List UInt8 × List UInt8 × Int) : List V := [.p 0 0, .s a.1]
noncomputable def H0_cursors_Cursor_Is (a : List UInt8 × List UInt8 × Int) : List (Nat × Blk) := [(0, .cells [.s a.2.1, .i .i64 a.2.2])]
noncomputable def una_cursors_Cursor_Is (l : List V) (H : List (Nat × Blk)) : Option ((List UInt8 × List UInt8 × Int) × List Nat) := match l with
  | [.p b0 0, .s a0] => (match Abs.look H b0 with
    | some (.cells [.s a1, .i .i64 a2]) => (cond (Abs.distinct [b0] && true) (some ((a0, a1, a2), [b0])) none)
    | _ => none)
  | _ => none
theorem una_ok_cursors_Cursor_Is : ∀ l H a ρ, una_cursors_Cursor_Is l H = some (a, ρ) → ρ.length = 1 ∧ ρ.Nodup ∧ l = V.rens ρ (arg_cursors_Cursor_Is a) ∧ ∀ b blk, Abs.look (H0_cursors_Cursor_Is a) b = some blk → Abs.look H (getN ρ b) = some (blk.ren ρ) := by
  intro l H a ρ h
  unfold una_cursors_Cursor_Is at h
  split at h
  · split at h
    · rename_i e0
      obtain ⟨hd, h⟩ := cond_some h
      simp only [Bool.and_eq_true] at hd
      obtain ⟨hd, _⟩ := hd
      cases h
      exact ⟨rfl, distinct_ok hd, rfl, eachH_look ⟨e0, trivial⟩⟩
    · cases h
  · cases h
noncomputable def out_cursors_Cursor_Is (r : Bool) : FOut := (⟨false, .b r, [], []⟩ : FOut)
noncomputable def outK_cursors_Cursor_Is (α : Type) (r : Bool) (k : FOut → Option α) : Option α := (k ⟨false, .b r, [], []⟩)
theorem outK_ok_cursors_Cursor_Is : ∀ α r k, outK_cursors_Cursor_Is α r k = k (out_cursors_Cursor_Is r) := by
  intro α r k
  rfl
noncomputable def unr_cursors_Cursor_Is (pan : Bool) (v : V) (H : List (Nat × Blk)) (nw : List Nat) : Option (Bool) := match pan, v, H, nw with
  | false, .b r0, [], [] => some r0
  | _, _, _, _ => none
theorem unr_ok_cursors_Cursor_Is : ∀ pan v H nw r, unr_cursors_Cursor_Is pan v H nw = some r → (out_cursors_Cursor_Is r).pan = pan ∧ (out_cursors_Cursor_Is r).news = nw ∧ v = V.ren (upTo 0 1 ++ (out_cursors_Cursor_Is r).news) (out_cursors_Cursor_Is r).val ∧ H = renH (upTo 0 1 ++ (out_cursors_Cursor_Is r).news) (out_cursors_Cursor_Is r).H := by
  intro pan v H nw r h
  unfold unr_cursors_Cursor_Is at h
  split at h
  · cases h; exact ⟨rfl, rfl, rfl, rfl⟩
  · cases h
theorem hv_cursors_Cursor_Is : ∀ r, V.lt (1 + (out_cursors_Cursor_Is r).news.length) (out_cursors_Cursor_Is r).val = true := fun r => (by rfl)
theorem hc_cursors_Cursor_Is : ∀ r, chkH (1 + (out_cursors_Cursor_Is r).news.length) (out_cursors_Cursor_Is r).H = true := fun r => (by rfl)
theorem hk_cursors_Cursor_Is : ∀ r, hasKeys (out_cursors_Cursor_Is r).H 1 (0 + (out_cursors_Cursor_Is r).news.length) = true := fun r => (by rfl)
noncomputable def e_cursors_Cursor_Is (n : Nat) : Ent := funE 130 1 una_cursors_Cursor_Is (fun a => cursors_Cursor_Is n a.1 a.2.1 a.2.2) outK_cursors_Cursor_Is
noncomputable def t_cursors_Cursor_Is (l : List V) (H : List (Nat × Blk)) : Bool := isS (una_cursors_Cursor_Is l H)
noncomputable def Es_cursors_Cursor_Is (n : Nat) : List Ent := [e_cursors_Cursor_Rest n, e_strings_HasPrefix n]
theorem Es_ok_cursors_Cursor_Is (n : Nat) : ∀ x ∈ Es_cursors_Cursor_Is n, EntOK Tryz.prog x := by
  intro x hx
  simp only [Es_cursors_Cursor_Is, List.mem_cons, List.not_mem_nil, or_false] at hx
  rcases hx with hx | hx
  · rw [hx]; exact ok_cursors_Cursor_Rest n
  · rw [hx]; exact ok_strings_HasPrefix n
noncomputable def Ls_cursors_Cursor_Is (_n : Nat) : List Sub := []
theorem subs_cursors_Cursor_Is (n : Nat) : SubOK Tryz.prog 13 (Ls_cursors_Cursor_Is n) (acOf Tryz.f130) := SubOK_of _ (by
  have e : subs (acOf Tryz.f130) = [] := by kernel_rfl
  rw [e]; intro p hp; cases hp)
theorem cert_cursors_Cursor_Is (n : Nat) (a0 : List UInt8) (a1 : List UInt8) (a2 : Int) : run Tryz.prog (Es_cursors_Cursor_Is n) (Ls_cursors_Cursor_Is n) Tryz.f130.ntmps (acOf Tryz.f130) ⟨argsT [.p 0 0, .s a0] 0, [(0, .cells [.s a1, .i .i64 a2])], 1, 1, 1, 1⟩ (finK Tryz.prog Tryz.f130.results.toList (funX [] 1 1 1 unr_cursors_Cursor_Is)) = cursors_Cursor_Is n a0 a1 a2 := by kernel_rfl
theorem fun_cursors_Cursor_Is (n : Nat) : ∀ a r, cursors_Cursor_Is n a.1 a.2.1 a.2.2 = some r → FunOK Tryz.prog 130 (arg_cursors_Cursor_Is a) (H0_cursors_Cursor_Is a) 1 1 1 (out_cursors_Cursor_Is r) := fun a r h => funX_ok (ws := []) unr_ok_cursors_Cursor_Is hv_cursors_Cursor_Is (fun r b blk hl => (chkH_look (hc_cursors_Cursor_Is r) b blk hl).2) (fun r => chkH_keys (hc_cursors_Cursor_Is r)) (by decide) (Es_ok_cursors_Cursor_Is n) Tryz.func130 rfl (acOf_code _) (subs_cursors_Cursor_Is n) rfl rfl ((cert_cursors_Cursor_Is n a.1 a.2.1 a.2.2).trans h)
theorem ok_cursors_Cursor_Is (n : Nat) : EntOK Tryz.prog (e_cursors_Cursor_Is n) := funE_ok (m := 1) (ro := 1) (rb := 1) (out := out_cursors_Cursor_Is) (arg := arg_cursors_Cursor_Is) (H0 := H0_cursors_Cursor_Is) Tryz.call130 (by decide) (by decide) outK_ok_cursors_Cursor_Is una_ok_cursors_Cursor_Is (fun _ => rfl) (fun a => chkH_look (m := 1) (H := H0_cursors_Cursor_Is a) rfl) (fun _ => rfl) (fun r => chkH_keys (hc_cursors_Cursor_Is r)) (fun r b blk h => (chkH_look (hc_cursors_Cursor_Is r) b blk h).2) (fun r b h1 h2 => hasKeys_ok (hk_cursors_Cursor_Is r) b h1 (by omega)) hv_cursors_Cursor_Is (fun_cursors_Cursor_Is n)

/-! (*circa/cursors.Cursor).Take -/
noncomputable def arg_cursors_Cursor_Take (a : List UInt8 × List UInt8 × Int) : List V := [.p 0 0, .s a.1]
noncomputable def H0_cursors_Cursor_Take (a : List UInt8 × List UInt8 × Int) : List (Nat × Blk) := [(0, .cells [.s a.2.1, .i .i64 a.2.2])]
noncomputable def una_cursors_Cursor_Take (l : List V) (H : List (Nat × Blk)) : Option ((List UInt8 × List UInt8 × Int) × List Nat) := match l with
  | [.p b0 0, .s a0] => (match Abs.look H b0 with
    | some (.cells [.s a1, .i .i64 a2]) => (cond (Abs.distinct [b0] && true) (some ((a0, a1, a2), [b0])) none)
    | _ => none)
  | _ => none
theorem una_ok_cursors_Cursor_Take : ∀ l H a ρ, una_cursors_Cursor_Take l H = some (a, ρ) → ρ.length = 1 ∧ ρ.Nodup ∧ l = V.rens ρ (arg_cursors_Cursor_Take a) ∧ ∀ b blk, Abs.look (H0_cursors_Cursor_Take a) b = some blk → Abs.look H (getN ρ b) = some (blk.ren ρ) := by
  intro l H a ρ h
  unfold una_cursors_Cursor_Take at h
  split at h
  · split at h
    · rename_i e0
      obtain ⟨hd, h⟩ := cond_some h
      simp only [Bool.and_eq_true] at hd
      obtain ⟨hd, _⟩ := hd
      cases h
      exact ⟨rfl, distinct_ok hd, rfl, eachH_look ⟨e0, trivial⟩⟩
    · cases h
  · cases h
noncomputable def out_cursors_Cursor_Take (r : (Bool × List UInt8 × Int)) : FOut := (⟨false, .b r.1, [(0, .cells [.s r.2.1, .i .i64 r.2.2])], []⟩ : FOut)
noncomputable def outK_cursors_Cursor_Take (α : Type) (r : (Bool × List UInt8 × Int)) (k : FOut → Option α) : Option α := (k ⟨false, .b r.1, [(0, .cells [.s r.2.1, .i .i64 r.2.2])], []⟩)
theorem outK_ok_cursors_Cursor_Take : ∀ α r k, outK_cursors_Cursor_Take α r k = k (out_cursors_Cursor_Take r) := by
  intro α r k
  rfl
noncomputable def unr_cursors_Cursor_Take (pan : Bool) (v : V) (H : List (Nat × Blk)) (nw : List Nat) : Option ((Bool × List UInt8 × Int)) := match pan, v, H, nw with
  | false, .b r0, [(0, .cells [.s r1, .i .i64 r2])], [] => some (r0, r1, r2)
  | _, _, _, _ => none
theorem unr_ok_cursors_Cursor_Take : ∀ pan v H nw r, unr_cursors_Cursor_Take pan v H nw = some r → (out_cursors_Cursor_Take r).pan = pan ∧ (out_cursors_Cursor_Take r).news = nw ∧ v = V.ren (upTo 0 1 ++ (out_cursors_Cursor_Take r).news) (out_cursors_Cursor_Take r).val ∧ H = renH (upTo 0 1 ++ (out_cursors_Cursor_Take r).news) (out_cursors_Cursor_Take r).H := by
  intro pan v H nw r h
  unfold unr_cursors_Cursor_Take at h
  split at h
  · cases h; exact ⟨rfl, rfl, rfl, rfl⟩
  · cases h
theorem hv_cursors_Cursor_Take : ∀ r, V.lt (1 + (out_cursors_Cursor_Take r).news.length) (out_cursors_Cursor_Take r).val = true := fun r => (by rfl)
theorem hc_cursors_Cursor_Take : ∀ r, chkH (1 + (out_cursors_Cursor_Take r).news.length) (out_cursors_Cursor_Take r).H = true := fun r => (by rfl)
theorem hk_cursors_Cursor_Take : ∀ r, hasKeys (out_cursors_Cursor_Take r).H 0 (1 + (out_cursors_Cursor_Take r).news.length) = true := fun r => (by rfl)
noncomputable def e_cursors_Cursor_Take (n : Nat) : Ent := funE 69 1 una_cursors_Cursor_Take (fun a => cursors_Cursor_Take n a.1 a.2.1 a.2.2) outK_cursors_Cursor_Take
noncomputable def t_cursors_Cursor_Take (l : List V) (H : List (Nat × Blk)) : Bool := isS (una_cursors_Cursor_Take l H)
noncomputable def Es_cursors_Cursor_Take (n : Nat) : List Ent := [e_cursors_Cursor_Is n]
theorem Es_ok_cursors_Cursor_Take (n : Nat) : ∀ x ∈ Es_cursors_Cursor_Take n, EntOK Tryz.prog x := by
  intro x hx
  simp only [Es_cursors_Cursor_Take, List.mem_cons, List.not_mem_nil, or_false] at hx
  · rw [hx]; exact ok_cursors_Cursor_Is n
noncomputable def Ls_cursors_Cursor_Take (_n : Nat) : List Sub := []
theorem subs_cursors_Cursor_Take (n : Nat) : SubOK Tryz.prog 18 (Ls_cursors_Cursor_Take n) (acOf Tryz.f69) := SubOK_of _ (by
  have e : subs (acOf Tryz.f69) = [] := by kernel_rfl
  rw [e]; intro p hp; cases hp)
theorem cert_cursors_Cursor_Take (n : Nat) (a0 : List UInt8) (a1 : List UInt8) (a2 : Int) : run Tryz.prog (Es_cursors_Cursor_Take n) (Ls_cursors_Cursor_Take n) Tryz.f69.ntmps (acOf Tryz.f69) ⟨argsT [.p 0 0, .s a0] 0, [(0, .cells [.s a1, .i .i64 a2])], 1, 1, 0, 1⟩ (finK Tryz.prog Tryz.f69.results.toList (funX [0] 1 0 1 unr_cursors_Cursor_Take)) = cursors_Cursor_Take n a0 a1 a2 := by kernel_rfl
theorem fun_cursors_Cursor_Take (n : Nat) : ∀ a r, cursors_Cursor_Take n a.1 a.2.1 a.2.2 = some r → FunOK Tryz.prog 69 (arg_cursors_Cursor_Take a) (H0_cursors_Cursor_Take a) 1 0 1 (out_cursors_Cursor_Take r) := fun a r h => funX_ok (ws := [0]) unr_ok_cursors_Cursor_Take hv_cursors_Cursor_Take (fun r b blk hl => (chkH_look (hc_cursors_Cursor_Take r) b blk hl).2) (fun r => chkH_keys (hc_cursors_Cursor_Take r)) (by decide) (Es_ok_cursors_Cursor_Take n) Tryz.func69 rfl (acOf_code _) (subs_cursors_Cursor_Take n) rfl rfl ((cert_cursors_Cursor_Take n a.1 a.2.1 a.2.2).trans h)
theorem ok_cursors_Cursor_Take (n : Nat) : EntOK Tryz.prog (e_cursors_Cursor_Take n) := funE_ok (m := 1) (ro := 0) (rb := 1) (out := out_cursors_Cursor_Take) (arg := arg_cursors_Cursor_Take) (H0 := H0_cursors_Cursor_Take) Tryz.call69 (by decide) (by decide) outK_ok_cursors_Cursor_Take una_ok_cursors_Cursor_Take (fun _ => rfl) (fun a => chkH_look (m := 1) (H := H0_cursors_Cursor_Take a) rfl) (fun _ => rfl) (fun r => chkH_keys (hc_cursors_Cursor_Take r)) (fun r b blk h => (chkH_look (hc_cursors_Cursor_Take r) b blk h).2) (fun r b h1 h2 => hasKeys_ok (hk_cursors_Cursor_Take r) b h1 (by omega)) hv_cursors_Cursor_Take (fun_cursors_Cursor_Take n)

/-! (*circa/cursors.Cursor).Some -/
noncomputable def arg_cursors_Cursor_Some (a : List UInt8 × Int × Int × List UInt8 × Int) : List V := [.p 0 0, .s a.1, .i .i64 a.2.1, .i .i64 a.2.2.1]
noncomputable def H0_cursors_Cursor_Some (a : List UInt8 × Int × Int × List UInt8 × Int) : List (Nat × Blk) := [(0, .cells [.s a.2.2.2.1, .i .i64 a.2.2.2.2])]
noncomputable def una_cursors_Cursor_Some (l : List V) (H : List (Nat × Blk)) : Option ((List UInt8 × Int × Int × List UInt8 × Int) × List Nat) := match l with
  | [.p b0 0, .s a0, .i .i64 a1, .i .i64 a2] => (match Abs.look H b0 with
    | some (.cells [.s a3, .i .i64 a4]) => (cond (Abs.distinct [b0] && true) (some ((a0, a1, a2, a3, a4), [b0])) none)
    | _ => none)
  | _ => none
theorem una_ok_cursors_Cursor_Some : ∀ l H a ρ, una_cursors_Cursor_Some l H = some (a, ρ) → ρ.length = 1 ∧ ρ.Nodup ∧ l = V.rens ρ (arg_cursors_Cursor_Some a) ∧ ∀ b blk, Abs.look (H0_cursors_Cursor_Some a) b = some blk → Abs.look H (getN ρ b) = some (blk.ren ρ) := by
  intro l H a ρ h
  unfold una_cursors_Cursor_Some at h
  split at h
  · split at h
    · rename_i e0
      obtain ⟨hd, h⟩ := cond_some h
      simp only [Bool.and_eq_true] at hd
      obtain ⟨hd, _⟩ := hd
      cases h
      exact ⟨rfl, distinct_ok hd, rfl, eachH_look ⟨e0, trivial⟩⟩
    · cases h
  · cases h
noncomputable def out_cursors_Cursor_Some (r : (Int × Int × List UInt8 × Int) ⊕ (List UInt8 × List UInt8 × Int)) : FOut := (Sum.casesOn (motive := fun _ => FOut) r (fun a0 => (⟨true, .it 125 (.ag [.i .i64 a0.1, .i .i64 a0.2.1]), [(0, .cells [.s a0.2.2.1, .i .i64 a0.2.2.2])], []⟩ : FOut)) (fun b0 => (⟨false, .s b0.1, [(0, .cells [.s b0.2.1, .i .i64 b0.2.2])], []⟩ : FOut)))
noncomputable def outK_cursors_Cursor_Some (α : Type) (r : (Int × Int × List UInt8 × Int) ⊕ (List UInt8 × List UInt8 × Int)) (k : FOut → Option α) : Option α := (Sum.casesOn (motive := fun _ => Option α) r (fun a0 => (k ⟨true, .it 125 (.ag [.i .i64 a0.1, .i .i64 a0.2.1]), [(0, .cells [.s a0.2.2.1, .i .i64 a0.2.2.2])], []⟩)) (fun b0 => (k ⟨false, .s b0.1, [(0, .cells [.s b0.2.1, .i .i64 b0.2.2])], []⟩)))
theorem outK_ok_cursors_Cursor_Some : ∀ α r k, outK_cursors_Cursor_Some α r k = k (out_cursors_Cursor_Some r) := by
  intro α r k
  rcases r with r | r <;> rfl
noncomputable def unr_cursors_Cursor_Some (pan : Bool) (v : V) (H : List (Nat × Blk)) (nw : List Nat) : Option ((Int × Int × List UInt8 × Int) ⊕ (List UInt8 × List UInt8 × Int)) := match pan, v, H, nw with
  | true, .it 125 (.ag [.i .i64 r0, .i .i64 r1]), [(0, .cells [.s r2, .i .i64 r3])], [] => some (.inl (r0, r1, r2, r3))
  | false, .s r0, [(0, .cells [.s r1, .i .i64 r2])], [] => some (.inr (r0, r1, r2))
  | _, _, _, _ => none
theorem unr_ok_cursors_Cursor_Some : ∀ pan v H nw r, unr_cursors_Cursor_Some pan v H nw = some r → (out_cursors_Cursor_Some r).pan = pan ∧ (out_cursors_Cursor_Some r).news = nw ∧ v = V.ren (upTo 0 1 ++ (out_cursors_Cursor_Some r).news) (out_cursors_Cursor_Some r).val ∧ H = renH (upTo 0 1 ++ (out_cursors_Cursor_Some r).news) (out_cursors_Cursor_Some r).H := by
  intro pan v H nw r h
  unfold unr_cursors_Cursor_Some at h
  split at h
  · cases h; exact ⟨rfl, rfl, rfl, rfl⟩
  · cases h; exact ⟨rfl, rfl, rfl, rfl⟩
  · cases h
theorem hv_cursors_Cursor_Some : ∀ r, V.lt (1 + (out_cursors_Cursor_Some r).news.length) (out_cursors_Cursor_Some r).val = true := fun r => (by rcases r with r | r <;> rfl)
theorem hc_cursors_Cursor_Some : ∀ r, chkH (1 + (out_cursors_Cursor_Some r).news.length) (out_cursors_Cursor_Some r).H = true := fun r => (by rcases r with r | r <;> rfl)
theorem hk_cursors_Cursor_Some : ∀ r, hasKeys (out_cursors_Cursor_Some r).H 0 (1 + (out_cursors_Cursor_Some r).news.length) = true := fun r => (by rcases r with r | r <;> rfl)
noncomputable def e_cursors_Cursor_Some (n : Nat) : Ent := funE 105 1 una_cursors_Cursor_Some (fun a => cursors_Cursor_Some n a.1 a.2.1 a.2.2.1 a.2.2.2.1 a.2.2.2.2) outK_cursors_Cursor_Some
noncomputable def t_cursors_Cursor_Some (l : List V) (H : List (Nat × Blk)) : Bool := isS (una_cursors_Cursor_Some l H)
noncomputable def Es_cursors_Cursor_Some (n : Nat) : List Ent := [e_cursors_Cursor_At n, e_cursors_Cursor_Peek n, e_strings_IndexByte n, e_cursors_Cursor_Fail n]
theorem Es_ok_cursors_Cursor_Some (n : Nat) : ∀ x ∈ Es_cursors_Cursor_Some n, EntOK Tryz.prog x := by
  intro x hx
  simp only [Es_cursors_Cursor_Some, List.mem_cons, List.not_mem_nil, or_false] at hx
  rcases hx with hx | hx | hx | hx
  · rw [hx]; exact ok_cursors_Cursor_At n
  · rw [hx]; exact ok_cursors_Cursor_Peek n
  · rw [hx]; exact ok_strings_IndexByte n
  · rw [hx]; exact ok_cursors_Cursor_Fail n
noncomputable def an_cursors_Cursor_Some_l0 : Ann := ⟨[0, 1, 2, 3, 9, 10, 11], [0], 1, []⟩
noncomputable def emb_cursors_Cursor_Some_l0 (x : List UInt8 × Int × Int × Int × Int × Bool × List UInt8 × Int) : St := ⟨[(0, some (.p 0 0)), (1, some (.s x.1)), (2, some (.i .i64 x.2.1)), (3, some (.i .i64 x.2.2.1)), (9, some (.i .i64 x.2.2.2.1)), (10, some (.i .u8 x.2.2.2.2.1)), (11, some (.b x.2.2.2.2.2.1))], [(0, .cells [.s x.2.2.2.2.2.2.1, .i .i64 x.2.2.2.2.2.2.2])], 1, 1, 0, 1⟩
noncomputable def un_cursors_Cursor_Some_l0 (s : St) : Option (List UInt8 × Int × Int × Int × Int × Bool × List UInt8 × Int) := match s with
  | ⟨[(0, some (.p 0 0)), (1, some (.s x0)), (2, some (.i .i64 x1)), (3, some (.i .i64 x2)), (9, some (.i .i64 x3)), (10, some (.i .u8 x4)), (11, some (.b x5))], [(0, .cells [.s x6, .i .i64 x7])], 1, 1, 0, 1⟩ => some (x0, x1, x2, x3, x4, x5, x6, x7)
  | _ => none
theorem un_ok_cursors_Cursor_Some_l0 : ∀ s x, un_cursors_Cursor_Some_l0 s = some x → s = emb_cursors_Cursor_Some_l0 x := by
  intro s x h
  unfold un_cursors_Cursor_Some_l0 at h
  split at h
  · cases h; rfl
  · cases h
noncomputable def ax_cursors_Cursor_Some_l0 : Ex → Ann := fun ex => match ex with
  | .exit 0 => ⟨[0, 2, 9], [0], 1, []⟩
  | _ => ⟨[], [], 0, []⟩
noncomputable def out_cursors_Cursor_Some_l0 (y : (Int × Int × List UInt8 × Int)) : Ex × St := (.exit 0, ⟨[(0, some (.p 0 0)), (2, some (.i .i64 y.1)), (9, some (.i .i64 y.2.1))], [(0, .cells [.s y.2.2.1, .i .i64 y.2.2.2])], 1, 1, 0, 1⟩)
noncomputable def outK_cursors_Cursor_Some_l0 (α : Type) (y : (Int × Int × List UInt8 × Int)) (k : Ex → St → Option α) : Option α := (k (.exit 0) ⟨[(0, some (.p 0 0)), (2, some (.i .i64 y.1)), (9, some (.i .i64 y.2.1))], [(0, .cells [.s y.2.2.1, .i .i64 y.2.2.2])], 1, 1, 0, 1⟩)
theorem outK_ok_cursors_Cursor_Some_l0 : ∀ α y k, outK_cursors_Cursor_Some_l0 α y k = k (out_cursors_Cursor_Some_l0 y).1 (out_cursors_Cursor_Some_l0 y).2 := by
  intro α y k
  rfl
noncomputable def ux_cursors_Cursor_Some_l0 (ex : Ex) (s : St) : Option ((Int × Int × List UInt8 × Int)) := match ex, s with
  | .exit 0, ⟨[(0, some (.p 0 0)), (2, some (.i .i64 y0)), (9, some (.i .i64 y1))], [(0, .cells [.s y2, .i .i64 y3])], 1, 1, 0, 1⟩ => some (y0, y1, y2, y3)
  | _, _ => none
theorem ux_ok_cursors_Cursor_Some_l0 : ∀ ex s y, ux_cursors_Cursor_Some_l0 ex s = some y → (ex, s) = out_cursors_Cursor_Some_l0 y := by
  intro ex s y h
  unfold ux_cursors_Cursor_Some_l0 at h
  split at h
  · cases h; rfl
  · cases h
noncomputable def Ls_cursors_Cursor_Some (n : Nat) : List Sub := [subE 0 an_cursors_Cursor_Some_l0 un_cursors_Cursor_Some_l0 (fun x => iterL (cursors_Cursor_Some_l0 n) n x) outK_cursors_Cursor_Some_l0]
noncomputable def sac_cursors_Cursor_Some_l0 : AC := getS (subs (acOf Tryz.f105)) 0
noncomputable def ac_cursors_Cursor_Some_l0 : AC := AC.body sac_cursors_Cursor_Some_l0
theorem subs_cursors_Cursor_Some_l0 (n : Nat) : SubOK Tryz.prog 70 (Ls_cursors_Cursor_Some n) ac_cursors_Cursor_Some_l0 := SubOK_of _ (by
  have e : subs ac_cursors_Cursor_Some_l0 = [] := by kernel_rfl
  rw [e]; intro p hp; cases hp)
theorem body_cursors_Cursor_Some_l0 (n : Nat) : ∀ x, run Tryz.prog (Es_cursors_Cursor_Some n) (Ls_cursors_Cursor_Some n) 70 ac_cursors_Cursor_Some_l0 (emb_cursors_Cursor_Some_l0 x) (roundK an_cursors_Cursor_Some_l0 un_cursors_Cursor_Some_l0 ax_cursors_Cursor_Some_l0 ux_cursors_Cursor_Some_l0) = cursors_Cursor_Some_l0 n x := fun _ => by kernel_rfl
theorem sub1_cursors_Cursor_Some_l0 (n : Nat) : ∀ (α : Type) (s : St) (k : Ex → St → Option α) (z : α), (subE 0 an_cursors_Cursor_Some_l0 un_cursors_Cursor_Some_l0 (fun x => iterL (cursors_Cursor_Some_l0 n) n x) outK_cursors_Cursor_Some_l0).e α s k = some z → SemC Tryz.prog 70 (sac_cursors_Cursor_Some_l0).code s fun ex s' => k ex s' = some z := by
  intro α s k z h
  have e : sac_cursors_Cursor_Some_l0 = .loop ac_cursors_Cursor_Some_l0 := by kernel_rfl
  rw [e]
  exact subE_ok (m := 0) (f := fun x => iterL (cursors_Cursor_Some_l0 n) n x) (out := out_cursors_Cursor_Some_l0) outK_ok_cursors_Cursor_Some_l0 un_ok_cursors_Cursor_Some_l0 (fun x y hy => loop_ok (Es_ok_cursors_Cursor_Some n) (subs_cursors_Cursor_Some_l0 n) un_ok_cursors_Cursor_Some_l0 ux_ok_cursors_Cursor_Some_l0 (body_cursors_Cursor_Some_l0 n) n x y hy) h
theorem sub_cursors_Cursor_Some_l0 (n : Nat) : SubSt Tryz.prog 70 (Ls_cursors_Cursor_Some n) 0 sac_cursors_Cursor_Some_l0 := fun α s k z => sub1_cursors_Cursor_Some_l0 n α s k z
theorem subs_cursors_Cursor_Some (n : Nat) : SubOK Tryz.prog 70 (Ls_cursors_Cursor_Some n) (acOf Tryz.f105) := SubOK_of _ (by
  have e : subs (acOf Tryz.f105) = [(0, sac_cursors_Cursor_Some_l0)] := by kernel_rfl
  rw [e]; intro p hp
  simp only [List.mem_cons, List.not_mem_nil, or_false] at hp
  · rw [hp]; exact sub_cursors_Cursor_Some_l0 n
  )
theorem cert_cursors_Cursor_Some (n : Nat) (a0 : List UInt8) (a1 : Int) (a2 : Int) (a3 : List UInt8) (a4 : Int) : run Tryz.prog (Es_cursors_Cursor_Some n) (Ls_cursors_Cursor_Some n) Tryz.f105.ntmps (acOf Tryz.f105) ⟨argsT [.p 0 0, .s a0, .i .i64 a1, .i .i64 a2] 0, [(0, .cells [.s a3, .i .i64 a4])], 1, 1, 0, 1⟩ (finK Tryz.prog Tryz.f105.results.toList (funX [0] 1 0 1 unr_cursors_Cursor_Some)) = cursors_Cursor_Some n a0 a1 a2 a3 a4 := by kernel_rfl
theorem fun_cursors_Cursor_Some (n : Nat) : ∀ a r, cursors_Cursor_Some n a.1 a.2.1 a.2.2.1 a.2.2.2.1 a.2.2.2.2 = some r → FunOK Tryz.prog 105 (arg_cursors_Cursor_Some a) (H0_cursors_Cursor_Some a) 1 0 1 (out_cursors_Cursor_Some r) := fun a r h => funX_ok (ws := [0]) unr_ok_cursors_Cursor_Some hv_cursors_Cursor_Some (fun r b blk hl => (chkH_look (hc_cursors_Cursor_Some r) b blk hl).2) (fun r => chkH_keys (hc_cursors_Cursor_Some r)) (by decide) (Es_ok_cursors_Cursor_Some n) Tryz.func105 rfl (acOf_code _) (subs_cursors_Cursor_Some n) rfl rfl ((cert_cursors_Cursor_Some n a.1 a.2.1 a.2.2.1 a.2.2.2.1 a.2.2.2.2).trans h)
theorem ok_cursors_Cursor_Some (n : Nat) : EntOK Tryz.prog (e_cursors_Cursor_Some n) := funE_ok (m := 1) (ro := 0) (rb := 1) (out := out_cursors_Cursor_Some) (arg := arg_cursors_Cursor_Some) (H0 := H0_cursors_Cursor_Some) Tryz.call105 (by decide) (by decide) outK_ok_cursors_Cursor_Some una_ok_cursors_Cursor_Some (fun _ => rfl) (fun a => chkH_look (m := 1) (H := H0_cursors_Cursor_Some a) rfl) (fun _ => rfl) (fun r => chkH_keys (hc_cursors_Cursor_Some r)) (fun r b blk h => (chkH_look (hc_cursors_Cursor_Some r) b blk h).2) (fun r b h1 h2 => hasKeys_ok (hk_cursors_Cursor_Some r) b h1 (by omega)) hv_cursors_Cursor_Some (fun_cursors_Cursor_Some n)

noncomputable def e_lib_65 (_n : Nat) : Ent := atoiF 65 239
theorem ok_lib_65 (n : Nat) : EntOK Tryz.prog (e_lib_65 n) := atoiF_ok Tryz.call65 (fun s n hl h w => (Tryz.strconv_Atoi s n hl h w).mono fun e w' ⟨h1, t, h2⟩ => ⟨h1, h2 ▸ bytesWorld_below _ _ _⟩) (fun s hl h w hg => atoi_err s hl h w hg)

/-! circa/yearforms.Read$1 -/
noncomputable def arg_yearforms_Read_1 (a : List UInt8 × List UInt8 × Int) : List V := [.s a.1, .p 0 0]
noncomputable def H0_yearforms_Read_1 (a : List UInt8 × List UInt8 × Int) : List (Nat × Blk) := [(0, .cells [.p 1 0]), (1, .cells [.s a.2.1, .i .i64 a.2.2])]
noncomputable def una_yearforms_Read_1 (l : List V) (H : List (Nat × Blk)) : Option ((List UInt8 × List UInt8 × Int) × List Nat) := match l with
  | [.s a0, .p b0 0] => (match Abs.look H b0 with
    | some (.cells [.p b1 0]) => (match Abs.look H b1 with
    | some (.cells [.s a1, .i .i64 a2]) => (cond (Abs.distinct [b0, b1] && true) (some ((a0, a1, a2), [b0, b1])) none)
    | _ => none)
    | _ => none)
  | _ => none
theorem una_ok_yearforms_Read_1 : ∀ l H a ρ, una_yearforms_Read_1 l H = some (a, ρ) → ρ.length = 2 ∧ ρ.Nodup ∧ l = V.rens ρ (arg_yearforms_Read_1 a) ∧ ∀ b blk, Abs.look (H0_yearforms_Read_1 a) b = some blk → Abs.look H (getN ρ b) = some (blk.ren ρ) := by
  intro l H a ρ h
  unfold una_yearforms_Read_1 at h
  split at h
  · split at h
    · rename_i e0
      split at h
      · rename_i e1
        obtain ⟨hd, h⟩ := cond_some h
        simp only [Bool.and_eq_true] at hd
        obtain ⟨hd, _⟩ := hd
        cases h
        exact ⟨rfl, distinct_ok hd, rfl, eachH_look ⟨e0, e1, trivial⟩⟩
      · cases h
    · cases h
  · cases h
noncomputable def out_yearforms_Read_1 (r : (Int × List UInt8 × Int) ⊕ (Int × Int × List UInt8 × Int)) : FOut := (Sum.casesOn (motive := fun _ => FOut) r (fun a0 => (⟨false, .i .i64 a0.1, [(1, .cells [.s a0.2.1, .i .i64 a0.2.2])], []⟩ : FOut)) (fun b0 => (⟨true, .it 125 (.ag [.i .i64 b0.1, .i .i64 b0.2.1]), [(1, .cells [.s b0.2.2.1, .i .i64 b0.2.2.2])], []⟩ : FOut)))
noncomputable def outK_yearforms_Read_1 (α : Type) (r : (Int × List UInt8 × Int) ⊕ (Int × Int × List UInt8 × Int)) (k : FOut → Option α) : Option α := (Sum.casesOn (motive := fun _ => Option α) r (fun a0 => (k ⟨false, .i .i64 a0.1, [(1, .cells [.s a0.2.1, .i .i64 a0.2.2])], []⟩)) (fun b0 => (k ⟨true, .it 125 (.ag [.i .i64 b0.1, .i .i64 b0.2.1]), [(1, .cells [.s b0.2.2.1, .i .i64 b0.2.2.2])], []⟩)))
theorem outK_ok_yearforms_Read_1 : ∀ α r k, outK_yearforms_Read_1 α r k = k (out_yearforms_Read_1 r) := by
  intro α r k
  rcases r with r | r <;> rfl
noncomputable def unr_yearforms_Read_1 (pan : Bool) (v : V) (H : List (Nat × Blk)) (nw : List Nat) : Option ((Int × List UInt8 × Int) ⊕ (Int × Int × List UInt8 × Int)) := match pan, v, H, nw with
  | false, .i .i64 r0, [(1, .cells [.s r1, .i .i64 r2])], [] => some (.inl (r0, r1, r2))
  | true, .it 125 (.ag [.i .i64 r0, .i .i64 r1]), [(1, .cells [.s r2, .i .i64 r3])], [] => some (.inr (r0, r1, r2, r3))
  | _, _, _, _ => none
theorem unr_ok_yearforms_Read_1 : ∀ pan v H nw r, unr_yearforms_Read_1 pan v H nw = some r → (out_yearforms_Read_1 r).pan = pan ∧ (out_yearforms_Read_1 r).news = nw ∧ v = V.ren (upTo 0 2 ++ (out_yearforms_Read_1 r).news) (out_yearforms_Read_1 r).val ∧ H = renH (upTo 0 2 ++ (out_yearforms_Read_1 r).news) (out_yearforms_Read_1 r).H := by
  intro pan v H nw r h
  unfold unr_yearforms_Read_1 at h
  split at h
  · cases h; exact ⟨rfl, rfl, rfl, rfl⟩
  · cases h; exact ⟨rfl, rfl, rfl, rfl⟩
  · cases h
theorem hv_yearforms_Read_1 : ∀ r, V.lt (2 + (out_yearforms_Read_1 r).news.length) (out_yearforms_Read_1 r).val = true := fun r => (by rcases r with r | r <;> rfl)
theorem hc_yearforms_Read_1 : ∀ r, chkH (2 + (out_yearforms_Read_1 r).news.length) (out_yearforms_Read_1 r).H = true := fun r => (by rcases r with r | r <;> rfl)
theorem hk_yearforms_Read_1 : ∀ r, hasKeys (out_yearforms_Read_1 r).H 1 (1 + (out_yearforms_Read_1 r).news.length) = true := fun r => (by rcases r with r | r <;> rfl)
noncomputable def e_yearforms_Read_1 (n : Nat) : Ent := funE 163 2 una_yearforms_Read_1 (fun a => yearforms_Read_1 n a.1 a.2.1 a.2.2) outK_yearforms_Read_1
noncomputable def t_yearforms_Read_1 (l : List V) (H : List (Nat × Blk)) : Bool := isS (una_yearforms_Read_1 l H)
noncomputable def Es_yearforms_Read_1 (n : Nat) : List Ent := [e_cursors_Cursor_Take n, e_cursors_Cursor_One n, e_cursors_Cursor_Some n, e_lib_65 n]
theorem Es_ok_yearforms_Read_1 (n : Nat) : ∀ x ∈ Es_yearforms_Read_1 n, EntOK Tryz.prog x := by
  intro x hx
  simp only [Es_yearforms_Read_1, List.mem_cons, List.not_mem_nil, or_false] at hx
  rcases hx with hx | hx | hx | hx
  · rw [hx]; exact ok_cursors_Cursor_Take n
  · rw [hx]; exact ok_cursors_Cursor_One n
  · rw [hx]; exact ok_cursors_Cursor_Some n
  · rw [hx]; exact ok_lib_65 n
noncomputable def Ls_yearforms_Read_1 (_n : Nat) : List Sub := []
theorem subs_yearforms_Read_1 (n : Nat) : SubOK Tryz.prog 23 (Ls_yearforms_Read_1 n) (acOf Tryz.f163) := SubOK_of _ (by
  have e : subs (acOf Tryz.f163) = [] := by kernel_rfl
  rw [e]; intro p hp; cases hp)
theorem cert_yearforms_Read_1 (n : Nat) (a0 : List UInt8) (a1 : List UInt8) (a2 : Int) : run Tryz.prog (Es_yearforms_Read_1 n) (Ls_yearforms_Read_1 n) Tryz.f163.ntmps (acOf Tryz.f163) ⟨argsT [.s a0, .p 0 0] 0, [(0, .cells [.p 1 0]), (1, .cells [.s a1, .i .i64 a2])], 2, 2, 1, 2⟩ (finK Tryz.prog Tryz.f163.results.toList (funX [1] 2 1 2 unr_yearforms_Read_1)) = yearforms_Read_1 n a0 a1 a2 := by kernel_rfl
theorem fun_yearforms_Read_1 (n : Nat) : ∀ a r, yearforms_Read_1 n a.1 a.2.1 a.2.2 = some r → FunOK Tryz.prog 163 (arg_yearforms_Read_1 a) (H0_yearforms_Read_1 a) 2 1 2 (out_yearforms_Read_1 r) := fun a r h => funX_ok (ws := [1]) unr_ok_yearforms_Read_1 hv_yearforms_Read_1 (fun r b blk hl => (chkH_look (hc_yearforms_Read_1 r) b blk hl).2) (fun r => chkH_keys (hc_yearforms_Read_1 r)) (by decide) (Es_ok_yearforms_Read_1 n) Tryz.func163 rfl (acOf_code _) (subs_yearforms_Read_1 n) rfl rfl ((cert_yearforms_Read_1 n a.1 a.2.1 a.2.2).trans h)
theorem ok_yearforms_Read_1 (n : Nat) : EntOK Tryz.prog (e_yearforms_Read_1 n) := funE_ok (m := 2) (ro := 1) (rb := 2) (out := out_yearforms_Read_1) (arg := arg_yearforms_Read_1) (H0 := H0_yearforms_Read_1) Tryz.call163 (by decide) (by decide) outK_ok_yearforms_Read_1 una_ok_yearforms_Read_1 (fun _ => rfl) (fun a => chkH_look (m := 2) (H := H0_yearforms_Read_1 a) rfl) (fun _ => rfl) (fun r => chkH_keys (hc_yearforms_Read_1 r)) (fun r b blk h => (chkH_look (hc_yearforms_Read_1 r) b blk h).2) (fun r b h1 h2 => hasKeys_ok (hk_yearforms_Read_1 r) b h1 (by omega)) hv_yearforms_Read_1 (fun_yearforms_Read_1 n)

/-! circa/yearforms.Read -/
noncomputable def arg_yearforms_Read (a : List UInt8 × Int) : List V := [.p 0 0]
noncomputable def H0_yearforms_Read (a : List UInt8 × Int) : List (Nat × Blk) := [(0, .cells [.s a.1, .i .i64 a.2])]
noncomputable def una_yearforms_Read (l : List V) (H : List (Nat × Blk)) : Option ((List UInt8 × Int) × List Nat) := match l with
  | [.p b0 0] => (match Abs.look H b0 with
    | some (.cells [.s a0, .i .i64 a1]) => (cond (Abs.distinct [b0] && true) (some ((a0, a1), [b0])) none)
    | _ => none)
  | _ => none
theorem una_ok_yearforms_Read : ∀ l H a ρ, una_yearforms_Read l H = some (a, ρ) → ρ.length = 1 ∧ ρ.Nodup ∧ l = V.rens ρ (arg_yearforms_Read a) ∧ ∀ b blk, Abs.look (H0_yearforms_Read a) b = some blk → Abs.look H (getN ρ b) = some (blk.ren ρ) := by
  intro l H a ρ h
  unfold una_yearforms_Read at h
  split at h
  · split at h
    · rename_i e0
      obtain ⟨hd, h⟩ := cond_some h
      simp only [Bool.and_eq_true] at hd
      obtain ⟨hd, _⟩ := hd
      cases h
      exact ⟨rfl, distinct_ok hd, rfl, eachH_look ⟨e0, trivial⟩⟩
    · cases h
  · cases h
noncomputable def out_yearforms_Read (r : (Int × Int × List UInt8 × Int) ⊕ (Bool × Bool × List UInt8 × Int × Int × List UInt8 × Int)) : FOut := (Sum.casesOn (motive := fun _ => FOut) r (fun a0 => (⟨true, .it 125 (.ag [.i .i64 a0.1, .i .i64 a0.2.1]), [(0, .cells [.s a0.2.2.1, .i .i64 a0.2.2.2])], []⟩ : FOut)) (fun b0 => (⟨false, .ag [.b b0.1, .b b0.2.1, .s b0.2.2.1, .i .i64 b0.2.2.2.1, .i .i64 b0.2.2.2.2.1], [(0, .cells [.s b0.2.2.2.2.2.1, .i .i64 b0.2.2.2.2.2.2])], []⟩ : FOut)))
noncomputable def outK_yearforms_Read (α : Type) (r : (Int × Int × List UInt8 × Int) ⊕ (Bool × Bool × List UInt8 × Int × Int × List UInt8 × Int)) (k : FOut → Option α) : Option α := (Sum.casesOn (motive := fun _ => Option α) r (fun a0 => (k ⟨true, .it 125 (.ag [.i .i64 a0.1, .i .i64 a0.2.1]), [(0, .cells [.s a0.2.2.1, .i .i64 a0.2.2.2])], []⟩)) (fun b0 => (k ⟨false, .ag [.b b0.1, .b b0.2.1, .s b0.2.2.1, .i .i64 b0.2.2.2.1, .i .i64 b0.2.2.2.2.1], [(0, .cells [.s b0.2.2.2.2.2.1, .i .i64 b0.2.2.2.2.2.2])], []⟩)))
theorem outK_ok_yearforms_Read : ∀ α r k, outK_yearforms_Read α r k = k (out_yearforms_Read r) := by
  intro α r k
  rcases r with r | r <;> rfl
noncomputable def unr_yearforms_Read (pan : Bool) (v : V) (H : List (Nat × Blk)) (nw : List Nat) : Option ((Int × Int × List UInt8 × Int) ⊕ (Bool × Bool × List UInt8 × Int × Int × List UInt8 × Int)) := match pan, v, H, nw with
  | true, .it 125 (.ag [.i .i64 r0, .i .i64 r1]), [(0, .cells [.s r2, .i .i64 r3])], [] => some (.inl (r0, r1, r2, r3))
  | false, .ag [.b r0, .b r1, .s r2, .i .i64 r3, .i .i64 r4], [(0, .cells [.s r5, .i .i64 r6])], [] => some (.inr (r0, r1, r2, r3, r4, r5, r6))
  | _, _, _, _ => none
theorem unr_ok_yearforms_Read : ∀ pan v H nw r, unr_yearforms_Read pan v H nw = some r → (out_yearforms_Read r).pan = pan ∧ (out_yearforms_Read r).news = nw ∧ v = V.ren (upTo 0 1 ++ (out_yearforms_Read r).news) (out_yearforms_Read r).val ∧ H = renH (upTo 0 1 ++ (out_yearforms_Read r).news) (out_yearforms_Read r).H := by
  intro pan v H nw r h
  unfold unr_yearforms_Read at h
  split at h
  · cases h; exact ⟨rfl, rfl, rfl, rfl⟩
  · cases h; exact ⟨rfl, rfl, rfl, rfl⟩
  · cases h
theorem hv_yearforms_Read : ∀ r, V.lt (1 + (out_yearforms_Read r).news.length) (out_yearforms_Read r).val = true := fun r => (by rcases r with r | r <;> rfl)
theorem hc_yearforms_Read : ∀ r, chkH (1 + (out_yearforms_Read r).news.length) (out_yearforms_Read r).H = true := fun r => (by rcases r with r | r <;> rfl)
theorem hk_yearforms_Read : ∀ r, hasKeys (out_yearforms_Read r).H 0 (1 + (out_yearforms_Read r).news.length) = true := fun r => (by rcases r with r | r <;> rfl)
noncomputable def e_yearforms_Read (n : Nat) : Ent := funE 108 1 una_yearforms_Read (fun a => yearforms_Read n a.1 a.2) outK_yearforms_Read
noncomputable def t_yearforms_Read (l : List V) (H : List (Nat × Blk)) : Bool := isS (una_yearforms_Read l H)
noncomputable def Es_yearforms_Read (n : Nat) : List Ent := [e_cursors_Cursor_Take n, e_cursors_Cursor_One n, e_cursors_Cursor_Some n, e_yearforms_Read_1 n]
theorem Es_ok_yearforms_Read (n : Nat) : ∀ x ∈ Es_yearforms_Read n, EntOK Tryz.prog x := by
  intro x hx
  simp only [Es_yearforms_Read, List.mem_cons, List.not_mem_nil, or_false] at hx
  rcases hx with hx | hx | hx | hx
  · rw [hx]; exact ok_cursors_Cursor_Take n
  · rw [hx]; exact ok_cursors_Cursor_One n
  · rw [hx]; exact ok_cursors_Cursor_Some n
  · rw [hx]; exact ok_yearforms_Read_1 n
noncomputable def Ls_yearforms_Read (_n : Nat) : List Sub := []
theorem subs_yearforms_Read (n : Nat) : SubOK Tryz.prog 30 (Ls_yearforms_Read n) (acOf Tryz.f108) := SubOK_of _ (by
  have e : subs (acOf Tryz.f108) = [] := by kernel_rfl
  rw [e]; intro p hp; cases hp)
theorem cert_yearforms_Read (n : Nat) (a0 : List UInt8) (a1 : Int) : run Tryz.prog (Es_yearforms_Read n) (Ls_yearforms_Read n) Tryz.f108.ntmps (acOf Tryz.f108) ⟨argsT [.p 0 0] 0, [(0, .cells [.s a0, .i .i64 a1])], 1, 1, 0, 1⟩ (finK Tryz.prog Tryz.f108.results.toList (funX [0] 1 0 1 unr_yearforms_Read)) = yearforms_Read n a0 a1 := by kernel_rfl
theorem fun_yearforms_Read (n : Nat) : ∀ a r, yearforms_Read n a.1 a.2 = some r → FunOK Tryz.prog 108 (arg_yearforms_Read a) (H0_yearforms_Read a) 1 0 1 (out_yearforms_Read r) := fun a r h => funX_ok (ws := [0]) unr_ok_yearforms_Read hv_yearforms_Read (fun r b blk hl => (chkH_look (hc_yearforms_Read r) b blk hl).2) (fun r => chkH_keys (hc_yearforms_Read r)) (by decide) (Es_ok_yearforms_Read n) Tryz.func108 rfl (acOf_code _) (subs_yearforms_Read n) rfl rfl ((cert_yearforms_Read n a.1 a.2).trans h)
theorem ok_yearforms_Read (n : Nat) : EntOK Tryz.prog (e_yearforms_Read n) := funE_ok (m := 1) (ro := 0) (rb := 1) (out := out_yearforms_Read) (arg := arg_yearforms_Read) (H0 := H0_yearforms_Read) Tryz.call108 (by decide) (by decide) outK_ok_yearforms_Read una_ok_yearforms_Read (fun _ => rfl) (fun a => chkH_look (m := 1) (H := H0_yearforms_Read a) rfl) (fun _ => rfl) (fun r => chkH_keys (hc_yearforms_Read r)) (fun r b blk h => (chkH_look (hc_yearforms_Read r) b blk h).2) (fun r b h1 h2 => hasKeys_ok (hk_yearforms_Read r) b h1 (by omega)) hv_yearforms_Read (fun_yearforms_Read n)

/-! circa/dateforms.Read$3 -/
noncomputable def arg_dateforms_Read_3 (a : Bool × Bool × List UInt8 × Int × Int × List UInt8 × List UInt8 × Int × Int × Int × List UInt8 × Int) : List V := [.p 0 0, .p 1 0]
noncomputable def H0_dateforms_Read_3 (a : Bool × Bool × List UInt8 × Int × Int × List UInt8 × List UInt8 × Int × Int × Int × List UInt8 × Int) : List (Nat × Blk) := [(0, .cells [.p 2 0]), (1, .cells [.b a.1, .b a.2.1, .s a.2.2.1, .i .i64 a.2.2.2.1, .i .i64 a.2.2.2.2.1, .s a.2.2.2.2.2.1, .s a.2.2.2.2.2.2.1, .i .u8 a.2.2.2.2.2.2.2.1, .i .u8 a.2.2.2.2.2.2.2.2.1, .i .u8 a.2.2.2.2.2.2.2.2.2.1]), (2, .cells [.s a.2.2.2.2.2.2.2.2.2.2.1, .i .i64 a.2.2.2.2.2.2.2.2.2.2.2])]
noncomputable def una_dateforms_Read_3 (l : List V) (H : List (Nat × Blk)) : Option ((Bool × Bool × List UInt8 × Int × Int × List UInt8 × List UInt8 × Int × Int × Int × List UInt8 × Int) × List Nat) := match l with
  | [.p b0 0, .p b1 0] => (match Abs.look H b0 with
    | some (.cells [.p b2 0]) => (match Abs.look H b1 with
    | some (.cells [.b a0, .b a1, .s a2, .i .i64 a3, .i .i64 a4, .s a5, .s a6, .i .u8 a7, .i .u8 a8, .i .u8 a9]) => (match Abs.look H b2 with
    | some (.cells [.s a10, .i .i64 a11]) => (cond (Abs.distinct [b0, b1, b2] && true) (some ((a0, a1, a2, a3, a4, a5, a6, a7, a8, a9, a10, a11), [b0, b1, b2])) none)
    | _ => none)
    | _ => none)
    | _ => none)
  | _ => none
theorem una_ok_dateforms_Read_3 : ∀ l H a ρ, una_dateforms_Read_3 l H = some (a, ρ) → ρ.length = 3 ∧ ρ.Nodup ∧ l = V.rens ρ (arg_dateforms_Read_3 a) ∧ ∀ b blk, Abs.look (H0_dateforms_Read_3 a) b = some blk → Abs.look H (getN ρ b) = some (blk.ren ρ) := by
  intro l H a ρ h
  unfold una_dateforms_Read_3 at h
  split at h
  · split at h
    · rename_i e0
      split at h
      · rename_i e1
        split at h
        · rename_i e2
          obtain ⟨hd, h⟩ := cond_some h
          simp only [Bool.and_eq_true] at hd
          obtain ⟨hd, _⟩ := hd
          cases h
          exact ⟨rfl, distinct_ok hd, rfl, eachH_look ⟨e0, e1, e2, trivial⟩⟩
        · cases h
      · cases h
    · cases h
  · cases h
noncomputable def out_dateforms_Read_3 (r : (Int × Int × Bool × Bool × List UInt8 × Int × Int × List UInt8 × List UInt8 × Int × Int × Int × List UInt8 × Int) ⊕ (Bool × Bool × List UInt8 × Int × Int × List UInt8 × List UInt8 × Int × Int × Int × List UInt8 × Int)) : FOut := (Sum.casesOn (motive := fun _ => FOut) r (fun a0 => (⟨true, .it 125 (.ag [.i .i64 a0.1, .i .i64 a0.2.1]), [(1, .cells [.b a0.2.2.1, .b a0.2.2.2.1, .s a0.2.2.2.2.1, .i .i64 a0.2.2.2.2.2.1, .i .i64 a0.2.2.2.2.2.2.1, .s a0.2.2.2.2.2.2.2.1, .s a0.2.2.2.2.2.2.2.2.1, .i .u8 a0.2.2.2.2.2.2.2.2.2.1, .i .u8 a0.2.2.2.2.2.2.2.2.2.2.1, .i .u8 a0.2.2.2.2.2.2.2.2.2.2.2.1]), (2, .cells [.s a0.2.2.2.2.2.2.2.2.2.2.2.2.1, .i .i64 a0.2.2.2.2.2.2.2.2.2.2.2.2.2])], []⟩ : FOut)) (fun b0 => (⟨false, .tp [], [(1, .cells [.b b0.1, .b b0.2.1, .s b0.2.2.1, .i .i64 b0.2.2.2.1, .i .i64 b0.2.2.2.2.1, .s b0.2.2.2.2.2.1, .s b0.2.2.2.2.2.2.1, .i .u8 b0.2.2.2.2.2.2.2.1, .i .u8 b0.2.2.2.2.2.2.2.2.1, .i .u8 b0.2.2.2.2.2.2.2.2.2.1]), (2, .cells [.s b0.2.2.2.2.2.2.2.2.2.2.1, .i .i64 b0.2.2.2.2.2.2.2.2.2.2.2])], []⟩ : FOut)))
noncomputable def outK_dateforms_Read_3 (α : Type) (r : (Int × Int × Bool × Bool × List UInt8 × Int × Int × List UInt8 × List UInt8 × Int × Int × Int × List UInt8 × Int) ⊕ (Bool × Bool × List UInt8 × Int × Int × List UInt8 × List UInt8 × Int × Int × Int × List UInt8 × Int)) (k : FOut → Option α) : Option α := (Sum.casesOn (motive := fun _ => Option α) r (fun a0 => (k ⟨true, .it 125 (.ag [.i .i64 a0.1, .i .i64 a0.2.1]), [(1, .cells [.b a0.2.2.1, .b a0.2.2.2.1, .s a0.2.2.2.2.1, .i .i64 a0.2.2.2.2.2.1, .i .i64 a0.2.2.2.2.2.2.1, .s a0.2.2.2.2.2.2.2.1, .s a0.2.2.2.2.2.2.2.2.1, .i .u8 a0.2.2.2.2.2.2.2.2.2.1, .i .u8 a0.2.2.2.2.2.2.2.2.2.2.1, .i .u8 a0.2.2.2.2.2.2.2.2.2.2.2.1]), (2, .cells [.s a0.2.2.2.2.2.2.2.2.2.2.2.2.1, .i .i64 a0.2.2.2.2.2.2.2.2.2.2.2.2.2])], []⟩)) (fun b0 => (k ⟨false, .tp [], [(1, .cells [.b b0.1, .b b0.2.1, .s b0.2.2.1, .i .i64 b0.2.2.2.1, .i .i64 b0.2.2.2.2.1, .s b0.2.2.2.2.2.1, .s b0.2.2.2.2.2.2.1, .i .u8 b0.2.2.2.2.2.2.2.1, .i .u8 b0.2.2.2.2.2.2.2.2.1, .i .u8 b0.2.2.2.2.2.2.2.2.2.1]), (2, .cells [.s b0.2.2.2.2.2.2.2.2.2.2.1, .i .i64 b0.2.2.2.2.2.2.2.2.2.2.2])], []⟩)))
theorem outK_ok_dateforms_Read_3 : ∀ α r k, outK_dateforms_Read_3 α r k = k (out_dateforms_Read_3 r) := by
  intro α r k
  rcases r with r | r <;> rfl
noncomputable def unr_dateforms_Read_3 (pan : Bool) (v : V) (H : List (Nat × Blk)) (nw : List Nat) : Option ((Int × Int × Bool × Bool × List UInt8 × Int × Int × List UInt8 × List UInt8 × Int × Int × Int × List UInt8 × Int) ⊕ (Bool × Bool × List UInt8 × Int × Int × List UInt8 × List UInt8 × Int × Int × Int × List UInt8 × Int)) := match pan, v, H, nw with
  | true, .it 125 (.ag [.i .i64 r0, .i .i64 r1]), [(1, .cells [.b r2, .b r3, .s r4, .i .i64 r5, .i .i64 r6, .s r7, .s r8, .i .u8 r9, .i .u8 r10, .i .u8 r11]), (2, .cells [.s r12, .i .i64 r13])], [] => some (.inl (r0, r1, r2, r3, r4, r5, r6, r7, r8, r9, r10, r11, r12, r13))
  | false, .tp [], [(1, .cells [.b r0, .b r1, .s r2, .i .i64 r3, .i .i64 r4, .s r5, .s r6, .i .u8 r7, .i .u8 r8, .i .u8 r9]), (2, .cells [.s r10, .i .i64 r11])], [] => some (.inr (r0, r1, r2, r3, r4, r5, r6, r7, r8, r9, r10, r11))
  | _, _, _, _ => none
theorem unr_ok_dateforms_Read_3 : ∀ pan v H nw r, unr_dateforms_Read_3 pan v H nw = some r → (out_dateforms_Read_3 r).pan = pan ∧ (out_dateforms_Read_3 r).news = nw ∧ v = V.ren (upTo 0 3 ++ (out_dateforms_Read_3 r).news) (out_dateforms_Read_3 r).val ∧ H = renH (upTo 0 3 ++ (out_dateforms_Read_3 r).news) (out_dateforms_Read_3 r).H := by
  intro pan v H nw r h
  unfold unr_dateforms_Read_3 at h
  split at h
  · cases h; exact ⟨rfl, rfl, rfl, rfl⟩
  · cases h; exact ⟨rfl, rfl, rfl, rfl⟩
  · cases h
theorem hv_dateforms_Read_3 : ∀ r, V.lt (3 + (out_dateforms_Read_3 r).news.length) (out_dateforms_Read_3 r).val = true := fun r => (by rcases r with r | r <;> rfl)
theorem hc_dateforms_Read_3 : ∀ r, chkH (3 + (out_dateforms_Read_3 r).news.length) (out_dateforms_Read_3 r).H = true := fun r => (by rcases r with r | r <;> rfl)
theorem hk_dateforms_Read_3 : ∀ r, hasKeys (out_dateforms_Read_3 r).H 1 (2 + (out_dateforms_Read_3 r).news.length) = true := fun r => (by rcases r with r | r <;> rfl)
noncomputable def e_dateforms_Read_3 (n : Nat) : Ent := funE 107 3 una_dateforms_Read_3 (fun a => dateforms_Read_3 n a.1 a.2.1 a.2.2.1 a.2.2.2.1 a.2.2.2.2.1 a.2.2.2.2.2.1 a.2.2.2.2.2.2.1 a.2.2.2.2.2.2.2.1 a.2.2.2.2.2.2.2.2.1 a.2.2.2.2.2.2.2.2.2.1 a.2.2.2.2.2.2.2.2.2.2.1 a.2.2.2.2.2.2.2.2.2.2.2) outK_dateforms_Read_3
noncomputable def t_dateforms_Read_3 (l : List V) (H : List (Nat × Blk)) : Bool := isS (una_dateforms_Read_3 l H)
noncomputable def Es_dateforms_Read_3 (n : Nat) : List Ent := [e_yearforms_Read n]
theorem Es_ok_dateforms_Read_3 (n : Nat) : ∀ x ∈ Es_dateforms_Read_3 n, EntOK Tryz.prog x := by
  intro x hx
  simp only [Es_dateforms_Read_3, List.mem_cons, List.not_mem_nil, or_false] at hx
  · rw [hx]; exact ok_yearforms_Read n
noncomputable def Ls_dateforms_Read_3 (_n : Nat) : List Sub := []
theorem subs_dateforms_Read_3 (n : Nat) : SubOK Tryz.prog 5 (Ls_dateforms_Read_3 n) (acOf Tryz.f107) := SubOK_of _ (by
  have e : subs (acOf Tryz.f107) = [] := by kernel_rfl
  rw [e]; intro p hp; cases hp)
theorem cert_dateforms_Read_3 (n : Nat) (a0 : Bool) (a1 : Bool) (a2 : List UInt8) (a3 : Int) (a4 : Int) (a5 : List UInt8) (a6 : List UInt8) (a7 : Int) (a8 : Int) (a9 : Int) (a10 : List UInt8) (a11 : Int) : run Tryz.prog (Es_dateforms_Read_3 n) (Ls_dateforms_Read_3 n) Tryz.f107.ntmps (acOf Tryz.f107) ⟨argsT [.p 0 0, .p 1 0] 0, [(0, .cells [.p 2 0]), (1, .cells [.b a0, .b a1, .s a2, .i .i64 a3, .i .i64 a4, .s a5, .s a6, .i .u8 a7, .i .u8 a8, .i .u8 a9]), (2, .cells [.s a10, .i .i64 a11])], 3, 3, 1, 3⟩ (finK Tryz.prog Tryz.f107.results.toList (funX [1, 2] 3 1 3 unr_dateforms_Read_3)) = dateforms_Read_3 n a0 a1 a2 a3 a4 a5 a6 a7 a8 a9 a10 a11 := by kernel_rfl
theorem fun_dateforms_Read_3 (n : Nat) : ∀ a r, dateforms_Read_3 n a.1 a.2.1 a.2.2.1 a.2.2.2.1 a.2.2.2.2.1 a.2.2.2.2.2.1 a.2.2.2.2.2.2.1 a.2.2.2.2.2.2.2.1 a.2.2.2.2.2.2.2.2.1 a.2.2.2.2.2.2.2.2.2.1 a.2.2.2.2.2.2.2.2.2.2.1 a.2.2.2.2.2.2.2.2.2.2.2 = some r → FunOK Tryz.prog 107 (arg_dateforms_Read_3 a) (H0_dateforms_Read_3 a) 3 1 3 (out_dateforms_Read_3 r) := fun a r h => funX_ok (ws := [1, 2]) unr_ok_dateforms_Read_3 hv_dateforms_Read_3 (fun r b blk hl => (chkH_look (hc_dateforms_Read_3 r) b blk hl).2) (fun r => chkH_keys (hc_dateforms_Read_3 r)) (by decide) (Es_ok_dateforms_Read_3 n) Tryz.func107 rfl (acOf_code _) (subs_dateforms_Read_3 n) rfl rfl ((cert_dateforms_Read_3 n a.1 a.2.1 a.2.2.1 a.2.2.2.1 a.2.2.2.2.1 a.2.2.2.2.2.1 a.2.2.2.2.2.2.1 a.2.2.2.2.2.2.2.1 a.2.2.2.2.2.2.2.2.1 a.2.2.2.2.2.2.2.2.2.1 a.2.2.2.2.2.2.2.2.2.2.1 a.2.2.2.2.2.2.2.2.2.2.2).trans h)
theorem ok_dateforms_Read_3 (n : Nat) : EntOK Tryz.prog (e_dateforms_Read_3 n) := funE_ok (m := 3) (ro := 1) (rb := 3) (out := out_dateforms_Read_3) (arg := arg_dateforms_Read_3) (H0 := H0_dateforms_Read_3) Tryz.call107 (by decide) (by decide) outK_ok_dateforms_Read_3 una_ok_dateforms_Read_3 (fun _ => rfl) (fun a => chkH_look (m := 3) (H := H0_dateforms_Read_3 a) rfl) (fun _ => rfl) (fun r => chkH_keys (hc_dateforms_Read_3 r)) (fun r b blk h => (chkH_look (hc_dateforms_Read_3 r) b blk h).2) (fun r b h1 h2 => hasKeys_ok (hk_dateforms_Read_3 r) b h1 (by omega)) hv_dateforms_Read_3 (fun_dateforms_Read_3 n)

/-! circa/marks.Check -/
noncomputable def arg_marks_Check (a : Int) : List V := [.i .u8 a]
noncomputable def una_marks_Check (l : List V) : Option (Int) := match l with
  | [.i .u8 a0] => some a0
  | _ => none
theorem una_ok_marks_Check : ∀ l a, una_marks_Check l = some a → l = arg_marks_Check a := by
  intro l a h
  unfold una_marks_Check at h
  split at h
  · cases h; rfl
  · cases h
noncomputable def enc_marks_Check (r : Int) : V := .i .i64 r
noncomputable def unr_marks_Check (v : V) : Option (Int) := match v with
  | .i .i64 r0 => some r0
  | _ => none
theorem unr_ok_marks_Check : ∀ v r, unr_marks_Check v = some r → v = enc_marks_Check r := by
  intro v r h
  unfold unr_marks_Check at h
  split at h
  · cases h; rfl
  · cases h
noncomputable def e_marks_Check (n : Nat) : Ent := pureE 119 una_marks_Check (fun a => marks_Check n a) enc_marks_Check
noncomputable def t_marks_Check (l : List V) (_ : List (Nat × Blk)) : Bool := isS (una_marks_Check l)
noncomputable def Es_marks_Check (_n : Nat) : List Ent := []
theorem Es_ok_marks_Check (n : Nat) : ∀ x ∈ Es_marks_Check n, EntOK Tryz.prog x := by
  intro x hx
  simp [Es_marks_Check] at hx
noncomputable def Ls_marks_Check (_n : Nat) : List Sub := []
theorem subs_marks_Check (n : Nat) : SubOK Tryz.prog 5 (Ls_marks_Check n) (acOf Tryz.f119) := SubOK_of _ (by
  have e : subs (acOf Tryz.f119) = [] := by kernel_rfl
  rw [e]; intro p hp; cases hp)
theorem cert_marks_Check (n : Nat) (a0 : Int) : run Tryz.prog (Es_marks_Check n) (Ls_marks_Check n) Tryz.f119.ntmps (acOf Tryz.f119) ⟨argsT [.i .u8 a0] 0, [], 0, 0, 0, 0⟩ (finK Tryz.prog Tryz.f119.results.toList (retX unr_marks_Check)) = marks_Check n a0 := by kernel_rfl
theorem pure_marks_Check (n : Nat) : ∀ a r, marks_Check n a = some r → PureOK Tryz.prog 119 (arg_marks_Check a) (enc_marks_Check r) := fun a r h => pureX_ok unr_ok_marks_Check (Es_ok_marks_Check n) Tryz.func119 rfl (acOf_code _) (subs_marks_Check n) rfl ((cert_marks_Check n a).trans h)
theorem ok_marks_Check (n : Nat) : EntOK Tryz.prog (e_marks_Check n) := pureE_ok Tryz.call119 una_ok_marks_Check (fun _ => rfl) (pure_marks_Check n)

/-! circa/marks.All -/
noncomputable def arg_marks_All (a : List Int × Int) : List V := [.ai .u8 3 a.1, .i .i64 a.2]
noncomputable def una_marks_All (l : List V) : Option (List Int × Int) := match l with
  | [.ai .u8 3 a0, .i .i64 a1] => some (a0, a1)
  | _ => none
theorem una_ok_marks_All : ∀ l a, una_marks_All l = some a → l = arg_marks_All a := by
  intro l a h
  unfold una_marks_All at h
  split at h
  · cases h; rfl
  · cases h
noncomputable def enc_marks_All (r : Int) : V := .i .i64 r
noncomputable def unr_marks_All (v : V) : Option (Int) := match v with
  | .i .i64 r0 => some r0
  | _ => none
theorem unr_ok_marks_All : ∀ v r, unr_marks_All v = some r → v = enc_marks_All r := by
  intro v r h
  unfold unr_marks_All at h
  split at h
  · cases h; rfl
  · cases h
noncomputable def e_marks_All (n : Nat) : Ent := pureE 58 una_marks_All (fun a => marks_All n a.1 a.2) enc_marks_All
noncomputable def t_marks_All (l : List V) (_ : List (Nat × Blk)) : Bool := isS (una_marks_All l)
noncomputable def Es_marks_All (n : Nat) : List Ent := [e_marks_Check n]
theorem Es_ok_marks_All (n : Nat) : ∀ x ∈ Es_marks_All n, EntOK Tryz.prog x := by
  intro x hx
  simp only [Es_marks_All, List.mem_cons, List.not_mem_nil, or_false] at hx
  · rw [hx]; exact ok_marks_Check n
noncomputable def an_marks_All_l0 : Ann := ⟨[1, 13, 14], [], 1, []⟩
noncomputable def emb_marks_All_l0 (x : Int × List Int × Int) : St := ⟨[(1, some (.i .i64 x.1)), (13, some (.ai .u8 3 x.2.1)), (14, some (.i .i64 x.2.2))], [], 1, 0, 0, 0⟩
noncomputable def un_marks_All_l0 (s : St) : Option (Int × List Int × Int) := match s with
  | ⟨[(1, some (.i .i64 x0)), (13, some (.ai .u8 3 x1)), (14, some (.i .i64 x2))], [], 1, 0, 0, 0⟩ => some (x0, x1, x2)
  | _ => none
theorem un_ok_marks_All_l0 : ∀ s x, un_marks_All_l0 s = some x → s = emb_marks_All_l0 x := by
  intro s x h
  unfold un_marks_All_l0 at h
  split at h
  · cases h; rfl
  · cases h
noncomputable def ax_marks_All_l0 : Ex → Ann := fun ex => match ex with
  | .ret => ⟨[4], [], 1, []⟩
  | .exit 0 => ⟨[], [], 1, []⟩
  | _ => ⟨[], [], 0, []⟩
noncomputable def out_marks_All_l0 (y : Int ⊕ Unit) : Ex × St := (Sum.casesOn (motive := fun _ => Ex × St) y (fun a0 => (.ret, ⟨[(4, some (.i .i64 a0))], [], 1, 0, 0, 0⟩)) (fun b0 => (.exit 0, ⟨[], [], 1, 0, 0, 0⟩)))
noncomputable def outK_marks_All_l0 (α : Type) (y : Int ⊕ Unit) (k : Ex → St → Option α) : Option α := (Sum.casesOn (motive := fun _ => Option α) y (fun a0 => (k (.ret) ⟨[(4, some (.i .i64 a0))], [], 1, 0, 0, 0⟩)) (fun b0 => (k (.exit 0) ⟨[], [], 1, 0, 0, 0⟩)))
theorem outK_ok_marks_All_l0 : ∀ α y k, outK_marks_All_l0 α y k = k (out_marks_All_l0 y).1 (out_marks_All_l0 y).2 := by
  intro α y k
  rcases y with y | y <;> rfl
noncomputable def ux_marks_All_l0 (ex : Ex) (s : St) : Option (Int ⊕ Unit) := match ex, s with
  | .ret, ⟨[(4, some (.i .i64 y0))], [], 1, 0, 0, 0⟩ => some (.inl y0)
  | .exit 0, ⟨[], [], 1, 0, 0, 0⟩ => some (.inr ())
  | _, _ => none
theorem ux_ok_marks_All_l0 : ∀ ex s y, ux_marks_All_l0 ex s = some y → (ex, s) = out_marks_All_l0 y := by
  intro ex s y h
  unfold ux_marks_All_l0 at h
  split at h
  · cases h; rfl
  · cases h; rfl
  · cases h
noncomputable def Ls_marks_All (n : Nat) : List Sub := [subE 0 an_marks_All_l0 un_marks_All_l0 (fun x => iterL (marks_All_l0 n) n x) outK_marks_All_l0]
noncomputable def sac_marks_All_l0 : AC := getS (subs (acOf Tryz.f58)) 0
noncomputable def ac_marks_All_l0 : AC := AC.body sac_marks_All_l0
theorem subs_marks_All_l0 (n : Nat) : SubOK Tryz.prog 31 (Ls_marks_All n) ac_marks_All_l0 := SubOK_of _ (by
  have e : subs ac_marks_All_l0 = [] := by kernel_rfl
  rw [e]; intro p hp; cases hp)
theorem body_marks_All_l0 (n : Nat) : ∀ x, run Tryz.prog (Es_marks_All n) (Ls_marks_All n) 31 ac_marks_All_l0 (emb_marks_All_l0 x) (roundK an_marks_All_l0 un_marks_All_l0 ax_marks_All_l0 ux_marks_All_l0) = marks_All_l0 n x := fun _ => by kernel_rfl
theorem sub1_marks_All_l0 (n : Nat) : ∀ (α : Type) (s : St) (k : Ex → St → Option α) (z : α), (subE 0 an_marks_All_l0 un_marks_All_l0 (fun x => iterL (marks_All_l0 n) n x) outK_marks_All_l0).e α s k = some z → SemC Tryz.prog 31 (sac_marks_All_l0).code s fun ex s' => k ex s' = some z := by
  intro α s k z h
  have e : sac_marks_All_l0 = .loop ac_marks_All_l0 := by kernel_rfl
  rw [e]
  exact subE_ok (m := 0) (f := fun x => iterL (marks_All_l0 n) n x) (out := out_marks_All_l0) outK_ok_marks_All_l0 un_ok_marks_All_l0 (fun x y hy => loop_ok (Es_ok_marks_All n) (subs_marks_All_l0 n) un_ok_marks_All_l0 ux_ok_marks_All_l0 (body_marks_All_l0 n) n x y hy) h
theorem sub_marks_All_l0 (n : Nat) : SubSt Tryz.prog 31 (Ls_marks_All n) 0 sac_marks_All_l0 := fun α s k z => sub1_marks_All_l0 n α s k z
theorem subs_marks_All (n : Nat) : SubOK Tryz.prog 31 (Ls_marks_All n) (acOf Tryz.f58) := SubOK_of _ (by
  have e : subs (acOf Tryz.f58) = [(0, sac_marks_All_l0)] := by kernel_rfl
  rw [e]; intro p hp
  simp only [List.mem_cons, List.not_mem_nil, or_false] at hp
  · rw [hp]; exact sub_marks_All_l0 n
  )
theorem cert_marks_All (n : Nat) (a0 : List Int) (a1 : Int) : run Tryz.prog (Es_marks_All n) (Ls_marks_All n) Tryz.f58.ntmps (acOf Tryz.f58) ⟨argsT [.ai .u8 3 a0, .i .i64 a1] 0, [], 0, 0, 0, 0⟩ (finK Tryz.prog Tryz.f58.results.toList (retX unr_marks_All)) = marks_All n a0 a1 := by kernel_rfl
theorem pure_marks_All (n : Nat) : ∀ a r, marks_All n a.1 a.2 = some r → PureOK Tryz.prog 58 (arg_marks_All a) (enc_marks_All r) := fun a r h => pureX_ok unr_ok_marks_All (Es_ok_marks_All n) Tryz.func58 rfl (acOf_code _) (subs_marks_All n) rfl ((cert_marks_All n a.1 a.2).trans h)
theorem ok_marks_All (n : Nat) : EntOK Tryz.prog (e_marks_All n) := pureE_ok Tryz.call58 una_ok_marks_All (fun _ => rfl) (pure_marks_All n)

/-! circa/marks.Spread$1 -/
noncomputable def arg_marks_Spread_1 (a : Int × List Int × List Int × Int) : List V := [.i .i64 a.1, .p 2 0, .p 0 0, .p 1 0]
noncomputable def H0_marks_Spread_1 (a : Int × List Int × List Int × Int) : List (Nat × Blk) := [(0, .ints .u8 3 a.2.1), (1, .ints .u8 3 a.2.2.1), (2, .cells [.i .u8 a.2.2.2])]
noncomputable def una_marks_Spread_1 (l : List V) (H : List (Nat × Blk)) : Option ((Int × List Int × List Int × Int) × List Nat) := match l with
  | [.i .i64 a0, .p b2 0, .p b0 0, .p b1 0] => (match Abs.look H b2 with
    | some (.cells [.i .u8 a3]) => (match Abs.look H b0 with
    | some (.ints .u8 3 a1) => (match Abs.look H b1 with
    | some (.ints .u8 3 a2) => (cond (Abs.distinct [b0, b1, b2] && true) (some ((a0, a1, a2, a3), [b0, b1, b2])) none)
    | _ => none)
    | _ => none)
    | _ => none)
  | _ => none
theorem una_ok_marks_Spread_1 : ∀ l H a ρ, una_marks_Spread_1 l H = some (a, ρ) → ρ.length = 3 ∧ ρ.Nodup ∧ l = V.rens ρ (arg_marks_Spread_1 a) ∧ ∀ b blk, Abs.look (H0_marks_Spread_1 a) b = some blk → Abs.look H (getN ρ b) = some (blk.ren ρ) := by
  intro l H a ρ h
  unfold una_marks_Spread_1 at h
  split at h
  · split at h
    · rename_i e2
      split at h
      · rename_i e0
        split at h
        · rename_i e1
          obtain ⟨hd, h⟩ := cond_some h
          simp only [Bool.and_eq_true] at hd
          obtain ⟨hd, _⟩ := hd
          cases h
          exact ⟨rfl, distinct_ok hd, rfl, eachH_look ⟨e0, e1, e2, trivial⟩⟩
        · cases h
      · cases h
    · cases h
  · cases h
noncomputable def out_marks_Spread_1 (r : (Int × Int)) : FOut := (⟨false, .i .u8 r.1, [(2, .cells [.i .u8 r.2])], []⟩ : FOut)
noncomputable def outK_marks_Spread_1 (α : Type) (r : (Int × Int)) (k : FOut → Option α) : Option α := (k ⟨false, .i .u8 r.1, [(2, .cells [.i .u8 r.2])], []⟩)
theorem outK_ok_marks_Spread_1 : ∀ α r k, outK_marks_Spread_1 α r k = k (out_marks_Spread_1 r) := by
  intro α r k
  rfl
noncomputable def unr_marks_Spread_1 (pan : Bool) (v : V) (H : List (Nat × Blk)) (nw : List Nat) : Option ((Int × Int)) := match pan, v, H, nw with
  | false, .i .u8 r0, [(2, .cells [.i .u8 r1])], [] => some (r0, r1)
  | _, _, _, _ => none
theorem unr_ok_marks_Spread_1 : ∀ pan v H nw r, unr_marks_Spread_1 pan v H nw = some r → (out_marks_Spread_1 r).pan = pan ∧ (out_marks_Spread_1 r).news = nw ∧ v = V.ren (upTo 0 3 ++ (out_marks_Spread_1 r).news) (out_marks_Spread_1 r).val ∧ H = renH (upTo 0 3 ++ (out_marks_Spread_1 r).news) (out_marks_Spread_1 r).H := by
  intro pan v H nw r h
  unfold unr_marks_Spread_1 at h
  split at h
  · cases h; exact ⟨rfl, rfl, rfl, rfl⟩
  · cases h
theorem hv_marks_Spread_1 : ∀ r, V.lt (3 + (out_marks_Spread_1 r).news.length) (out_marks_Spread_1 r).val = true := fun r => (by rfl)
theorem hc_marks_Spread_1 : ∀ r, chkH (3 + (out_marks_Spread_1 r).news.length) (out_marks_Spread_1 r).H = true := fun r => (by rfl)
theorem hk_marks_Spread_1 : ∀ r, hasKeys (out_marks_Spread_1 r).H 2 (1 + (out_marks_Spread_1 r).news.length) = true := fun r => (by rfl)
noncomputable def e_marks_Spread_1 (n : Nat) : Ent := funE 164 3 una_marks_Spread_1 (fun a => marks_Spread_1 n a.1 a.2.1 a.2.2.1 a.2.2.2) outK_marks_Spread_1
noncomputable def t_marks_Spread_1 (l : List V) (H : List (Nat × Blk)) : Bool := isS (una_marks_Spread_1 l H)
noncomputable def Es_marks_Spread_1 (_n : Nat) : List Ent := []
theorem Es_ok_marks_Spread_1 (n : Nat) : ∀ x ∈ Es_marks_Spread_1 n, EntOK Tryz.prog x := by
  intro x hx
  simp [Es_marks_Spread_1] at hx
noncomputable def Ls_marks_Spread_1 (_n : Nat) : List Sub := []
theorem subs_marks_Spread_1 (n : Nat) : SubOK Tryz.prog 16 (Ls_marks_Spread_1 n) (acOf Tryz.f164) := SubOK_of _ (by
  have e : subs (acOf Tryz.f164) = [] := by kernel_rfl
  rw [e]; intro p hp; cases hp)
theorem cert_marks_Spread_1 (n : Nat) (a0 : Int) (a1 : List Int) (a2 : List Int) (a3 : Int) : run Tryz.prog (Es_marks_Spread_1 n) (Ls_marks_Spread_1 n) Tryz.f164.ntmps (acOf Tryz.f164) ⟨argsT [.i .i64 a0, .p 2 0, .p 0 0, .p 1 0] 0, [(0, .ints .u8 3 a1), (1, .ints .u8 3 a2), (2, .cells [.i .u8 a3])], 3, 3, 2, 3⟩ (finK Tryz.prog Tryz.f164.results.toList (funX [2] 3 2 3 unr_marks_Spread_1)) = marks_Spread_1 n a0 a1 a2 a3 := by kernel_rfl
theorem fun_marks_Spread_1 (n : Nat) : ∀ a r, marks_Spread_1 n a.1 a.2.1 a.2.2.1 a.2.2.2 = some r → FunOK Tryz.prog 164 (arg_marks_Spread_1 a) (H0_marks_Spread_1 a) 3 2 3 (out_marks_Spread_1 r) := fun a r h => funX_ok (ws := [2]) unr_ok_marks_Spread_1 hv_marks_Spread_1 (fun r b blk hl => (chkH_look (hc_marks_Spread_1 r) b blk hl).2) (fun r => chkH_keys (hc_marks_Spread_1 r)) (by decide) (Es_ok_marks_Spread_1 n) Tryz.func164 rfl (acOf_code _) (subs_marks_Spread_1 n) rfl rfl ((cert_marks_Spread_1 n a.1 a.2.1 a.2.2.1 a.2.2.2).trans h)
theorem ok_marks_Spread_1 (n : Nat) : EntOK Tryz.prog (e_marks_Spread_1 n) := funE_ok (m := 3) (ro := 2) (rb := 3) (out := out_marks_Spread_1) (arg := arg_marks_Spread_1) (H0 := H0_marks_Spread_1) Tryz.call164 (by decide) (by decide) outK_ok_marks_Spread_1 una_ok_marks_Spread_1 (fun _ => rfl) (fun a => chkH_look (m := 3) (H := H0_marks_Spread_1 a) rfl) (fun _ => rfl) (fun r => chkH_keys (hc_marks_Spread_1 r)) (fun r b blk h => (chkH_look (hc_marks_Spread_1 r) b blk h).2) (fun r b h1 h2 => hasKeys_ok (hk_marks_Spread_1 r) b h1 (by omega)) hv_marks_Spread_1 (fun_marks_Spread_1 n)

/-! circa/marks.Spread -/
noncomputable def arg_marks_Spread (a : List Int × List Int × Int) : List V := [.ai .u8 3 a.1, .ai .u8 3 a.2.1, .i .i64 a.2.2]
noncomputable def una_marks_Spread (l : List V) : Option (List Int × List Int × Int) := match l with
  | [.ai .u8 3 a0, .ai .u8 3 a1, .i .i64 a2] => some (a0, a1, a2)
  | _ => none
theorem una_ok_marks_Spread : ∀ l a, una_marks_Spread l = some a → l = arg_marks_Spread a := by
  intro l a h
  unfold una_marks_Spread at h
  split at h
  · cases h; rfl
  · cases h
noncomputable def enc_marks_Spread (r : List Int × Int) : V := .tp [.ai .u8 3 r.1, .i .i64 r.2]
noncomputable def unr_marks_Spread (v : V) : Option (List Int × Int) := match v with
  | .tp [.ai .u8 3 r0, .i .i64 r1] => some (r0, r1)
  | _ => none
theorem unr_ok_marks_Spread : ∀ v r, unr_marks_Spread v = some r → v = enc_marks_Spread r := by
  intro v r h
  unfold unr_marks_Spread at h
  split at h
  · cases h; rfl
  · cases h
noncomputable def e_marks_Spread (n : Nat) : Ent := pureE 111 una_marks_Spread (fun a => marks_Spread n a.1 a.2.1 a.2.2) enc_marks_Spread
noncomputable def t_marks_Spread (l : List V) (_ : List (Nat × Blk)) : Bool := isS (una_marks_Spread l)
noncomputable def Es_marks_Spread (n : Nat) : List Ent := [e_marks_All n, e_marks_Spread_1 n]
theorem Es_ok_marks_Spread (n : Nat) : ∀ x ∈ Es_marks_Spread n, EntOK Tryz.prog x := by
  intro x hx
  simp only [Es_marks_Spread, List.mem_cons, List.not_mem_nil, or_false] at hx
  rcases hx with hx | hx
  · rw [hx]; exact ok_marks_All n
  · rw [hx]; exact ok_marks_Spread_1 n
noncomputable def an_marks_Spread_l1 : Ann := ⟨[6, 12, 13, 14], [0, 1, 2, 5, 6], 7, []⟩
noncomputable def emb_marks_Spread_l1 (x : Int × List Int × List Int × List Int × Int × List Int) : St := ⟨[(6, some (.p 2 0)), (12, some (.fn 164 [.p 5 0, .p 1 0, .p 0 0])), (13, some (.p 6 0)), (14, some (.i .i64 x.1))], [(0, .ints .u8 3 x.2.1), (1, .ints .u8 3 x.2.2.1), (2, .ints .u8 3 x.2.2.2.1), (5, .cells [.i .u8 x.2.2.2.2.1]), (6, .ints .u8 3 x.2.2.2.2.2)], 7, 0, 0, 0⟩
noncomputable def un_marks_Spread_l1 (s : St) : Option (Int × List Int × List Int × List Int × Int × List Int) := match s with
  | ⟨[(6, some (.p 2 0)), (12, some (.fn 164 [.p 5 0, .p 1 0, .p 0 0])), (13, some (.p 6 0)), (14, some (.i .i64 x0))], [(0, .ints .u8 3 x1), (1, .ints .u8 3 x2), (2, .ints .u8 3 x3), (5, .cells [.i .u8 x4]), (6, .ints .u8 3 x5)], 7, 0, 0, 0⟩ => some (x0, x1, x2, x3, x4, x5)
  | _ => none
theorem un_ok_marks_Spread_l1 : ∀ s x, un_marks_Spread_l1 s = some x → s = emb_marks_Spread_l1 x := by
  intro s x h
  unfold un_marks_Spread_l1 at h
  split at h
  · cases h; rfl
  · cases h
noncomputable def ax_marks_Spread_l1 : Ex → Ann := fun ex => match ex with
  | .exit 2 => ⟨[6, 13], [2, 6], 7, []⟩
  | _ => ⟨[], [], 0, []⟩
noncomputable def out_marks_Spread_l1 (y : (List Int × List Int)) : Ex × St := (.exit 2, ⟨[(6, some (.p 2 0)), (13, some (.p 6 0))], [(2, .ints .u8 3 y.1), (6, .ints .u8 3 y.2)], 7, 0, 0, 0⟩)
noncomputable def outK_marks_Spread_l1 (α : Type) (y : (List Int × List Int)) (k : Ex → St → Option α) : Option α := (k (.exit 2) ⟨[(6, some (.p 2 0)), (13, some (.p 6 0))], [(2, .ints .u8 3 y.1), (6, .ints .u8 3 y.2)], 7, 0, 0, 0⟩)
theorem outK_ok_marks_Spread_l1 : ∀ α y k, outK_marks_Spread_l1 α y k = k (out_marks_Spread_l1 y).1 (out_marks_Spread_l1 y).2 := by
  intro α y k
  rfl
noncomputable def ux_marks_Spread_l1 (ex : Ex) (s : St) : Option ((List Int × List Int)) := match ex, s with
  | .exit 2, ⟨[(6, some (.p 2 0)), (13, some (.p 6 0))], [(2, .ints .u8 3 y0), (6, .ints .u8 3 y1)], 7, 0, 0, 0⟩ => some (y0, y1)
  | _, _ => none
theorem ux_ok_marks_Spread_l1 : ∀ ex s y, ux_marks_Spread_l1 ex s = some y → (ex, s) = out_marks_Spread_l1 y := by
  intro ex s y h
  unfold ux_marks_Spread_l1 at h
  split at h
  · cases h; rfl
  · cases h
noncomputable def Ls_marks_Spread (n : Nat) : List Sub := [subE 1 an_marks_Spread_l1 un_marks_Spread_l1 (fun x => iterL (marks_Spread_l1 n) n x) outK_marks_Spread_l1]
noncomputable def sac_marks_Spread_l1 : AC := getS (subs (acU [0] Tryz.f111)) 1
noncomputable def ac_marks_Spread_l1 : AC := AC.body sac_marks_Spread_l1
theorem subs_marks_Spread_l1 (n : Nat) : SubOK Tryz.prog 42 (Ls_marks_Spread n) ac_marks_Spread_l1 := SubOK_of _ (by
  have e : subs ac_marks_Spread_l1 = [] := by kernel_rfl
  rw [e]; intro p hp; cases hp)
theorem body_marks_Spread_l1 (n : Nat) : ∀ x, run Tryz.prog (Es_marks_Spread n) (Ls_marks_Spread n) 42 ac_marks_Spread_l1 (emb_marks_Spread_l1 x) (roundK an_marks_Spread_l1 un_marks_Spread_l1 ax_marks_Spread_l1 ux_marks_Spread_l1) = marks_Spread_l1 n x := fun _ => by kernel_rfl
theorem sub1_marks_Spread_l1 (n : Nat) : ∀ (α : Type) (s : St) (k : Ex → St → Option α) (z : α), (subE 1 an_marks_Spread_l1 un_marks_Spread_l1 (fun x => iterL (marks_Spread_l1 n) n x) outK_marks_Spread_l1).e α s k = some z → SemC Tryz.prog 42 (sac_marks_Spread_l1).code s fun ex s' => k ex s' = some z := by
  intro α s k z h
  have e : sac_marks_Spread_l1 = .loop ac_marks_Spread_l1 := by kernel_rfl
  rw [e]
  exact subE_ok (m := 1) (f := fun x => iterL (marks_Spread_l1 n) n x) (out := out_marks_Spread_l1) outK_ok_marks_Spread_l1 un_ok_marks_Spread_l1 (fun x y hy => loop_ok (Es_ok_marks_Spread n) (subs_marks_Spread_l1 n) un_ok_marks_Spread_l1 ux_ok_marks_Spread_l1 (body_marks_Spread_l1 n) n x y hy) h
theorem sub_marks_Spread_l1 (n : Nat) : SubSt Tryz.prog 42 (Ls_marks_Spread n) 1 sac_marks_Spread_l1 := fun α s k z => sub1_marks_Spread_l1 n α s k z
theorem subs_marks_Spread (n : Nat) : SubOK Tryz.prog 42 (Ls_marks_Spread n) (acU [0] Tryz.f111) := SubOK_of _ (by
  have e : subs (acU [0] Tryz.f111) = [(1, sac_marks_Spread_l1)] := by kernel_rfl
  rw [e]; intro p hp
  simp only [List.mem_cons, List.not_mem_nil, or_false] at hp
  · rw [hp]; exact sub_marks_Spread_l1 n
  )
theorem cert_marks_Spread (n : Nat) (a0 : List Int) (a1 : List Int) (a2 : Int) : run Tryz.prog (Es_marks_Spread n) (Ls_marks_Spread n) Tryz.f111.ntmps (acU [0] Tryz.f111) ⟨argsT [.ai .u8 3 a0, .ai .u8 3 a1, .i .i64 a2] 0, [], 0, 0, 0, 0⟩ (finK Tryz.prog Tryz.f111.results.toList (retX unr_marks_Spread)) = marks_Spread n a0 a1 a2 := by kernel_rfl
theorem pure_marks_Spread (n : Nat) : ∀ a r, marks_Spread n a.1 a.2.1 a.2.2 = some r → PureOK Tryz.prog 111 (arg_marks_Spread a) (enc_marks_Spread r) := fun a r h => pureX_ok unr_ok_marks_Spread (Es_ok_marks_Spread n) Tryz.func111 rfl (acU_code _ _) (subs_marks_Spread n) rfl ((cert_marks_Spread n a.1 a.2.1 a.2.2).trans h)
theorem ok_marks_Spread (n : Nat) : EntOK Tryz.prog (e_marks_Spread n) := pureE_ok Tryz.call111 una_ok_marks_Spread (fun _ => rfl) (pure_marks_Spread n)

/-! circa/dateforms.Read$2 -/
noncomputable def arg_dateforms_Read_2 (a : List UInt8 × Int) : List V := [.p 0 0]
noncomputable def H0_dateforms_Read_2 (a : List UInt8 × Int) : List (Nat × Blk) := [(0, .cells [.fn 1000105 [.p 1 0]]), (1, .cells [.s a.1, .i .i64 a.2])]
noncomputable def una_dateforms_Read_2 (l : List V) (H : List (Nat × Blk)) : Option ((List UInt8 × Int) × List Nat) := match l with
  | [.p b0 0] => (match Abs.look H b0 with
    | some (.cells [.fn 1000105 [.p b1 0]]) => (match Abs.look H b1 with
    | some (.cells [.s a0, .i .i64 a1]) => (cond (Abs.distinct [b0, b1] && true) (some ((a0, a1), [b0, b1])) none)
    | _ => none)
    | _ => none)
  | _ => none
theorem una_ok_dateforms_Read_2 : ∀ l H a ρ, una_dateforms_Read_2 l H = some (a, ρ) → ρ.length = 2 ∧ ρ.Nodup ∧ l = V.rens ρ (arg_dateforms_Read_2 a) ∧ ∀ b blk, Abs.look (H0_dateforms_Read_2 a) b = some blk → Abs.look H (getN ρ b) = some (blk.ren ρ) := by
  intro l H a ρ h
  unfold una_dateforms_Read_2 at h
  split at h
  · split at h
    · rename_i e0
      split at h
      · rename_i e1
        obtain ⟨hd, h⟩ := cond_some h
        simp only [Bool.and_eq_true] at hd
        obtain ⟨hd, _⟩ := hd
        cases h
        exact ⟨rfl, distinct_ok hd, rfl, eachH_look ⟨e0, e1, trivial⟩⟩
      · cases h
    · cases h
  · cases h
noncomputable def out_dateforms_Read_2 (r : (Int × Int × List UInt8 × Int) ⊕ (List UInt8 × List UInt8 × Int)) : FOut := (Sum.casesOn (motive := fun _ => FOut) r (fun a0 => (⟨true, .it 125 (.ag [.i .i64 a0.1, .i .i64 a0.2.1]), [(1, .cells [.s a0.2.2.1, .i .i64 a0.2.2.2])], []⟩ : FOut)) (fun b0 => (⟨false, .s b0.1, [(1, .cells [.s b0.2.1, .i .i64 b0.2.2])], []⟩ : FOut)))
noncomputable def outK_dateforms_Read_2 (α : Type) (r : (Int × Int × List UInt8 × Int) ⊕ (List UInt8 × List UInt8 × Int)) (k : FOut → Option α) : Option α := (Sum.casesOn (motive := fun _ => Option α) r (fun a0 => (k ⟨true, .it 125 (.ag [.i .i64 a0.1, .i .i64 a0.2.1]), [(1, .cells [.s a0.2.2.1, .i .i64 a0.2.2.2])], []⟩)) (fun b0 => (k ⟨false, .s b0.1, [(1, .cells [.s b0.2.1, .i .i64 b0.2.2])], []⟩)))
theorem outK_ok_dateforms_Read_2 : ∀ α r k, outK_dateforms_Read_2 α r k = k (out_dateforms_Read_2 r) := by
  intro α r k
  rcases r with r | r <;> rfl
noncomputable def unr_dateforms_Read_2 (pan : Bool) (v : V) (H : List (Nat × Blk)) (nw : List Nat) : Option ((Int × Int × List UInt8 × Int) ⊕ (List UInt8 × List UInt8 × Int)) := match pan, v, H, nw with
  | true, .it 125 (.ag [.i .i64 r0, .i .i64 r1]), [(1, .cells [.s r2, .i .i64 r3])], [] => some (.inl (r0, r1, r2, r3))
  | false, .s r0, [(1, .cells [.s r1, .i .i64 r2])], [] => some (.inr (r0, r1, r2))
  | _, _, _, _ => none
theorem unr_ok_dateforms_Read_2 : ∀ pan v H nw r, unr_dateforms_Read_2 pan v H nw = some r → (out_dateforms_Read_2 r).pan = pan ∧ (out_dateforms_Read_2 r).news = nw ∧ v = V.ren (upTo 0 2 ++ (out_dateforms_Read_2 r).news) (out_dateforms_Read_2 r).val ∧ H = renH (upTo 0 2 ++ (out_dateforms_Read_2 r).news) (out_dateforms_Read_2 r).H := by
  intro pan v H nw r h
  unfold unr_dateforms_Read_2 at h
  split at h
  · cases h; exact ⟨rfl, rfl, rfl, rfl⟩
  · cases h; exact ⟨rfl, rfl, rfl, rfl⟩
  · cases h
theorem hv_dateforms_Read_2 : ∀ r, V.lt (2 + (out_dateforms_Read_2 r).news.length) (out_dateforms_Read_2 r).val = true := fun r => (by rcases r with r | r <;> rfl)
theorem hc_dateforms_Read_2 : ∀ r, chkH (2 + (out_dateforms_Read_2 r).news.length) (out_dateforms_Read_2 r).H = true := fun r => (by rcases r with r | r <;> rfl)
theorem hk_dateforms_Read_2 : ∀ r, hasKeys (out_dateforms_Read_2 r).H 1 (1 + (out_dateforms_Read_2 r).news.length) = true := fun r => (by rcases r with r | r <;> rfl)
noncomputable def e_dateforms_Read_2 (n : Nat) : Ent := funE 106 2 una_dateforms_Read_2 (fun a => dateforms_Read_2 n a.1 a.2) outK_dateforms_Read_2
noncomputable def t_dateforms_Read_2 (l : List V) (H : List (Nat × Blk)) : Bool := isS (una_dateforms_Read_2 l H)
noncomputable def Es_dateforms_Read_2 (n : Nat) : List Ent := [e_cursors_Cursor_Some n]
theorem Es_ok_dateforms_Read_2 (n : Nat) : ∀ x ∈ Es_dateforms_Read_2 n, EntOK Tryz.prog x := by
  intro x hx
  simp only [Es_dateforms_Read_2, List.mem_cons, List.not_mem_nil, or_false] at hx
  · rw [hx]; exact ok_cursors_Cursor_Some n
noncomputable def Ls_dateforms_Read_2 (_n : Nat) : List Sub := []
theorem subs_dateforms_Read_2 (n : Nat) : SubOK Tryz.prog 4 (Ls_dateforms_Read_2 n) (acOf Tryz.f106) := SubOK_of _ (by
  have e : subs (acOf Tryz.f106) = [] := by kernel_rfl
  rw [e]; intro p hp; cases hp)
theorem cert_dateforms_Read_2 (n : Nat) (a0 : List UInt8) (a1 : Int) : run Tryz.prog (Es_dateforms_Read_2 n) (Ls_dateforms_Read_2 n) Tryz.f106.ntmps (acOf Tryz.f106) ⟨argsT [.p 0 0] 0, [(0, .cells [.fn 1000105 [.p 1 0]]), (1, .cells [.s a0, .i .i64 a1])], 2, 2, 1, 2⟩ (finK Tryz.prog Tryz.f106.results.toList (funX [1] 2 1 2 unr_dateforms_Read_2)) = dateforms_Read_2 n a0 a1 := by kernel_rfl
theorem fun_dateforms_Read_2 (n : Nat) : ∀ a r, dateforms_Read_2 n a.1 a.2 = some r → FunOK Tryz.prog 106 (arg_dateforms_Read_2 a) (H0_dateforms_Read_2 a) 2 1 2 (out_dateforms_Read_2 r) := fun a r h => funX_ok (ws := [1]) unr_ok_dateforms_Read_2 hv_dateforms_Read_2 (fun r b blk hl => (chkH_look (hc_dateforms_Read_2 r) b blk hl).2) (fun r => chkH_keys (hc_dateforms_Read_2 r)) (by decide) (Es_ok_dateforms_Read_2 n) Tryz.func106 rfl (acOf_code _) (subs_dateforms_Read_2 n) rfl rfl ((cert_dateforms_Read_2 n a.1 a.2).trans h)
theorem ok_dateforms_Read_2 (n : Nat) : EntOK Tryz.prog (e_dateforms_Read_2 n) := funE_ok (m := 2) (ro := 1) (rb := 2) (out := out_dateforms_Read_2) (arg := arg_dateforms_Read_2) (H0 := H0_dateforms_Read_2) Tryz.call106 (by decide) (by decide) outK_ok_dateforms_Read_2 una_ok_dateforms_Read_2 (fun _ => rfl) (fun a => chkH_look (m := 2) (H := H0_dateforms_Read_2 a) rfl) (fun _ => rfl) (fun r => chkH_keys (hc_dateforms_Read_2 r)) (fun r b blk h => (chkH_look (hc_dateforms_Read_2 r) b blk h).2) (fun r b h1 h2 => hasKeys_ok (hk_dateforms_Read_2 r) b h1 (by omega)) hv_dateforms_Read_2 (fun_dateforms_Read_2 n)

/-! circa/dateforms.Read$4 -/
noncomputable def arg_dateforms_Read_4 (a : Bool × Bool × List UInt8 × Int × Int × List UInt8 × List UInt8 × Int × Int × Int × List UInt8 × Int) : List V := [.p 0 0, .p 2 0]
noncomputable def H0_dateforms_Read_4 (a : Bool × Bool × List UInt8 × Int × Int × List UInt8 × List UInt8 × Int × Int × Int × List UInt8 × Int) : List (Nat × Blk) := [(0, .cells [.fn 106 [.p 1 0]]), (1, .cells [.fn 1000105 [.p 3 0]]), (2, .cells [.b a.1, .b a.2.1, .s a.2.2.1, .i .i64 a.2.2.2.1, .i .i64 a.2.2.2.2.1, .s a.2.2.2.2.2.1, .s a.2.2.2.2.2.2.1, .i .u8 a.2.2.2.2.2.2.2.1, .i .u8 a.2.2.2.2.2.2.2.2.1, .i .u8 a.2.2.2.2.2.2.2.2.2.1]), (3, .cells [.s a.2.2.2.2.2.2.2.2.2.2.1, .i .i64 a.2.2.2.2.2.2.2.2.2.2.2])]
noncomputable def una_dateforms_Read_4 (l : List V) (H : List (Nat × Blk)) : Option ((Bool × Bool × List UInt8 × Int × Int × List UInt8 × List UInt8 × Int × Int × Int × List UInt8 × Int) × List Nat) := match l with
  | [.p b0 0, .p b2 0] => (match Abs.look H b0 with
    | some (.cells [.fn 106 [.p b1 0]]) => (match Abs.look H b2 with
    | some (.cells [.b a0, .b a1, .s a2, .i .i64 a3, .i .i64 a4, .s a5, .s a6, .i .u8 a7, .i .u8 a8, .i .u8 a9]) => (match Abs.look H b1 with
    | some (.cells [.fn 1000105 [.p b3 0]]) => (match Abs.look H b3 with
    | some (.cells [.s a10, .i .i64 a11]) => (cond (Abs.distinct [b0, b1, b2, b3] && true) (some ((a0, a1, a2, a3, a4, a5, a6, a7, a8, a9, a10, a11), [b0, b1, b2, b3])) none)
    | _ => none)
    | _ => none)
    | _ => none)
    | _ => none)
  | _ => none
theorem una_ok_dateforms_Read_4 : ∀ l H a ρ, una_dateforms_Read_4 l H = some (a, ρ) → ρ.length = 4 ∧ ρ.Nodup ∧ l = V.rens ρ (arg_dateforms_Read_4 a) ∧ ∀ b blk, Abs.look (H0_dateforms_Read_4 a) b = some blk → Abs.look H (getN ρ b) = some (blk.ren ρ) := by
  intro l H a ρ h
  unfold una_dateforms_Read_4 at h
  split at h
  · split at h
    · rename_i e0
      split at h
      · rename_i e2
        split at h
        · rename_i e1
          split at h
          · rename_i e3
            obtain ⟨hd, h⟩ := cond_some h
            simp only [Bool.and_eq_true] at hd
            obtain ⟨hd, _⟩ := hd
            cases h
            exact ⟨rfl, distinct_ok hd, rfl, eachH_look ⟨e0, e1, e2, e3, trivial⟩⟩
          · cases h
        · cases h
      · cases h
    · cases h
  · cases h
noncomputable def out_dateforms_Read_4 (r : (Int × Int × Bool × Bool × List UInt8 × Int × Int × List UInt8 × List UInt8 × Int × Int × Int × List UInt8 × Int) ⊕ (Bool × Bool × List UInt8 × Int × Int × List UInt8 × List UInt8 × Int × Int × Int × List UInt8 × Int)) : FOut := (Sum.casesOn (motive := fun _ => FOut) r (fun a0 => (⟨true, .it 125 (.ag [.i .i64 a0.1, .i .i64 a0.2.1]), [(2, .cells [.b a0.2.2.1, .b a0.2.2.2.1, .s a0.2.2.2.2.1, .i .i64 a0.2.2.2.2.2.1, .i .i64 a0.2.2.2.2.2.2.1, .s a0.2.2.2.2.2.2.2.1, .s a0.2.2.2.2.2.2.2.2.1, .i .u8 a0.2.2.2.2.2.2.2.2.2.1, .i .u8 a0.2.2.2.2.2.2.2.2.2.2.1, .i .u8 a0.2.2.2.2.2.2.2.2.2.2.2.1]), (3, .cells [.s a0.2.2.2.2.2.2.2.2.2.2.2.2.1, .i .i64 a0.2.2.2.2.2.2.2.2.2.2.2.2.2])], []⟩ : FOut)) (fun b0 => (⟨false, .tp [], [(2, .cells [.b b0.1, .b b0.2.1, .s b0.2.2.1, .i .i64 b0.2.2.2.1, .i .i64 b0.2.2.2.2.1, .s b0.2.2.2.2.2.1, .s b0.2.2.2.2.2.2.1, .i .u8 b0.2.2.2.2.2.2.2.1, .i .u8 b0.2.2.2.2.2.2.2.2.1, .i .u8 b0.2.2.2.2.2.2.2.2.2.1]), (3, .cells [.s b0.2.2.2.2.2.2.2.2.2.2.1, .i .i64 b0.2.2.2.2.2.2.2.2.2.2.2])], []⟩ : FOut)))
noncomputable def outK_dateforms_Read_4 (α : Type) (r : (Int × Int × Bool × Bool × List UInt8 × Int × Int × List UInt8 × List UInt8 × Int × Int × Int × List UInt8 × Int) ⊕ (Bool × Bool × List UInt8 × Int × Int × List UInt8 × List UInt8 × Int × Int × Int × List UInt8 × Int)) (k : FOut → Option α) : Option α := (Sum.casesOn (motive := fun _ => Option α) r (fun a0 => (k ⟨true, .it 125 (.ag [.i .i64 a0.1, .i .i64 a0.2.1]), [(2, .cells [.b a0.2.2.1, .b a0.2.2.2.1, .s a0.2.2.2.2.1, .i .i64 a0.2.2.2.2.2.1, .i .i64 a0.2.2.2.2.2.2.1, .s a0.2.2.2.2.2.2.2.1, .s a0.2.2.2.2.2.2.2.2.1, .i .u8 a0.2.2.2.2.2.2.2.2.2.1, .i .u8 a0.2.2.2.2.2.2.2.2.2.2.1, .i .u8 a0.2.2.2.2.2.2.2.2.2.2.2.1]), (3, .cells [.s a0.2.2.2.2.2.2.2.2.2.2.2.2.1, .i .i64 a0.2.2.2.2.2.2.2.2.2.2.2.2.2])], []⟩)) (fun b0 => (k ⟨false, .tp [], [(2, .cells [.b b0.1, .b b0.2.1, .s b0.2.2.1, .i .i64 b0.2.2.2.1, .i .i64 b0.2.2.2.2.1, .s b0.2.2.2.2.2.1, .s b0.2.2.2.2.2.2.1, .i .u8 b0.2.2.2.2.2.2.2.1, .i .u8 b0.2.2.2.2.2.2.2.2.1, .i .u8 b0.2.2.2.2.2.2.2.2.2.1]), (3, .cells [.s b0.2.2.2.2.2.2.2.2.2.2.1, .i .i64 b0.2.2.2.2.2.2.2.2.2.2.2])], []⟩)))
theorem outK_ok_dateforms_Read_4 : ∀ α r k, outK_dateforms_Read_4 α r k = k (out_dateforms_Read_4 r) := by
  intro α r k
  rcases r with r | r <;> rfl
noncomputable def unr_dateforms_Read_4 (pan : Bool) (v : V) (H : List (Nat × Blk)) (nw : List Nat) : Option ((Int × Int × Bool × Bool × List UInt8 × Int × Int × List UInt8 × List UInt8 × Int × Int × Int × List UInt8 × Int) ⊕ (Bool × Bool × List UInt8 × Int × Int × List UInt8 × List UInt8 × Int × Int × Int × List UInt8 × Int)) := match pan, v, H, nw with
  | true, .it 125 (.ag [.i .i64 r0, .i .i64 r1]), [(2, .cells [.b r2, .b r3, .s r4, .i .i64 r5, .i .i64 r6, .s r7, .s r8, .i .u8 r9, .i .u8 r10, .i .u8 r11]), (3, .cells [.s r12, .i .i64 r13])], [] => some (.inl (r0, r1, r2, r3, r4, r5, r6, r7, r8, r9, r10, r11, r12, r13))
  | false, .tp [], [(2, .cells [.b r0, .b r1, .s r2, .i .i64 r3, .i .i64 r4, .s r5, .s r6, .i .u8 r7, .i .u8 r8, .i .u8 r9]), (3, .cells [.s r10, .i .i64 r11])], [] => some (.inr (r0, r1, r2, r3, r4, r5, r6, r7, r8, r9, r10, r11))
  | _, _, _, _ => none
theorem unr_ok_dateforms_Read_4 : ∀ pan v H nw r, unr_dateforms_Read_4 pan v H nw = some r → (out_dateforms_Read_4 r).pan = pan ∧ (out_dateforms_Read_4 r).news = nw ∧ v = V.ren (upTo 0 4 ++ (out_dateforms_Read_4 r).news) (out_dateforms_Read_4 r).val ∧ H = renH (upTo 0 4 ++ (out_dateforms_Read_4 r).news) (out_dateforms_Read_4 r).H := by
  intro pan v H nw r h
  unfold unr_dateforms_Read_4 at h
  split at h
  · cases h; exact ⟨rfl, rfl, rfl, rfl⟩
  · cases h; exact ⟨rfl, rfl, rfl, rfl⟩
  · cases h
theorem hv_dateforms_Read_4 : ∀ r, V.lt (4 + (out_dateforms_Read_4 r).news.length) (out_dateforms_Read_4 r).val = true := fun r => (by rcases r with r | r <;> rfl)
theorem hc_dateforms_Read_4 : ∀ r, chkH (4 + (out_dateforms_Read_4 r).news.length) (out_dateforms_Read_4 r).H = true := fun r => (by rcases r with r | r <;> rfl)
theorem hk_dateforms_Read_4 : ∀ r, hasKeys (out_dateforms_Read_4 r).H 2 (2 + (out_dateforms_Read_4 r).news.length) = true := fun r => (by rcases r with r | r <;> rfl)
noncomputable def e_dateforms_Read_4 (n : Nat) : Ent := funE 109 4 una_dateforms_Read_4 (fun a => dateforms_Read_4 n a.1 a.2.1 a.2.2.1 a.2.2.2.1 a.2.2.2.2.1 a.2.2.2.2.2.1 a.2.2.2.2.2.2.1 a.2.2.2.2.2.2.2.1 a.2.2.2.2.2.2.2.2.1 a.2.2.2.2.2.2.2.2.2.1 a.2.2.2.2.2.2.2.2.2.2.1 a.2.2.2.2.2.2.2.2.2.2.2) outK_dateforms_Read_4
noncomputable def t_dateforms_Read_4 (l : List V) (H : List (Nat × Blk)) : Bool := isS (una_dateforms_Read_4 l H)
noncomputable def Es_dateforms_Read_4 (n : Nat) : List Ent := [e_dateforms_Read_2 n]
theorem Es_ok_dateforms_Read_4 (n : Nat) : ∀ x ∈ Es_dateforms_Read_4 n, EntOK Tryz.prog x := by
  intro x hx
  simp only [Es_dateforms_Read_4, List.mem_cons, List.not_mem_nil, or_false] at hx
  · rw [hx]; exact ok_dateforms_Read_2 n
noncomputable def Ls_dateforms_Read_4 (_n : Nat) : List Sub := []
theorem subs_dateforms_Read_4 (n : Nat) : SubOK Tryz.prog 5 (Ls_dateforms_Read_4 n) (acOf Tryz.f109) := SubOK_of _ (by
  have e : subs (acOf Tryz.f109) = [] := by kernel_rfl
  rw [e]; intro p hp; cases hp)
theorem cert_dateforms_Read_4 (n : Nat) (a0 : Bool) (a1 : Bool) (a2 : List UInt8) (a3 : Int) (a4 : Int) (a5 : List UInt8) (a6 : List UInt8) (a7 : Int) (a8 : Int) (a9 : Int) (a10 : List UInt8) (a11 : Int) : run Tryz.prog (Es_dateforms_Read_4 n) (Ls_dateforms_Read_4 n) Tryz.f109.ntmps (acOf Tryz.f109) ⟨argsT [.p 0 0, .p 2 0] 0, [(0, .cells [.fn 106 [.p 1 0]]), (1, .cells [.fn 1000105 [.p 3 0]]), (2, .cells [.b a0, .b a1, .s a2, .i .i64 a3, .i .i64 a4, .s a5, .s a6, .i .u8 a7, .i .u8 a8, .i .u8 a9]), (3, .cells [.s a10, .i .i64 a11])], 4, 4, 2, 4⟩ (finK Tryz.prog Tryz.f109.results.toList (funX [2, 3] 4 2 4 unr_dateforms_Read_4)) = dateforms_Read_4 n a0 a1 a2 a3 a4 a5 a6 a7 a8 a9 a10 a11 := by kernel_rfl
theorem fun_dateforms_Read_4 (n : Nat) : ∀ a r, dateforms_Read_4 n a.1 a.2.1 a.2.2.1 a.2.2.2.1 a.2.2.2.2.1 a.2.2.2.2.2.1 a.2.2.2.2.2.2.1 a.2.2.2.2.2.2.2.1 a.2.2.2.2.2.2.2.2.1 a.2.2.2.2.2.2.2.2.2.1 a.2.2.2.2.2.2.2.2.2.2.1 a.2.2.2.2.2.2.2.2.2.2.2 = some r → FunOK Tryz.prog 109 (arg_dateforms_Read_4 a) (H0_dateforms_Read_4 a) 4 2 4 (out_dateforms_Read_4 r) := fun a r h => funX_ok (ws := [2, 3]) unr_ok_dateforms_Read_4 hv_dateforms_Read_4 (fun r b blk hl => (chkH_look (hc_dateforms_Read_4 r) b blk hl).2) (fun r => chkH_keys (hc_dateforms_Read_4 r)) (by decide) (Es_ok_dateforms_Read_4 n) Tryz.func109 rfl (acOf_code _) (subs_dateforms_Read_4 n) rfl rfl ((cert_dateforms_Read_4 n a.1 a.2.1 a.2.2.1 a.2.2.2.1 a.2.2.2.2.1 a.2.2.2.2.2.1 a.2.2.2.2.2.2.1 a.2.2.2.2.2.2.2.1 a.2.2.2.2.2.2.2.2.1 a.2.2.2.2.2.2.2.2.2.1 a.2.2.2.2.2.2.2.2.2.2.1 a.2.2.2.2.2.2.2.2.2.2.2).trans h)
theorem ok_dateforms_Read_4 (n : Nat) : EntOK Tryz.prog (e_dateforms_Read_4 n) := funE_ok (m := 4) (ro := 2) (rb := 4) (out := out_dateforms_Read_4) (arg := arg_dateforms_Read_4) (H0 := H0_dateforms_Read_4) Tryz.call109 (by decide) (by decide) outK_ok_dateforms_Read_4 una_ok_dateforms_Read_4 (fun _ => rfl) (fun a => chkH_look (m := 4) (H := H0_dateforms_Read_4 a) rfl) (fun _ => rfl) (fun r => chkH_keys (hc_dateforms_Read_4 r)) (fun r b blk h => (chkH_look (hc_dateforms_Read_4 r) b blk h).2) (fun r b h1 h2 => hasKeys_ok (hk_dateforms_Read_4 r) b h1 (by omega)) hv_dateforms_Read_4 (fun_dateforms_Read_4 n)

/-! circa/dateforms.Read$5 -/
noncomputable def arg_dateforms_Read_5 (a : Bool × Bool × List UInt8 × Int × Int × List UInt8 × List UInt8 × Int × Int × Int × List UInt8 × Int) : List V := [.p 0 0, .p 2 0]
noncomputable def H0_dateforms_Read_5 (a : Bool × Bool × List UInt8 × Int × Int × List UInt8 × List UInt8 × Int × Int × Int × List UInt8 × Int) : List (Nat × Blk) := [(0, .cells [.fn 106 [.p 1 0]]), (1, .cells [.fn 1000105 [.p 3 0]]), (2, .cells [.b a.1, .b a.2.1, .s a.2.2.1, .i .i64 a.2.2.2.1, .i .i64 a.2.2.2.2.1, .s a.2.2.2.2.2.1, .s a.2.2.2.2.2.2.1, .i .u8 a.2.2.2.2.2.2.2.1, .i .u8 a.2.2.2.2.2.2.2.2.1, .i .u8 a.2.2.2.2.2.2.2.2.2.1]), (3, .cells [.s a.2.2.2.2.2.2.2.2.2.2.1, .i .i64 a.2.2.2.2.2.2.2.2.2.2.2])]
noncomputable def una_dateforms_Read_5 (l : List V) (H : List (Nat × Blk)) : Option ((Bool × Bool × List UInt8 × Int × Int × List UInt8 × List UInt8 × Int × Int × Int × List UInt8 × Int) × List Nat) := match l with
  | [.p b0 0, .p b2 0] => (match Abs.look H b0 with
    | some (.cells [.fn 106 [.p b1 0]]) => (match Abs.look H b2 with
    | some (.cells [.b a0, .b a1, .s a2, .i .i64 a3, .i .i64 a4, .s a5, .s a6, .i .u8 a7, .i .u8 a8, .i .u8 a9]) => (match Abs.look H b1 with
    | some (.cells [.fn 1000105 [.p b3 0]]) => (match Abs.look H b3 with
    | some (.cells [.s a10, .i .i64 a11]) => (cond (Abs.distinct [b0, b1, b2, b3] && true) (some ((a0, a1, a2, a3, a4, a5, a6, a7, a8, a9, a10, a11), [b0, b1, b2, b3])) none)
    | _ => none)
    | _ => none)
    | _ => none)
    | _ => none)
  | _ => none
theorem una_ok_dateforms_Read_5 : ∀ l H a ρ, una_dateforms_Read_5 l H = some (a, ρ) → ρ.length = 4 ∧ ρ.Nodup ∧ l = V.rens ρ (arg_dateforms_Read_5 a) ∧ ∀ b blk, Abs.look (H0_dateforms_Read_5 a) b = some blk → Abs.look H (getN ρ b) = some (blk.ren ρ) := by
  intro l H a ρ h
  unfold una_dateforms_Read_5 at h
  split at h
  · split at h
    · rename_i e0
      split at h
      · rename_i e2
        split at h
        · rename_i e1
          split at h
          · rename_i e3
            obtain ⟨hd, h⟩ := cond_some h
            simp only [Bool.and_eq_true] at hd
            obtain ⟨hd, _⟩ := hd
            cases h
            exact ⟨rfl, distinct_ok hd, rfl, eachH_look ⟨e0, e1, e2, e3, trivial⟩⟩
          · cases h
        · cases h
      · cases h
    · cases h
  · cases h
noncomputable def out_dateforms_Read_5 (r : (Int × Int × Bool × Bool × List UInt8 × Int × Int × List UInt8 × List UInt8 × Int × Int × Int × List UInt8 × Int) ⊕ (Bool × Bool × List UInt8 × Int × Int × List UInt8 × List UInt8 × Int × Int × Int × List UInt8 × Int)) : FOut := (Sum.casesOn (motive := fun _ => FOut) r (fun a0 => (⟨true, .it 125 (.ag [.i .i64 a0.1, .i .i64 a0.2.1]), [(2, .cells [.b a0.2.2.1, .b a0.2.2.2.1, .s a0.2.2.2.2.1, .i .i64 a0.2.2.2.2.2.1, .i .i64 a0.2.2.2.2.2.2.1, .s a0.2.2.2.2.2.2.2.1, .s a0.2.2.2.2.2.2.2.2.1, .i .u8 a0.2.2.2.2.2.2.2.2.2.1, .i .u8 a0.2.2.2.2.2.2.2.2.2.2.1, .i .u8 a0.2.2.2.2.2.2.2.2.2.2.2.1]), (3, .cells [.s a0.2.2.2.2.2.2.2.2.2.2.2.2.1, .i .i64 a0.2.2.2.2.2.2.2.2.2.2.2.2.2])], []⟩ : FOut)) (fun b0 => (⟨false, .tp [], [(2, .cells [.b b0.1, .b b0.2.1, .s b0.2.2.1, .i .i64 b0.2.2.2.1, .i .i64 b0.2.2.2.2.1, .s b0.2.2.2.2.2.1, .s b0.2.2.2.2.2.2.1, .i .u8 b0.2.2.2.2.2.2.2.1, .i .u8 b0.2.2.2.2.2.2.2.2.1, .i .u8 b0.2.2.2.2.2.2.2.2.2.1]), (3, .cells [.s b0.2.2.2.2.2.2.2.2.2.2.1, .i .i64 b0.2.2.2.2.2.2.2.2.2.2.2])], []⟩ : FOut)))
noncomputable def outK_dateforms_Read_5 (α : Type) (r : (Int × Int × Bool × Bool × List UInt8 × Int × Int × List UInt8 × List UInt8 × Int × Int × Int × List UInt8 × Int) ⊕ (Bool × Bool × List UInt8 × Int × Int × List UInt8 × List UInt8 × Int × Int × Int × List UInt8 × Int)) (k : FOut → Option α) : Option α := (Sum.casesOn (motive := fun _ => Option α) r (fun a0 => (k ⟨true, .it 125 (.ag [.i .i64 a0.1, .i .i64 a0.2.1]), [(2, .cells [.b a0.2.2.1, .b a0.2.2.2.1, .s a0.2.2.2.2.1, .i .i64 a0.2.2.2.2.2.1, .i .i64 a0.2.2.2.2.2.2.1, .s a0.2.2.2.2.2.2.2.1, .s a0.2.2.2.2.2.2.2.2.1, .i .u8 a0.2.2.2.2.2.2.2.2.2.1, .i .u8 a0.2.2.2.2.2.2.2.2.2.2.1, .i .u8 a0.2.2.2.2.2.2.2.2.2.2.2.1]), (3, .cells [.s a0.2.2.2.2.2.2.2.2.2.2.2.2.1, .i .i64 a0.2.2.2.2.2.2.2.2.2.2.2.2.2])], []⟩)) (fun b0 => (k ⟨false, .tp [], [(2, .cells [.b b0.1, .b b0.2.1, .s b0.2.2.1, .i .i64 b0.2.2.2.1, .i .i64 b0.2.2.2.2.1, .s b0.2.2.2.2.2.1, .s b0.2.2.2.2.2.2.1, .i .u8 b0.2.2.2.2.2.2.2.1, .i .u8 b0.2.2.2.2.2.2.2.2.1, .i .u8 b0.2.2.2.2.2.2.2.2.2.1]), (3, .cells [.s b0.2.2.2.2.2.2.2.2.2.2.1, .i .i64 b0.2.2.2.2.2.2.2.2.2.2.2])], []⟩)))
theorem outK_ok_dateforms_Read_5 : ∀ α r k, outK_dateforms_Read_5 α r k = k (out_dateforms_Read_5 r) := by
  intro α r k
  rcases r with r | r <;> rfl
noncomputable def unr_dateforms_Read_5 (pan : Bool) (v : V) (H : List (Nat × Blk)) (nw : List Nat) : Option ((Int × Int × Bool × Bool × List UInt8 × Int × Int × List UInt8 × List UInt8 × Int × Int × Int × List UInt8 × Int) ⊕ (Bool × Bool × List UInt8 × Int × Int × List UInt8 × List UInt8 × Int × Int × Int × List UInt8 × Int)) := match pan, v, H, nw with
  | true, .it 125 (.ag [.i .i64 r0, .i .i64 r1]), [(2, .cells [.b r2, .b r3, .s r4, .i .i64 r5, .i .i64 r6, .s r7, .s r8, .i .u8 r9, .i .u8 r10, .i .u8 r11]), (3, .cells [.s r12, .i .i64 r13])], [] => some (.inl (r0, r1, r2, r3, r4, r5, r6, r7, r8, r9, r10, r11, r12, r13))
  | false, .tp [], [(2, .cells [.b r0, .b r1, .s r2, .i .i64 r3, .i .i64 r4, .s r5, .s r6, .i .u8 r7, .i .u8 r8, .i .u8 r9]), (3, .cells [.s r10, .i .i64 r11])], [] => some (.inr (r0, r1, r2, r3, r4, r5, r6, r7, r8, r9, r10, r11))
  | _, _, _, _ => none
theorem unr_ok_dateforms_Read_5 : ∀ pan v H nw r, unr_dateforms_Read_5 pan v H nw = some r → (out_dateforms_Read_5 r).pan = pan ∧ (out_dateforms_Read_5 r).news = nw ∧ v = V.ren (upTo 0 4 ++ (out_dateforms_Read_5 r).news) (out_dateforms_Read_5 r).val ∧ H = renH (upTo 0 4 ++ (out_dateforms_Read_5 r).news) (out_dateforms_Read_5 r).H := by
  intro pan v H nw r h
  unfold unr_dateforms_Read_5 at h
  split at h
  · cases h; exact ⟨rfl, rfl, rfl, rfl⟩
  · cases h; exact ⟨rfl, rfl, rfl, rfl⟩
  · cases h
theorem hv_dateforms_Read_5 : ∀ r, V.lt (4 + (out_dateforms_Read_5 r).news.length) (out_dateforms_Read_5 r).val = true := fun r => (by rcases r with r | r <;> rfl)
theorem hc_dateforms_Read_5 : ∀ r, chkH (4 + (out_dateforms_Read_5 r).news.length) (out_dateforms_Read_5 r).H = true := fun r => (by rcases r with r | r <;> rfl)
theorem hk_dateforms_Read_5 : ∀ r, hasKeys (out_dateforms_Read_5 r).H 2 (2 + (out_dateforms_Read_5 r).news.length) = true := fun r => (by rcases r with r | r <;> rfl)
noncomputable def e_dateforms_Read_5 (n : Nat) : Ent := funE 110 4 una_dateforms_Read_5 (fun a => dateforms_Read_5 n a.1 a.2.1 a.2.2.1 a.2.2.2.1 a.2.2.2.2.1 a.2.2.2.2.2.1 a.2.2.2.2.2.2.1 a.2.2.2.2.2.2.2.1 a.2.2.2.2.2.2.2.2.1 a.2.2.2.2.2.2.2.2.2.1 a.2.2.2.2.2.2.2.2.2.2.1 a.2.2.2.2.2.2.2.2.2.2.2) outK_dateforms_Read_5
noncomputable def t_dateforms_Read_5 (l : List V) (H : List (Nat × Blk)) : Bool := isS (una_dateforms_Read_5 l H)
noncomputable def Es_dateforms_Read_5 (n : Nat) : List Ent := [e_dateforms_Read_2 n]
theorem Es_ok_dateforms_Read_5 (n : Nat) : ∀ x ∈ Es_dateforms_Read_5 n, EntOK Tryz.prog x := by
  intro x hx
  simp only [Es_dateforms_Read_5, List.mem_cons, List.not_mem_nil, or_false] at hx
  · rw [hx]; exact ok_dateforms_Read_2 n
noncomputable def Ls_dateforms_Read_5 (_n : Nat) : List Sub := []
theorem subs_dateforms_Read_5 (n : Nat) : SubOK Tryz.prog 5 (Ls_dateforms_Read_5 n) (acOf Tryz.f110) := SubOK_of _ (by
  have e : subs (acOf Tryz.f110) = [] := by kernel_rfl
  rw [e]; intro p hp; cases hp)
theorem cert_dateforms_Read_5 (n : Nat) (a0 : Bool) (a1 : Bool) (a2 : List UInt8) (a3 : Int) (a4 : Int) (a5 : List UInt8) (a6 : List UInt8) (a7 : Int) (a8 : Int) (a9 : Int) (a10 : List UInt8) (a11 : Int) : run Tryz.prog (Es_dateforms_Read_5 n) (Ls_dateforms_Read_5 n) Tryz.f110.ntmps (acOf Tryz.f110) ⟨argsT [.p 0 0, .p 2 0] 0, [(0, .cells [.fn 106 [.p 1 0]]), (1, .cells [.fn 1000105 [.p 3 0]]), (2, .cells [.b a0, .b a1, .s a2, .i .i64 a3, .i .i64 a4, .s a5, .s a6, .i .u8 a7, .i .u8 a8, .i .u8 a9]), (3, .cells [.s a10, .i .i64 a11])], 4, 4, 2, 4⟩ (finK Tryz.prog Tryz.f110.results.toList (funX [2, 3] 4 2 4 unr_dateforms_Read_5)) = dateforms_Read_5 n a0 a1 a2 a3 a4 a5 a6 a7 a8 a9 a10 a11 := by kernel_rfl
theorem fun_dateforms_Read_5 (n : Nat) : ∀ a r, dateforms_Read_5 n a.1 a.2.1 a.2.2.1 a.2.2.2.1 a.2.2.2.2.1 a.2.2.2.2.2.1 a.2.2.2.2.2.2.1 a.2.2.2.2.2.2.2.1 a.2.2.2.2.2.2.2.2.1 a.2.2.2.2.2.2.2.2.2.1 a.2.2.2.2.2.2.2.2.2.2.1 a.2.2.2.2.2.2.2.2.2.2.2 = some r → FunOK Tryz.prog 110 (arg_dateforms_Read_5 a) (H0_dateforms_Read_5 a) 4 2 4 (out_dateforms_Read_5 r) := fun a r h => funX_ok (ws := [2, 3]) unr_ok_dateforms_Read_5 hv_dateforms_Read_5 (fun r b blk hl => (chkH_look (hc_dateforms_Read_5 r) b blk hl).2) (fun r => chkH_keys (hc_dateforms_Read_5 r)) (by decide) (Es_ok_dateforms_Read_5 n) Tryz.func110 rfl (acOf_code _) (subs_dateforms_Read_5 n) rfl rfl ((cert_dateforms_Read_5 n a.1 a.2.1 a.2.2.1 a.2.2.2.1 a.2.2.2.2.1 a.2.2.2.2.2.1 a.2.2.2.2.2.2.1 a.2.2.2.2.2.2.2.1 a.2.2.2.2.2.2.2.2.1 a.2.2.2.2.2.2.2.2.2.1 a.2.2.2.2.2.2.2.2.2.2.1 a.2.2.2.2.2.2.2.2.2.2.2).trans h)
theorem ok_dateforms_Read_5 (n : Nat) : EntOK Tryz.prog (e_dateforms_Read_5 n) := funE_ok (m := 4) (ro := 2) (rb := 4) (out := out_dateforms_Read_5) (arg := arg_dateforms_Read_5) (H0 := H0_dateforms_Read_5) Tryz.call110 (by decide) (by decide) outK_ok_dateforms_Read_5 una_ok_dateforms_Read_5 (fun _ => rfl) (fun a => chkH_look (m := 4) (H := H0_dateforms_Read_5 a) rfl) (fun _ => rfl) (fun r => chkH_keys (hc_dateforms_Read_5 r)) (fun r b blk h => (chkH_look (hc_dateforms_Read_5 r) b blk h).2) (fun r b h1 h2 => hasKeys_ok (hk_dateforms_Read_5 r) b h1 (by omega)) hv_dateforms_Read_5 (fun_dateforms_Read_5 n)

/-! circa/dateforms.Read -/
noncomputable def arg_dateforms_Read (a : List UInt8 × Int) : List V := [.p 0 0]
noncomputable def H0_dateforms_Read (a : List UInt8 × Int) : List (Nat × Blk) := [(0, .cells [.s a.1, .i .i64 a.2])]
noncomputable def una_dateforms_Read (l : List V) (H : List (Nat × Blk)) : Option ((List UInt8 × Int) × List Nat) := match l with
  | [.p b0 0] => (match Abs.look H b0 with
    | some (.cells [.s a0, .i .i64 a1]) => (cond (Abs.distinct [b0] && true) (some ((a0, a1), [b0])) none)
    | _ => none)
  | _ => none
theorem una_ok_dateforms_Read : ∀ l H a ρ, una_dateforms_Read l H = some (a, ρ) → ρ.length = 1 ∧ ρ.Nodup ∧ l = V.rens ρ (arg_dateforms_Read a) ∧ ∀ b blk, Abs.look (H0_dateforms_Read a) b = some blk → Abs.look H (getN ρ b) = some (blk.ren ρ) := by
  intro l H a ρ h
  unfold una_dateforms_Read at h
  split at h
  · split at h
    · rename_i e0
      obtain ⟨hd, h⟩ := cond_some h
      simp only [Bool.and_eq_true] at hd
      obtain ⟨hd, _⟩ := hd
      cases h
      exact ⟨rfl, distinct_ok hd, rfl, eachH_look ⟨e0, trivial⟩⟩
    · cases h
  · cases h
noncomputable def out_dateforms_Read (r : (Int × Int × List UInt8 × Int) ⊕ (Bool × Bool × List UInt8 × Int × Int × List UInt8 × List UInt8 × Int × Int × Int × List Int × List UInt8 × Int)) : FOut := (Sum.casesOn (motive := fun _ => FOut) r (fun a0 => (⟨true, .it 125 (.ag [.i .i64 a0.1, .i .i64 a0.2.1]), [(0, .cells [.s a0.2.2.1, .i .i64 a0.2.2.2])], []⟩ : FOut)) (fun b0 => (⟨false, .tp [.ag [.b b0.1, .b b0.2.1, .s b0.2.2.1, .i .i64 b0.2.2.2.1, .i .i64 b0.2.2.2.2.1, .s b0.2.2.2.2.2.1, .s b0.2.2.2.2.2.2.1, .i .u8 b0.2.2.2.2.2.2.2.1, .i .u8 b0.2.2.2.2.2.2.2.2.1, .i .u8 b0.2.2.2.2.2.2.2.2.2.1], .ai .i64 3 b0.2.2.2.2.2.2.2.2.2.2.1], [(0, .cells [.s b0.2.2.2.2.2.2.2.2.2.2.2.1, .i .i64 b0.2.2.2.2.2.2.2.2.2.2.2.2])], []⟩ : FOut)))
noncomputable def outK_dateforms_Read (α : Type) (r : (Int × Int × List UInt8 × Int) ⊕ (Bool × Bool × List UInt8 × Int × Int × List UInt8 × List UInt8 × Int × Int × Int × List Int × List UInt8 × Int)) (k : FOut → Option α) : Option α := (Sum.casesOn (motive := fun _ => Option α) r (fun a0 => (k ⟨true, .it 125 (.ag [.i .i64 a0.1, .i .i64 a0.2.1]), [(0, .cells [.s a0.2.2.1, .i .i64 a0.2.2.2])], []⟩)) (fun b0 => (k ⟨false, .tp [.ag [.b b0.1, .b b0.2.1, .s b0.2.2.1, .i .i64 b0.2.2.2.1, .i .i64 b0.2.2.2.2.1, .s b0.2.2.2.2.2.1, .s b0.2.2.2.2.2.2.1, .i .u8 b0.2.2.2.2.2.2.2.1, .i .u8 b0.2.2.2.2.2.2.2.2.1, .i .u8 b0.2.2.2.2.2.2.2.2.2.1], .ai .i64 3 b0.2.2.2.2.2.2.2.2.2.2.1], [(0, .cells [.s b0.2.2.2.2.2.2.2.2.2.2.2.1, .i .i64 b0.2.2.2.2.2.2.2.2.2.2.2.2])], []⟩)))
theorem outK_ok_dateforms_Read : ∀ α r k, outK_dateforms_Read α r k = k (out_dateforms_Read r) := by
  intro α r k
  rcases r with r | r <;> rfl
noncomputable def unr_dateforms_Read (pan : Bool) (v : V) (H : List (Nat × Blk)) (nw : List Nat) : Option ((Int × Int × List UInt8 × Int) ⊕ (Bool × Bool × List UInt8 × Int × Int × List UInt8 × List UInt8 × Int × Int × Int × List Int × List UInt8 × Int)) := match pan, v, H, nw with
  | true, .it 125 (.ag [.i .i64 r0, .i .i64 r1]), [(0, .cells [.s r2, .i .i64 r3])], [] => some (.inl (r0, r1, r2, r3))
  | false, .tp [.ag [.b r0, .b r1, .s r2, .i .i64 r3, .i .i64 r4, .s r5, .s r6, .i .u8 r7, .i .u8 r8, .i .u8 r9], .ai .i64 3 r10], [(0, .cells [.s r11, .i .i64 r12])], [] => some (.inr (r0, r1, r2, r3, r4, r5, r6, r7, r8, r9, r10, r11, r12))
  | _, _, _, _ => none
theorem unr_ok_dateforms_Read : ∀ pan v H nw r, unr_dateforms_Read pan v H nw = some r → (out_dateforms_Read r).pan = pan ∧ (out_dateforms_Read r).news = nw ∧ v = V.ren (upTo 0 1 ++ (out_dateforms_Read r).news) (out_dateforms_Read r).val ∧ H = renH (upTo 0 1 ++ (out_dateforms_Read r).news) (out_dateforms_Read r).H := by
  intro pan v H nw r h
  unfold unr_dateforms_Read at h
  split at h
  · cases h; exact ⟨rfl, rfl, rfl, rfl⟩
  · cases h; exact ⟨rfl, rfl, rfl, rfl⟩
  · cases h
theorem hv_dateforms_Read : ∀ r, V.lt (1 + (out_dateforms_Read r).news.length) (out_dateforms_Read r).val = true := fun r => (by rcases r with r | r <;> rfl)
theorem hc_dateforms_Read : ∀ r, chkH (1 + (out_dateforms_Read r).news.length) (out_dateforms_Read r).H = true := fun r => (by rcases r with r | r <;> rfl)
theorem hk_dateforms_Read : ∀ r, hasKeys (out_dateforms_Read r).H 0 (1 + (out_dateforms_Read r).news.length) = true := fun r => (by rcases r with r | r <;> rfl)
noncomputable def e_dateforms_Read (n : Nat) : Ent := funE 51 1 una_dateforms_Read (fun a => dateforms_Read n a.1 a.2) outK_dateforms_Read
noncomputable def t_dateforms_Read (l : List V) (H : List (Nat × Blk)) : Bool := isS (una_dateforms_Read l H)
noncomputable def Es_dateforms_Read (n : Nat) : List Ent := [e_dateforms_Read_1 n, e_cursors_Cursor_At n, e_dateforms_Read_3 n, e_marks_Spread n, e_cursors_Cursor_Take n, e_dateforms_Read_4 n, e_dateforms_Read_5 n]
theorem Es_ok_dateforms_Read (n : Nat) : ∀ x ∈ Es_dateforms_Read n, EntOK Tryz.prog x := by
  intro x hx
  simp only [Es_dateforms_Read, List.mem_cons, List.not_mem_nil, or_false] at hx
  rcases hx with hx | hx | hx | hx | hx | hx | hx
  · rw [hx]; exact ok_dateforms_Read_1 n
  · rw [hx]; exact ok_cursors_Cursor_At n
  · rw [hx]; exact ok_dateforms_Read_3 n
  · rw [hx]; exact ok_marks_Spread n
  · rw [hx]; exact ok_cursors_Cursor_Take n
  · rw [hx]; exact ok_dateforms_Read_4 n
  · rw [hx]; exact ok_dateforms_Read_5 n
noncomputable def Ls_dateforms_Read (_n : Nat) : List Sub := []
theorem subs_dateforms_Read (n : Nat) : SubOK Tryz.prog 64 (Ls_dateforms_Read n) (acU [0] Tryz.f51) := SubOK_of _ (by
  have e : subs (acU [0] Tryz.f51) = [] := by kernel_rfl
  rw [e]; intro p hp; cases hp)
theorem cert_dateforms_Read (n : Nat) (a0 : List UInt8) (a1 : Int) : run Tryz.prog (Es_dateforms_Read n) (Ls_dateforms_Read n) Tryz.f51.ntmps (acU [0] Tryz.f51) ⟨argsT [.p 0 0] 0, [(0, .cells [.s a0, .i .i64 a1])], 1, 1, 0, 1⟩ (finK Tryz.prog Tryz.f51.results.toList (funX [0] 1 0 1 unr_dateforms_Read)) = dateforms_Read n a0 a1 := by kernel_rfl
theorem fun_dateforms_Read (n : Nat) : ∀ a r, dateforms_Read n a.1 a.2 = some r → FunOK Tryz.prog 51 (arg_dateforms_Read a) (H0_dateforms_Read a) 1 0 1 (out_dateforms_Read r) := fun a r h => funX_ok (ws := [0]) unr_ok_dateforms_Read hv_dateforms_Read (fun r b blk hl => (chkH_look (hc_dateforms_Read r) b blk hl).2) (fun r => chkH_keys (hc_dateforms_Read r)) (by decide) (Es_ok_dateforms_Read n) Tryz.func51 rfl (acU_code _ _) (subs_dateforms_Read n) rfl rfl ((cert_dateforms_Read n a.1 a.2).trans h)
theorem ok_dateforms_Read (n : Nat) : EntOK Tryz.prog (e_dateforms_Read n) := funE_ok (m := 1) (ro := 0) (rb := 1) (out := out_dateforms_Read) (arg := arg_dateforms_Read) (H0 := H0_dateforms_Read) Tryz.call51 (by decide) (by decide) outK_ok_dateforms_Read una_ok_dateforms_Read (fun _ => rfl) (fun a => chkH_look (m := 1) (H := H0_dateforms_Read a) rfl) (fun _ => rfl) (fun r => chkH_keys (hc_dateforms_Read r)) (fun r b blk h => (chkH_look (hc_dateforms_Read r) b blk h).2) (fun r b h1 h2 => hasKeys_ok (hk_dateforms_Read r) b h1 (by omega)) hv_dateforms_Read (fun_dateforms_Read n)

/-! circa/dateforms.Parse$1 -/
noncomputable def arg_dateforms_Parse_1 (a : List UInt8 × Int × Bool × Bool × List UInt8 × Int × Int × List UInt8 × List UInt8 × Int × Int × Int × List Int) : List V := [.p 0 0, .p 1 0, .p 2 0]
noncomputable def H0_dateforms_Parse_1 (a : List UInt8 × Int × Bool × Bool × List UInt8 × Int × Int × List UInt8 × List UInt8 × Int × Int × Int × List Int) : List (Nat × Blk) := [(0, .cells [.s a.1, .i .i64 a.2.1]), (1, .cells [.b a.2.2.1, .b a.2.2.2.1, .s a.2.2.2.2.1, .i .i64 a.2.2.2.2.2.1, .i .i64 a.2.2.2.2.2.2.1, .s a.2.2.2.2.2.2.2.1, .s a.2.2.2.2.2.2.2.2.1, .i .u8 a.2.2.2.2.2.2.2.2.2.1, .i .u8 a.2.2.2.2.2.2.2.2.2.2.1, .i .u8 a.2.2.2.2.2.2.2.2.2.2.2.1]), (2, .ints .i64 3 a.2.2.2.2.2.2.2.2.2.2.2.2)]
noncomputable def una_dateforms_Parse_1 (l : List V) (H : List (Nat × Blk)) : Option ((List UInt8 × Int × Bool × Bool × List UInt8 × Int × Int × List UInt8 × List UInt8 × Int × Int × Int × List Int) × List Nat) := match l with
  | [.p b0 0, .p b1 0, .p b2 0] => (match Abs.look H b0 with
    | some (.cells [.s a0, .i .i64 a1]) => (match Abs.look H b1 with
    | some (.cells [.b a2, .b a3, .s a4, .i .i64 a5, .i .i64 a6, .s a7, .s a8, .i .u8 a9, .i .u8 a10, .i .u8 a11]) => (match Abs.look H b2 with
    | some (.ints .i64 3 a12) => (cond (Abs.distinct [b0, b1, b2] && true) (some ((a0, a1, a2, a3, a4, a5, a6, a7, a8, a9, a10, a11, a12), [b0, b1, b2])) none)
    | _ => none)
    | _ => none)
    | _ => none)
  | _ => none
theorem una_ok_dateforms_Parse_1 : ∀ l H a ρ, una_dateforms_Parse_1 l H = some (a, ρ) → ρ.length = 3 ∧ ρ.Nodup ∧ l = V.rens ρ (arg_dateforms_Parse_1 a) ∧ ∀ b blk, Abs.look (H0_dateforms_Parse_1 a) b = some blk → Abs.look H (getN ρ b) = some (blk.ren ρ) := by
  intro l H a ρ h
  unfold una_dateforms_Parse_1 at h
  split at h
  · split at h
    · rename_i e0
      split at h
      · rename_i e1
        split at h
        · rename_i e2
          obtain ⟨hd, h⟩ := cond_some h
          simp only [Bool.and_eq_true] at hd
          obtain ⟨hd, _⟩ := hd
          cases h
          exact ⟨rfl, distinct_ok hd, rfl, eachH_look ⟨e0, e1, e2, trivial⟩⟩
        · cases h
      · cases h
    · cases h
  · cases h
noncomputable def out_dateforms_Parse_1 (r : (Int × Int × List UInt8 × Int × Bool × Bool × List UInt8 × Int × Int × List UInt8 × List UInt8 × Int × Int × Int × List Int) ⊕ (List UInt8 × Int × Bool × Bool × List UInt8 × Int × Int × List UInt8 × List UInt8 × Int × Int × Int × List Int)) : FOut := (Sum.casesOn (motive := fun _ => FOut) r (fun a0 => (⟨true, .it 125 (.ag [.i .i64 a0.1, .i .i64 a0.2.1]), [(0, .cells [.s a0.2.2.1, .i .i64 a0.2.2.2.1]), (1, .cells [.b a0.2.2.2.2.1, .b a0.2.2.2.2.2.1, .s a0.2.2.2.2.2.2.1, .i .i64 a0.2.2.2.2.2.2.2.1, .i .i64 a0.2.2.2.2.2.2.2.2.1, .s a0.2.2.2.2.2.2.2.2.2.1, .s a0.2.2.2.2.2.2.2.2.2.2.1, .i .u8 a0.2.2.2.2.2.2.2.2.2.2.2.1, .i .u8 a0.2.2.2.2.2.2.2.2.2.2.2.2.1, .i .u8 a0.2.2.2.2.2.2.2.2.2.2.2.2.2.1]), (2, .ints .i64 3 a0.2.2.2.2.2.2.2.2.2.2.2.2.2.2)], []⟩ : FOut)) (fun b0 => (⟨false, .tp [], [(0, .cells [.s b0.1, .i .i64 b0.2.1]), (1, .cells [.b b0.2.2.1, .b b0.2.2.2.1, .s b0.2.2.2.2.1, .i .i64 b0.2.2.2.2.2.1, .i .i64 b0.2.2.2.2.2.2.1, .s b0.2.2.2.2.2.2.2.1, .s b0.2.2.2.2.2.2.2.2.1, .i .u8 b0.2.2.2.2.2.2.2.2.2.1, .i .u8 b0.2.2.2.2.2.2.2.2.2.2.1, .i .u8 b0.2.2.2.2.2.2.2.2.2.2.2.1]), (2, .ints .i64 3 b0.2.2.2.2.2.2.2.2.2.2.2.2)], []⟩ : FOut)))
noncomputable def outK_dateforms_Parse_1 (α : Type) (r : (Int × Int × List UInt8 × Int × Bool × Bool × List UInt8 × Int × Int × List UInt8 × List UInt8 × Int × Int × Int × List Int) ⊕ (List UInt8 × Int × Bool × Bool × List UInt8 × Int × Int × List UInt8 × List UInt8 × Int × Int × Int × List Int)) (k : FOut → Option α) : Option α := (Sum.casesOn (motive := fun _ => Option α) r (fun a0 => (k ⟨true, .it 125 (.ag [.i .i64 a0.1, .i .i64 a0.2.1]), [(0, .cells [.s a0.2.2.1, .i .i64 a0.2.2.2.1]), (1, .cells [.b a0.2.2.2.2.1, .b a0.2.2.2.2.2.1, .s a0.2.2.2.2.2.2.1, .i .i64 a0.2.2.2.2.2.2.2.1, .i .i64 a0.2.2.2.2.2.2.2.2.1, .s a0.2.2.2.2.2.2.2.2.2.1, .s a0.2.2.2.2.2.2.2.2.2.2.1, .i .u8 a0.2.2.2.2.2.2.2.2.2.2.2.1, .i .u8 a0.2.2.2.2.2.2.2.2.2.2.2.2.1, .i .u8 a0.2.2.2.2.2.2.2.2.2.2.2.2.2.1]), (2, .ints .i64 3 a0.2.2.2.2.2.2.2.2.2.2.2.2.2.2)], []⟩)) (fun b0 => (k ⟨false, .tp [], [(0, .cells [.s b0.1, .i .i64 b0.2.1]), (1, .cells [.b b0.2.2.1, .b b0.2.2.2.1, .s b0.2.2.2.2.1, .i .i64 b0.2.2.2.2.2.1, .i .i64 b0.2.2.2.2.2.2.1, .s b0.2.2.2.2.2.2.2.1, .s b0.2.2.2.2.2.2.2.2.1, .i .u8 b0.2.2.2.2.2.2.2.2.2.1, .i .u8 b0.2.2.2.2.2.2.2.2.2.2.1, .i .u8 b0.2.2.2.2.2.2.2.2.2.2.2.1]), (2, .ints .i64 3 b0.2.2.2.2.2.2.2.2.2.2.2.2)], []⟩)))
theorem outK_ok_dateforms_Parse_1 : ∀ α r k, outK_dateforms_Parse_1 α r k = k (out_dateforms_Parse_1 r) := by
  intro α r k
  rcases r with r | r <;> rfl
noncomputable def unr_dateforms_Parse_1 (pan : Bool) (v : V) (H : List (Nat × Blk)) (nw : List Nat) : Option ((Int × Int × List UInt8 × Int × Bool × Bool × List UInt8 × Int × Int × List UInt8 × List UInt8 × Int × Int × Int × List Int) ⊕ (List UInt8 × Int × Bool × Bool × List UInt8 × Int × Int × List UInt8 × List UInt8 × Int × Int × Int × List Int)) := match pan, v, H, nw with
  | true, .it 125 (.ag [.i .i64 r0, .i .i64 r1]), [(0, .cells [.s r2, .i .i64 r3]), (1, .cells [.b r4, .b r5, .s r6, .i .i64 r7, .i .i64 r8, .s r9, .s r10, .i .u8 r11, .i .u8 r12, .i .u8 r13]), (2, .ints .i64 3 r14)], [] => some (.inl (r0, r1, r2, r3, r4, r5, r6, r7, r8, r9, r10, r11, r12, r13, r14))
  | false, .tp [], [(0, .cells [.s r0, .i .i64 r1]), (1, .cells [.b r2, .b r3, .s r4, .i .i64 r5, .i .i64 r6, .s r7, .s r8, .i .u8 r9, .i .u8 r10, .i .u8 r11]), (2, .ints .i64 3 r12)], [] => some (.inr (r0, r1, r2, r3, r4, r5, r6, r7, r8, r9, r10, r11, r12))
  | _, _, _, _ => none
theorem unr_ok_dateforms_Parse_1 : ∀ pan v H nw r, unr_dateforms_Parse_1 pan v H nw = some r → (out_dateforms_Parse_1 r).pan = pan ∧ (out_dateforms_Parse_1 r).news = nw ∧ v = V.ren (upTo 0 3 ++ (out_dateforms_Parse_1 r).news) (out_dateforms_Parse_1 r).val ∧ H = renH (upTo 0 3 ++ (out_dateforms_Parse_1 r).news) (out_dateforms_Parse_1 r).H := by
  intro pan v H nw r h
  unfold unr_dateforms_Parse_1 at h
  split at h
  · cases h; exact ⟨rfl, rfl, rfl, rfl⟩
  · cases h; exact ⟨rfl, rfl, rfl, rfl⟩
  · cases h
theorem hv_dateforms_Parse_1 : ∀ r, V.lt (3 + (out_dateforms_Parse_1 r).news.length) (out_dateforms_Parse_1 r).val = true := fun r => (by rcases r with r | r <;> rfl)
theorem hc_dateforms_Parse_1 : ∀ r, chkH (3 + (out_dateforms_Parse_1 r).news.length) (out_dateforms_Parse_1 r).H = true := fun r => (by rcases r with r | r <;> rfl)
theorem hk_dateforms_Parse_1 : ∀ r, hasKeys (out_dateforms_Parse_1 r).H 0 (3 + (out_dateforms_Parse_1 r).news.length) = true := fun r => (by rcases r with r | r <;> rfl)
noncomputable def e_dateforms_Parse_1 (n : Nat) : Ent := funE 50 3 una_dateforms_Parse_1 (fun a => dateforms_Parse_1 n a.1 a.2.1 a.2.2.1 a.2.2.2.1 a.2.2.2.2.1 a.2.2.2.2.2.1 a.2.2.2.2.2.2.1 a.2.2.2.2.2.2.2.1 a.2.2.2.2.2.2.2.2.1 a.2.2.2.2.2.2.2.2.2.1 a.2.2.2.2.2.2.2.2.2.2.1 a.2.2.2.2.2.2.2.2.2.2.2.1 a.2.2.2.2.2.2.2.2.2.2.2.2) outK_dateforms_Parse_1
noncomputable def t_dateforms_Parse_1 (l : List V) (H : List (Nat × Blk)) : Bool := isS (una_dateforms_Parse_1 l H)
noncomputable def Es_dateforms_Parse_1 (n : Nat) : List Ent := [e_dateforms_Read n]
theorem Es_ok_dateforms_Parse_1 (n : Nat) : ∀ x ∈ Es_dateforms_Parse_1 n, EntOK Tryz.prog x := by
  intro x hx
  simp only [Es_dateforms_Parse_1, List.mem_cons, List.not_mem_nil, or_false] at hx
  · rw [hx]; exact ok_dateforms_Read n
noncomputable def Ls_dateforms_Parse_1 (_n : Nat) : List Sub := []
theorem subs_dateforms_Parse_1 (n : Nat) : SubOK Tryz.prog 9 (Ls_dateforms_Parse_1 n) (acOf Tryz.f50) := SubOK_of _ (by
  have e : subs (acOf Tryz.f50) = [] := by kernel_rfl
  rw [e]; intro p hp; cases hp)
theorem cert_dateforms_Parse_1 (n : Nat) (a0 : List UInt8) (a1 : Int) (a2 : Bool) (a3 : Bool) (a4 : List UInt8) (a5 : Int) (a6 : Int) (a7 : List UInt8) (a8 : List UInt8) (a9 : Int) (a10 : Int) (a11 : Int) (a12 : List Int) : run Tryz.prog (Es_dateforms_Parse_1 n) (Ls_dateforms_Parse_1 n) Tryz.f50.ntmps (acOf Tryz.f50) ⟨argsT [.p 0 0, .p 1 0, .p 2 0] 0, [(0, .cells [.s a0, .i .i64 a1]), (1, .cells [.b a2, .b a3, .s a4, .i .i64 a5, .i .i64 a6, .s a7, .s a8, .i .u8 a9, .i .u8 a10, .i .u8 a11]), (2, .ints .i64 3 a12)], 3, 3, 0, 3⟩ (finK Tryz.prog Tryz.f50.results.toList (funX [0, 1, 2] 3 0 3 unr_dateforms_Parse_1)) = dateforms_Parse_1 n a0 a1 a2 a3 a4 a5 a6 a7 a8 a9 a10 a11 a12 := by kernel_rfl
theorem fun_dateforms_Parse_1 (n : Nat) : ∀ a r, dateforms_Parse_1 n a.1 a.2.1 a.2.2.1 a.2.2.2.1 a.2.2.2.2.1 a.2.2.2.2.2.1 a.2.2.2.2.2.2.1 a.2.2.2.2.2.2.2.1 a.2.2.2.2.2.2.2.2.1 a.2.2.2.2.2.2.2.2.2.1 a.2.2.2.2.2.2.2.2.2.2.1 a.2.2.2.2.2.2.2.2.2.2.2.1 a.2.2.2.2.2.2.2.2.2.2.2.2 = some r → FunOK Tryz.prog 50 (arg_dateforms_Parse_1 a) (H0_dateforms_Parse_1 a) 3 0 3 (out_dateforms_Parse_1 r) := fun a r h => funX_ok (ws := [0, 1, 2]) unr_ok_dateforms_Parse_1 hv_dateforms_Parse_1 (fun r b blk hl => (chkH_look (hc_dateforms_Parse_1 r) b blk hl).2) (fun r => chkH_keys (hc_dateforms_Parse_1 r)) (by decide) (Es_ok_dateforms_Parse_1 n) Tryz.func50 rfl (acOf_code _) (subs_dateforms_Parse_1 n) rfl rfl ((cert_dateforms_Parse_1 n a.1 a.2.1 a.2.2.1 a.2.2.2.1 a.2.2.2.2.1 a.2.2.2.2.2.1 a.2.2.2.2.2.2.1 a.2.2.2.2.2.2.2.1 a.2.2.2.2.2.2.2.2.1 a.2.2.2.2.2.2.2.2.2.1 a.2.2.2.2.2.2.2.2.2.2.1 a.2.2.2.2.2.2.2.2.2.2.2.1 a.2.2.2.2.2.2.2.2.2.2.2.2).trans h)
theorem ok_dateforms_Parse_1 (n : Nat) : EntOK Tryz.prog (e_dateforms_Parse_1 n) := funE_ok (m := 3) (ro := 0) (rb := 3) (out := out_dateforms_Parse_1) (arg := arg_dateforms_Parse_1) (H0 := H0_dateforms_Parse_1) Tryz.call50 (by decide) (by decide) outK_ok_dateforms_Parse_1 una_ok_dateforms_Parse_1 (fun _ => rfl) (fun a => chkH_look (m := 3) (H := H0_dateforms_Parse_1 a) rfl) (fun _ => rfl) (fun r => chkH_keys (hc_dateforms_Parse_1 r)) (fun r b blk h => (chkH_look (hc_dateforms_Parse_1 r) b blk h).2) (fun r b h1 h2 => hasKeys_ok (hk_dateforms_Parse_1 r) b h1 (by omega)) hv_dateforms_Parse_1 (fun_dateforms_Parse_1 n)

/-! circa/cursors.Run -/
noncomputable def arg_cursors_Run (a : List UInt8 × Bool × Bool × List UInt8 × Int × Int × List UInt8 × List UInt8 × Int × Int × Int × List Int) : List V := [.s a.1, .fn 50 [.p 0 0, .p 1 0]]
noncomputable def H0_cursors_Run (a : List UInt8 × Bool × Bool × List UInt8 × Int × Int × List UInt8 × List UInt8 × Int × Int × Int × List Int) : List (Nat × Blk) := [(0, .cells [.b a.2.1, .b a.2.2.1, .s a.2.2.2.1, .i .i64 a.2.2.2.2.1, .i .i64 a.2.2.2.2.2.1, .s a.2.2.2.2.2.2.1, .s a.2.2.2.2.2.2.2.1, .i .u8 a.2.2.2.2.2.2.2.2.1, .i .u8 a.2.2.2.2.2.2.2.2.2.1, .i .u8 a.2.2.2.2.2.2.2.2.2.2.1]), (1, .ints .i64 3 a.2.2.2.2.2.2.2.2.2.2.2)]
noncomputable def una_cursors_Run (l : List V) (H : List (Nat × Blk)) : Option ((List UInt8 × Bool × Bool × List UInt8 × Int × Int × List UInt8 × List UInt8 × Int × Int × Int × List Int) × List Nat) := match l with
  | [.s a0, .fn 50 [.p b0 0, .p b1 0]] => (match Abs.look H b0 with
    | some (.cells [.b a1, .b a2, .s a3, .i .i64 a4, .i .i64 a5, .s a6, .s a7, .i .u8 a8, .i .u8 a9, .i .u8 a10]) => (match Abs.look H b1 with
    | some (.ints .i64 3 a11) => (cond (Abs.distinct [b0, b1] && true) (some ((a0, a1, a2, a3, a4, a5, a6, a7, a8, a9, a10, a11), [b0, b1])) none)
    | _ => none)
    | _ => none)
  | _ => none
theorem una_ok_cursors_Run : ∀ l H a ρ, una_cursors_Run l H = some (a, ρ) → ρ.length = 2 ∧ ρ.Nodup ∧ l = V.rens ρ (arg_cursors_Run a) ∧ ∀ b blk, Abs.look (H0_cursors_Run a) b = some blk → Abs.look H (getN ρ b) = some (blk.ren ρ) := by
  intro l H a ρ h
  unfold una_cursors_Run at h
  split at h
  · split at h
    · rename_i e0
      split at h
      · rename_i e1
        obtain ⟨hd, h⟩ := cond_some h
        simp only [Bool.and_eq_true] at hd
        obtain ⟨hd, _⟩ := hd
        cases h
        exact ⟨rfl, distinct_ok hd, rfl, eachH_look ⟨e0, e1, trivial⟩⟩
      · cases h
    · cases h
  · cases h
noncomputable def out_cursors_Run (r : (Int × Int × Bool × Bool × List UInt8 × Int × Int × List UInt8 × List UInt8 × Int × Int × Int × List Int)) : FOut := (⟨false, .tp [.i .i64 r.1, .i .i64 r.2.1], [(0, .cells [.b r.2.2.1, .b r.2.2.2.1, .s r.2.2.2.2.1, .i .i64 r.2.2.2.2.2.1, .i .i64 r.2.2.2.2.2.2.1, .s r.2.2.2.2.2.2.2.1, .s r.2.2.2.2.2.2.2.2.1, .i .u8 r.2.2.2.2.2.2.2.2.2.1, .i .u8 r.2.2.2.2.2.2.2.2.2.2.1, .i .u8 r.2.2.2.2.2.2.2.2.2.2.2.1]), (1, .ints .i64 3 r.2.2.2.2.2.2.2.2.2.2.2.2)], []⟩ : FOut)
noncomputable def outK_cursors_Run (α : Type) (r : (Int × Int × Bool × Bool × List UInt8 × Int × Int × List UInt8 × List UInt8 × Int × Int × Int × List Int)) (k : FOut → Option α) : Option α := (k ⟨false, .tp [.i .i64 r.1, .i .i64 r.2.1], [(0, .cells [.b r.2.2.1, .b r.2.2.2.1, .s r.2.2.2.2.1, .i .i64 r.2.2.2.2.2.1, .i .i64 r.2.2.2.2.2.2.1, .s r.2.2.2.2.2.2.2.1, .s r.2.2.2.2.2.2.2.2.1, .i .u8 r.2.2.2.2.2.2.2.2.2.1, .i .u8 r.2.2.2.2.2.2.2.2.2.2.1, .i .u8 r.2.2.2.2.2.2.2.2.2.2.2.1]), (1, .ints .i64 3 r.2.2.2.2.2.2.2.2.2.2.2.2)], []⟩)
theorem outK_ok_cursors_Run : ∀ α r k, outK_cursors_Run α r k = k (out_cursors_Run r) := by
  intro α r k
  rfl
noncomputable def unr_cursors_Run (pan : Bool) (v : V) (H : List (Nat × Blk)) (nw : List Nat) : Option ((Int × Int × Bool × Bool × List UInt8 × Int × Int × List UInt8 × List UInt8 × Int × Int × Int × List Int)) := match pan, v, H, nw with
  | false, .tp [.i .i64 r0, .i .i64 r1], [(0, .cells [.b r2, .b r3, .s r4, .i .i64 r5, .i .i64 r6, .s r7, .s r8, .i .u8 r9, .i .u8 r10, .i .u8 r11]), (1, .ints .i64 3 r12)], [] => some (r0, r1, r2, r3, r4, r5, r6, r7, r8, r9, r10, r11, r12)
  | _, _, _, _ => none
theorem unr_ok_cursors_Run : ∀ pan v H nw r, unr_cursors_Run pan v H nw = some r → (out_cursors_Run r).pan = pan ∧ (out_cursors_Run r).news = nw ∧ v = V.ren (upTo 0 2 ++ (out_cursors_Run r).news) (out_cursors_Run r).val ∧ H = renH (upTo 0 2 ++ (out_cursors_Run r).news) (out_cursors_Run r).H := by
  intro pan v H nw r h
  unfold unr_cursors_Run at h
  split at h
  · cases h; exact ⟨rfl, rfl, rfl, rfl⟩
  · cases h
theorem hv_cursors_Run : ∀ r, V.lt (2 + (out_cursors_Run r).news.length) (out_cursors_Run r).val = true := fun r => (by rfl)
theorem hc_cursors_Run : ∀ r, chkH (2 + (out_cursors_Run r).news.length) (out_cursors_Run r).H = true := fun r => (by rfl)
theorem hk_cursors_Run : ∀ r, hasKeys (out_cursors_Run r).H 0 (2 + (out_cursors_Run r).news.length) = true := fun r => (by rfl)
noncomputable def e_cursors_Run (n : Nat) : Ent := funE 25 2 una_cursors_Run (fun a => cursors_Run n a.1 a.2.1 a.2.2.1 a.2.2.2.1 a.2.2.2.2.1 a.2.2.2.2.2.1 a.2.2.2.2.2.2.1 a.2.2.2.2.2.2.2.1 a.2.2.2.2.2.2.2.2.1 a.2.2.2.2.2.2.2.2.2.1 a.2.2.2.2.2.2.2.2.2.2.1 a.2.2.2.2.2.2.2.2.2.2.2) outK_cursors_Run
noncomputable def t_cursors_Run (l : List V) (H : List (Nat × Blk)) : Bool := isS (una_cursors_Run l H)
noncomputable def Es_cursors_Run (n : Nat) : List Ent := [e_dateforms_Parse_1 n]
theorem Es_ok_cursors_Run (n : Nat) : ∀ x ∈ Es_cursors_Run n, EntOK Tryz.prog x := by
  intro x hx
  simp only [Es_cursors_Run, List.mem_cons, List.not_mem_nil, or_false] at hx
  · rw [hx]; exact ok_dateforms_Parse_1 n
noncomputable def Ls_cursors_Run (_n : Nat) : List Sub := []
theorem subs_cursors_Run (n : Nat) : SubOK Tryz.prog 27 (Ls_cursors_Run n) (acOf Tryz.f25) := SubOK_of _ (by
  have e : subs (acOf Tryz.f25) = [] := by kernel_rfl
  rw [e]; intro p hp; cases hp)
theorem cert_cursors_Run (n : Nat) (a0 : List UInt8) (a1 : Bool) (a2 : Bool) (a3 : List UInt8) (a4 : Int) (a5 : Int) (a6 : List UInt8) (a7 : List UInt8) (a8 : Int) (a9 : Int) (a10 : Int) (a11 : List Int) : runDf Tryz.prog (Es_cursors_Run n) (Ls_cursors_Run n) Tryz.f25.ntmps (spineL 2 (acOf Tryz.f25)) (getO (regOps (spineR 2 (acOf Tryz.f25))) 0) (.tmp 9) 67 (spineR 3 (acOf Tryz.f25)) [] [] Tryz.f67.ntmps (spineR 1 (acOf Tryz.f67)) 5 Tryz.f25.results.toList (funX [0, 1] 2 0 2 unr_cursors_Run) ⟨argsT [.s a0, .fn 50 [.p 0 0, .p 1 0]] 0, [(0, .cells [.b a1, .b a2, .s a3, .i .i64 a4, .i .i64 a5, .s a6, .s a7, .i .u8 a8, .i .u8 a9, .i .u8 a10]), (1, .ints .i64 3 a11)], 2, 2, 0, 2⟩ = cursors_Run n a0 a1 a2 a3 a4 a5 a6 a7 a8 a9 a10 a11 := by kernel_rfl
theorem subsC_cursors_Run : SubOK Tryz.prog Tryz.f67.ntmps [] (acOf Tryz.f67) := SubOK_of _ (by
  have e : subs (acOf Tryz.f67) = [] := by kernel_rfl
  rw [e]; intro p hp; cases hp)
theorem fun_cursors_Run (n : Nat) : ∀ a r, cursors_Run n a.1 a.2.1 a.2.2.1 a.2.2.2.1 a.2.2.2.2.1 a.2.2.2.2.2.1 a.2.2.2.2.2.2.1 a.2.2.2.2.2.2.2.1 a.2.2.2.2.2.2.2.2.1 a.2.2.2.2.2.2.2.2.2.1 a.2.2.2.2.2.2.2.2.2.2.1 a.2.2.2.2.2.2.2.2.2.2.2 = some r → FunOK Tryz.prog 25 (arg_cursors_Run a) (H0_cursors_Run a) 2 0 2 (out_cursors_Run r) := fun a r h => funX_of (ws := [0, 1]) unr_ok_cursors_Run hv_cursors_Run (fun r b blk hl => (chkH_look (hc_cursors_Run r) b blk hl).2) (fun r => chkH_keys (hc_cursors_Run r)) (by decide) rfl (funcD2_ok (Es_ok_cursors_Run n) (k := 2) (idD := 3) (o1 := (getO (regOps (spineR 2 (acOf Tryz.f25))) 0)) (oD := (getO (regOps (spineR 2 (acOf Tryz.f25))) 1)) (acB := (spineR 3 (acOf Tryz.f25))) (idR := 0) (oR := (getO (regOps (acOf Tryz.f67)) 0)) Tryz.func25 rfl (acOf_code _) (by kernel_rfl) (subs_cursors_Run n) (by kernel_rfl) (by kernel_rfl) (by kernel_rfl) (by kernel_rfl) (EC := []) (fun x hx => by cases hx) Tryz.func67 rfl (acOf_code _) (by kernel_rfl) (by kernel_rfl) (by kernel_rfl) (by kernel_rfl) (by kernel_rfl) subsC_cursors_Run Tryz.call67 rfl ((cert_cursors_Run n a.1 a.2.1 a.2.2.1 a.2.2.2.1 a.2.2.2.2.1 a.2.2.2.2.2.1 a.2.2.2.2.2.2.1 a.2.2.2.2.2.2.2.1 a.2.2.2.2.2.2.2.2.1 a.2.2.2.2.2.2.2.2.2.1 a.2.2.2.2.2.2.2.2.2.2.1 a.2.2.2.2.2.2.2.2.2.2.2).trans h))
theorem ok_cursors_Run (n : Nat) : EntOK Tryz.prog (e_cursors_Run n) := funE_ok (m := 2) (ro := 0) (rb := 2) (out := out_cursors_Run) (arg := arg_cursors_Run) (H0 := H0_cursors_Run) Tryz.call25 (by decide) (by decide) outK_ok_cursors_Run una_ok_cursors_Run (fun _ => rfl) (fun a => chkH_look (m := 2) (H := H0_cursors_Run a) rfl) (fun _ => rfl) (fun r => chkH_keys (hc_cursors_Run r)) (fun r b blk h => (chkH_look (hc_cursors_Run r) b blk h).2) (fun r b h1 h2 => hasKeys_ok (hk_cursors_Run r) b h1 (by omega)) hv_cursors_Run (fun_cursors_Run n)

/-! circa/seasons.Check -/
noncomputable def arg_seasons_Check (a : Int) : List V := [.i .i64 a]
noncomputable def una_seasons_Check (l : List V) : Option (Int) := match l with
  | [.i .i64 a0] => some a0
  | _ => none
theorem una_ok_seasons_Check : ∀ l a, una_seasons_Check l = some a → l = arg_seasons_Check a := by
  intro l a h
  unfold una_seasons_Check at h
  split at h
  · cases h; rfl
  · cases h
noncomputable def enc_seasons_Check (r : Int) : V := .i .i64 r
noncomputable def unr_seasons_Check (v : V) : Option (Int) := match v with
  | .i .i64 r0 => some r0
  | _ => none
theorem unr_ok_seasons_Check : ∀ v r, unr_seasons_Check v = some r → v = enc_seasons_Check r := by
  intro v r h
  unfold unr_seasons_Check at h
  split at h
  · cases h; rfl
  · cases h
noncomputable def e_seasons_Check (n : Nat) : Ent := pureE 66 una_seasons_Check (fun a => seasons_Check n a) enc_seasons_Check
noncomputable def t_seasons_Check (l : List V) (_ : List (Nat × Blk)) : Bool := isS (una_seasons_Check l)
noncomputable def Es_seasons_Check (_n : Nat) : List Ent := []
theorem Es_ok_seasons_Check (n : Nat) : ∀ x ∈ Es_seasons_Check n, EntOK Tryz.prog x := by
  intro x hx
  simp [Es_seasons_Check] at hx
noncomputable def Ls_seasons_Check (_n : Nat) : List Sub := []
theorem subs_seasons_Check (n : Nat) : SubOK Tryz.prog 9 (Ls_seasons_Check n) (acOf Tryz.f66) := SubOK_of _ (by
  have e : subs (acOf Tryz.f66) = [] := by kernel_rfl
  rw [e]; intro p hp; cases hp)
theorem cert_seasons_Check (n : Nat) (a0 : Int) : run Tryz.prog (Es_seasons_Check n) (Ls_seasons_Check n) Tryz.f66.ntmps (acOf Tryz.f66) ⟨argsT [.i .i64 a0] 0, [], 0, 0, 0, 0⟩ (finK Tryz.prog Tryz.f66.results.toList (retX unr_seasons_Check)) = seasons_Check n a0 := by kernel_rfl
theorem pure_seasons_Check (n : Nat) : ∀ a r, seasons_Check n a = some r → PureOK Tryz.prog 66 (arg_seasons_Check a) (enc_seasons_Check r) := fun a r h => pureX_ok unr_ok_seasons_Check (Es_ok_seasons_Check n) Tryz.func66 rfl (acOf_code _) (subs_seasons_Check n) rfl ((cert_seasons_Check n a).trans h)
theorem ok_seasons_Check (n : Nat) : EntOK Tryz.prog (e_seasons_Check n) := pureE_ok Tryz.call66 una_ok_seasons_Check (fun _ => rfl) (pure_seasons_Check n)

/-! circa/dateforms.Season -/
noncomputable def arg_dateforms_Season (a : Bool × Bool × List UInt8 × Int × Int × List UInt8 × List UInt8 × Int × Int × Int) : List V := [.ag [.b a.1, .b a.2.1, .s a.2.2.1, .i .i64 a.2.2.2.1, .i .i64 a.2.2.2.2.1, .s a.2.2.2.2.2.1, .s a.2.2.2.2.2.2.1, .i .u8 a.2.2.2.2.2.2.2.1, .i .u8 a.2.2.2.2.2.2.2.2.1, .i .u8 a.2.2.2.2.2.2.2.2.2]]
noncomputable def una_dateforms_Season (l : List V) : Option (Bool × Bool × List UInt8 × Int × Int × List UInt8 × List UInt8 × Int × Int × Int) := match l with
  | [.ag [.b a0, .b a1, .s a2, .i .i64 a3, .i .i64 a4, .s a5, .s a6, .i .u8 a7, .i .u8 a8, .i .u8 a9]] => some (a0, a1, a2, a3, a4, a5, a6, a7, a8, a9)
  | _ => none
theorem una_ok_dateforms_Season : ∀ l a, una_dateforms_Season l = some a → l = arg_dateforms_Season a := by
  intro l a h
  unfold una_dateforms_Season at h
  split at h
  · cases h; rfl
  · cases h
noncomputable def enc_dateforms_Season (r : Int × Bool) : V := .tp [.i .i64 r.1, .b r.2]
noncomputable def unr_dateforms_Season (v : V) : Option (Int × Bool) := match v with
  | .tp [.i .i64 r0, .b r1] => some (r0, r1)
  | _ => none
theorem unr_ok_dateforms_Season : ∀ v r, unr_dateforms_Season v = some r → v = enc_dateforms_Season r := by
  intro v r h
  unfold unr_dateforms_Season at h
  split at h
  · cases h; rfl
  · cases h
noncomputable def e_dateforms_Season (n : Nat) : Ent := pureE 19 una_dateforms_Season (fun a => dateforms_Season n a.1 a.2.1 a.2.2.1 a.2.2.2.1 a.2.2.2.2.1 a.2.2.2.2.2.1 a.2.2.2.2.2.2.1 a.2.2.2.2.2.2.2.1 a.2.2.2.2.2.2.2.2.1 a.2.2.2.2.2.2.2.2.2) enc_dateforms_Season
noncomputable def t_dateforms_Season (l : List V) (_ : List (Nat × Blk)) : Bool := isS (una_dateforms_Season l)
noncomputable def Es_dateforms_Season (n : Nat) : List Ent := [e_lib_65 n, e_seasons_Check n]
theorem Es_ok_dateforms_Season (n : Nat) : ∀ x ∈ Es_dateforms_Season n, EntOK Tryz.prog x := by
  intro x hx
  simp only [Es_dateforms_Season, List.mem_cons, List.not_mem_nil, or_false] at hx
  rcases hx with hx | hx
  · rw [hx]; exact ok_lib_65 n
  · rw [hx]; exact ok_seasons_Check n
noncomputable def Ls_dateforms_Season (_n : Nat) : List Sub := []
theorem subs_dateforms_Season (n : Nat) : SubOK Tryz.prog 26 (Ls_dateforms_Season n) (acOf Tryz.f19) := SubOK_of _ (by
  have e : subs (acOf Tryz.f19) = [] := by kernel_rfl
  rw [e]; intro p hp; cases hp)
theorem cert_dateforms_Season (n : Nat) (a0 : Bool) (a1 : Bool) (a2 : List UInt8) (a3 : Int) (a4 : Int) (a5 : List UInt8) (a6 : List UInt8) (a7 : Int) (a8 : Int) (a9 : Int) : run Tryz.prog (Es_dateforms_Season n) (Ls_dateforms_Season n) Tryz.f19.ntmps (acOf Tryz.f19) ⟨argsT [.ag [.b a0, .b a1, .s a2, .i .i64 a3, .i .i64 a4, .s a5, .s a6, .i .u8 a7, .i .u8 a8, .i .u8 a9]] 0, [], 0, 0, 0, 0⟩ (finK Tryz.prog Tryz.f19.results.toList (retX unr_dateforms_Season)) = dateforms_Season n a0 a1 a2 a3 a4 a5 a6 a7 a8 a9 := by kernel_rfl
theorem pure_dateforms_Season (n : Nat) : ∀ a r, dateforms_Season n a.1 a.2.1 a.2.2.1 a.2.2.2.1 a.2.2.2.2.1 a.2.2.2.2.2.1 a.2.2.2.2.2.2.1 a.2.2.2.2.2.2.2.1 a.2.2.2.2.2.2.2.2.1 a.2.2.2.2.2.2.2.2.2 = some r → PureOK Tryz.prog 19 (arg_dateforms_Season a) (enc_dateforms_Season r) := fun a r h => pureX_ok unr_ok_dateforms_Season (Es_ok_dateforms_Season n) Tryz.func19 rfl (acOf_code _) (subs_dateforms_Season n) rfl ((cert_dateforms_Season n a.1 a.2.1 a.2.2.1 a.2.2.2.1 a.2.2.2.2.1 a.2.2.2.2.2.1 a.2.2.2.2.2.2.1 a.2.2.2.2.2.2.2.1 a.2.2.2.2.2.2.2.2.1 a.2.2.2.2.2.2.2.2.2).trans h)
theorem ok_dateforms_Season (n : Nat) : EntOK Tryz.prog (e_dateforms_Season n) := pureE_ok Tryz.call19 una_ok_dateforms_Season (fun _ => rfl) (pure_dateforms_Season n)

/-! unicode/utf8.ValidRune -/
noncomputable def arg_unicode_utf8_ValidRune (a : Int) : List V := [.i .i32 a]
noncomputable def una_unicode_utf8_ValidRune (l : List V) : Option (Int) := match l with
  | [.i .i32 a0] => some a0
  | _ => none
theorem una_ok_unicode_utf8_ValidRune : ∀ l a, una_unicode_utf8_ValidRune l = some a → l = arg_unicode_utf8_ValidRune a := by
  intro l a h
  unfold una_unicode_utf8_ValidRune at h
  split at h
  · cases h; rfl
  · cases h
noncomputable def enc_unicode_utf8_ValidRune (r : Bool) : V := .b r
noncomputable def unr_unicode_utf8_ValidRune (v : V) : Option (Bool) := match v with
  | .b r0 => some r0
  | _ => none
theorem unr_ok_unicode_utf8_ValidRune : ∀ v r, unr_unicode_utf8_ValidRune v = some r → v = enc_unicode_utf8_ValidRune r := by
  intro v r h
  unfold unr_unicode_utf8_ValidRune at h
  split at h
  · cases h; rfl
  · cases h
noncomputable def e_unicode_utf8_ValidRune (n : Nat) : Ent := pureE 266 una_unicode_utf8_ValidRune (fun a => unicode_utf8_ValidRune n a) enc_unicode_utf8_ValidRune
noncomputable def t_unicode_utf8_ValidRune (l : List V) (_ : List (Nat × Blk)) : Bool := isS (una_unicode_utf8_ValidRune l)
noncomputable def Es_unicode_utf8_ValidRune (_n : Nat) : List Ent := []
theorem Es_ok_unicode_utf8_ValidRune (n : Nat) : ∀ x ∈ Es_unicode_utf8_ValidRune n, EntOK Tryz.prog x := by
  intro x hx
  simp [Es_unicode_utf8_ValidRune] at hx
noncomputable def Ls_unicode_utf8_ValidRune (_n : Nat) : List Sub := []
theorem subs_unicode_utf8_ValidRune (n : Nat) : SubOK Tryz.prog 17 (Ls_unicode_utf8_ValidRune n) (acOf Tryz.f266) := SubOK_of _ (by
  have e : subs (acOf Tryz.f266) = [] := by kernel_rfl
  rw [e]; intro p hp; cases hp)
theorem cert_unicode_utf8_ValidRune (n : Nat) (a0 : Int) : run Tryz.prog (Es_unicode_utf8_ValidRune n) (Ls_unicode_utf8_ValidRune n) Tryz.f266.ntmps (acOf Tryz.f266) ⟨argsT [.i .i32 a0] 0, [], 0, 0, 0, 0⟩ (finK Tryz.prog Tryz.f266.results.toList (retX unr_unicode_utf8_ValidRune)) = unicode_utf8_ValidRune n a0 := by kernel_rfl
theorem pure_unicode_utf8_ValidRune (n : Nat) : ∀ a r, unicode_utf8_ValidRune n a = some r → PureOK Tryz.prog 266 (arg_unicode_utf8_ValidRune a) (enc_unicode_utf8_ValidRune r) := fun a r h => pureX_ok unr_ok_unicode_utf8_ValidRune (Es_ok_unicode_utf8_ValidRune n) Tryz.func266 rfl (acOf_code _) (subs_unicode_utf8_ValidRune n) rfl ((cert_unicode_utf8_ValidRune n a).trans h)
theorem ok_unicode_utf8_ValidRune (n : Nat) : EntOK Tryz.prog (e_unicode_utf8_ValidRune n) := pureE_ok Tryz.call266 una_ok_unicode_utf8_ValidRune (fun _ => rfl) (pure_unicode_utf8_ValidRune n)

/-! strings.IndexRune -/
noncomputable def arg_strings_IndexRune (a : List UInt8 × Int) : List V := [.s a.1, .i .i32 a.2]
noncomputable def una_strings_IndexRune (l : List V) : Option (List UInt8 × Int) := match l with
  | [.s a0, .i .i32 a1] => some (a0, a1)
  | _ => none
theorem una_ok_strings_IndexRune : ∀ l a, una_strings_IndexRune l = some a → l = arg_strings_IndexRune a := by
  intro l a h
  unfold una_strings_IndexRune at h
  split at h
  · cases h; rfl
  · cases h
noncomputable def enc_strings_IndexRune (r : Int) : V := .i .i64 r
noncomputable def unr_strings_IndexRune (v : V) : Option (Int) := match v with
  | .i .i64 r0 => some r0
  | _ => none
theorem unr_ok_strings_IndexRune : ∀ v r, unr_strings_IndexRune v = some r → v = enc_strings_IndexRune r := by
  intro v r h
  unfold unr_strings_IndexRune at h
  split at h
  · cases h; rfl
  · cases h
noncomputable def e_strings_IndexRune (n : Nat) : Ent := pureE 241 una_strings_IndexRune (fun a => strings_IndexRune n a.1 a.2) enc_strings_IndexRune
noncomputable def t_strings_IndexRune (l : List V) (_ : List (Nat × Blk)) : Bool := isS (una_strings_IndexRune l)
noncomputable def Es_strings_IndexRune (n : Nat) : List Ent := [e_strings_IndexByte n, e_unicode_utf8_ValidRune n]
theorem Es_ok_strings_IndexRune (n : Nat) : ∀ x ∈ Es_strings_IndexRune n, EntOK Tryz.prog x := by
  intro x hx
  simp only [Es_strings_IndexRune, List.mem_cons, List.not_mem_nil, or_false] at hx
  rcases hx with hx | hx
  · rw [hx]; exact ok_strings_IndexByte n
  · rw [hx]; exact ok_unicode_utf8_ValidRune n
noncomputable def an_strings_IndexRune_l0 : Ann := ⟨[175], [0], 1, []⟩
noncomputable def emb_strings_IndexRune_l0 (x : List UInt8 × Nat) : St := ⟨[(175, some (.p 0 0))], [(0, .iter x.1 x.2)], 1, 0, 0, 0⟩
noncomputable def un_strings_IndexRune_l0 (s : St) : Option (List UInt8 × Nat) := match s with
  | ⟨[(175, some (.p 0 0))], [(0, .iter x0 x1)], 1, 0, 0, 0⟩ => some (x0, x1)
  | _ => none
theorem un_ok_strings_IndexRune_l0 : ∀ s x, un_strings_IndexRune_l0 s = some x → s = emb_strings_IndexRune_l0 x := by
  intro s x h
  unfold un_strings_IndexRune_l0 at h
  split at h
  · cases h; rfl
  · cases h
noncomputable def ax_strings_IndexRune_l0 : Ex → Ann := fun ex => match ex with
  | .ret => ⟨[4], [], 1, []⟩
  | .exit 9 => ⟨[], [], 1, []⟩
  | _ => ⟨[], [], 0, []⟩
noncomputable def out_strings_IndexRune_l0 (y : Int ⊕ Unit) : Ex × St := (Sum.casesOn (motive := fun _ => Ex × St) y (fun a0 => (.ret, ⟨[(4, some (.i .i64 a0))], [], 1, 0, 0, 0⟩)) (fun b0 => (.exit 9, ⟨[], [], 1, 0, 0, 0⟩)))
noncomputable def outK_strings_IndexRune_l0 (α : Type) (y : Int ⊕ Unit) (k : Ex → St → Option α) : Option α := (Sum.casesOn (motive := fun _ => Option α) y (fun a0 => (k (.ret) ⟨[(4, some (.i .i64 a0))], [], 1, 0, 0, 0⟩)) (fun b0 => (k (.exit 9) ⟨[], [], 1, 0, 0, 0⟩)))
theorem outK_ok_strings_IndexRune_l0 : ∀ α y k, outK_strings_IndexRune_l0 α y k = k (out_strings_IndexRune_l0 y).1 (out_strings_IndexRune_l0 y).2 := by
  intro α y k
  rcases y with y | y <;> rfl
noncomputable def ux_strings_IndexRune_l0 (ex : Ex) (s : St) : Option (Int ⊕ Unit) := match ex, s with
  | .ret, ⟨[(4, some (.i .i64 y0))], [], 1, 0, 0, 0⟩ => some (.inl y0)
  | .exit 9, ⟨[], [], 1, 0, 0, 0⟩ => some (.inr ())
  | _, _ => none
theorem ux_ok_strings_IndexRune_l0 : ∀ ex s y, ux_strings_IndexRune_l0 ex s = some y → (ex, s) = out_strings_IndexRune_l0 y := by
  intro ex s y h
  unfold ux_strings_IndexRune_l0 at h
  split at h
  · cases h; rfl
  · cases h; rfl
  · cases h
noncomputable def an_strings_IndexRune_l2 : Ann := ⟨[0, 7, 8, 9, 12], [], 128, []⟩
noncomputable def emb_strings_IndexRune_l2 (x : List UInt8 × List UInt8 × Int × Int × Int) : St := ⟨[(0, some (.s x.1)), (7, some (.s x.2.1)), (8, some (.i .i64 x.2.2.1)), (9, some (.i .i64 x.2.2.2.1)), (12, some (.i .i64 x.2.2.2.2))], [], 128, 0, 0, 0⟩
noncomputable def un_strings_IndexRune_l2 (s : St) : Option (List UInt8 × List UInt8 × Int × Int × Int) := match s with
  | ⟨[(0, some (.s x0)), (7, some (.s x1)), (8, some (.i .i64 x2)), (9, some (.i .i64 x3)), (12, some (.i .i64 x4))], [], 128, 0, 0, 0⟩ => some (x0, x1, x2, x3, x4)
  | _ => none
theorem un_ok_strings_IndexRune_l2 : ∀ s x, un_strings_IndexRune_l2 s = some x → s = emb_strings_IndexRune_l2 x := by
  intro s x h
  unfold un_strings_IndexRune_l2 at h
  split at h
  · cases h; rfl
  · cases h
noncomputable def ax_strings_IndexRune_l2 : Ex → Ann := fun ex => match ex with
  | .exit 3 => ⟨[8, 9], [], 128, []⟩
  | _ => ⟨[], [], 0, []⟩
noncomputable def out_strings_IndexRune_l2 (y : (Int × Int)) : Ex × St := (.exit 3, ⟨[(8, some (.i .i64 y.1)), (9, some (.i .i64 y.2))], [], 128, 0, 0, 0⟩)
noncomputable def outK_strings_IndexRune_l2 (α : Type) (y : (Int × Int)) (k : Ex → St → Option α) : Option α := (k (.exit 3) ⟨[(8, some (.i .i64 y.1)), (9, some (.i .i64 y.2))], [], 128, 0, 0, 0⟩)
theorem outK_ok_strings_IndexRune_l2 : ∀ α y k, outK_strings_IndexRune_l2 α y k = k (out_strings_IndexRune_l2 y).1 (out_strings_IndexRune_l2 y).2 := by
  intro α y k
  rfl
noncomputable def ux_strings_IndexRune_l2 (ex : Ex) (s : St) : Option ((Int × Int)) := match ex, s with
  | .exit 3, ⟨[(8, some (.i .i64 y0)), (9, some (.i .i64 y1))], [], 128, 0, 0, 0⟩ => some (y0, y1)
  | _, _ => none
theorem ux_ok_strings_IndexRune_l2 : ∀ ex s y, ux_strings_IndexRune_l2 ex s = some y → (ex, s) = out_strings_IndexRune_l2 y := by
  intro ex s y h
  unfold ux_strings_IndexRune_l2 at h
  split at h
  · cases h; rfl
  · cases h
noncomputable def an_strings_IndexRune_l2a : Ann := ⟨[0, 7, 8, 9, 12], [], 56, []⟩
noncomputable def emb_strings_IndexRune_l2a (x : List UInt8 × List UInt8 × Int × Int × Int) : St := ⟨[(0, some (.s x.1)), (7, some (.s x.2.1)), (8, some (.i .i64 x.2.2.1)), (9, some (.i .i64 x.2.2.2.1)), (12, some (.i .i64 x.2.2.2.2))], [], 56, 0, 0, 0⟩
noncomputable def un_strings_IndexRune_l2a (s : St) : Option (List UInt8 × List UInt8 × Int × Int × Int) := match s with
  | ⟨[(0, some (.s x0)), (7, some (.s x1)), (8, some (.i .i64 x2)), (9, some (.i .i64 x3)), (12, some (.i .i64 x4))], [], 56, 0, 0, 0⟩ => some (x0, x1, x2, x3, x4)
  | _ => none
theorem un_ok_strings_IndexRune_l2a : ∀ s x, un_strings_IndexRune_l2a s = some x → s = emb_strings_IndexRune_l2a x := by
  intro s x h
  unfold un_strings_IndexRune_l2a at h
  split at h
  · cases h; rfl
  · cases h
noncomputable def ax_strings_IndexRune_l2a : Ex → Ann := fun ex => match ex with
  | .exit 3 => ⟨[8, 9], [], 56, []⟩
  | _ => ⟨[], [], 0, []⟩
noncomputable def out_strings_IndexRune_l2a (y : (Int × Int)) : Ex × St := (.exit 3, ⟨[(8, some (.i .i64 y.1)), (9, some (.i .i64 y.2))], [], 56, 0, 0, 0⟩)
noncomputable def outK_strings_IndexRune_l2a (α : Type) (y : (Int × Int)) (k : Ex → St → Option α) : Option α := (k (.exit 3) ⟨[(8, some (.i .i64 y.1)), (9, some (.i .i64 y.2))], [], 56, 0, 0, 0⟩)
theorem outK_ok_strings_IndexRune_l2a : ∀ α y k, outK_strings_IndexRune_l2a α y k = k (out_strings_IndexRune_l2a y).1 (out_strings_IndexRune_l2a y).2 := by
  intro α y k
  rfl
noncomputable def ux_strings_IndexRune_l2a (ex : Ex) (s : St) : Option ((Int × Int)) := match ex, s with
  | .exit 3, ⟨[(8, some (.i .i64 y0)), (9, some (.i .i64 y1))], [], 56, 0, 0, 0⟩ => some (y0, y1)
  | _, _ => none
theorem ux_ok_strings_IndexRune_l2a : ∀ ex s y, ux_strings_IndexRune_l2a ex s = some y → (ex, s) = out_strings_IndexRune_l2a y := by
  intro ex s y h
  unfold ux_strings_IndexRune_l2a at h
  split at h
  · cases h; rfl
  · cases h
noncomputable def an_strings_IndexRune_l1 : Ann := ⟨[0, 7, 8, 9], [], 0, []⟩
noncomputable def emb_strings_IndexRune_l1 (x : List UInt8 × List UInt8 × Int × Int) : St := ⟨[(0, some (.s x.1)), (7, some (.s x.2.1)), (8, some (.i .i64 x.2.2.1)), (9, some (.i .i64 x.2.2.2))], [], 0, 0, 0, 0⟩
noncomputable def un_strings_IndexRune_l1 (s : St) : Option (List UInt8 × List UInt8 × Int × Int) := match s with
  | ⟨[(0, some (.s x0)), (7, some (.s x1)), (8, some (.i .i64 x2)), (9, some (.i .i64 x3))], [], 0, 0, 0, 0⟩ => some (x0, x1, x2, x3)
  | _ => none
theorem un_ok_strings_IndexRune_l1 : ∀ s x, un_strings_IndexRune_l1 s = some x → s = emb_strings_IndexRune_l1 x := by
  intro s x h
  unfold un_strings_IndexRune_l1 at h
  split at h
  · cases h; rfl
  · cases h
noncomputable def ax_strings_IndexRune_l1 : Ex → Ann := fun ex => match ex with
  | .ret => ⟨[4], [], 0, []⟩
  | .exit 1 => ⟨[], [], 0, []⟩
  | _ => ⟨[], [], 0, []⟩
noncomputable def out_strings_IndexRune_l1 (y : Int ⊕ Unit) : Ex × St := (Sum.casesOn (motive := fun _ => Ex × St) y (fun a0 => (.ret, ⟨[(4, some (.i .i64 a0))], [], 0, 0, 0, 0⟩)) (fun b0 => (.exit 1, ⟨[], [], 0, 0, 0, 0⟩)))
noncomputable def outK_strings_IndexRune_l1 (α : Type) (y : Int ⊕ Unit) (k : Ex → St → Option α) : Option α := (Sum.casesOn (motive := fun _ => Option α) y (fun a0 => (k (.ret) ⟨[(4, some (.i .i64 a0))], [], 0, 0, 0, 0⟩)) (fun b0 => (k (.exit 1) ⟨[], [], 0, 0, 0, 0⟩)))
theorem outK_ok_strings_IndexRune_l1 : ∀ α y k, outK_strings_IndexRune_l1 α y k = k (out_strings_IndexRune_l1 y).1 (out_strings_IndexRune_l1 y).2 := by
  intro α y k
  rcases y with y | y <;> rfl
noncomputable def ux_strings_IndexRune_l1 (ex : Ex) (s : St) : Option (Int ⊕ Unit) := match ex, s with
  | .ret, ⟨[(4, some (.i .i64 y0))], [], 0, 0, 0, 0⟩ => some (.inl y0)
  | .exit 1, ⟨[], [], 0, 0, 0, 0⟩ => some (.inr ())
  | _, _ => none
theorem ux_ok_strings_IndexRune_l1 : ∀ ex s y, ux_strings_IndexRune_l1 ex s = some y → (ex, s) = out_strings_IndexRune_l1 y := by
  intro ex s y h
  unfold ux_strings_IndexRune_l1 at h
  split at h
  · cases h; rfl
  · cases h; rfl
  · cases h
noncomputable def Ls_strings_IndexRune (n : Nat) : List Sub := [subE 0 an_strings_IndexRune_l0 un_strings_IndexRune_l0 (fun x => iterL (strings_IndexRune_l0 n) n x) outK_strings_IndexRune_l0, altS (subE 2 an_strings_IndexRune_l2 un_strings_IndexRune_l2 (fun x => iterL (strings_IndexRune_l2 n) n x) outK_strings_IndexRune_l2) (readsS an_strings_IndexRune_l2 un_strings_IndexRune_l2) (subE 2 an_strings_IndexRune_l2a un_strings_IndexRune_l2a (fun x => iterL (strings_IndexRune_l2a n) n x) outK_strings_IndexRune_l2a), subE 1 an_strings_IndexRune_l1 un_strings_IndexRune_l1 (fun x => iterL (strings_IndexRune_l1 n) n x) outK_strings_IndexRune_l1]
noncomputable def sac_strings_IndexRune_l0 : AC := getS (subs (acOf Tryz.f241)) 0
noncomputable def ac_strings_IndexRune_l0 : AC := AC.body sac_strings_IndexRune_l0
theorem subs_strings_IndexRune_l0 (n : Nat) : SubOK Tryz.prog 187 (Ls_strings_IndexRune n) ac_strings_IndexRune_l0 := SubOK_of _ (by
  have e : subs ac_strings_IndexRune_l0 = [] := by kernel_rfl
  rw [e]; intro p hp; cases hp)
theorem body_strings_IndexRune_l0 (n : Nat) : ∀ x, run Tryz.prog (Es_strings_IndexRune n) (Ls_strings_IndexRune n) 187 ac_strings_IndexRune_l0 (emb_strings_IndexRune_l0 x) (roundK an_strings_IndexRune_l0 un_strings_IndexRune_l0 ax_strings_IndexRune_l0 ux_strings_IndexRune_l0) = strings_IndexRune_l0 n x := fun _ => by kernel_rfl
theorem sub1_strings_IndexRune_l0 (n : Nat) : ∀ (α : Type) (s : St) (k : Ex → St → Option α) (z : α), (subE 0 an_strings_IndexRune_l0 un_strings_IndexRune_l0 (fun x => iterL (strings_IndexRune_l0 n) n x) outK_strings_IndexRune_l0).e α s k = some z → SemC Tryz.prog 187 (sac_strings_IndexRune_l0).code s fun ex s' => k ex s' = some z := by
  intro α s k z h
  have e : sac_strings_IndexRune_l0 = .loop ac_strings_IndexRune_l0 := by kernel_rfl
  rw [e]
  exact subE_ok (m := 0) (f := fun x => iterL (strings_IndexRune_l0 n) n x) (out := out_strings_IndexRune_l0) outK_ok_strings_IndexRune_l0 un_ok_strings_IndexRune_l0 (fun x y hy => loop_ok (Es_ok_strings_IndexRune n) (subs_strings_IndexRune_l0 n) un_ok_strings_IndexRune_l0 ux_ok_strings_IndexRune_l0 (body_strings_IndexRune_l0 n) n x y hy) h
theorem sub_strings_IndexRune_l0 (n : Nat) : SubSt Tryz.prog 187 (Ls_strings_IndexRune n) 0 sac_strings_IndexRune_l0 := fun α s k z => sub1_strings_IndexRune_l0 n α s k z
noncomputable def sac_strings_IndexRune_l1 : AC := getS (subs (acOf Tryz.f241)) 1
noncomputable def ac_strings_IndexRune_l1 : AC := AC.body sac_strings_IndexRune_l1
noncomputable def sac_strings_IndexRune_l2 : AC := getS (subs ac_strings_IndexRune_l1) 2
noncomputable def ac_strings_IndexRune_l2 : AC := AC.body sac_strings_IndexRune_l2
theorem subs_strings_IndexRune_l2 (n : Nat) : SubOK Tryz.prog 187 (Ls_strings_IndexRune n) ac_strings_IndexRune_l2 := SubOK_of _ (by
  have e : subs ac_strings_IndexRune_l2 = [] := by kernel_rfl
  rw [e]; intro p hp; cases hp)
theorem body_strings_IndexRune_l2 (n : Nat) : ∀ x, run Tryz.prog (Es_strings_IndexRune n) (Ls_strings_IndexRune n) 187 ac_strings_IndexRune_l2 (emb_strings_IndexRune_l2 x) (roundK an_strings_IndexRune_l2 un_strings_IndexRune_l2 ax_strings_IndexRune_l2 ux_strings_IndexRune_l2) = strings_IndexRune_l2 n x := fun _ => by kernel_rfl
theorem sub1_strings_IndexRune_l2 (n : Nat) : ∀ (α : Type) (s : St) (k : Ex → St → Option α) (z : α), (subE 2 an_strings_IndexRune_l2 un_strings_IndexRune_l2 (fun x => iterL (strings_IndexRune_l2 n) n x) outK_strings_IndexRune_l2).e α s k = some z → SemC Tryz.prog 187 (sac_strings_IndexRune_l2).code s fun ex s' => k ex s' = some z := by
  intro α s k z h
  have e : sac_strings_IndexRune_l2 = .loop ac_strings_IndexRune_l2 := by kernel_rfl
  rw [e]
  exact subE_ok (m := 2) (f := fun x => iterL (strings_IndexRune_l2 n) n x) (out := out_strings_IndexRune_l2) outK_ok_strings_IndexRune_l2 un_ok_strings_IndexRune_l2 (fun x y hy => loop_ok (Es_ok_strings_IndexRune n) (subs_strings_IndexRune_l2 n) un_ok_strings_IndexRune_l2 ux_ok_strings_IndexRune_l2 (body_strings_IndexRune_l2 n) n x y hy) h
theorem body_strings_IndexRune_l2a (n : Nat) : ∀ x, run Tryz.prog (Es_strings_IndexRune n) (Ls_strings_IndexRune n) 187 ac_strings_IndexRune_l2 (emb_strings_IndexRune_l2a x) (roundK an_strings_IndexRune_l2a un_strings_IndexRune_l2a ax_strings_IndexRune_l2a ux_strings_IndexRune_l2a) = strings_IndexRune_l2a n x := fun _ => by kernel_rfl
theorem sub1_strings_IndexRune_l2a (n : Nat) : ∀ (α : Type) (s : St) (k : Ex → St → Option α) (z : α), (subE 2 an_strings_IndexRune_l2a un_strings_IndexRune_l2a (fun x => iterL (strings_IndexRune_l2a n) n x) outK_strings_IndexRune_l2a).e α s k = some z → SemC Tryz.prog 187 (sac_strings_IndexRune_l2).code s fun ex s' => k ex s' = some z := by
  intro α s k z h
  have e : sac_strings_IndexRune_l2 = .loop ac_strings_IndexRune_l2 := by kernel_rfl
  rw [e]
  exact subE_ok (m := 2) (f := fun x => iterL (strings_IndexRune_l2a n) n x) (out := out_strings_IndexRune_l2a) outK_ok_strings_IndexRune_l2a un_ok_strings_IndexRune_l2a (fun x y hy => loop_ok (Es_ok_strings_IndexRune n) (subs_strings_IndexRune_l2 n) un_ok_strings_IndexRune_l2a ux_ok_strings_IndexRune_l2a (body_strings_IndexRune_l2a n) n x y hy) h
theorem sub_strings_IndexRune_l2 (n : Nat) : SubSt Tryz.prog 187 (Ls_strings_IndexRune n) 2 sac_strings_IndexRune_l2 := fun α s k z => altS_ok (sub1_strings_IndexRune_l2 n α s k z) (sub1_strings_IndexRune_l2a n α s k z)
theorem subs_strings_IndexRune_l1 (n : Nat) : SubOK Tryz.prog 187 (Ls_strings_IndexRune n) ac_strings_IndexRune_l1 := SubOK_of _ (by
  have e : subs ac_strings_IndexRune_l1 = [(2, sac_strings_IndexRune_l2)] := by kernel_rfl
  rw [e]; intro p hp
  simp only [List.mem_cons, List.not_mem_nil, or_false] at hp
  · rw [hp]; exact sub_strings_IndexRune_l2 n
  )
theorem body_strings_IndexRune_l1 (n : Nat) : ∀ x, run Tryz.prog (Es_strings_IndexRune n) (Ls_strings_IndexRune n) 187 ac_strings_IndexRune_l1 (emb_strings_IndexRune_l1 x) (roundK an_strings_IndexRune_l1 un_strings_IndexRune_l1 ax_strings_IndexRune_l1 ux_strings_IndexRune_l1) = strings_IndexRune_l1 n x := fun _ => by kernel_rfl
theorem sub1_strings_IndexRune_l1 (n : Nat) : ∀ (α : Type) (s : St) (k : Ex → St → Option α) (z : α), (subE 1 an_strings_IndexRune_l1 un_strings_IndexRune_l1 (fun x => iterL (strings_IndexRune_l1 n) n x) outK_strings_IndexRune_l1).e α s k = some z → SemC Tryz.prog 187 (sac_strings_IndexRune_l1).code s fun ex s' => k ex s' = some z := by
  intro α s k z h
  have e : sac_strings_IndexRune_l1 = .loop ac_strings_IndexRune_l1 := by kernel_rfl
  rw [e]
  exact subE_ok (m := 1) (f := fun x => iterL (strings_IndexRune_l1 n) n x) (out := out_strings_IndexRune_l1) outK_ok_strings_IndexRune_l1 un_ok_strings_IndexRune_l1 (fun x y hy => loop_ok (Es_ok_strings_IndexRune n) (subs_strings_IndexRune_l1 n) un_ok_strings_IndexRune_l1 ux_ok_strings_IndexRune_l1 (body_strings_IndexRune_l1 n) n x y hy) h
theorem sub_strings_IndexRune_l1 (n : Nat) : SubSt Tryz.prog 187 (Ls_strings_IndexRune n) 1 sac_strings_IndexRune_l1 := fun α s k z => sub1_strings_IndexRune_l1 n α s k z
noncomputable def sac_strings_IndexRune_l3 : AC := getS (subs (acOf Tryz.f241)) 3
theorem nosub_strings_IndexRune_l3 (n : Nat) : SubSt Tryz.prog 187 (Ls_strings_IndexRune n) 3 sac_strings_IndexRune_l3 := by
  intro α s k z h
  simp [subOf, Ls_strings_IndexRune, subE, altS, Nat.beq] at h
theorem subs_strings_IndexRune (n : Nat) : SubOK Tryz.prog 187 (Ls_strings_IndexRune n) (acOf Tryz.f241) := SubOK_of _ (by
  have e : subs (acOf Tryz.f241) = [(0, sac_strings_IndexRune_l0), (1, sac_strings_IndexRune_l1), (3, sac_strings_IndexRune_l3)] := by kernel_rfl
  rw [e]; intro p hp
  simp only [List.mem_cons, List.not_mem_nil, or_false] at hp
  rcases hp with hp | hp | hp
  · rw [hp]; exact sub_strings_IndexRune_l0 n
  · rw [hp]; exact sub_strings_IndexRune_l1 n
  · rw [hp]; exact nosub_strings_IndexRune_l3 n
  )
theorem cert_strings_IndexRune (n : Nat) (a0 : List UInt8) (a1 : Int) : run Tryz.prog (Es_strings_IndexRune n) (Ls_strings_IndexRune n) Tryz.f241.ntmps (acOf Tryz.f241) ⟨argsT [.s a0, .i .i32 a1] 0, [], 0, 0, 0, 0⟩ (finK Tryz.prog Tryz.f241.results.toList (retX unr_strings_IndexRune)) = strings_IndexRune n a0 a1 := by kernel_rfl
theorem pure_strings_IndexRune (n : Nat) : ∀ a r, strings_IndexRune n a.1 a.2 = some r → PureOK Tryz.prog 241 (arg_strings_IndexRune a) (enc_strings_IndexRune r) := fun a r h => pureX_ok unr_ok_strings_IndexRune (Es_ok_strings_IndexRune n) Tryz.func241 rfl (acOf_code _) (subs_strings_IndexRune n) rfl ((cert_strings_IndexRune n a.1 a.2).trans h)
theorem ok_strings_IndexRune (n : Nat) : EntOK Tryz.prog (e_strings_IndexRune n) := pureE_ok Tryz.call241 una_ok_strings_IndexRune (fun _ => rfl) (pure_strings_IndexRune n)

/-! strings.ContainsRune -/
noncomputable def arg_strings_ContainsRune (a : List UInt8 × Int) : List V := [.s a.1, .i .i32 a.2]
noncomputable def una_strings_ContainsRune (l : List V) : Option (List UInt8 × Int) := match l with
  | [.s a0, .i .i32 a1] => some (a0, a1)
  | _ => none
theorem una_ok_strings_ContainsRune : ∀ l a, una_strings_ContainsRune l = some a → l = arg_strings_ContainsRune a := by
  intro l a h
  unfold una_strings_ContainsRune at h
  split at h
  · cases h; rfl
  · cases h
noncomputable def enc_strings_ContainsRune (r : Bool) : V := .b r
noncomputable def unr_strings_ContainsRune (v : V) : Option (Bool) := match v with
  | .b r0 => some r0
  | _ => none
theorem unr_ok_strings_ContainsRune : ∀ v r, unr_strings_ContainsRune v = some r → v = enc_strings_ContainsRune r := by
  intro v r h
  unfold unr_strings_ContainsRune at h
  split at h
  · cases h; rfl
  · cases h
noncomputable def e_strings_ContainsRune (n : Nat) : Ent := pureE 199 una_strings_ContainsRune (fun a => strings_ContainsRune n a.1 a.2) enc_strings_ContainsRune
noncomputable def t_strings_ContainsRune (l : List V) (_ : List (Nat × Blk)) : Bool := isS (una_strings_ContainsRune l)
noncomputable def Es_strings_ContainsRune (n : Nat) : List Ent := [e_strings_IndexRune n]
theorem Es_ok_strings_ContainsRune (n : Nat) : ∀ x ∈ Es_strings_ContainsRune n, EntOK Tryz.prog x := by
  intro x hx
  simp only [Es_strings_ContainsRune, List.mem_cons, List.not_mem_nil, or_false] at hx
  · rw [hx]; exact ok_strings_IndexRune n
noncomputable def Ls_strings_ContainsRune (_n : Nat) : List Sub := []
theorem subs_strings_ContainsRune (n : Nat) : SubOK Tryz.prog 9 (Ls_strings_ContainsRune n) (acOf Tryz.f199) := SubOK_of _ (by
  have e : subs (acOf Tryz.f199) = [] := by kernel_rfl
  rw [e]; intro p hp; cases hp)
theorem cert_strings_ContainsRune (n : Nat) (a0 : List UInt8) (a1 : Int) : run Tryz.prog (Es_strings_ContainsRune n) (Ls_strings_ContainsRune n) Tryz.f199.ntmps (acOf Tryz.f199) ⟨argsT [.s a0, .i .i32 a1] 0, [], 0, 0, 0, 0⟩ (finK Tryz.prog Tryz.f199.results.toList (retX unr_strings_ContainsRune)) = strings_ContainsRune n a0 a1 := by kernel_rfl
theorem pure_strings_ContainsRune (n : Nat) : ∀ a r, strings_ContainsRune n a.1 a.2 = some r → PureOK Tryz.prog 199 (arg_strings_ContainsRune a) (enc_strings_ContainsRune r) := fun a r h => pureX_ok unr_ok_strings_ContainsRune (Es_ok_strings_ContainsRune n) Tryz.func199 rfl (acOf_code _) (subs_strings_ContainsRune n) rfl ((cert_strings_ContainsRune n a.1 a.2).trans h)
theorem ok_strings_ContainsRune (n : Nat) : EntOK Tryz.prog (e_strings_ContainsRune n) := pureE_ok Tryz.call199 una_ok_strings_ContainsRune (fun _ => rfl) (pure_strings_ContainsRune n)

/-! circa/yearforms.only$1 -/
noncomputable def arg_yearforms_only_1 (a : Int × List UInt8) : List V := [.i .i32 a.1, .p 0 0]
noncomputable def H0_yearforms_only_1 (a : Int × List UInt8) : List (Nat × Blk) := [(0, .cells [.s a.2])]
noncomputable def una_yearforms_only_1 (l : List V) (H : List (Nat × Blk)) : Option ((Int × List UInt8) × List Nat) := match l with
  | [.i .i32 a0, .p b0 0] => (match Abs.look H b0 with
    | some (.cells [.s a1]) => (cond (Abs.distinct [b0] && true) (some ((a0, a1), [b0])) none)
    | _ => none)
  | _ => none
theorem una_ok_yearforms_only_1 : ∀ l H a ρ, una_yearforms_only_1 l H = some (a, ρ) → ρ.length = 1 ∧ ρ.Nodup ∧ l = V.rens ρ (arg_yearforms_only_1 a) ∧ ∀ b blk, Abs.look (H0_yearforms_only_1 a) b = some blk → Abs.look H (getN ρ b) = some (blk.ren ρ) := by
  intro l H a ρ h
  unfold una_yearforms_only_1 at h
  split at h
  · split at h
    · rename_i e0
      obtain ⟨hd, h⟩ := cond_some h
      simp only [Bool.and_eq_true] at hd
      obtain ⟨hd, _⟩ := hd
      cases h
      exact ⟨rfl, distinct_ok hd, rfl, eachH_look ⟨e0, trivial⟩⟩
    · cases h
  · cases h
noncomputable def out_yearforms_only_1 (r : Bool) : FOut := (⟨false, .b r, [], []⟩ : FOut)
noncomputable def outK_yearforms_only_1 (α : Type) (r : Bool) (k : FOut → Option α) : Option α := (k ⟨false, .b r, [], []⟩)
theorem outK_ok_yearforms_only_1 : ∀ α r k, outK_yearforms_only_1 α r k = k (out_yearforms_only_1 r) := by
  intro α r k
  rfl
noncomputable def unr_yearforms_only_1 (pan : Bool) (v : V) (H : List (Nat × Blk)) (nw : List Nat) : Option (Bool) := match pan, v, H, nw with
  | false, .b r0, [], [] => some r0
  | _, _, _, _ => none
theorem unr_ok_yearforms_only_1 : ∀ pan v H nw r, unr_yearforms_only_1 pan v H nw = some r → (out_yearforms_only_1 r).pan = pan ∧ (out_yearforms_only_1 r).news = nw ∧ v = V.ren (upTo 0 1 ++ (out_yearforms_only_1 r).news) (out_yearforms_only_1 r).val ∧ H = renH (upTo 0 1 ++ (out_yearforms_only_1 r).news) (out_yearforms_only_1 r).H := by
  intro pan v H nw r h
  unfold unr_yearforms_only_1 at h
  split at h
  · cases h; exact ⟨rfl, rfl, rfl, rfl⟩
  · cases h
theorem hv_yearforms_only_1 : ∀ r, V.lt (1 + (out_yearforms_only_1 r).news.length) (out_yearforms_only_1 r).val = true := fun r => (by rfl)
theorem hc_yearforms_only_1 : ∀ r, chkH (1 + (out_yearforms_only_1 r).news.length) (out_yearforms_only_1 r).H = true := fun r => (by rfl)
theorem hk_yearforms_only_1 : ∀ r, hasKeys (out_yearforms_only_1 r).H 1 (0 + (out_yearforms_only_1 r).news.length) = true := fun r => (by rfl)
noncomputable def e_yearforms_only_1 (n : Nat) : Ent := funE 198 1 una_yearforms_only_1 (fun a => yearforms_only_1 n a.1 a.2) outK_yearforms_only_1
noncomputable def t_yearforms_only_1 (l : List V) (H : List (Nat × Blk)) : Bool := isS (una_yearforms_only_1 l H)
noncomputable def Es_yearforms_only_1 (n : Nat) : List Ent := [e_strings_ContainsRune n]
theorem Es_ok_yearforms_only_1 (n : Nat) : ∀ x ∈ Es_yearforms_only_1 n, EntOK Tryz.prog x := by
  intro x hx
  simp only [Es_yearforms_only_1, List.mem_cons, List.not_mem_nil, or_false] at hx
  · rw [hx]; exact ok_strings_ContainsRune n
noncomputable def Ls_yearforms_only_1 (_n : Nat) : List Sub := []
theorem subs_yearforms_only_1 (n : Nat) : SubOK Tryz.prog 8 (Ls_yearforms_only_1 n) (acOf Tryz.f198) := SubOK_of _ (by
  have e : subs (acOf Tryz.f198) = [] := by kernel_rfl
  rw [e]; intro p hp; cases hp)
theorem cert_yearforms_only_1 (n : Nat) (a0 : Int) (a1 : List UInt8) : run Tryz.prog (Es_yearforms_only_1 n) (Ls_yearforms_only_1 n) Tryz.f198.ntmps (acOf Tryz.f198) ⟨argsT [.i .i32 a0, .p 0 0] 0, [(0, .cells [.s a1])], 1, 1, 1, 1⟩ (finK Tryz.prog Tryz.f198.results.toList (funX [] 1 1 1 unr_yearforms_only_1)) = yearforms_only_1 n a0 a1 := by kernel_rfl
theorem fun_yearforms_only_1 (n : Nat) : ∀ a r, yearforms_only_1 n a.1 a.2 = some r → FunOK Tryz.prog 198 (arg_yearforms_only_1 a) (H0_yearforms_only_1 a) 1 1 1 (out_yearforms_only_1 r) := fun a r h => funX_ok (ws := []) unr_ok_yearforms_only_1 hv_yearforms_only_1 (fun r b blk hl => (chkH_look (hc_yearforms_only_1 r) b blk hl).2) (fun r => chkH_keys (hc_yearforms_only_1 r)) (by decide) (Es_ok_yearforms_only_1 n) Tryz.func198 rfl (acOf_code _) (subs_yearforms_only_1 n) rfl rfl ((cert_yearforms_only_1 n a.1 a.2).trans h)
theorem ok_yearforms_only_1 (n : Nat) : EntOK Tryz.prog (e_yearforms_only_1 n) := funE_ok (m := 1) (ro := 1) (rb := 1) (out := out_yearforms_only_1) (arg := arg_yearforms_only_1) (H0 := H0_yearforms_only_1) Tryz.call198 (by decide) (by decide) outK_ok_yearforms_only_1 una_ok_yearforms_only_1 (fun _ => rfl) (fun a => chkH_look (m := 1) (H := H0_yearforms_only_1 a) rfl) (fun _ => rfl) (fun r => chkH_keys (hc_yearforms_only_1 r)) (fun r b blk h => (chkH_look (hc_yearforms_only_1 r) b blk h).2) (fun r b h1 h2 => hasKeys_ok (hk_yearforms_only_1 r) b h1 (by omega)) hv_yearforms_only_1 (fun_yearforms_only_1 n)

/-! strings.indexFunc -/
noncomputable def arg_strings_indexFunc (a : List UInt8 × Bool × List UInt8) : List V := [.s a.1, .fn 198 [.p 0 0], .b a.2.1]
noncomputable def H0_strings_indexFunc (a : List UInt8 × Bool × List UInt8) : List (Nat × Blk) := [(0, .cells [.s a.2.2])]
noncomputable def una_strings_indexFunc (l : List V) (H : List (Nat × Blk)) : Option ((List UInt8 × Bool × List UInt8) × List Nat) := match l with
  | [.s a0, .fn 198 [.p b0 0], .b a1] => (match Abs.look H b0 with
    | some (.cells [.s a2]) => (cond (Abs.distinct [b0] && true) (some ((a0, a1, a2), [b0])) none)
    | _ => none)
  | _ => none
theorem una_ok_strings_indexFunc : ∀ l H a ρ, una_strings_indexFunc l H = some (a, ρ) → ρ.length = 1 ∧ ρ.Nodup ∧ l = V.rens ρ (arg_strings_indexFunc a) ∧ ∀ b blk, Abs.look (H0_strings_indexFunc a) b = some blk → Abs.look H (getN ρ b) = some (blk.ren ρ) := by
  intro l H a ρ h
  unfold una_strings_indexFunc at h
  split at h
  · split at h
    · rename_i e0
      obtain ⟨hd, h⟩ := cond_some h
      simp only [Bool.and_eq_true] at hd
      obtain ⟨hd, _⟩ := hd
      cases h
      exact ⟨rfl, distinct_ok hd, rfl, eachH_look ⟨e0, trivial⟩⟩
    · cases h
  · cases h
noncomputable def out_strings_indexFunc (r : Int) : FOut := (⟨false, .i .i64 r, [], []⟩ : FOut)
noncomputable def outK_strings_indexFunc (α : Type) (r : Int) (k : FOut → Option α) : Option α := (k ⟨false, .i .i64 r, [], []⟩)
theorem outK_ok_strings_indexFunc : ∀ α r k, outK_strings_indexFunc α r k = k (out_strings_indexFunc r) := by
  intro α r k
  rfl
noncomputable def unr_strings_indexFunc (pan : Bool) (v : V) (H : List (Nat × Blk)) (nw : List Nat) : Option (Int) := match pan, v, H, nw with
  | false, .i .i64 r0, [], [] => some r0
  | _, _, _, _ => none
theorem unr_ok_strings_indexFunc : ∀ pan v H nw r, unr_strings_indexFunc pan v H nw = some r → (out_strings_indexFunc r).pan = pan ∧ (out_strings_indexFunc r).news = nw ∧ v = V.ren (upTo 0 1 ++ (out_strings_indexFunc r).news) (out_strings_indexFunc r).val ∧ H = renH (upTo 0 1 ++ (out_strings_indexFunc r).news) (out_strings_indexFunc r).H := by
  intro pan v H nw r h
  unfold unr_strings_indexFunc at h
  split at h
  · cases h; exact ⟨rfl, rfl, rfl, rfl⟩
  · cases h
theorem hv_strings_indexFunc : ∀ r, V.lt (1 + (out_strings_indexFunc r).news.length) (out_strings_indexFunc r).val = true := fun r => (by rfl)
theorem hc_strings_indexFunc : ∀ r, chkH (1 + (out_strings_indexFunc r).news.length) (out_strings_indexFunc r).H = true := fun r => (by rfl)
theorem hk_strings_indexFunc : ∀ r, hasKeys (out_strings_indexFunc r).H 1 (0 + (out_strings_indexFunc r).news.length) = true := fun r => (by rfl)
noncomputable def e_strings_indexFunc (n : Nat) : Ent := funE 240 1 una_strings_indexFunc (fun a => strings_indexFunc n a.1 a.2.1 a.2.2) outK_strings_indexFunc
noncomputable def t_strings_indexFunc (l : List V) (H : List (Nat × Blk)) : Bool := isS (una_strings_indexFunc l H)
noncomputable def Es_strings_indexFunc (n : Nat) : List Ent := [e_yearforms_only_1 n]
theorem Es_ok_strings_indexFunc (n : Nat) : ∀ x ∈ Es_strings_indexFunc n, EntOK Tryz.prog x := by
  intro x hx
  simp only [Es_strings_indexFunc, List.mem_cons, List.not_mem_nil, or_false] at hx
  · rw [hx]; exact ok_yearforms_only_1 n
noncomputable def an_strings_indexFunc_l0 : Ann := ⟨[1, 2, 10], [0, 1], 2, []⟩
noncomputable def emb_strings_indexFunc_l0 (x : Bool × List UInt8 × List UInt8 × Nat) : St := ⟨[(1, some (.fn 198 [.p 0 0])), (2, some (.b x.1)), (10, some (.p 1 0))], [(0, .cells [.s x.2.1]), (1, .iter x.2.2.1 x.2.2.2)], 2, 1, 1, 1⟩
noncomputable def un_strings_indexFunc_l0 (s : St) : Option (Bool × List UInt8 × List UInt8 × Nat) := match s with
  | ⟨[(1, some (.fn 198 [.p 0 0])), (2, some (.b x0)), (10, some (.p 1 0))], [(0, .cells [.s x1]), (1, .iter x2 x3)], 2, 1, 1, 1⟩ => some (x0, x1, x2, x3)
  | _ => none
theorem un_ok_strings_indexFunc_l0 : ∀ s x, un_strings_indexFunc_l0 s = some x → s = emb_strings_indexFunc_l0 x := by
  intro s x h
  unfold un_strings_indexFunc_l0 at h
  split at h
  · cases h; rfl
  · cases h
noncomputable def ax_strings_indexFunc_l0 : Ex → Ann := fun ex => match ex with
  | .ret => ⟨[6], [], 2, []⟩
  | .exit 0 => ⟨[], [], 2, []⟩
  | _ => ⟨[], [], 0, []⟩
noncomputable def out_strings_indexFunc_l0 (y : Int ⊕ Unit) : Ex × St := (Sum.casesOn (motive := fun _ => Ex × St) y (fun a0 => (.ret, ⟨[(6, some (.i .i64 a0))], [], 2, 1, 1, 1⟩)) (fun b0 => (.exit 0, ⟨[], [], 2, 1, 1, 1⟩)))
noncomputable def outK_strings_indexFunc_l0 (α : Type) (y : Int ⊕ Unit) (k : Ex → St → Option α) : Option α := (Sum.casesOn (motive := fun _ => Option α) y (fun a0 => (k (.ret) ⟨[(6, some (.i .i64 a0))], [], 2, 1, 1, 1⟩)) (fun b0 => (k (.exit 0) ⟨[], [], 2, 1, 1, 1⟩)))
theorem outK_ok_strings_indexFunc_l0 : ∀ α y k, outK_strings_indexFunc_l0 α y k = k (out_strings_indexFunc_l0 y).1 (out_strings_indexFunc_l0 y).2 := by
  intro α y k
  rcases y with y | y <;> rfl
noncomputable def ux_strings_indexFunc_l0 (ex : Ex) (s : St) : Option (Int ⊕ Unit) := match ex, s with
  | .ret, ⟨[(6, some (.i .i64 y0))], [], 2, 1, 1, 1⟩ => some (.inl y0)
  | .exit 0, ⟨[], [], 2, 1, 1, 1⟩ => some (.inr ())
  | _, _ => none
theorem ux_ok_strings_indexFunc_l0 : ∀ ex s y, ux_strings_indexFunc_l0 ex s = some y → (ex, s) = out_strings_indexFunc_l0 y := by
  intro ex s y h
  unfold ux_strings_indexFunc_l0 at h
  split at h
  · cases h; rfl
  · cases h; rfl
  · cases h
noncomputable def Ls_strings_indexFunc (n : Nat) : List Sub := [subE 0 an_strings_indexFunc_l0 un_strings_indexFunc_l0 (fun x => iterL (strings_indexFunc_l0 n) n x) outK_strings_indexFunc_l0]
noncomputable def sac_strings_indexFunc_l0 : AC := getS (subs (acOf Tryz.f240)) 0
noncomputable def ac_strings_indexFunc_l0 : AC := AC.body sac_strings_indexFunc_l0
theorem subs_strings_indexFunc_l0 (n : Nat) : SubOK Tryz.prog 21 (Ls_strings_indexFunc n) ac_strings_indexFunc_l0 := SubOK_of _ (by
  have e : subs ac_strings_indexFunc_l0 = [] := by kernel_rfl
  rw [e]; intro p hp; cases hp)
theorem body_strings_indexFunc_l0 (n : Nat) : ∀ x, run Tryz.prog (Es_strings_indexFunc n) (Ls_strings_indexFunc n) 21 ac_strings_indexFunc_l0 (emb_strings_indexFunc_l0 x) (roundK an_strings_indexFunc_l0 un_strings_indexFunc_l0 ax_strings_indexFunc_l0 ux_strings_indexFunc_l0) = strings_indexFunc_l0 n x := fun _ => by kernel_rfl
theorem sub1_strings_indexFunc_l0 (n : Nat) : ∀ (α : Type) (s : St) (k : Ex → St → Option α) (z : α), (subE 0 an_strings_indexFunc_l0 un_strings_indexFunc_l0 (fun x => iterL (strings_indexFunc_l0 n) n x) outK_strings_indexFunc_l0).e α s k = some z → SemC Tryz.prog 21 (sac_strings_indexFunc_l0).code s fun ex s' => k ex s' = some z := by
  intro α s k z h
  have e : sac_strings_indexFunc_l0 = .loop ac_strings_indexFunc_l0 := by kernel_rfl
  rw [e]
  exact subE_ok (m := 0) (f := fun x => iterL (strings_indexFunc_l0 n) n x) (out := out_strings_indexFunc_l0) outK_ok_strings_indexFunc_l0 un_ok_strings_indexFunc_l0 (fun x y hy => loop_ok (Es_ok_strings_indexFunc n) (subs_strings_indexFunc_l0 n) un_ok_strings_indexFunc_l0 ux_ok_strings_indexFunc_l0 (body_strings_indexFunc_l0 n) n x y hy) h
theorem sub_strings_indexFunc_l0 (n : Nat) : SubSt Tryz.prog 21 (Ls_strings_indexFunc n) 0 sac_strings_indexFunc_l0 := fun α s k z => sub1_strings_indexFunc_l0 n α s k z
theorem subs_strings_indexFunc (n : Nat) : SubOK Tryz.prog 21 (Ls_strings_indexFunc n) (acOf Tryz.f240) := SubOK_of _ (by
  have e : subs (acOf Tryz.f240) = [(0, sac_strings_indexFunc_l0)] := by kernel_rfl
  rw [e]; intro p hp
  simp only [List.mem_cons, List.not_mem_nil, or_false] at hp
  · rw [hp]; exact sub_strings_indexFunc_l0 n
  )
theorem cert_strings_indexFunc (n : Nat) (a0 : List UInt8) (a1 : Bool) (a2 : List UInt8) : run Tryz.prog (Es_strings_indexFunc n) (Ls_strings_indexFunc n) Tryz.f240.ntmps (acOf Tryz.f240) ⟨argsT [.s a0, .fn 198 [.p 0 0], .b a1] 0, [(0, .cells [.s a2])], 1, 1, 1, 1⟩ (finK Tryz.prog Tryz.f240.results.toList (funX [] 1 1 1 unr_strings_indexFunc)) = strings_indexFunc n a0 a1 a2 := by kernel_rfl
theorem fun_strings_indexFunc (n : Nat) : ∀ a r, strings_indexFunc n a.1 a.2.1 a.2.2 = some r → FunOK Tryz.prog 240 (arg_strings_indexFunc a) (H0_strings_indexFunc a) 1 1 1 (out_strings_indexFunc r) := fun a r h => funX_ok (ws := []) unr_ok_strings_indexFunc hv_strings_indexFunc (fun r b blk hl => (chkH_look (hc_strings_indexFunc r) b blk hl).2) (fun r => chkH_keys (hc_strings_indexFunc r)) (by decide) (Es_ok_strings_indexFunc n) Tryz.func240 rfl (acOf_code _) (subs_strings_indexFunc n) rfl rfl ((cert_strings_indexFunc n a.1 a.2.1 a.2.2).trans h)
theorem ok_strings_indexFunc (n : Nat) : EntOK Tryz.prog (e_strings_indexFunc n) := funE_ok (m := 1) (ro := 1) (rb := 1) (out := out_strings_indexFunc) (arg := arg_strings_indexFunc) (H0 := H0_strings_indexFunc) Tryz.call240 (by decide) (by decide) outK_ok_strings_indexFunc una_ok_strings_indexFunc (fun _ => rfl) (fun a => chkH_look (m := 1) (H := H0_strings_indexFunc a) rfl) (fun _ => rfl) (fun r => chkH_keys (hc_strings_indexFunc r)) (fun r b blk h => (chkH_look (hc_strings_indexFunc r) b blk h).2) (fun r b h1 h2 => hasKeys_ok (hk_strings_indexFunc r) b h1 (by omega)) hv_strings_indexFunc (fun_strings_indexFunc n)

/-! strings.IndexFunc -/
noncomputable def arg_strings_IndexFunc (a : List UInt8 × List UInt8) : List V := [.s a.1, .fn 198 [.p 0 0]]
noncomputable def H0_strings_IndexFunc (a : List UInt8 × List UInt8) : List (Nat × Blk) := [(0, .cells [.s a.2])]
noncomputable def una_strings_IndexFunc (l : List V) (H : List (Nat × Blk)) : Option ((List UInt8 × List UInt8) × List Nat) := match l with
  | [.s a0, .fn 198 [.p b0 0]] => (match Abs.look H b0 with
    | some (.cells [.s a1]) => (cond (Abs.distinct [b0] && true) (some ((a0, a1), [b0])) none)
    | _ => none)
  | _ => none
theorem una_ok_strings_IndexFunc : ∀ l H a ρ, una_strings_IndexFunc l H = some (a, ρ) → ρ.length = 1 ∧ ρ.Nodup ∧ l = V.rens ρ (arg_strings_IndexFunc a) ∧ ∀ b blk, Abs.look (H0_strings_IndexFunc a) b = some blk → Abs.look H (getN ρ b) = some (blk.ren ρ) := by
  intro l H a ρ h
  unfold una_strings_IndexFunc at h
  split at h
  · split at h
    · rename_i e0
      obtain ⟨hd, h⟩ := cond_some h
      simp only [Bool.and_eq_true] at hd
      obtain ⟨hd, _⟩ := hd
      cases h
      exact ⟨rfl, distinct_ok hd, rfl, eachH_look ⟨e0, trivial⟩⟩
    · cases h
  · cases h
noncomputable def out_strings_IndexFunc (r : Int) : FOut := (⟨false, .i .i64 r, [], []⟩ : FOut)
noncomputable def outK_strings_IndexFunc (α : Type) (r : Int) (k : FOut → Option α) : Option α := (k ⟨false, .i .i64 r, [], []⟩)
theorem outK_ok_strings_IndexFunc : ∀ α r k, outK_strings_IndexFunc α r k = k (out_strings_IndexFunc r) := by
  intro α r k
  rfl
noncomputable def unr_strings_IndexFunc (pan : Bool) (v : V) (H : List (Nat × Blk)) (nw : List Nat) : Option (Int) := match pan, v, H, nw with
  | false, .i .i64 r0, [], [] => some r0
  | _, _, _, _ => none
theorem unr_ok_strings_IndexFunc : ∀ pan v H nw r, unr_strings_IndexFunc pan v H nw = some r → (out_strings_IndexFunc r).pan = pan ∧ (out_strings_IndexFunc r).news = nw ∧ v = V.ren (upTo 0 1 ++ (out_strings_IndexFunc r).news) (out_strings_IndexFunc r).val ∧ H = renH (upTo 0 1 ++ (out_strings_IndexFunc r).news) (out_strings_IndexFunc r).H := by
  intro pan v H nw r h
  unfold unr_strings_IndexFunc at h
  split at h
  · cases h; exact ⟨rfl, rfl, rfl, rfl⟩
  · cases h
theorem hv_strings_IndexFunc : ∀ r, V.lt (1 + (out_strings_IndexFunc r).news.length) (out_strings_IndexFunc r).val = true := fun r => (by rfl)
theorem hc_strings_IndexFunc : ∀ r, chkH (1 + (out_strings_IndexFunc r).news.length) (out_strings_IndexFunc r).H = true := fun r => (by rfl)
theorem hk_strings_IndexFunc : ∀ r, hasKeys (out_strings_IndexFunc r).H 1 (0 + (out_strings_IndexFunc r).news.length) = true := fun r => (by rfl)
noncomputable def e_strings_IndexFunc (n : Nat) : Ent := funE 197 1 una_strings_IndexFunc (fun a => strings_IndexFunc n a.1 a.2) outK_strings_IndexFunc
noncomputable def t_strings_IndexFunc (l : List V) (H : List (Nat × Blk)) : Bool := isS (una_strings_IndexFunc l H)
noncomputable def Es_strings_IndexFunc (n : Nat) : List Ent := [e_strings_indexFunc n]
theorem Es_ok_strings_IndexFunc (n : Nat) : ∀ x ∈ Es_strings_IndexFunc n, EntOK Tryz.prog x := by
  intro x hx
  simp only [Es_strings_IndexFunc, List.mem_cons, List.not_mem_nil, or_false] at hx
  · rw [hx]; exact ok_strings_indexFunc n
noncomputable def Ls_strings_IndexFunc (_n : Nat) : List Sub := []
theorem subs_strings_IndexFunc (n : Nat) : SubOK Tryz.prog 8 (Ls_strings_IndexFunc n) (acOf Tryz.f197) := SubOK_of _ (by
  have e : subs (acOf Tryz.f197) = [] := by kernel_rfl
  rw [e]; intro p hp; cases hp)
theorem cert_strings_IndexFunc (n : Nat) (a0 : List UInt8) (a1 : List UInt8) : run Tryz.prog (Es_strings_IndexFunc n) (Ls_strings_IndexFunc n) Tryz.f197.ntmps (acOf Tryz.f197) ⟨argsT [.s a0, .fn 198 [.p 0 0]] 0, [(0, .cells [.s a1])], 1, 1, 1, 1⟩ (finK Tryz.prog Tryz.f197.results.toList (funX [] 1 1 1 unr_strings_IndexFunc)) = strings_IndexFunc n a0 a1 := by kernel_rfl
theorem fun_strings_IndexFunc (n : Nat) : ∀ a r, strings_IndexFunc n a.1 a.2 = some r → FunOK Tryz.prog 197 (arg_strings_IndexFunc a) (H0_strings_IndexFunc a) 1 1 1 (out_strings_IndexFunc r) := fun a r h => funX_ok (ws := []) unr_ok_strings_IndexFunc hv_strings_IndexFunc (fun r b blk hl => (chkH_look (hc_strings_IndexFunc r) b blk hl).2) (fun r => chkH_keys (hc_strings_IndexFunc r)) (by decide) (Es_ok_strings_IndexFunc n) Tryz.func197 rfl (acOf_code _) (subs_strings_IndexFunc n) rfl rfl ((cert_strings_IndexFunc n a.1 a.2).trans h)
theorem ok_strings_IndexFunc (n : Nat) : EntOK Tryz.prog (e_strings_IndexFunc n) := funE_ok (m := 1) (ro := 1) (rb := 1) (out := out_strings_IndexFunc) (arg := arg_strings_IndexFunc) (H0 := H0_strings_IndexFunc) Tryz.call197 (by decide) (by decide) outK_ok_strings_IndexFunc una_ok_strings_IndexFunc (fun _ => rfl) (fun a => chkH_look (m := 1) (H := H0_strings_IndexFunc a) rfl) (fun _ => rfl) (fun r => chkH_keys (hc_strings_IndexFunc r)) (fun r b blk h => (chkH_look (hc_strings_IndexFunc r) b blk h).2) (fun r b h1 h2 => hasKeys_ok (hk_strings_IndexFunc r) b h1 (by omega)) hv_strings_IndexFunc (fun_strings_IndexFunc n)

/-! circa/yearforms.only -/
noncomputable def arg_yearforms_only (a : List UInt8 × List UInt8) : List V := [.s a.1, .s a.2]
noncomputable def una_yearforms_only (l : List V) : Option (List UInt8 × List UInt8) := match l with
  | [.s a0, .s a1] => some (a0, a1)
  | _ => none
theorem una_ok_yearforms_only : ∀ l a, una_yearforms_only l = some a → l = arg_yearforms_only a := by
  intro l a h
  unfold una_yearforms_only at h
  split at h
  · cases h; rfl
  · cases h
noncomputable def enc_yearforms_only (r : Bool) : V := .b r
noncomputable def unr_yearforms_only (v : V) : Option (Bool) := match v with
  | .b r0 => some r0
  | _ => none
theorem unr_ok_yearforms_only : ∀ v r, unr_yearforms_only v = some r → v = enc_yearforms_only r := by
  intro v r h
  unfold unr_yearforms_only at h
  split at h
  · cases h; rfl
  · cases h
noncomputable def e_yearforms_only (n : Nat) : Ent := pureE 165 una_yearforms_only (fun a => yearforms_only n a.1 a.2) enc_yearforms_only
noncomputable def t_yearforms_only (l : List V) (_ : List (Nat × Blk)) : Bool := isS (una_yearforms_only l)
noncomputable def Es_yearforms_only (n : Nat) : List Ent := [e_strings_IndexFunc n]
theorem Es_ok_yearforms_only (n : Nat) : ∀ x ∈ Es_yearforms_only n, EntOK Tryz.prog x := by
  intro x hx
  simp only [Es_yearforms_only, List.mem_cons, List.not_mem_nil, or_false] at hx
  · rw [hx]; exact ok_strings_IndexFunc n
noncomputable def Ls_yearforms_only (_n : Nat) : List Sub := []
theorem subs_yearforms_only (n : Nat) : SubOK Tryz.prog 9 (Ls_yearforms_only n) (acOf Tryz.f165) := SubOK_of _ (by
  have e : subs (acOf Tryz.f165) = [] := by kernel_rfl
  rw [e]; intro p hp; cases hp)
theorem cert_yearforms_only (n : Nat) (a0 : List UInt8) (a1 : List UInt8) : run Tryz.prog (Es_yearforms_only n) (Ls_yearforms_only n) Tryz.f165.ntmps (acOf Tryz.f165) ⟨argsT [.s a0, .s a1] 0, [], 0, 0, 0, 0⟩ (finK Tryz.prog Tryz.f165.results.toList (retX unr_yearforms_only)) = yearforms_only n a0 a1 := by kernel_rfl
theorem pure_yearforms_only (n : Nat) : ∀ a r, yearforms_only n a.1 a.2 = some r → PureOK Tryz.prog 165 (arg_yearforms_only a) (enc_yearforms_only r) := fun a r h => pureX_ok unr_ok_yearforms_only (Es_ok_yearforms_only n) Tryz.func165 rfl (acOf_code _) (subs_yearforms_only n) rfl ((cert_yearforms_only n a.1 a.2).trans h)
theorem ok_yearforms_only (n : Nat) : EntOK Tryz.prog (e_yearforms_only n) := pureE_ok Tryz.call165 una_ok_yearforms_only (fun _ => rfl) (pure_yearforms_only n)

/-! strings.trimRightByte -/
noncomputable def arg_strings_trimRightByte (a : List UInt8 × Int) : List V := [.s a.1, .i .u8 a.2]
noncomputable def una_strings_trimRightByte (l : List V) : Option (List UInt8 × Int) := match l with
  | [.s a0, .i .u8 a1] => some (a0, a1)
  | _ => none
theorem una_ok_strings_trimRightByte : ∀ l a, una_strings_trimRightByte l = some a → l = arg_strings_trimRightByte a := by
  intro l a h
  unfold una_strings_trimRightByte at h
  split at h
  · cases h; rfl
  · cases h
noncomputable def enc_strings_trimRightByte (r : List UInt8) : V := .s r
noncomputable def unr_strings_trimRightByte (v : V) : Option (List UInt8) := match v with
  | .s r0 => some r0
  | _ => none
theorem unr_ok_strings_trimRightByte : ∀ v r, unr_strings_trimRightByte v = some r → v = enc_strings_trimRightByte r := by
  intro v r h
  unfold unr_strings_trimRightByte at h
  split at h
  · cases h; rfl
  · cases h
noncomputable def e_strings_trimRightByte (n : Nat) : Ent := pureE 201 una_strings_trimRightByte (fun a => strings_trimRightByte n a.1 a.2) enc_strings_trimRightByte
noncomputable def t_strings_trimRightByte (l : List V) (_ : List (Nat × Blk)) : Bool := isS (una_strings_trimRightByte l)
noncomputable def Es_strings_trimRightByte (_n : Nat) : List Ent := []
theorem Es_ok_strings_trimRightByte (n : Nat) : ∀ x ∈ Es_strings_trimRightByte n, EntOK Tryz.prog x := by
  intro x hx
  simp [Es_strings_trimRightByte] at hx
noncomputable def an_strings_trimRightByte_l0 : Ann := ⟨[0, 1], [], 0, []⟩
noncomputable def emb_strings_trimRightByte_l0 (x : List UInt8 × Int) : St := ⟨[(0, some (.s x.1)), (1, some (.i .u8 x.2))], [], 0, 0, 0, 0⟩
noncomputable def un_strings_trimRightByte_l0 (s : St) : Option (List UInt8 × Int) := match s with
  | ⟨[(0, some (.s x0)), (1, some (.i .u8 x1))], [], 0, 0, 0, 0⟩ => some (x0, x1)
  | _ => none
theorem un_ok_strings_trimRightByte_l0 : ∀ s x, un_strings_trimRightByte_l0 s = some x → s = emb_strings_trimRightByte_l0 x := by
  intro s x h
  unfold un_strings_trimRightByte_l0 at h
  split at h
  · cases h; rfl
  · cases h
noncomputable def ax_strings_trimRightByte_l0 : Ex → Ann := fun ex => match ex with
  | .exit 0 => ⟨[0], [], 0, []⟩
  | _ => ⟨[], [], 0, []⟩
noncomputable def out_strings_trimRightByte_l0 (y : List UInt8) : Ex × St := (.exit 0, ⟨[(0, some (.s y))], [], 0, 0, 0, 0⟩)
noncomputable def outK_strings_trimRightByte_l0 (α : Type) (y : List UInt8) (k : Ex → St → Option α) : Option α := (k (.exit 0) ⟨[(0, some (.s y))], [], 0, 0, 0, 0⟩)
theorem outK_ok_strings_trimRightByte_l0 : ∀ α y k, outK_strings_trimRightByte_l0 α y k = k (out_strings_trimRightByte_l0 y).1 (out_strings_trimRightByte_l0 y).2 := by
  intro α y k
  rfl
noncomputable def ux_strings_trimRightByte_l0 (ex : Ex) (s : St) : Option (List UInt8) := match ex, s with
  | .exit 0, ⟨[(0, some (.s y0))], [], 0, 0, 0, 0⟩ => some y0
  | _, _ => none
theorem ux_ok_strings_trimRightByte_l0 : ∀ ex s y, ux_strings_trimRightByte_l0 ex s = some y → (ex, s) = out_strings_trimRightByte_l0 y := by
  intro ex s y h
  unfold ux_strings_trimRightByte_l0 at h
  split at h
  · cases h; rfl
  · cases h
noncomputable def Ls_strings_trimRightByte (n : Nat) : List Sub := [subE 0 an_strings_trimRightByte_l0 un_strings_trimRightByte_l0 (fun x => iterL (strings_trimRightByte_l0 n) n x) outK_strings_trimRightByte_l0]
noncomputable def sac_strings_trimRightByte_l0 : AC := getS (subs (acOf Tryz.f201)) 0
noncomputable def ac_strings_trimRightByte_l0 : AC := AC.body sac_strings_trimRightByte_l0
theorem subs_strings_trimRightByte_l0 (n : Nat) : SubOK Tryz.prog 23 (Ls_strings_trimRightByte n) ac_strings_trimRightByte_l0 := SubOK_of _ (by
  have e : subs ac_strings_trimRightByte_l0 = [] := by kernel_rfl
  rw [e]; intro p hp; cases hp)
theorem body_strings_trimRightByte_l0 (n : Nat) : ∀ x, run Tryz.prog (Es_strings_trimRightByte n) (Ls_strings_trimRightByte n) 23 ac_strings_trimRightByte_l0 (emb_strings_trimRightByte_l0 x) (roundK an_strings_trimRightByte_l0 un_strings_trimRightByte_l0 ax_strings_trimRightByte_l0 ux_strings_trimRightByte_l0) = strings_trimRightByte_l0 n x := fun _ => by kernel_rfl
theorem sub1_strings_trimRightByte_l0 (n : Nat) : ∀ (α : Type) (s : St) (k : Ex → St → Option α) (z : α), (subE 0 an_strings_trimRightByte_l0 un_strings_trimRightByte_l0 (fun x => iterL (strings_trimRightByte_l0 n) n x) outK_strings_trimRightByte_l0).e α s k = some z → SemC Tryz.prog 23 (sac_strings_trimRightByte_l0).code s fun ex s' => k ex s' = some z := by
  intro α s k z h
  have e : sac_strings_trimRightByte_l0 = .loop ac_strings_trimRightByte_l0 := by kernel_rfl
  rw [e]
  exact subE_ok (m := 0) (f := fun x => iterL (strings_trimRightByte_l0 n) n x) (out := out_strings_trimRightByte_l0) outK_ok_strings_trimRightByte_l0 un_ok_strings_trimRightByte_l0 (fun x y hy => loop_ok (Es_ok_strings_trimRightByte n) (subs_strings_trimRightByte_l0 n) un_ok_strings_trimRightByte_l0 ux_ok_strings_trimRightByte_l0 (body_strings_trimRightByte_l0 n) n x y hy) h
theorem sub_strings_trimRightByte_l0 (n : Nat) : SubSt Tryz.prog 23 (Ls_strings_trimRightByte n) 0 sac_strings_trimRightByte_l0 := fun α s k z => sub1_strings_trimRightByte_l0 n α s k z
theorem subs_strings_trimRightByte (n : Nat) : SubOK Tryz.prog 23 (Ls_strings_trimRightByte n) (acOf Tryz.f201) := SubOK_of _ (by
  have e : subs (acOf Tryz.f201) = [(0, sac_strings_trimRightByte_l0)] := by kernel_rfl
  rw [e]; intro p hp
  simp only [List.mem_cons, List.not_mem_nil, or_false] at hp
  · rw [hp]; exact sub_strings_trimRightByte_l0 n
  )
theorem cert_strings_trimRightByte (n : Nat) (a0 : List UInt8) (a1 : Int) : run Tryz.prog (Es_strings_trimRightByte n) (Ls_strings_trimRightByte n) Tryz.f201.ntmps (acOf Tryz.f201) ⟨argsT [.s a0, .i .u8 a1] 0, [], 0, 0, 0, 0⟩ (finK Tryz.prog Tryz.f201.results.toList (retX unr_strings_trimRightByte)) = strings_trimRightByte n a0 a1 := by kernel_rfl
theorem pure_strings_trimRightByte (n : Nat) : ∀ a r, strings_trimRightByte n a.1 a.2 = some r → PureOK Tryz.prog 201 (arg_strings_trimRightByte a) (enc_strings_trimRightByte r) := fun a r h => pureX_ok unr_ok_strings_trimRightByte (Es_ok_strings_trimRightByte n) Tryz.func201 rfl (acOf_code _) (subs_strings_trimRightByte n) rfl ((cert_strings_trimRightByte n a.1 a.2).trans h)
theorem ok_strings_trimRightByte (n : Nat) : EntOK Tryz.prog (e_strings_trimRightByte n) := pureE_ok Tryz.call201 una_ok_strings_trimRightByte (fun _ => rfl) (pure_strings_trimRightByte n)

/-! strings.trimLeftByte -/
noncomputable def arg_strings_trimLeftByte (a : List UInt8 × Int) : List V := [.s a.1, .i .u8 a.2]
noncomputable def una_strings_trimLeftByte (l : List V) : Option (List UInt8 × Int) := match l with
  | [.s a0, .i .u8 a1] => some (a0, a1)
  | _ => none
theorem una_ok_strings_trimLeftByte : ∀ l a, una_strings_trimLeftByte l = some a → l = arg_strings_trimLeftByte a := by
  intro l a h
  unfold una_strings_trimLeftByte at h
  split at h
  · cases h; rfl
  · cases h
noncomputable def enc_strings_trimLeftByte (r : List UInt8) : V := .s r
noncomputable def unr_strings_trimLeftByte (v : V) : Option (List UInt8) := match v with
  | .s r0 => some r0
  | _ => none
theorem unr_ok_strings_trimLeftByte : ∀ v r, unr_strings_trimLeftByte v = some r → v = enc_strings_trimLeftByte r := by
  intro v r h
  unfold unr_strings_trimLeftByte at h
  split at h
  · cases h; rfl
  · cases h
noncomputable def e_strings_trimLeftByte (n : Nat) : Ent := pureE 200 una_strings_trimLeftByte (fun a => strings_trimLeftByte n a.1 a.2) enc_strings_trimLeftByte
noncomputable def t_strings_trimLeftByte (l : List V) (_ : List (Nat × Blk)) : Bool := isS (una_strings_trimLeftByte l)
noncomputable def Es_strings_trimLeftByte (_n : Nat) : List Ent := []
theorem Es_ok_strings_trimLeftByte (n : Nat) : ∀ x ∈ Es_strings_trimLeftByte n, EntOK Tryz.prog x := by
  intro x hx
  simp [Es_strings_trimLeftByte] at hx
noncomputable def an_strings_trimLeftByte_l0 : Ann := ⟨[0, 1], [], 0, []⟩
noncomputable def emb_strings_trimLeftByte_l0 (x : List UInt8 × Int) : St := ⟨[(0, some (.s x.1)), (1, some (.i .u8 x.2))], [], 0, 0, 0, 0⟩
noncomputable def un_strings_trimLeftByte_l0 (s : St) : Option (List UInt8 × Int) := match s with
  | ⟨[(0, some (.s x0)), (1, some (.i .u8 x1))], [], 0, 0, 0, 0⟩ => some (x0, x1)
  | _ => none
theorem un_ok_strings_trimLeftByte_l0 : ∀ s x, un_strings_trimLeftByte_l0 s = some x → s = emb_strings_trimLeftByte_l0 x := by
  intro s x h
  unfold un_strings_trimLeftByte_l0 at h
  split at h
  · cases h; rfl
  · cases h
noncomputable def ax_strings_trimLeftByte_l0 : Ex → Ann := fun ex => match ex with
  | .exit 0 => ⟨[0], [], 0, []⟩
  | _ => ⟨[], [], 0, []⟩
noncomputable def out_strings_trimLeftByte_l0 (y : List UInt8) : Ex × St := (.exit 0, ⟨[(0, some (.s y))], [], 0, 0, 0, 0⟩)
noncomputable def outK_strings_trimLeftByte_l0 (α : Type) (y : List UInt8) (k : Ex → St → Option α) : Option α := (k (.exit 0) ⟨[(0, some (.s y))], [], 0, 0, 0, 0⟩)
theorem outK_ok_strings_trimLeftByte_l0 : ∀ α y k, outK_strings_trimLeftByte_l0 α y k = k (out_strings_trimLeftByte_l0 y).1 (out_strings_trimLeftByte_l0 y).2 := by
  intro α y k
  rfl
noncomputable def ux_strings_trimLeftByte_l0 (ex : Ex) (s : St) : Option (List UInt8) := match ex, s with
  | .exit 0, ⟨[(0, some (.s y0))], [], 0, 0, 0, 0⟩ => some y0
  | _, _ => none
theorem ux_ok_strings_trimLeftByte_l0 : ∀ ex s y, ux_strings_trimLeftByte_l0 ex s = some y → (ex, s) = out_strings_trimLeftByte_l0 y := by
  intro ex s y h
  unfold ux_strings_trimLeftByte_l0 at h
  split at h
  · cases h; rfl
  · cases h
noncomputable def Ls_strings_trimLeftByte (n : Nat) : List Sub := [subE 0 an_strings_trimLeftByte_l0 un_strings_trimLeftByte_l0 (fun x => iterL (strings_trimLeftByte_l0 n) n x) outK_strings_trimLeftByte_l0]
noncomputable def sac_strings_trimLeftByte_l0 : AC := getS (subs (acOf Tryz.f200)) 0
noncomputable def ac_strings_trimLeftByte_l0 : AC := AC.body sac_strings_trimLeftByte_l0
theorem subs_strings_trimLeftByte_l0 (n : Nat) : SubOK Tryz.prog 17 (Ls_strings_trimLeftByte n) ac_strings_trimLeftByte_l0 := SubOK_of _ (by
  have e : subs ac_strings_trimLeftByte_l0 = [] := by kernel_rfl
  rw [e]; intro p hp; cases hp)
theorem body_strings_trimLeftByte_l0 (n : Nat) : ∀ x, run Tryz.prog (Es_strings_trimLeftByte n) (Ls_strings_trimLeftByte n) 17 ac_strings_trimLeftByte_l0 (emb_strings_trimLeftByte_l0 x) (roundK an_strings_trimLeftByte_l0 un_strings_trimLeftByte_l0 ax_strings_trimLeftByte_l0 ux_strings_trimLeftByte_l0) = strings_trimLeftByte_l0 n x := fun _ => by kernel_rfl
theorem sub1_strings_trimLeftByte_l0 (n : Nat) : ∀ (α : Type) (s : St) (k : Ex → St → Option α) (z : α), (subE 0 an_strings_trimLeftByte_l0 un_strings_trimLeftByte_l0 (fun x => iterL (strings_trimLeftByte_l0 n) n x) outK_strings_trimLeftByte_l0).e α s k = some z → SemC Tryz.prog 17 (sac_strings_trimLeftByte_l0).code s fun ex s' => k ex s' = some z := by
  intro α s k z h
  have e : sac_strings_trimLeftByte_l0 = .loop ac_strings_trimLeftByte_l0 := by kernel_rfl
  rw [e]
  exact subE_ok (m := 0) (f := fun x => iterL (strings_trimLeftByte_l0 n) n x) (out := out_strings_trimLeftByte_l0) outK_ok_strings_trimLeftByte_l0 un_ok_strings_trimLeftByte_l0 (fun x y hy => loop_ok (Es_ok_strings_trimLeftByte n) (subs_strings_trimLeftByte_l0 n) un_ok_strings_trimLeftByte_l0 ux_ok_strings_trimLeftByte_l0 (body_strings_trimLeftByte_l0 n) n x y hy) h
theorem sub_strings_trimLeftByte_l0 (n : Nat) : SubSt Tryz.prog 17 (Ls_strings_trimLeftByte n) 0 sac_strings_trimLeftByte_l0 := fun α s k z => sub1_strings_trimLeftByte_l0 n α s k z
theorem subs_strings_trimLeftByte (n : Nat) : SubOK Tryz.prog 17 (Ls_strings_trimLeftByte n) (acOf Tryz.f200) := SubOK_of _ (by
  have e : subs (acOf Tryz.f200) = [(0, sac_strings_trimLeftByte_l0)] := by kernel_rfl
  rw [e]; intro p hp
  simp only [List.mem_cons, List.not_mem_nil, or_false] at hp
  · rw [hp]; exact sub_strings_trimLeftByte_l0 n
  )
theorem cert_strings_trimLeftByte (n : Nat) (a0 : List UInt8) (a1 : Int) : run Tryz.prog (Es_strings_trimLeftByte n) (Ls_strings_trimLeftByte n) Tryz.f200.ntmps (acOf Tryz.f200) ⟨argsT [.s a0, .i .u8 a1] 0, [], 0, 0, 0, 0⟩ (finK Tryz.prog Tryz.f200.results.toList (retX unr_strings_trimLeftByte)) = strings_trimLeftByte n a0 a1 := by kernel_rfl
theorem pure_strings_trimLeftByte (n : Nat) : ∀ a r, strings_trimLeftByte n a.1 a.2 = some r → PureOK Tryz.prog 200 (arg_strings_trimLeftByte a) (enc_strings_trimLeftByte r) := fun a r h => pureX_ok unr_ok_strings_trimLeftByte (Es_ok_strings_trimLeftByte n) Tryz.func200 rfl (acOf_code _) (subs_strings_trimLeftByte n) rfl ((cert_strings_trimLeftByte n a.1 a.2).trans h)
theorem ok_strings_trimLeftByte (n : Nat) : EntOK Tryz.prog (e_strings_trimLeftByte n) := pureE_ok Tryz.call200 una_ok_strings_trimLeftByte (fun _ => rfl) (pure_strings_trimLeftByte n)

/-! strings.Trim -/
noncomputable def arg_strings_Trim (a : List UInt8) : List V := [.s a, .s [48]]
noncomputable def una_strings_Trim (l : List V) : Option (List UInt8) := match l with
  | [.s a0, .s [48]] => some a0
  | _ => none
theorem una_ok_strings_Trim : ∀ l a, una_strings_Trim l = some a → l = arg_strings_Trim a := by
  intro l a h
  unfold una_strings_Trim at h
  split at h
  · cases h; rfl
  · cases h
noncomputable def enc_strings_Trim (r : List UInt8) : V := .s r
noncomputable def unr_strings_Trim (v : V) : Option (List UInt8) := match v with
  | .s r0 => some r0
  | _ => none
theorem unr_ok_strings_Trim : ∀ v r, unr_strings_Trim v = some r → v = enc_strings_Trim r := by
  intro v r h
  unfold unr_strings_Trim at h
  split at h
  · cases h; rfl
  · cases h
noncomputable def e_strings_Trim (n : Nat) : Ent := pureE 166 una_strings_Trim (fun a => strings_Trim n a) enc_strings_Trim
noncomputable def t_strings_Trim (l : List V) (_ : List (Nat × Blk)) : Bool := isS (una_strings_Trim l)
noncomputable def Es_strings_Trim (n : Nat) : List Ent := [e_strings_trimRightByte n, e_strings_trimLeftByte n]
theorem Es_ok_strings_Trim (n : Nat) : ∀ x ∈ Es_strings_Trim n, EntOK Tryz.prog x := by
  intro x hx
  simp only [Es_strings_Trim, List.mem_cons, List.not_mem_nil, or_false] at hx
  rcases hx with hx | hx
  · rw [hx]; exact ok_strings_trimRightByte n
  · rw [hx]; exact ok_strings_trimLeftByte n
noncomputable def Ls_strings_Trim (_n : Nat) : List Sub := []
theorem subs_strings_Trim (n : Nat) : SubOK Tryz.prog 43 (Ls_strings_Trim n) (acOf Tryz.f166) := SubOK_of _ (by
  have e : subs (acOf Tryz.f166) = [] := by kernel_rfl
  rw [e]; intro p hp; cases hp)
theorem cert_strings_Trim (n : Nat) (a0 : List UInt8) : run Tryz.prog (Es_strings_Trim n) (Ls_strings_Trim n) Tryz.f166.ntmps (acOf Tryz.f166) ⟨argsT [.s a0, .s [48]] 0, [], 0, 0, 0, 0⟩ (finK Tryz.prog Tryz.f166.results.toList (retX unr_strings_Trim)) = strings_Trim n a0 := by kernel_rfl
theorem pure_strings_Trim (n : Nat) : ∀ a r, strings_Trim n a = some r → PureOK Tryz.prog 166 (arg_strings_Trim a) (enc_strings_Trim r) := fun a r h => pureX_ok unr_ok_strings_Trim (Es_ok_strings_Trim n) Tryz.func166 rfl (acOf_code _) (subs_strings_Trim n) rfl ((cert_strings_Trim n a).trans h)
theorem ok_strings_Trim (n : Nat) : EntOK Tryz.prog (e_strings_Trim n) := pureE_ok Tryz.call166 una_ok_strings_Trim (fun _ => rfl) (pure_strings_Trim n)

/-! internal/stringslite.Index -/
noncomputable def arg_int_stringslite_Index (a : List UInt8) : List V := [.s a, .s [88]]
noncomputable def una_int_stringslite_Index (l : List V) : Option (List UInt8) := match l with
  | [.s a0, .s [88]] => some a0
  | _ => none
theorem una_ok_int_stringslite_Index : ∀ l a, una_int_stringslite_Index l = some a → l = arg_int_stringslite_Index a := by
  intro l a h
  unfold una_int_stringslite_Index at h
  split at h
  · cases h; rfl
  · cases h
noncomputable def enc_int_stringslite_Index (r : Int) : V := .i .i64 r
noncomputable def unr_int_stringslite_Index (v : V) : Option (Int) := match v with
  | .i .i64 r0 => some r0
  | _ => none
theorem unr_ok_int_stringslite_Index : ∀ v r, unr_int_stringslite_Index v = some r → v = enc_int_stringslite_Index r := by
  intro v r h
  unfold unr_int_stringslite_Index at h
  split at h
  · cases h; rfl
  · cases h
noncomputable def e_int_stringslite_Index (n : Nat) : Ent := pureE 183 una_int_stringslite_Index (fun a => int_stringslite_Index n a) enc_int_stringslite_Index
noncomputable def t_int_stringslite_Index (l : List V) (_ : List (Nat × Blk)) : Bool := isS (una_int_stringslite_Index l)
noncomputable def Es_int_stringslite_Index (n : Nat) : List Ent := [e_int_stringslite_IndexByte n]
theorem Es_ok_int_stringslite_Index (n : Nat) : ∀ x ∈ Es_int_stringslite_Index n, EntOK Tryz.prog x := by
  intro x hx
  simp only [Es_int_stringslite_Index, List.mem_cons, List.not_mem_nil, or_false] at hx
  · rw [hx]; exact ok_int_stringslite_IndexByte n
noncomputable def Ls_int_stringslite_Index (_n : Nat) : List Sub := []
noncomputable def sac_int_stringslite_Index_l0 : AC := getS (subs (acOf Tryz.f183)) 0
theorem nosub_int_stringslite_Index_l0 (n : Nat) : SubSt Tryz.prog 143 (Ls_int_stringslite_Index n) 0 sac_int_stringslite_Index_l0 := by
  intro α s k z h
  simp [subOf, Ls_int_stringslite_Index, subE, altS, Nat.beq] at h
theorem subs_int_stringslite_Index (n : Nat) : SubOK Tryz.prog 143 (Ls_int_stringslite_Index n) (acOf Tryz.f183) := SubOK_of _ (by
  have e : subs (acOf Tryz.f183) = [(0, sac_int_stringslite_Index_l0)] := by kernel_rfl
  rw [e]; intro p hp
  simp only [List.mem_cons, List.not_mem_nil, or_false] at hp
  · rw [hp]; exact nosub_int_stringslite_Index_l0 n
  )
theorem cert_int_stringslite_Index (n : Nat) (a0 : List UInt8) : run Tryz.prog (Es_int_stringslite_Index n) (Ls_int_stringslite_Index n) Tryz.f183.ntmps (acOf Tryz.f183) ⟨argsT [.s a0, .s [88]] 0, [], 0, 0, 0, 0⟩ (finK Tryz.prog Tryz.f183.results.toList (retX unr_int_stringslite_Index)) = int_stringslite_Index n a0 := by kernel_rfl
theorem pure_int_stringslite_Index (n : Nat) : ∀ a r, int_stringslite_Index n a = some r → PureOK Tryz.prog 183 (arg_int_stringslite_Index a) (enc_int_stringslite_Index r) := fun a r h => pureX_ok unr_ok_int_stringslite_Index (Es_ok_int_stringslite_Index n) Tryz.func183 rfl (acOf_code _) (subs_int_stringslite_Index n) rfl ((cert_int_stringslite_Index n a).trans h)
theorem ok_int_stringslite_Index (n : Nat) : EntOK Tryz.prog (e_int_stringslite_Index n) := pureE_ok Tryz.call183 una_ok_int_stringslite_Index (fun _ => rfl) (pure_int_stringslite_Index n)

end Go.Sh
