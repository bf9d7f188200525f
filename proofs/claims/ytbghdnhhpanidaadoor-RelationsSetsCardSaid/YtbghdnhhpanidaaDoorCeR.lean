/- Each function of the program computes its plain function: the certificates.
   Conditions: none. Printed by the bench tool gen.py. -/
import Derived.Test.YtbghdnhhpanidaaDoorShR
import Derived.Test.YtbghdnhhpanidaaDoorProg
import Derived.Test.YtbghdnhhpanidaaDoorAbsX
import Derived.Test.YtbghdnhhpanidaaDoorAbsU
import Derived.Test.YtbghdnhhpanidaaDoorAbsW
import Derived.KernelRfl
import Derived.Test.YtbghdnhhpanidaaDoorShelf
set_option linter.unusedVariables false
set_option linter.unusedSimpArgs false
set_option maxRecDepth 100000
namespace Go.Sh
open Go.Abs Go.Proofs

/-! circa/ends.Check -/
noncomputable def arg_ends_Check (a : Int × Int) : List V := [.ag [.i .i8 a.1, .i .i64 a.2]]
noncomputable def una_ends_Check (l : List V) : Option (Int × Int) := match l with
  | [.ag [.i .i8 a0, .i .i64 a1]] => some (a0, a1)
  | _ => none
theorem una_ok_ends_Check : ∀ l a, una_ends_Check l = some a → l = arg_ends_Check a := by
  intro l a h
  unfold una_ends_Check at h
  split at h
  · cases h; rfl
  · cases h
noncomputable def enc_ends_Check (r : Int) : V := .i .i64 r
noncomputable def unr_ends_Check (v : V) : Option (Int) := match v with
  | .i .i64 r0 => some r0
  | _ => none
theorem unr_ok_ends_Check : ∀ v r, unr_ends_Check v = some r → v = enc_ends_Check r := by
  intro v r h
  unfold unr_ends_Check at h
  split at h
  · cases h; rfl
  · cases h
noncomputable def e_ends_Check (n : Nat) : Ent := pureE 47 una_ends_Check (fun a => ends_Check n a.1 a.2) enc_ends_Check
noncomputable def t_ends_Check (l : List V) (_ : List (Nat × Blk)) : Bool := isS (una_ends_Check l)
noncomputable def Es_ends_Check (_n : Nat) : List Ent := []
theorem Es_ok_ends_Check (n : Nat) : ∀ x ∈ Es_ends_Check n, EntOK Tryd.prog x := by
  intro x hx
  simp [Es_ends_Check] at hx
noncomputable def Ls_ends_Check (_n : Nat) : List Sub := []
theorem subs_ends_Check (n : Nat) : SubOK Tryd.prog 16 (Ls_ends_Check n) (acOf Tryd.f47) := SubOK_of _ (by
  have e : subs (acOf Tryd.f47) = [] := by kernel_rfl
  rw [e]; intro p hp; cases hp)
theorem cert_ends_Check (n : Nat) (a0 : Int) (a1 : Int) : run Tryd.prog (Es_ends_Check n) (Ls_ends_Check n) Tryd.f47.ntmps (acOf Tryd.f47) ⟨argsT [.ag [.i .i8 a0, .i .i64 a1]] 0, [], 0, 0, 0, 0⟩ (finK Tryd.prog Tryd.f47.results.toList (retX unr_ends_Check)) = ends_Check n a0 a1 := by kernel_rfl
theorem pure_ends_Check (n : Nat) : ∀ a r, ends_Check n a.1 a.2 = some r → PureOK Tryd.prog 47 (arg_ends_Check a) (enc_ends_Check r) := fun a r h => pureX_ok unr_ok_ends_Check (Es_ok_ends_Check n) Tryd.func47 rfl (acOf_code _) (subs_ends_Check n) rfl ((cert_ends_Check n a.1 a.2).trans h)
theorem ok_ends_Check (n : Nat) : EntOK Tryd.prog (e_ends_Check n) := pureE_ok Tryd.call47 una_ok_ends_Check (fun _ => rfl) (pure_ends_Check n)

/-! cmp.isNaN[int8] -/
noncomputable def arg_cmp_isNaN_int8 (a : Int) : List V := [.i .i8 a]
noncomputable def una_cmp_isNaN_int8 (l : List V) : Option (Int) := match l with
  | [.i .i8 a0] => some a0
  | _ => none
theorem una_ok_cmp_isNaN_int8 : ∀ l a, una_cmp_isNaN_int8 l = some a → l = arg_cmp_isNaN_int8 a := by
  intro l a h
  unfold una_cmp_isNaN_int8 at h
  split at h
  · cases h; rfl
  · cases h
noncomputable def enc_cmp_isNaN_int8 (r : Bool) : V := .b r
noncomputable def unr_cmp_isNaN_int8 (v : V) : Option (Bool) := match v with
  | .b r0 => some r0
  | _ => none
theorem unr_ok_cmp_isNaN_int8 : ∀ v r, unr_cmp_isNaN_int8 v = some r → v = enc_cmp_isNaN_int8 r := by
  intro v r h
  unfold unr_cmp_isNaN_int8 at h
  split at h
  · cases h; rfl
  · cases h
noncomputable def e_cmp_isNaN_int8 (n : Nat) : Ent := pureE 67 una_cmp_isNaN_int8 (fun a => cmp_isNaN_int8 n a) enc_cmp_isNaN_int8
noncomputable def t_cmp_isNaN_int8 (l : List V) (_ : List (Nat × Blk)) : Bool := isS (una_cmp_isNaN_int8 l)
noncomputable def Es_cmp_isNaN_int8 (_n : Nat) : List Ent := []
theorem Es_ok_cmp_isNaN_int8 (n : Nat) : ∀ x ∈ Es_cmp_isNaN_int8 n, EntOK Tryd.prog x := by
  intro x hx
  simp [Es_cmp_isNaN_int8] at hx
noncomputable def Ls_cmp_isNaN_int8 (_n : Nat) : List Sub := []
theorem subs_cmp_isNaN_int8 (n : Nat) : SubOK Tryd.prog 6 (Ls_cmp_isNaN_int8 n) (acOf Tryd.f67) := SubOK_of _ (by
  have e : subs (acOf Tryd.f67) = [] := by kernel_rfl
  rw [e]; intro p hp; cases hp)
theorem cert_cmp_isNaN_int8 (n : Nat) (a0 : Int) : run Tryd.prog (Es_cmp_isNaN_int8 n) (Ls_cmp_isNaN_int8 n) Tryd.f67.ntmps (acOf Tryd.f67) ⟨argsT [.i .i8 a0] 0, [], 0, 0, 0, 0⟩ (finK Tryd.prog Tryd.f67.results.toList (retX unr_cmp_isNaN_int8)) = cmp_isNaN_int8 n a0 := by kernel_rfl
theorem pure_cmp_isNaN_int8 (n : Nat) : ∀ a r, cmp_isNaN_int8 n a = some r → PureOK Tryd.prog 67 (arg_cmp_isNaN_int8 a) (enc_cmp_isNaN_int8 r) := fun a r h => pureX_ok unr_ok_cmp_isNaN_int8 (Es_ok_cmp_isNaN_int8 n) Tryd.func67 rfl (acOf_code _) (subs_cmp_isNaN_int8 n) rfl ((cert_cmp_isNaN_int8 n a).trans h)
theorem ok_cmp_isNaN_int8 (n : Nat) : EntOK Tryd.prog (e_cmp_isNaN_int8 n) := pureE_ok Tryd.call67 una_ok_cmp_isNaN_int8 (fun _ => rfl) (pure_cmp_isNaN_int8 n)

/-! cmp.Compare[int8] -/
noncomputable def arg_cmp_Compare_int8 (a : Int × Int) : List V := [.i .i8 a.1, .i .i8 a.2]
noncomputable def una_cmp_Compare_int8 (l : List V) : Option (Int × Int) := match l with
  | [.i .i8 a0, .i .i8 a1] => some (a0, a1)
  | _ => none
theorem una_ok_cmp_Compare_int8 : ∀ l a, una_cmp_Compare_int8 l = some a → l = arg_cmp_Compare_int8 a := by
  intro l a h
  unfold una_cmp_Compare_int8 at h
  split at h
  · cases h; rfl
  · cases h
noncomputable def enc_cmp_Compare_int8 (r : Int) : V := .i .i64 r
noncomputable def unr_cmp_Compare_int8 (v : V) : Option (Int) := match v with
  | .i .i64 r0 => some r0
  | _ => none
theorem unr_ok_cmp_Compare_int8 : ∀ v r, unr_cmp_Compare_int8 v = some r → v = enc_cmp_Compare_int8 r := by
  intro v r h
  unfold unr_cmp_Compare_int8 at h
  split at h
  · cases h; rfl
  · cases h
noncomputable def e_cmp_Compare_int8 (n : Nat) : Ent := pureE 60 una_cmp_Compare_int8 (fun a => cmp_Compare_int8 n a.1 a.2) enc_cmp_Compare_int8
noncomputable def t_cmp_Compare_int8 (l : List V) (_ : List (Nat × Blk)) : Bool := isS (una_cmp_Compare_int8 l)
noncomputable def Es_cmp_Compare_int8 (n : Nat) : List Ent := [e_cmp_isNaN_int8 n]
theorem Es_ok_cmp_Compare_int8 (n : Nat) : ∀ x ∈ Es_cmp_Compare_int8 n, EntOK Tryd.prog x := by
  intro x hx
  simp only [Es_cmp_Compare_int8, List.mem_cons, List.not_mem_nil, or_false] at hx
  · rw [hx]; exact ok_cmp_isNaN_int8 n
noncomputable def Ls_cmp_Compare_int8 (_n : Nat) : List Sub := []
theorem subs_cmp_Compare_int8 (n : Nat) : SubOK Tryd.prog 20 (Ls_cmp_Compare_int8 n) (acOf Tryd.f60) := SubOK_of _ (by
  have e : subs (acOf Tryd.f60) = [] := by kernel_rfl
  rw [e]; intro p hp; cases hp)
theorem cert_cmp_Compare_int8 (n : Nat) (a0 : Int) (a1 : Int) : run Tryd.prog (Es_cmp_Compare_int8 n) (Ls_cmp_Compare_int8 n) Tryd.f60.ntmps (acOf Tryd.f60) ⟨argsT [.i .i8 a0, .i .i8 a1] 0, [], 0, 0, 0, 0⟩ (finK Tryd.prog Tryd.f60.results.toList (retX unr_cmp_Compare_int8)) = cmp_Compare_int8 n a0 a1 := by kernel_rfl
theorem pure_cmp_Compare_int8 (n : Nat) : ∀ a r, cmp_Compare_int8 n a.1 a.2 = some r → PureOK Tryd.prog 60 (arg_cmp_Compare_int8 a) (enc_cmp_Compare_int8 r) := fun a r h => pureX_ok unr_ok_cmp_Compare_int8 (Es_ok_cmp_Compare_int8 n) Tryd.func60 rfl (acOf_code _) (subs_cmp_Compare_int8 n) rfl ((cert_cmp_Compare_int8 n a.1 a.2).trans h)
theorem ok_cmp_Compare_int8 (n : Nat) : EntOK Tryd.prog (e_cmp_Compare_int8 n) := pureE_ok Tryd.call60 una_ok_cmp_Compare_int8 (fun _ => rfl) (pure_cmp_Compare_int8 n)

/-! cmp.isNaN[int64] -/
noncomputable def arg_cmp_isNaN_int64 (a : Int) : List V := [.i .i64 a]
noncomputable def una_cmp_isNaN_int64 (l : List V) : Option (Int) := match l with
  | [.i .i64 a0] => some a0
  | _ => none
theorem una_ok_cmp_isNaN_int64 : ∀ l a, una_cmp_isNaN_int64 l = some a → l = arg_cmp_isNaN_int64 a := by
  intro l a h
  unfold una_cmp_isNaN_int64 at h
  split at h
  · cases h; rfl
  · cases h
noncomputable def enc_cmp_isNaN_int64 (r : Bool) : V := .b r
noncomputable def unr_cmp_isNaN_int64 (v : V) : Option (Bool) := match v with
  | .b r0 => some r0
  | _ => none
theorem unr_ok_cmp_isNaN_int64 : ∀ v r, unr_cmp_isNaN_int64 v = some r → v = enc_cmp_isNaN_int64 r := by
  intro v r h
  unfold unr_cmp_isNaN_int64 at h
  split at h
  · cases h; rfl
  · cases h
noncomputable def e_cmp_isNaN_int64 (n : Nat) : Ent := pureE 68 una_cmp_isNaN_int64 (fun a => cmp_isNaN_int64 n a) enc_cmp_isNaN_int64
noncomputable def t_cmp_isNaN_int64 (l : List V) (_ : List (Nat × Blk)) : Bool := isS (una_cmp_isNaN_int64 l)
noncomputable def Es_cmp_isNaN_int64 (_n : Nat) : List Ent := []
theorem Es_ok_cmp_isNaN_int64 (n : Nat) : ∀ x ∈ Es_cmp_isNaN_int64 n, EntOK Tryd.prog x := by
  intro x hx
  simp [Es_cmp_isNaN_int64] at hx
noncomputable def Ls_cmp_isNaN_int64 (_n : Nat) : List Sub := []
theorem subs_cmp_isNaN_int64 (n : Nat) : SubOK Tryd.prog 6 (Ls_cmp_isNaN_int64 n) (acOf Tryd.f68) := SubOK_of _ (by
  have e : subs (acOf Tryd.f68) = [] := by kernel_rfl
  rw [e]; intro p hp; cases hp)
theorem cert_cmp_isNaN_int64 (n : Nat) (a0 : Int) : run Tryd.prog (Es_cmp_isNaN_int64 n) (Ls_cmp_isNaN_int64 n) Tryd.f68.ntmps (acOf Tryd.f68) ⟨argsT [.i .i64 a0] 0, [], 0, 0, 0, 0⟩ (finK Tryd.prog Tryd.f68.results.toList (retX unr_cmp_isNaN_int64)) = cmp_isNaN_int64 n a0 := by kernel_rfl
theorem pure_cmp_isNaN_int64 (n : Nat) : ∀ a r, cmp_isNaN_int64 n a = some r → PureOK Tryd.prog 68 (arg_cmp_isNaN_int64 a) (enc_cmp_isNaN_int64 r) := fun a r h => pureX_ok unr_ok_cmp_isNaN_int64 (Es_ok_cmp_isNaN_int64 n) Tryd.func68 rfl (acOf_code _) (subs_cmp_isNaN_int64 n) rfl ((cert_cmp_isNaN_int64 n a).trans h)
theorem ok_cmp_isNaN_int64 (n : Nat) : EntOK Tryd.prog (e_cmp_isNaN_int64 n) := pureE_ok Tryd.call68 una_ok_cmp_isNaN_int64 (fun _ => rfl) (pure_cmp_isNaN_int64 n)

/-! cmp.Compare[int64] -/
noncomputable def arg_cmp_Compare_int64 (a : Int × Int) : List V := [.i .i64 a.1, .i .i64 a.2]
noncomputable def una_cmp_Compare_int64 (l : List V) : Option (Int × Int) := match l with
  | [.i .i64 a0, .i .i64 a1] => some (a0, a1)
  | _ => none
theorem una_ok_cmp_Compare_int64 : ∀ l a, una_cmp_Compare_int64 l = some a → l = arg_cmp_Compare_int64 a := by
  intro l a h
  unfold una_cmp_Compare_int64 at h
  split at h
  · cases h; rfl
  · cases h
noncomputable def enc_cmp_Compare_int64 (r : Int) : V := .i .i64 r
noncomputable def unr_cmp_Compare_int64 (v : V) : Option (Int) := match v with
  | .i .i64 r0 => some r0
  | _ => none
theorem unr_ok_cmp_Compare_int64 : ∀ v r, unr_cmp_Compare_int64 v = some r → v = enc_cmp_Compare_int64 r := by
  intro v r h
  unfold unr_cmp_Compare_int64 at h
  split at h
  · cases h; rfl
  · cases h
noncomputable def e_cmp_Compare_int64 (n : Nat) : Ent := pureE 61 una_cmp_Compare_int64 (fun a => cmp_Compare_int64 n a.1 a.2) enc_cmp_Compare_int64
noncomputable def t_cmp_Compare_int64 (l : List V) (_ : List (Nat × Blk)) : Bool := isS (una_cmp_Compare_int64 l)
noncomputable def Es_cmp_Compare_int64 (n : Nat) : List Ent := [e_cmp_isNaN_int64 n]
theorem Es_ok_cmp_Compare_int64 (n : Nat) : ∀ x ∈ Es_cmp_Compare_int64 n, EntOK Tryd.prog x := by
  intro x hx
  simp only [Es_cmp_Compare_int64, List.mem_cons, List.not_mem_nil, or_false] at hx
  · rw [hx]; exact ok_cmp_isNaN_int64 n
noncomputable def Ls_cmp_Compare_int64 (_n : Nat) : List Sub := []
theorem subs_cmp_Compare_int64 (n : Nat) : SubOK Tryd.prog 20 (Ls_cmp_Compare_int64 n) (acOf Tryd.f61) := SubOK_of _ (by
  have e : subs (acOf Tryd.f61) = [] := by kernel_rfl
  rw [e]; intro p hp; cases hp)
theorem cert_cmp_Compare_int64 (n : Nat) (a0 : Int) (a1 : Int) : run Tryd.prog (Es_cmp_Compare_int64 n) (Ls_cmp_Compare_int64 n) Tryd.f61.ntmps (acOf Tryd.f61) ⟨argsT [.i .i64 a0, .i .i64 a1] 0, [], 0, 0, 0, 0⟩ (finK Tryd.prog Tryd.f61.results.toList (retX unr_cmp_Compare_int64)) = cmp_Compare_int64 n a0 a1 := by kernel_rfl
theorem pure_cmp_Compare_int64 (n : Nat) : ∀ a r, cmp_Compare_int64 n a.1 a.2 = some r → PureOK Tryd.prog 61 (arg_cmp_Compare_int64 a) (enc_cmp_Compare_int64 r) := fun a r h => pureX_ok unr_ok_cmp_Compare_int64 (Es_ok_cmp_Compare_int64 n) Tryd.func61 rfl (acOf_code _) (subs_cmp_Compare_int64 n) rfl ((cert_cmp_Compare_int64 n a.1 a.2).trans h)
theorem ok_cmp_Compare_int64 (n : Nat) : EntOK Tryd.prog (e_cmp_Compare_int64 n) := pureE_ok Tryd.call61 una_ok_cmp_Compare_int64 (fun _ => rfl) (pure_cmp_Compare_int64 n)

/-! cmp.Or[int] -/
noncomputable def arg_cmp_Or_int (a : List (Int)) : List V := [.ws 0]
noncomputable def H0_cmp_Or_int (a : List (Int)) : List (Nat × Blk) := [(0, .rows [.i .i64] a)]
noncomputable def una_cmp_Or_int (l : List V) (H : List (Nat × Blk)) : Option ((List (Int)) × List Nat) := match l with
  | [.ws b0] => (match Abs.look H b0 with
    | some (.rows [.i .i64] a0) => (cond (Abs.distinct [b0] && true) (some (a0, [b0])) none)
    | _ => none)
  | _ => none
theorem una_ok_cmp_Or_int : ∀ l H a ρ, una_cmp_Or_int l H = some (a, ρ) → ρ.length = 1 ∧ ρ.Nodup ∧ l = V.rens ρ (arg_cmp_Or_int a) ∧ ∀ b blk, Abs.look (H0_cmp_Or_int a) b = some blk → Abs.look H (getN ρ b) = some (blk.ren ρ) := by
  intro l H a ρ h
  unfold una_cmp_Or_int at h
  split at h
  · split at h
    · rename_i e0
      obtain ⟨hd, h⟩ := cond_some h
      simp only [Bool.and_eq_true] at hd
      obtain ⟨hd, _⟩ := hd
      cases h
      exact ⟨rfl, distinct_ok hd, rfl, eachH_look ⟨e0, trivial⟩⟩
    · cases h
  · cases h
noncomputable def out_cmp_Or_int (r : Int) : FOut := (⟨false, .i .i64 r, [], []⟩ : FOut)
noncomputable def outK_cmp_Or_int (α : Type) (r : Int) (k : FOut → Option α) : Option α := (k ⟨false, .i .i64 r, [], []⟩)
theorem outK_ok_cmp_Or_int : ∀ α r k, outK_cmp_Or_int α r k = k (out_cmp_Or_int r) := by
  intro α r k
  rfl
noncomputable def unr_cmp_Or_int (pan : Bool) (v : V) (H : List (Nat × Blk)) (nw : List Nat) : Option (Int) := match pan, v, H, nw with
  | false, .i .i64 r0, [], [] => some r0
  | _, _, _, _ => none
theorem unr_ok_cmp_Or_int : ∀ pan v H nw r, unr_cmp_Or_int pan v H nw = some r → (out_cmp_Or_int r).pan = pan ∧ (out_cmp_Or_int r).news = nw ∧ v = V.ren (upTo 0 1 ++ (out_cmp_Or_int r).news) (out_cmp_Or_int r).val ∧ H = renH (upTo 0 1 ++ (out_cmp_Or_int r).news) (out_cmp_Or_int r).H := by
  intro pan v H nw r h
  unfold unr_cmp_Or_int at h
  split at h
  · cases h; exact ⟨rfl, rfl, rfl, rfl⟩
  · cases h
theorem hv_cmp_Or_int : ∀ r, V.lt (1 + (out_cmp_Or_int r).news.length) (out_cmp_Or_int r).val = true := fun r => (by rfl)
theorem hc_cmp_Or_int : ∀ r, chkH (1 + (out_cmp_Or_int r).news.length) (out_cmp_Or_int r).H = true := fun r => (by rfl)
theorem hk_cmp_Or_int : ∀ r, hasKeys (out_cmp_Or_int r).H 1 (0 + (out_cmp_Or_int r).news.length) = true := fun r => (by rfl)
noncomputable def e_cmp_Or_int (n : Nat) : Ent := funE 59 1 una_cmp_Or_int (fun a => cmp_Or_int n a) outK_cmp_Or_int
noncomputable def t_cmp_Or_int (l : List V) (H : List (Nat × Blk)) : Bool := isS (una_cmp_Or_int l H)
noncomputable def Es_cmp_Or_int (_n : Nat) : List Ent := []
theorem Es_ok_cmp_Or_int (n : Nat) : ∀ x ∈ Es_cmp_Or_int n, EntOK Tryd.prog x := by
  intro x hx
  simp [Es_cmp_Or_int] at hx
noncomputable def an_cmp_Or_int_l0 : Ann := ⟨[3, 6, 7, 8], [0], 1, []⟩
noncomputable def emb_cmp_Or_int_l0 (x : Int × Int × Int × List (Int)) : St := ⟨[(3, some (.i .i64 x.1)), (6, some (.ws 0)), (7, some (.i .i64 x.2.1)), (8, some (.i .i64 x.2.2.1))], [(0, .rows [.i .i64] x.2.2.2)], 1, 1, 1, 1⟩
noncomputable def un_cmp_Or_int_l0 (s : St) : Option (Int × Int × Int × List (Int)) := match s with
  | ⟨[(3, some (.i .i64 x0)), (6, some (.ws 0)), (7, some (.i .i64 x1)), (8, some (.i .i64 x2))], [(0, .rows [.i .i64] x3)], 1, 1, 1, 1⟩ => some (x0, x1, x2, x3)
  | _ => none
theorem un_ok_cmp_Or_int_l0 : ∀ s x, un_cmp_Or_int_l0 s = some x → s = emb_cmp_Or_int_l0 x := by
  intro s x h
  unfold un_cmp_Or_int_l0 at h
  split at h
  · cases h; rfl
  · cases h
noncomputable def ax_cmp_Or_int_l0 : Ex → Ann := fun ex => match ex with
  | .ret => ⟨[2], [], 1, []⟩
  | .exit 0 => ⟨[3], [], 1, []⟩
  | _ => ⟨[], [], 0, []⟩
noncomputable def out_cmp_Or_int_l0 (y : Int ⊕ Int) : Ex × St := (Sum.casesOn (motive := fun _ => Ex × St) y (fun a0 => (.ret, ⟨[(2, some (.i .i64 a0))], [], 1, 1, 1, 1⟩)) (fun b0 => (.exit 0, ⟨[(3, some (.i .i64 b0))], [], 1, 1, 1, 1⟩)))
noncomputable def outK_cmp_Or_int_l0 (α : Type) (y : Int ⊕ Int) (k : Ex → St → Option α) : Option α := (Sum.casesOn (motive := fun _ => Option α) y (fun a0 => (k (.ret) ⟨[(2, some (.i .i64 a0))], [], 1, 1, 1, 1⟩)) (fun b0 => (k (.exit 0) ⟨[(3, some (.i .i64 b0))], [], 1, 1, 1, 1⟩)))
theorem outK_ok_cmp_Or_int_l0 : ∀ α y k, outK_cmp_Or_int_l0 α y k = k (out_cmp_Or_int_l0 y).1 (out_cmp_Or_int_l0 y).2 := by
  intro α y k
  rcases y with y | y <;> rfl
noncomputable def ux_cmp_Or_int_l0 (ex : Ex) (s : St) : Option (Int ⊕ Int) := match ex, s with
  | .ret, ⟨[(2, some (.i .i64 y0))], [], 1, 1, 1, 1⟩ => some (.inl y0)
  | .exit 0, ⟨[(3, some (.i .i64 y0))], [], 1, 1, 1, 1⟩ => some (.inr y0)
  | _, _ => none
theorem ux_ok_cmp_Or_int_l0 : ∀ ex s y, ux_cmp_Or_int_l0 ex s = some y → (ex, s) = out_cmp_Or_int_l0 y := by
  intro ex s y h
  unfold ux_cmp_Or_int_l0 at h
  split at h
  · cases h; rfl
  · cases h; rfl
  · cases h
noncomputable def Ls_cmp_Or_int (n : Nat) : List Sub := [subE 0 an_cmp_Or_int_l0 un_cmp_Or_int_l0 (fun x => iterL (cmp_Or_int_l0 n) n x) outK_cmp_Or_int_l0]
noncomputable def sac_cmp_Or_int_l0 : AC := getS (subs (acOf Tryd.f59)) 0
noncomputable def ac_cmp_Or_int_l0 : AC := AC.body sac_cmp_Or_int_l0
theorem subs_cmp_Or_int_l0 (n : Nat) : SubOK Tryd.prog 18 (Ls_cmp_Or_int n) ac_cmp_Or_int_l0 := SubOK_of _ (by
  have e : subs ac_cmp_Or_int_l0 = [] := by kernel_rfl
  rw [e]; intro p hp; cases hp)
theorem body_cmp_Or_int_l0 (n : Nat) : ∀ x, run Tryd.prog (Es_cmp_Or_int n) (Ls_cmp_Or_int n) 18 ac_cmp_Or_int_l0 (emb_cmp_Or_int_l0 x) (roundK an_cmp_Or_int_l0 un_cmp_Or_int_l0 ax_cmp_Or_int_l0 ux_cmp_Or_int_l0) = cmp_Or_int_l0 n x := fun _ => by kernel_rfl
theorem sub1_cmp_Or_int_l0 (n : Nat) : ∀ (α : Type) (s : St) (k : Ex → St → Option α) (z : α), (subE 0 an_cmp_Or_int_l0 un_cmp_Or_int_l0 (fun x => iterL (cmp_Or_int_l0 n) n x) outK_cmp_Or_int_l0).e α s k = some z → SemC Tryd.prog 18 (sac_cmp_Or_int_l0).code s fun ex s' => k ex s' = some z := by
  intro α s k z h
  have e : sac_cmp_Or_int_l0 = .loop ac_cmp_Or_int_l0 := by kernel_rfl
  rw [e]
  exact subE_ok (m := 0) (f := fun x => iterL (cmp_Or_int_l0 n) n x) (out := out_cmp_Or_int_l0) outK_ok_cmp_Or_int_l0 un_ok_cmp_Or_int_l0 (fun x y hy => loop_ok (Es_ok_cmp_Or_int n) (subs_cmp_Or_int_l0 n) un_ok_cmp_Or_int_l0 ux_ok_cmp_Or_int_l0 (body_cmp_Or_int_l0 n) n x y hy) h
theorem sub_cmp_Or_int_l0 (n : Nat) : SubSt Tryd.prog 18 (Ls_cmp_Or_int n) 0 sac_cmp_Or_int_l0 := fun α s k z => sub1_cmp_Or_int_l0 n α s k z
theorem subs_cmp_Or_int (n : Nat) : SubOK Tryd.prog 18 (Ls_cmp_Or_int n) (acOf Tryd.f59) := SubOK_of _ (by
  have e : subs (acOf Tryd.f59) = [(0, sac_cmp_Or_int_l0)] := by kernel_rfl
  rw [e]; intro p hp
  simp only [List.mem_cons, List.not_mem_nil, or_false] at hp
  · rw [hp]; exact sub_cmp_Or_int_l0 n
  )
theorem cert_cmp_Or_int (n : Nat) (a0 : List (Int)) : run Tryd.prog (Es_cmp_Or_int n) (Ls_cmp_Or_int n) Tryd.f59.ntmps (acOf Tryd.f59) ⟨argsT [.ws 0] 0, [(0, .rows [.i .i64] a0)], 1, 1, 1, 1⟩ (finK Tryd.prog Tryd.f59.results.toList (funX [] 1 1 1 unr_cmp_Or_int)) = cmp_Or_int n a0 := by kernel_rfl
theorem fun_cmp_Or_int (n : Nat) : ∀ a r, cmp_Or_int n a = some r → FunOK Tryd.prog 59 (arg_cmp_Or_int a) (H0_cmp_Or_int a) 1 1 1 (out_cmp_Or_int r) := fun a r h => funX_ok (ws := []) unr_ok_cmp_Or_int hv_cmp_Or_int (fun r b blk hl => (chkH_look (hc_cmp_Or_int r) b blk hl).2) (fun r => chkH_keys (hc_cmp_Or_int r)) (by decide) (Es_ok_cmp_Or_int n) Tryd.func59 rfl (acOf_code _) (subs_cmp_Or_int n) rfl rfl ((cert_cmp_Or_int n a).trans h)
theorem ok_cmp_Or_int (n : Nat) : EntOK Tryd.prog (e_cmp_Or_int n) := funE_ok (m := 1) (ro := 1) (rb := 1) (out := out_cmp_Or_int) (arg := arg_cmp_Or_int) (H0 := H0_cmp_Or_int) Tryd.call59 (by decide) (by decide) outK_ok_cmp_Or_int una_ok_cmp_Or_int (fun _ => rfl) (fun a => chkH_look (m := 1) (H := H0_cmp_Or_int a) rfl) (fun _ => rfl) (fun r => chkH_keys (hc_cmp_Or_int r)) (fun r b blk h => (chkH_look (hc_cmp_Or_int r) b blk h).2) (fun r b h1 h2 => hasKeys_ok (hk_cmp_Or_int r) b h1 (by omega)) hv_cmp_Or_int (fun_cmp_Or_int n)

/-! circa/ends.Compare -/
noncomputable def arg_ends_Compare (a : Int × Int × Int × Int) : List V := [.ag [.i .i8 a.1, .i .i64 a.2.1], .ag [.i .i8 a.2.2.1, .i .i64 a.2.2.2]]
noncomputable def una_ends_Compare (l : List V) : Option (Int × Int × Int × Int) := match l with
  | [.ag [.i .i8 a0, .i .i64 a1], .ag [.i .i8 a2, .i .i64 a3]] => some (a0, a1, a2, a3)
  | _ => none
theorem una_ok_ends_Compare : ∀ l a, una_ends_Compare l = some a → l = arg_ends_Compare a := by
  intro l a h
  unfold una_ends_Compare at h
  split at h
  · cases h; rfl
  · cases h
noncomputable def enc_ends_Compare (r : Int) : V := .i .i64 r
noncomputable def unr_ends_Compare (v : V) : Option (Int) := match v with
  | .i .i64 r0 => some r0
  | _ => none
theorem unr_ok_ends_Compare : ∀ v r, unr_ends_Compare v = some r → v = enc_ends_Compare r := by
  intro v r h
  unfold unr_ends_Compare at h
  split at h
  · cases h; rfl
  · cases h
noncomputable def e_ends_Compare (n : Nat) : Ent := pureE 48 una_ends_Compare (fun a => ends_Compare n a.1 a.2.1 a.2.2.1 a.2.2.2) enc_ends_Compare
noncomputable def t_ends_Compare (l : List V) (_ : List (Nat × Blk)) : Bool := isS (una_ends_Compare l)
noncomputable def Es_ends_Compare (n : Nat) : List Ent := [e_cmp_Compare_int8 n, e_cmp_Compare_int64 n, e_cmp_Or_int n]
theorem Es_ok_ends_Compare (n : Nat) : ∀ x ∈ Es_ends_Compare n, EntOK Tryd.prog x := by
  intro x hx
  simp only [Es_ends_Compare, List.mem_cons, List.not_mem_nil, or_false] at hx
  rcases hx with hx | hx | hx
  · rw [hx]; exact ok_cmp_Compare_int8 n
  · rw [hx]; exact ok_cmp_Compare_int64 n
  · rw [hx]; exact ok_cmp_Or_int n
noncomputable def Ls_ends_Compare (_n : Nat) : List Sub := []
theorem subs_ends_Compare (n : Nat) : SubOK Tryd.prog 17 (Ls_ends_Compare n) (acOf Tryd.f48) := SubOK_of _ (by
  have e : subs (acOf Tryd.f48) = [] := by kernel_rfl
  rw [e]; intro p hp; cases hp)
theorem cert_ends_Compare (n : Nat) (a0 : Int) (a1 : Int) (a2 : Int) (a3 : Int) : run Tryd.prog (Es_ends_Compare n) (Ls_ends_Compare n) Tryd.f48.ntmps (acOf Tryd.f48) ⟨argsT [.ag [.i .i8 a0, .i .i64 a1], .ag [.i .i8 a2, .i .i64 a3]] 0, [], 0, 0, 0, 0⟩ (finK Tryd.prog Tryd.f48.results.toList (retX unr_ends_Compare)) = ends_Compare n a0 a1 a2 a3 := by kernel_rfl
theorem pure_ends_Compare (n : Nat) : ∀ a r, ends_Compare n a.1 a.2.1 a.2.2.1 a.2.2.2 = some r → PureOK Tryd.prog 48 (arg_ends_Compare a) (enc_ends_Compare r) := fun a r h => pureX_ok unr_ok_ends_Compare (Es_ok_ends_Compare n) Tryd.func48 rfl (acOf_code _) (subs_ends_Compare n) rfl ((cert_ends_Compare n a.1 a.2.1 a.2.2.1 a.2.2.2).trans h)
theorem ok_ends_Compare (n : Nat) : EntOK Tryd.prog (e_ends_Compare n) := pureE_ok Tryd.call48 una_ok_ends_Compare (fun _ => rfl) (pure_ends_Compare n)

/-! circa/runs.Check -/
noncomputable def arg_runs_Check (a : Int × Int × Int × Int) : List V := [.ag [.i .i8 a.1, .i .i64 a.2.1, .i .i8 a.2.2.1, .i .i64 a.2.2.2]]
noncomputable def una_runs_Check (l : List V) : Option (Int × Int × Int × Int) := match l with
  | [.ag [.i .i8 a0, .i .i64 a1, .i .i8 a2, .i .i64 a3]] => some (a0, a1, a2, a3)
  | _ => none
theorem una_ok_runs_Check : ∀ l a, una_runs_Check l = some a → l = arg_runs_Check a := by
  intro l a h
  unfold una_runs_Check at h
  split at h
  · cases h; rfl
  · cases h
noncomputable def enc_runs_Check (r : Int) : V := .i .i64 r
noncomputable def unr_runs_Check (v : V) : Option (Int) := match v with
  | .i .i64 r0 => some r0
  | _ => none
theorem unr_ok_runs_Check : ∀ v r, unr_runs_Check v = some r → v = enc_runs_Check r := by
  intro v r h
  unfold unr_runs_Check at h
  split at h
  · cases h; rfl
  · cases h
noncomputable def e_runs_Check (n : Nat) : Ent := pureE 33 una_runs_Check (fun a => runs_Check n a.1 a.2.1 a.2.2.1 a.2.2.2) enc_runs_Check
noncomputable def t_runs_Check (l : List V) (_ : List (Nat × Blk)) : Bool := isS (una_runs_Check l)
noncomputable def Es_runs_Check (n : Nat) : List Ent := [e_ends_Check n, e_ends_Compare n]
theorem Es_ok_runs_Check (n : Nat) : ∀ x ∈ Es_runs_Check n, EntOK Tryd.prog x := by
  intro x hx
  simp only [Es_runs_Check, List.mem_cons, List.not_mem_nil, or_false] at hx
  rcases hx with hx | hx
  · rw [hx]; exact ok_ends_Check n
  · rw [hx]; exact ok_ends_Compare n
noncomputable def Ls_runs_Check (_n : Nat) : List Sub := []
theorem subs_runs_Check (n : Nat) : SubOK Tryd.prog 32 (Ls_runs_Check n) (acOf Tryd.f33) := SubOK_of _ (by
  have e : subs (acOf Tryd.f33) = [] := by kernel_rfl
  rw [e]; intro p hp; cases hp)
theorem cert_runs_Check (n : Nat) (a0 : Int) (a1 : Int) (a2 : Int) (a3 : Int) : run Tryd.prog (Es_runs_Check n) (Ls_runs_Check n) Tryd.f33.ntmps (acOf Tryd.f33) ⟨argsT [.ag [.i .i8 a0, .i .i64 a1, .i .i8 a2, .i .i64 a3]] 0, [], 0, 0, 0, 0⟩ (finK Tryd.prog Tryd.f33.results.toList (retX unr_runs_Check)) = runs_Check n a0 a1 a2 a3 := by kernel_rfl
theorem pure_runs_Check (n : Nat) : ∀ a r, runs_Check n a.1 a.2.1 a.2.2.1 a.2.2.2 = some r → PureOK Tryd.prog 33 (arg_runs_Check a) (enc_runs_Check r) := fun a r h => pureX_ok unr_ok_runs_Check (Es_ok_runs_Check n) Tryd.func33 rfl (acOf_code _) (subs_runs_Check n) rfl ((cert_runs_Check n a.1 a.2.1 a.2.2.1 a.2.2.2).trans h)
theorem ok_runs_Check (n : Nat) : EntOK Tryd.prog (e_runs_Check n) := pureE_ok Tryd.call33 una_ok_runs_Check (fun _ => rfl) (pure_runs_Check n)

/-! circa/relations.ahead -/
noncomputable def arg_relations_ahead (a : Int × Int × Int × Int × Int × Int × Int × Int) : List V := [.ag [.i .i8 a.1, .i .i64 a.2.1, .i .i8 a.2.2.1, .i .i64 a.2.2.2.1], .ag [.i .i8 a.2.2.2.2.1, .i .i64 a.2.2.2.2.2.1, .i .i8 a.2.2.2.2.2.2.1, .i .i64 a.2.2.2.2.2.2.2]]
noncomputable def una_relations_ahead (l : List V) : Option (Int × Int × Int × Int × Int × Int × Int × Int) := match l with
  | [.ag [.i .i8 a0, .i .i64 a1, .i .i8 a2, .i .i64 a3], .ag [.i .i8 a4, .i .i64 a5, .i .i8 a6, .i .i64 a7]] => some (a0, a1, a2, a3, a4, a5, a6, a7)
  | _ => none
theorem una_ok_relations_ahead : ∀ l a, una_relations_ahead l = some a → l = arg_relations_ahead a := by
  intro l a h
  unfold una_relations_ahead at h
  split at h
  · cases h; rfl
  · cases h
noncomputable def enc_relations_ahead (r : Int) : V := .i .u8 r
noncomputable def unr_relations_ahead (v : V) : Option (Int) := match v with
  | .i .u8 r0 => some r0
  | _ => none
theorem unr_ok_relations_ahead : ∀ v r, unr_relations_ahead v = some r → v = enc_relations_ahead r := by
  intro v r h
  unfold unr_relations_ahead at h
  split at h
  · cases h; rfl
  · cases h
noncomputable def e_relations_ahead (n : Nat) : Ent := pureE 49 una_relations_ahead (fun a => relations_ahead n a.1 a.2.1 a.2.2.1 a.2.2.2.1 a.2.2.2.2.1 a.2.2.2.2.2.1 a.2.2.2.2.2.2.1 a.2.2.2.2.2.2.2) enc_relations_ahead
noncomputable def t_relations_ahead (l : List V) (_ : List (Nat × Blk)) : Bool := isS (una_relations_ahead l)
noncomputable def Es_relations_ahead (n : Nat) : List Ent := [e_ends_Compare n]
theorem Es_ok_relations_ahead (n : Nat) : ∀ x ∈ Es_relations_ahead n, EntOK Tryd.prog x := by
  intro x hx
  simp only [Es_relations_ahead, List.mem_cons, List.not_mem_nil, or_false] at hx
  · rw [hx]; exact ok_ends_Compare n
noncomputable def Ls_relations_ahead (_n : Nat) : List Sub := []
theorem subs_relations_ahead (n : Nat) : SubOK Tryd.prog 33 (Ls_relations_ahead n) (acOf Tryd.f49) := SubOK_of _ (by
  have e : subs (acOf Tryd.f49) = [] := by kernel_rfl
  rw [e]; intro p hp; cases hp)
theorem cert_relations_ahead (n : Nat) (a0 : Int) (a1 : Int) (a2 : Int) (a3 : Int) (a4 : Int) (a5 : Int) (a6 : Int) (a7 : Int) : run Tryd.prog (Es_relations_ahead n) (Ls_relations_ahead n) Tryd.f49.ntmps (acOf Tryd.f49) ⟨argsT [.ag [.i .i8 a0, .i .i64 a1, .i .i8 a2, .i .i64 a3], .ag [.i .i8 a4, .i .i64 a5, .i .i8 a6, .i .i64 a7]] 0, [], 0, 0, 0, 0⟩ (finK Tryd.prog Tryd.f49.results.toList (retX unr_relations_ahead)) = relations_ahead n a0 a1 a2 a3 a4 a5 a6 a7 := by kernel_rfl
theorem pure_relations_ahead (n : Nat) : ∀ a r, relations_ahead n a.1 a.2.1 a.2.2.1 a.2.2.2.1 a.2.2.2.2.1 a.2.2.2.2.2.1 a.2.2.2.2.2.2.1 a.2.2.2.2.2.2.2 = some r → PureOK Tryd.prog 49 (arg_relations_ahead a) (enc_relations_ahead r) := fun a r h => pureX_ok unr_ok_relations_ahead (Es_ok_relations_ahead n) Tryd.func49 rfl (acOf_code _) (subs_relations_ahead n) rfl ((cert_relations_ahead n a.1 a.2.1 a.2.2.1 a.2.2.2.1 a.2.2.2.2.1 a.2.2.2.2.2.1 a.2.2.2.2.2.2.1 a.2.2.2.2.2.2.2).trans h)
theorem ok_relations_ahead (n : Nat) : EntOK Tryd.prog (e_relations_ahead n) := pureE_ok Tryd.call49 una_ok_relations_ahead (fun _ => rfl) (pure_relations_ahead n)

/-! circa/relations.of -/
noncomputable def arg_relations_of (a : Int × Int × Int × Int × Int × Int × Int × Int) : List V := [.ag [.i .i8 a.1, .i .i64 a.2.1, .i .i8 a.2.2.1, .i .i64 a.2.2.2.1], .ag [.i .i8 a.2.2.2.2.1, .i .i64 a.2.2.2.2.2.1, .i .i8 a.2.2.2.2.2.2.1, .i .i64 a.2.2.2.2.2.2.2]]
noncomputable def una_relations_of (l : List V) : Option (Int × Int × Int × Int × Int × Int × Int × Int) := match l with
  | [.ag [.i .i8 a0, .i .i64 a1, .i .i8 a2, .i .i64 a3], .ag [.i .i8 a4, .i .i64 a5, .i .i8 a6, .i .i64 a7]] => some (a0, a1, a2, a3, a4, a5, a6, a7)
  | _ => none
theorem una_ok_relations_of : ∀ l a, una_relations_of l = some a → l = arg_relations_of a := by
  intro l a h
  unfold una_relations_of at h
  split at h
  · cases h; rfl
  · cases h
noncomputable def enc_relations_of (r : Int) : V := .i .u8 r
noncomputable def unr_relations_of (v : V) : Option (Int) := match v with
  | .i .u8 r0 => some r0
  | _ => none
theorem unr_ok_relations_of : ∀ v r, unr_relations_of v = some r → v = enc_relations_of r := by
  intro v r h
  unfold unr_relations_of at h
  split at h
  · cases h; rfl
  · cases h
noncomputable def e_relations_of (n : Nat) : Ent := pureE 34 una_relations_of (fun a => relations_of n a.1 a.2.1 a.2.2.1 a.2.2.2.1 a.2.2.2.2.1 a.2.2.2.2.2.1 a.2.2.2.2.2.2.1 a.2.2.2.2.2.2.2) enc_relations_of
noncomputable def t_relations_of (l : List V) (_ : List (Nat × Blk)) : Bool := isS (una_relations_of l)
noncomputable def Es_relations_of (n : Nat) : List Ent := [e_relations_ahead n, e_ends_Compare n]
theorem Es_ok_relations_of (n : Nat) : ∀ x ∈ Es_relations_of n, EntOK Tryd.prog x := by
  intro x hx
  simp only [Es_relations_of, List.mem_cons, List.not_mem_nil, or_false] at hx
  rcases hx with hx | hx
  · rw [hx]; exact ok_relations_ahead n
  · rw [hx]; exact ok_ends_Compare n
noncomputable def Ls_relations_of (_n : Nat) : List Sub := []
theorem subs_relations_of (n : Nat) : SubOK Tryd.prog 40 (Ls_relations_of n) (acOf Tryd.f34) := SubOK_of _ (by
  have e : subs (acOf Tryd.f34) = [] := by kernel_rfl
  rw [e]; intro p hp; cases hp)
theorem cert_relations_of (n : Nat) (a0 : Int) (a1 : Int) (a2 : Int) (a3 : Int) (a4 : Int) (a5 : Int) (a6 : Int) (a7 : Int) : run Tryd.prog (Es_relations_of n) (Ls_relations_of n) Tryd.f34.ntmps (acOf Tryd.f34) ⟨argsT [.ag [.i .i8 a0, .i .i64 a1, .i .i8 a2, .i .i64 a3], .ag [.i .i8 a4, .i .i64 a5, .i .i8 a6, .i .i64 a7]] 0, [], 0, 0, 0, 0⟩ (finK Tryd.prog Tryd.f34.results.toList (retX unr_relations_of)) = relations_of n a0 a1 a2 a3 a4 a5 a6 a7 := by kernel_rfl
theorem pure_relations_of (n : Nat) : ∀ a r, relations_of n a.1 a.2.1 a.2.2.1 a.2.2.2.1 a.2.2.2.2.1 a.2.2.2.2.2.1 a.2.2.2.2.2.2.1 a.2.2.2.2.2.2.2 = some r → PureOK Tryd.prog 34 (arg_relations_of a) (enc_relations_of r) := fun a r h => pureX_ok unr_ok_relations_of (Es_ok_relations_of n) Tryd.func34 rfl (acOf_code _) (subs_relations_of n) rfl ((cert_relations_of n a.1 a.2.1 a.2.2.1 a.2.2.2.1 a.2.2.2.2.1 a.2.2.2.2.2.1 a.2.2.2.2.2.2.1 a.2.2.2.2.2.2.2).trans h)
theorem ok_relations_of (n : Nat) : EntOK Tryd.prog (e_relations_of n) := pureE_ok Tryd.call34 una_ok_relations_of (fun _ => rfl) (pure_relations_of n)

/-! circa/relations.Of -/
noncomputable def arg_relations_Of (a : Int × Int × Int × Int × Int × Int × Int × Int) : List V := [.ag [.i .i8 a.1, .i .i64 a.2.1, .i .i8 a.2.2.1, .i .i64 a.2.2.2.1], .ag [.i .i8 a.2.2.2.2.1, .i .i64 a.2.2.2.2.2.1, .i .i8 a.2.2.2.2.2.2.1, .i .i64 a.2.2.2.2.2.2.2]]
noncomputable def una_relations_Of (l : List V) : Option (Int × Int × Int × Int × Int × Int × Int × Int) := match l with
  | [.ag [.i .i8 a0, .i .i64 a1, .i .i8 a2, .i .i64 a3], .ag [.i .i8 a4, .i .i64 a5, .i .i8 a6, .i .i64 a7]] => some (a0, a1, a2, a3, a4, a5, a6, a7)
  | _ => none
theorem una_ok_relations_Of : ∀ l a, una_relations_Of l = some a → l = arg_relations_Of a := by
  intro l a h
  unfold una_relations_Of at h
  split at h
  · cases h; rfl
  · cases h
noncomputable def enc_relations_Of (r : Int × Int) : V := .tp [.i .u8 r.1, .i .i64 r.2]
noncomputable def unr_relations_Of (v : V) : Option (Int × Int) := match v with
  | .tp [.i .u8 r0, .i .i64 r1] => some (r0, r1)
  | _ => none
theorem unr_ok_relations_Of : ∀ v r, unr_relations_Of v = some r → v = enc_relations_Of r := by
  intro v r h
  unfold unr_relations_Of at h
  split at h
  · cases h; rfl
  · cases h
noncomputable def e_relations_Of (n : Nat) : Ent := pureE 9 una_relations_Of (fun a => relations_Of n a.1 a.2.1 a.2.2.1 a.2.2.2.1 a.2.2.2.2.1 a.2.2.2.2.2.1 a.2.2.2.2.2.2.1 a.2.2.2.2.2.2.2) enc_relations_Of
noncomputable def t_relations_Of (l : List V) (_ : List (Nat × Blk)) : Bool := isS (una_relations_Of l)
noncomputable def Es_relations_Of (n : Nat) : List Ent := [e_runs_Check n, e_relations_of n]
theorem Es_ok_relations_Of (n : Nat) : ∀ x ∈ Es_relations_Of n, EntOK Tryd.prog x := by
  intro x hx
  simp only [Es_relations_Of, List.mem_cons, List.not_mem_nil, or_false] at hx
  rcases hx with hx | hx
  · rw [hx]; exact ok_runs_Check n
  · rw [hx]; exact ok_relations_of n
noncomputable def Ls_relations_Of (_n : Nat) : List Sub := []
theorem subs_relations_Of (n : Nat) : SubOK Tryd.prog 17 (Ls_relations_Of n) (acOf Tryd.f9) := SubOK_of _ (by
  have e : subs (acOf Tryd.f9) = [] := by kernel_rfl
  rw [e]; intro p hp; cases hp)
theorem cert_relations_Of (n : Nat) (a0 : Int) (a1 : Int) (a2 : Int) (a3 : Int) (a4 : Int) (a5 : Int) (a6 : Int) (a7 : Int) : run Tryd.prog (Es_relations_Of n) (Ls_relations_Of n) Tryd.f9.ntmps (acOf Tryd.f9) ⟨argsT [.ag [.i .i8 a0, .i .i64 a1, .i .i8 a2, .i .i64 a3], .ag [.i .i8 a4, .i .i64 a5, .i .i8 a6, .i .i64 a7]] 0, [], 0, 0, 0, 0⟩ (finK Tryd.prog Tryd.f9.results.toList (retX unr_relations_Of)) = relations_Of n a0 a1 a2 a3 a4 a5 a6 a7 := by kernel_rfl
theorem pure_relations_Of (n : Nat) : ∀ a r, relations_Of n a.1 a.2.1 a.2.2.1 a.2.2.2.1 a.2.2.2.2.1 a.2.2.2.2.2.1 a.2.2.2.2.2.2.1 a.2.2.2.2.2.2.2 = some r → PureOK Tryd.prog 9 (arg_relations_Of a) (enc_relations_Of r) := fun a r h => pureX_ok unr_ok_relations_Of (Es_ok_relations_Of n) Tryd.func9 rfl (acOf_code _) (subs_relations_Of n) rfl ((cert_relations_Of n a.1 a.2.1 a.2.2.1 a.2.2.2.1 a.2.2.2.2.1 a.2.2.2.2.2.1 a.2.2.2.2.2.2.1 a.2.2.2.2.2.2.2).trans h)
theorem ok_relations_Of (n : Nat) : EntOK Tryd.prog (e_relations_Of n) := pureE_ok Tryd.call9 una_ok_relations_Of (fun _ => rfl) (pure_relations_Of n)

/-! circa/circaref31.End -/
noncomputable def arg_circaref31_End (a : Int × Int) : List V := [.ag [.i .i8 a.1, .i .i64 a.2]]
noncomputable def una_circaref31_End (l : List V) : Option (Int × Int) := match l with
  | [.ag [.i .i8 a0, .i .i64 a1]] => some (a0, a1)
  | _ => none
theorem una_ok_circaref31_End : ∀ l a, una_circaref31_End l = some a → l = arg_circaref31_End a := by
  intro l a h
  unfold una_circaref31_End at h
  split at h
  · cases h; rfl
  · cases h
noncomputable def enc_circaref31_End (r : Int) : V := .i .i64 r
noncomputable def unr_circaref31_End (v : V) : Option (Int) := match v with
  | .i .i64 r0 => some r0
  | _ => none
theorem unr_ok_circaref31_End : ∀ v r, unr_circaref31_End v = some r → v = enc_circaref31_End r := by
  intro v r h
  unfold unr_circaref31_End at h
  split at h
  · cases h; rfl
  · cases h
noncomputable def e_circaref31_End (n : Nat) : Ent := pureE 35 una_circaref31_End (fun a => circaref31_End n a.1 a.2) enc_circaref31_End
noncomputable def t_circaref31_End (l : List V) (_ : List (Nat × Blk)) : Bool := isS (una_circaref31_End l)
noncomputable def Es_circaref31_End (_n : Nat) : List Ent := []
theorem Es_ok_circaref31_End (n : Nat) : ∀ x ∈ Es_circaref31_End n, EntOK Tryd.prog x := by
  intro x hx
  simp [Es_circaref31_End] at hx
noncomputable def Ls_circaref31_End (_n : Nat) : List Sub := []
theorem subs_circaref31_End (n : Nat) : SubOK Tryd.prog 21 (Ls_circaref31_End n) (acOf Tryd.f35) := SubOK_of _ (by
  have e : subs (acOf Tryd.f35) = [] := by kernel_rfl
  rw [e]; intro p hp; cases hp)
theorem cert_circaref31_End (n : Nat) (a0 : Int) (a1 : Int) : run Tryd.prog (Es_circaref31_End n) (Ls_circaref31_End n) Tryd.f35.ntmps (acOf Tryd.f35) ⟨argsT [.ag [.i .i8 a0, .i .i64 a1]] 0, [], 0, 0, 0, 0⟩ (finK Tryd.prog Tryd.f35.results.toList (retX unr_circaref31_End)) = circaref31_End n a0 a1 := by kernel_rfl
theorem pure_circaref31_End (n : Nat) : ∀ a r, circaref31_End n a.1 a.2 = some r → PureOK Tryd.prog 35 (arg_circaref31_End a) (enc_circaref31_End r) := fun a r h => pureX_ok unr_ok_circaref31_End (Es_ok_circaref31_End n) Tryd.func35 rfl (acOf_code _) (subs_circaref31_End n) rfl ((cert_circaref31_End n a.1 a.2).trans h)
theorem ok_circaref31_End (n : Nat) : EntOK Tryd.prog (e_circaref31_End n) := pureE_ok Tryd.call35 una_ok_circaref31_End (fun _ => rfl) (pure_circaref31_End n)

/-! circa/circaref31.less -/
noncomputable def arg_circaref31_less (a : Int × Int × Int × Int) : List V := [.ag [.i .i8 a.1, .i .i64 a.2.1], .ag [.i .i8 a.2.2.1, .i .i64 a.2.2.2]]
noncomputable def una_circaref31_less (l : List V) : Option (Int × Int × Int × Int) := match l with
  | [.ag [.i .i8 a0, .i .i64 a1], .ag [.i .i8 a2, .i .i64 a3]] => some (a0, a1, a2, a3)
  | _ => none
theorem una_ok_circaref31_less : ∀ l a, una_circaref31_less l = some a → l = arg_circaref31_less a := by
  intro l a h
  unfold una_circaref31_less at h
  split at h
  · cases h; rfl
  · cases h
noncomputable def enc_circaref31_less (r : Int) : V := .i .i64 r
noncomputable def unr_circaref31_less (v : V) : Option (Int) := match v with
  | .i .i64 r0 => some r0
  | _ => none
theorem unr_ok_circaref31_less : ∀ v r, unr_circaref31_less v = some r → v = enc_circaref31_less r := by
  intro v r h
  unfold unr_circaref31_less at h
  split at h
  · cases h; rfl
  · cases h
noncomputable def e_circaref31_less (n : Nat) : Ent := pureE 36 una_circaref31_less (fun a => circaref31_less n a.1 a.2.1 a.2.2.1 a.2.2.2) enc_circaref31_less
noncomputable def t_circaref31_less (l : List V) (_ : List (Nat × Blk)) : Bool := isS (una_circaref31_less l)
noncomputable def Es_circaref31_less (_n : Nat) : List Ent := []
theorem Es_ok_circaref31_less (n : Nat) : ∀ x ∈ Es_circaref31_less n, EntOK Tryd.prog x := by
  intro x hx
  simp [Es_circaref31_less] at hx
noncomputable def Ls_circaref31_less (_n : Nat) : List Sub := []
theorem subs_circaref31_less (n : Nat) : SubOK Tryd.prog 27 (Ls_circaref31_less n) (acOf Tryd.f36) := SubOK_of _ (by
  have e : subs (acOf Tryd.f36) = [] := by kernel_rfl
  rw [e]; intro p hp; cases hp)
theorem cert_circaref31_less (n : Nat) (a0 : Int) (a1 : Int) (a2 : Int) (a3 : Int) : run Tryd.prog (Es_circaref31_less n) (Ls_circaref31_less n) Tryd.f36.ntmps (acOf Tryd.f36) ⟨argsT [.ag [.i .i8 a0, .i .i64 a1], .ag [.i .i8 a2, .i .i64 a3]] 0, [], 0, 0, 0, 0⟩ (finK Tryd.prog Tryd.f36.results.toList (retX unr_circaref31_less)) = circaref31_less n a0 a1 a2 a3 := by kernel_rfl
theorem pure_circaref31_less (n : Nat) : ∀ a r, circaref31_less n a.1 a.2.1 a.2.2.1 a.2.2.2 = some r → PureOK Tryd.prog 36 (arg_circaref31_less a) (enc_circaref31_less r) := fun a r h => pureX_ok unr_ok_circaref31_less (Es_ok_circaref31_less n) Tryd.func36 rfl (acOf_code _) (subs_circaref31_less n) rfl ((cert_circaref31_less n a.1 a.2.1 a.2.2.1 a.2.2.2).trans h)
theorem ok_circaref31_less (n : Nat) : EntOK Tryd.prog (e_circaref31_less n) := pureE_ok Tryd.call36 una_ok_circaref31_less (fun _ => rfl) (pure_circaref31_less n)

/-! circa/circaref31.Run -/
noncomputable def arg_circaref31_Run (a : Int × Int × Int × Int) : List V := [.ag [.i .i8 a.1, .i .i64 a.2.1, .i .i8 a.2.2.1, .i .i64 a.2.2.2]]
noncomputable def una_circaref31_Run (l : List V) : Option (Int × Int × Int × Int) := match l with
  | [.ag [.i .i8 a0, .i .i64 a1, .i .i8 a2, .i .i64 a3]] => some (a0, a1, a2, a3)
  | _ => none
theorem una_ok_circaref31_Run : ∀ l a, una_circaref31_Run l = some a → l = arg_circaref31_Run a := by
  intro l a h
  unfold una_circaref31_Run at h
  split at h
  · cases h; rfl
  · cases h
noncomputable def enc_circaref31_Run (r : Int) : V := .i .i64 r
noncomputable def unr_circaref31_Run (v : V) : Option (Int) := match v with
  | .i .i64 r0 => some r0
  | _ => none
theorem unr_ok_circaref31_Run : ∀ v r, unr_circaref31_Run v = some r → v = enc_circaref31_Run r := by
  intro v r h
  unfold unr_circaref31_Run at h
  split at h
  · cases h; rfl
  · cases h
noncomputable def e_circaref31_Run (n : Nat) : Ent := pureE 10 una_circaref31_Run (fun a => circaref31_Run n a.1 a.2.1 a.2.2.1 a.2.2.2) enc_circaref31_Run
noncomputable def t_circaref31_Run (l : List V) (_ : List (Nat × Blk)) : Bool := isS (una_circaref31_Run l)
noncomputable def Es_circaref31_Run (n : Nat) : List Ent := [e_circaref31_End n, e_circaref31_less n]
theorem Es_ok_circaref31_Run (n : Nat) : ∀ x ∈ Es_circaref31_Run n, EntOK Tryd.prog x := by
  intro x hx
  simp only [Es_circaref31_Run, List.mem_cons, List.not_mem_nil, or_false] at hx
  rcases hx with hx | hx
  · rw [hx]; exact ok_circaref31_End n
  · rw [hx]; exact ok_circaref31_less n
noncomputable def Ls_circaref31_Run (_n : Nat) : List Sub := []
theorem subs_circaref31_Run (n : Nat) : SubOK Tryd.prog 31 (Ls_circaref31_Run n) (acOf Tryd.f10) := SubOK_of _ (by
  have e : subs (acOf Tryd.f10) = [] := by kernel_rfl
  rw [e]; intro p hp; cases hp)
theorem cert_circaref31_Run (n : Nat) (a0 : Int) (a1 : Int) (a2 : Int) (a3 : Int) : run Tryd.prog (Es_circaref31_Run n) (Ls_circaref31_Run n) Tryd.f10.ntmps (acOf Tryd.f10) ⟨argsT [.ag [.i .i8 a0, .i .i64 a1, .i .i8 a2, .i .i64 a3]] 0, [], 0, 0, 0, 0⟩ (finK Tryd.prog Tryd.f10.results.toList (retX unr_circaref31_Run)) = circaref31_Run n a0 a1 a2 a3 := by kernel_rfl
theorem pure_circaref31_Run (n : Nat) : ∀ a r, circaref31_Run n a.1 a.2.1 a.2.2.1 a.2.2.2 = some r → PureOK Tryd.prog 10 (arg_circaref31_Run a) (enc_circaref31_Run r) := fun a r h => pureX_ok unr_ok_circaref31_Run (Es_ok_circaref31_Run n) Tryd.func10 rfl (acOf_code _) (subs_circaref31_Run n) rfl ((cert_circaref31_Run n a.1 a.2.1 a.2.2.1 a.2.2.2).trans h)
theorem ok_circaref31_Run (n : Nat) : EntOK Tryd.prog (e_circaref31_Run n) := pureE_ok Tryd.call10 una_ok_circaref31_Run (fun _ => rfl) (pure_circaref31_Run n)

/-! circa/circalaw31.run -/
noncomputable def arg_circalaw31_run (a : Int × Int) : List V := [.i .i64 a.1, .i .i64 a.2]
noncomputable def una_circalaw31_run (l : List V) : Option (Int × Int) := match l with
  | [.i .i64 a0, .i .i64 a1] => some (a0, a1)
  | _ => none
theorem una_ok_circalaw31_run : ∀ l a, una_circalaw31_run l = some a → l = arg_circalaw31_run a := by
  intro l a h
  unfold una_circalaw31_run at h
  split at h
  · cases h; rfl
  · cases h
noncomputable def enc_circalaw31_run (r : Int × Int × Int × Int) : V := .ag [.i .i8 r.1, .i .i64 r.2.1, .i .i8 r.2.2.1, .i .i64 r.2.2.2]
noncomputable def unr_circalaw31_run (v : V) : Option (Int × Int × Int × Int) := match v with
  | .ag [.i .i8 r0, .i .i64 r1, .i .i8 r2, .i .i64 r3] => some (r0, r1, r2, r3)
  | _ => none
theorem unr_ok_circalaw31_run : ∀ v r, unr_circalaw31_run v = some r → v = enc_circalaw31_run r := by
  intro v r h
  unfold unr_circalaw31_run at h
  split at h
  · cases h; rfl
  · cases h
noncomputable def e_circalaw31_run (n : Nat) : Ent := pureE 14 una_circalaw31_run (fun a => circalaw31_run n a.1 a.2) enc_circalaw31_run
noncomputable def t_circalaw31_run (l : List V) (_ : List (Nat × Blk)) : Bool := isS (una_circalaw31_run l)
noncomputable def Es_circalaw31_run (_n : Nat) : List Ent := []
theorem Es_ok_circalaw31_run (n : Nat) : ∀ x ∈ Es_circalaw31_run n, EntOK Tryd.prog x := by
  intro x hx
  simp [Es_circalaw31_run] at hx
noncomputable def Ls_circalaw31_run (_n : Nat) : List Sub := []
theorem subs_circalaw31_run (n : Nat) : SubOK Tryd.prog 10 (Ls_circalaw31_run n) (acOf Tryd.f14) := SubOK_of _ (by
  have e : subs (acOf Tryd.f14) = [] := by kernel_rfl
  rw [e]; intro p hp; cases hp)
theorem cert_circalaw31_run (n : Nat) (a0 : Int) (a1 : Int) : run Tryd.prog (Es_circalaw31_run n) (Ls_circalaw31_run n) Tryd.f14.ntmps (acOf Tryd.f14) ⟨argsT [.i .i64 a0, .i .i64 a1] 0, [], 0, 0, 0, 0⟩ (finK Tryd.prog Tryd.f14.results.toList (retX unr_circalaw31_run)) = circalaw31_run n a0 a1 := by kernel_rfl
theorem pure_circalaw31_run (n : Nat) : ∀ a r, circalaw31_run n a.1 a.2 = some r → PureOK Tryd.prog 14 (arg_circalaw31_run a) (enc_circalaw31_run r) := fun a r h => pureX_ok unr_ok_circalaw31_run (Es_ok_circalaw31_run n) Tryd.func14 rfl (acOf_code _) (subs_circalaw31_run n) rfl ((cert_circalaw31_run n a.1 a.2).trans h)
theorem ok_circalaw31_run (n : Nat) : EntOK Tryd.prog (e_circalaw31_run n) := pureE_ok Tryd.call14 una_ok_circalaw31_run (fun _ => rfl) (pure_circalaw31_run n)

/-! circa/circalaw31.is -/
noncomputable def arg_circalaw31_is (a : Int × Int × Int × Int × Int × Int × Int × Int × Int) : List V := [.ag [.i .i8 a.1, .i .i64 a.2.1, .i .i8 a.2.2.1, .i .i64 a.2.2.2.1], .ag [.i .i8 a.2.2.2.2.1, .i .i64 a.2.2.2.2.2.1, .i .i8 a.2.2.2.2.2.2.1, .i .i64 a.2.2.2.2.2.2.2.1], .i .u8 a.2.2.2.2.2.2.2.2]
noncomputable def una_circalaw31_is (l : List V) : Option (Int × Int × Int × Int × Int × Int × Int × Int × Int) := match l with
  | [.ag [.i .i8 a0, .i .i64 a1, .i .i8 a2, .i .i64 a3], .ag [.i .i8 a4, .i .i64 a5, .i .i8 a6, .i .i64 a7], .i .u8 a8] => some (a0, a1, a2, a3, a4, a5, a6, a7, a8)
  | _ => none
theorem una_ok_circalaw31_is : ∀ l a, una_circalaw31_is l = some a → l = arg_circalaw31_is a := by
  intro l a h
  unfold una_circalaw31_is at h
  split at h
  · cases h; rfl
  · cases h
noncomputable def enc_circalaw31_is (r : Int) : V := .i .i64 r
noncomputable def unr_circalaw31_is (v : V) : Option (Int) := match v with
  | .i .i64 r0 => some r0
  | _ => none
theorem unr_ok_circalaw31_is : ∀ v r, unr_circalaw31_is v = some r → v = enc_circalaw31_is r := by
  intro v r h
  unfold unr_circalaw31_is at h
  split at h
  · cases h; rfl
  · cases h
noncomputable def e_circalaw31_is (n : Nat) : Ent := pureE 32 una_circalaw31_is (fun a => circalaw31_is n a.1 a.2.1 a.2.2.1 a.2.2.2.1 a.2.2.2.2.1 a.2.2.2.2.2.1 a.2.2.2.2.2.2.1 a.2.2.2.2.2.2.2.1 a.2.2.2.2.2.2.2.2) enc_circalaw31_is
noncomputable def t_circalaw31_is (l : List V) (_ : List (Nat × Blk)) : Bool := isS (una_circalaw31_is l)
noncomputable def Es_circalaw31_is (n : Nat) : List Ent := [e_relations_Of n]
theorem Es_ok_circalaw31_is (n : Nat) : ∀ x ∈ Es_circalaw31_is n, EntOK Tryd.prog x := by
  intro x hx
  simp only [Es_circalaw31_is, List.mem_cons, List.not_mem_nil, or_false] at hx
  · rw [hx]; exact ok_relations_Of n
noncomputable def Ls_circalaw31_is (_n : Nat) : List Sub := []
theorem subs_circalaw31_is (n : Nat) : SubOK Tryd.prog 22 (Ls_circalaw31_is n) (acOf Tryd.f32) := SubOK_of _ (by
  have e : subs (acOf Tryd.f32) = [] := by kernel_rfl
  rw [e]; intro p hp; cases hp)
theorem cert_circalaw31_is (n : Nat) (a0 : Int) (a1 : Int) (a2 : Int) (a3 : Int) (a4 : Int) (a5 : Int) (a6 : Int) (a7 : Int) (a8 : Int) : run Tryd.prog (Es_circalaw31_is n) (Ls_circalaw31_is n) Tryd.f32.ntmps (acOf Tryd.f32) ⟨argsT [.ag [.i .i8 a0, .i .i64 a1, .i .i8 a2, .i .i64 a3], .ag [.i .i8 a4, .i .i64 a5, .i .i8 a6, .i .i64 a7], .i .u8 a8] 0, [], 0, 0, 0, 0⟩ (finK Tryd.prog Tryd.f32.results.toList (retX unr_circalaw31_is)) = circalaw31_is n a0 a1 a2 a3 a4 a5 a6 a7 a8 := by kernel_rfl
theorem pure_circalaw31_is (n : Nat) : ∀ a r, circalaw31_is n a.1 a.2.1 a.2.2.1 a.2.2.2.1 a.2.2.2.2.1 a.2.2.2.2.2.1 a.2.2.2.2.2.2.1 a.2.2.2.2.2.2.2.1 a.2.2.2.2.2.2.2.2 = some r → PureOK Tryd.prog 32 (arg_circalaw31_is a) (enc_circalaw31_is r) := fun a r h => pureX_ok unr_ok_circalaw31_is (Es_ok_circalaw31_is n) Tryd.func32 rfl (acOf_code _) (subs_circalaw31_is n) rfl ((cert_circalaw31_is n a.1 a.2.1 a.2.2.1 a.2.2.2.1 a.2.2.2.2.1 a.2.2.2.2.2.1 a.2.2.2.2.2.2.1 a.2.2.2.2.2.2.2.1 a.2.2.2.2.2.2.2.2).trans h)
theorem ok_circalaw31_is (n : Nat) : EntOK Tryd.prog (e_circalaw31_is n) := pureE_ok Tryd.call32 una_ok_circalaw31_is (fun _ => rfl) (pure_circalaw31_is n)

/-! circa/relations.valid -/
noncomputable def arg_relations_valid (a : Int) : List V := [.i .u8 a]
noncomputable def una_relations_valid (l : List V) : Option (Int) := match l with
  | [.i .u8 a0] => some a0
  | _ => none
theorem una_ok_relations_valid : ∀ l a, una_relations_valid l = some a → l = arg_relations_valid a := by
  intro l a h
  unfold una_relations_valid at h
  split at h
  · cases h; rfl
  · cases h
noncomputable def enc_relations_valid (r : Bool) : V := .b r
noncomputable def unr_relations_valid (v : V) : Option (Bool) := match v with
  | .b r0 => some r0
  | _ => none
theorem unr_ok_relations_valid : ∀ v r, unr_relations_valid v = some r → v = enc_relations_valid r := by
  intro v r h
  unfold unr_relations_valid at h
  split at h
  · cases h; rfl
  · cases h
noncomputable def e_relations_valid (n : Nat) : Ent := pureE 37 una_relations_valid (fun a => relations_valid n a) enc_relations_valid
noncomputable def t_relations_valid (l : List V) (_ : List (Nat × Blk)) : Bool := isS (una_relations_valid l)
noncomputable def Es_relations_valid (_n : Nat) : List Ent := []
theorem Es_ok_relations_valid (n : Nat) : ∀ x ∈ Es_relations_valid n, EntOK Tryd.prog x := by
  intro x hx
  simp [Es_relations_valid] at hx
noncomputable def Ls_relations_valid (_n : Nat) : List Sub := []
theorem subs_relations_valid (n : Nat) : SubOK Tryd.prog 9 (Ls_relations_valid n) (acOf Tryd.f37) := SubOK_of _ (by
  have e : subs (acOf Tryd.f37) = [] := by kernel_rfl
  rw [e]; intro p hp; cases hp)
theorem cert_relations_valid (n : Nat) (a0 : Int) : run Tryd.prog (Es_relations_valid n) (Ls_relations_valid n) Tryd.f37.ntmps (acOf Tryd.f37) ⟨argsT [.i .u8 a0] 0, [], 0, 0, 0, 0⟩ (finK Tryd.prog Tryd.f37.results.toList (retX unr_relations_valid)) = relations_valid n a0 := by kernel_rfl
theorem pure_relations_valid (n : Nat) : ∀ a r, relations_valid n a = some r → PureOK Tryd.prog 37 (arg_relations_valid a) (enc_relations_valid r) := fun a r h => pureX_ok unr_ok_relations_valid (Es_ok_relations_valid n) Tryd.func37 rfl (acOf_code _) (subs_relations_valid n) rfl ((cert_relations_valid n a).trans h)
theorem ok_relations_valid (n : Nat) : EntOK Tryd.prog (e_relations_valid n) := pureE_ok Tryd.call37 una_ok_relations_valid (fun _ => rfl) (pure_relations_valid n)

/-! circa/relations.day -/
noncomputable def arg_relations_day (a : Int) : List V := [.i .i64 a]
noncomputable def una_relations_day (l : List V) : Option (Int) := match l with
  | [.i .i64 a0] => some a0
  | _ => none
theorem una_ok_relations_day : ∀ l a, una_relations_day l = some a → l = arg_relations_day a := by
  intro l a h
  unfold una_relations_day at h
  split at h
  · cases h; rfl
  · cases h
noncomputable def enc_relations_day (r : Int × Int) : V := .ag [.i .i8 r.1, .i .i64 r.2]
noncomputable def unr_relations_day (v : V) : Option (Int × Int) := match v with
  | .ag [.i .i8 r0, .i .i64 r1] => some (r0, r1)
  | _ => none
theorem unr_ok_relations_day : ∀ v r, unr_relations_day v = some r → v = enc_relations_day r := by
  intro v r h
  unfold unr_relations_day at h
  split at h
  · cases h; rfl
  · cases h
noncomputable def e_relations_day (n : Nat) : Ent := pureE 51 una_relations_day (fun a => relations_day n a) enc_relations_day
noncomputable def t_relations_day (l : List V) (_ : List (Nat × Blk)) : Bool := isS (una_relations_day l)
noncomputable def Es_relations_day (_n : Nat) : List Ent := []
theorem Es_ok_relations_day (n : Nat) : ∀ x ∈ Es_relations_day n, EntOK Tryd.prog x := by
  intro x hx
  simp [Es_relations_day] at hx
noncomputable def Ls_relations_day (_n : Nat) : List Sub := []
theorem subs_relations_day (n : Nat) : SubOK Tryd.prog 5 (Ls_relations_day n) (acOf Tryd.f51) := SubOK_of _ (by
  have e : subs (acOf Tryd.f51) = [] := by kernel_rfl
  rw [e]; intro p hp; cases hp)
theorem cert_relations_day (n : Nat) (a0 : Int) : run Tryd.prog (Es_relations_day n) (Ls_relations_day n) Tryd.f51.ntmps (acOf Tryd.f51) ⟨argsT [.i .i64 a0] 0, [], 0, 0, 0, 0⟩ (finK Tryd.prog Tryd.f51.results.toList (retX unr_relations_day)) = relations_day n a0 := by kernel_rfl
theorem pure_relations_day (n : Nat) : ∀ a r, relations_day n a = some r → PureOK Tryd.prog 51 (arg_relations_day a) (enc_relations_day r) := fun a r h => pureX_ok unr_ok_relations_day (Es_ok_relations_day n) Tryd.func51 rfl (acOf_code _) (subs_relations_day n) rfl ((cert_relations_day n a).trans h)
theorem ok_relations_day (n : Nat) : EntOK Tryd.prog (e_relations_day n) := pureE_ok Tryd.call51 una_ok_relations_day (fun _ => rfl) (pure_relations_day n)

/-! circa/relations.compose$2 -/
noncomputable def arg_relations_compose_2 (a : Int × Int × Int × Int × Int × Int × Int × Int × Int) : List V := [.ag [.i .i8 a.1, .i .i64 a.2.1, .i .i8 a.2.2.1, .i .i64 a.2.2.2.1], .p 0 0, .p 1 0]
noncomputable def H0_relations_compose_2 (a : Int × Int × Int × Int × Int × Int × Int × Int × Int) : List (Nat × Blk) := [(0, .cells [.i .i8 a.2.2.2.2.1, .i .i64 a.2.2.2.2.2.1, .i .i8 a.2.2.2.2.2.2.1, .i .i64 a.2.2.2.2.2.2.2.1]), (1, .cells [.i .u8 a.2.2.2.2.2.2.2.2])]
noncomputable def una_relations_compose_2 (l : List V) (H : List (Nat × Blk)) : Option ((Int × Int × Int × Int × Int × Int × Int × Int × Int) × List Nat) := match l with
  | [.ag [.i .i8 a0, .i .i64 a1, .i .i8 a2, .i .i64 a3], .p b0 0, .p b1 0] => (match Abs.look H b0 with
    | some (.cells [.i .i8 a4, .i .i64 a5, .i .i8 a6, .i .i64 a7]) => (match Abs.look H b1 with
    | some (.cells [.i .u8 a8]) => (cond (Abs.distinct [b0, b1] && true) (some ((a0, a1, a2, a3, a4, a5, a6, a7, a8), [b0, b1])) none)
    | _ => none)
    | _ => none)
  | _ => none
theorem una_ok_relations_compose_2 : ∀ l H a ρ, una_relations_compose_2 l H = some (a, ρ) → ρ.length = 2 ∧ ρ.Nodup ∧ l = V.rens ρ (arg_relations_compose_2 a) ∧ ∀ b blk, Abs.look (H0_relations_compose_2 a) b = some blk → Abs.look H (getN ρ b) = some (blk.ren ρ) := by
  intro l H a ρ h
  unfold una_relations_compose_2 at h
  split at h
  · split at h
    · rename_i e0
      split at h
      · rename_i e1
        obtain ⟨hd, h⟩ := cond_some h
        simp only [Bool.and_eq_true] at hd
        obtain ⟨hd, _⟩ := hd
        cases h
        exact ⟨rfl, distinct_ok hd, rfl, eachH_look ⟨e0, e1, trivial⟩⟩
      · cases h
    · cases h
  · cases h
noncomputable def out_relations_compose_2 (r : Bool) : FOut := (⟨false, .b r, [], []⟩ : FOut)
noncomputable def outK_relations_compose_2 (α : Type) (r : Bool) (k : FOut → Option α) : Option α := (k ⟨false, .b r, [], []⟩)
theorem outK_ok_relations_compose_2 : ∀ α r k, outK_relations_compose_2 α r k = k (out_relations_compose_2 r) := by
  intro α r k
  rfl
noncomputable def unr_relations_compose_2 (pan : Bool) (v : V) (H : List (Nat × Blk)) (nw : List Nat) : Option (Bool) := match pan, v, H, nw with
  | false, .b r0, [], [] => some r0
  | _, _, _, _ => none
theorem unr_ok_relations_compose_2 : ∀ pan v H nw r, unr_relations_compose_2 pan v H nw = some r → (out_relations_compose_2 r).pan = pan ∧ (out_relations_compose_2 r).news = nw ∧ v = V.ren (upTo 0 2 ++ (out_relations_compose_2 r).news) (out_relations_compose_2 r).val ∧ H = renH (upTo 0 2 ++ (out_relations_compose_2 r).news) (out_relations_compose_2 r).H := by
  intro pan v H nw r h
  unfold unr_relations_compose_2 at h
  split at h
  · cases h; exact ⟨rfl, rfl, rfl, rfl⟩
  · cases h
theorem hv_relations_compose_2 : ∀ r, V.lt (2 + (out_relations_compose_2 r).news.length) (out_relations_compose_2 r).val = true := fun r => (by rfl)
theorem hc_relations_compose_2 : ∀ r, chkH (2 + (out_relations_compose_2 r).news.length) (out_relations_compose_2 r).H = true := fun r => (by rfl)
theorem hk_relations_compose_2 : ∀ r, hasKeys (out_relations_compose_2 r).H 2 (0 + (out_relations_compose_2 r).news.length) = true := fun r => (by rfl)
noncomputable def e_relations_compose_2 (n : Nat) : Ent := funE 53 2 una_relations_compose_2 (fun a => relations_compose_2 n a.1 a.2.1 a.2.2.1 a.2.2.2.1 a.2.2.2.2.1 a.2.2.2.2.2.1 a.2.2.2.2.2.2.1 a.2.2.2.2.2.2.2.1 a.2.2.2.2.2.2.2.2) outK_relations_compose_2
noncomputable def t_relations_compose_2 (l : List V) (H : List (Nat × Blk)) : Bool := isS (una_relations_compose_2 l H)
noncomputable def Es_relations_compose_2 (n : Nat) : List Ent := [e_relations_of n]
theorem Es_ok_relations_compose_2 (n : Nat) : ∀ x ∈ Es_relations_compose_2 n, EntOK Tryd.prog x := by
  intro x hx
  simp only [Es_relations_compose_2, List.mem_cons, List.not_mem_nil, or_false] at hx
  · rw [hx]; exact ok_relations_of n
noncomputable def Ls_relations_compose_2 (_n : Nat) : List Sub := []
theorem subs_relations_compose_2 (n : Nat) : SubOK Tryd.prog 10 (Ls_relations_compose_2 n) (acOf Tryd.f53) := SubOK_of _ (by
  have e : subs (acOf Tryd.f53) = [] := by kernel_rfl
  rw [e]; intro p hp; cases hp)
theorem cert_relations_compose_2 (n : Nat) (a0 : Int) (a1 : Int) (a2 : Int) (a3 : Int) (a4 : Int) (a5 : Int) (a6 : Int) (a7 : Int) (a8 : Int) : run Tryd.prog (Es_relations_compose_2 n) (Ls_relations_compose_2 n) Tryd.f53.ntmps (acOf Tryd.f53) ⟨argsT [.ag [.i .i8 a0, .i .i64 a1, .i .i8 a2, .i .i64 a3], .p 0 0, .p 1 0] 0, [(0, .cells [.i .i8 a4, .i .i64 a5, .i .i8 a6, .i .i64 a7]), (1, .cells [.i .u8 a8])], 2, 2, 2, 2⟩ (finK Tryd.prog Tryd.f53.results.toList (funX [] 2 2 2 unr_relations_compose_2)) = relations_compose_2 n a0 a1 a2 a3 a4 a5 a6 a7 a8 := by kernel_rfl
theorem fun_relations_compose_2 (n : Nat) : ∀ a r, relations_compose_2 n a.1 a.2.1 a.2.2.1 a.2.2.2.1 a.2.2.2.2.1 a.2.2.2.2.2.1 a.2.2.2.2.2.2.1 a.2.2.2.2.2.2.2.1 a.2.2.2.2.2.2.2.2 = some r → FunOK Tryd.prog 53 (arg_relations_compose_2 a) (H0_relations_compose_2 a) 2 2 2 (out_relations_compose_2 r) := fun a r h => funX_ok (ws := []) unr_ok_relations_compose_2 hv_relations_compose_2 (fun r b blk hl => (chkH_look (hc_relations_compose_2 r) b blk hl).2) (fun r => chkH_keys (hc_relations_compose_2 r)) (by decide) (Es_ok_relations_compose_2 n) Tryd.func53 rfl (acOf_code _) (subs_relations_compose_2 n) rfl rfl ((cert_relations_compose_2 n a.1 a.2.1 a.2.2.1 a.2.2.2.1 a.2.2.2.2.1 a.2.2.2.2.2.1 a.2.2.2.2.2.2.1 a.2.2.2.2.2.2.2.1 a.2.2.2.2.2.2.2.2).trans h)
theorem ok_relations_compose_2 (n : Nat) : EntOK Tryd.prog (e_relations_compose_2 n) := funE_ok (m := 2) (ro := 2) (rb := 2) (out := out_relations_compose_2) (arg := arg_relations_compose_2) (H0 := H0_relations_compose_2) Tryd.call53 (by decide) (by decide) outK_ok_relations_compose_2 una_ok_relations_compose_2 (fun _ => rfl) (fun a => chkH_look (m := 2) (H := H0_relations_compose_2 a) rfl) (fun _ => rfl) (fun r => chkH_keys (hc_relations_compose_2 r)) (fun r b blk h => (chkH_look (hc_relations_compose_2 r) b blk h).2) (fun r b h1 h2 => hasKeys_ok (hk_relations_compose_2 r) b h1 (by omega)) hv_relations_compose_2 (fun_relations_compose_2 n)

/-! circa/relations.compose$1 -/
noncomputable def arg_relations_compose_1 (a : Int × Int × Int × Int × Int) : List V := [.fn 53 [.p 0 0, .p 1 0]]
noncomputable def H0_relations_compose_1 (a : Int × Int × Int × Int × Int) : List (Nat × Blk) := [(0, .cells [.i .i8 a.1, .i .i64 a.2.1, .i .i8 a.2.2.1, .i .i64 a.2.2.2.1]), (1, .cells [.i .u8 a.2.2.2.2])]
noncomputable def una_relations_compose_1 (l : List V) (H : List (Nat × Blk)) : Option ((Int × Int × Int × Int × Int) × List Nat) := match l with
  | [.fn 53 [.p b0 0, .p b1 0]] => (match Abs.look H b0 with
    | some (.cells [.i .i8 a0, .i .i64 a1, .i .i8 a2, .i .i64 a3]) => (match Abs.look H b1 with
    | some (.cells [.i .u8 a4]) => (cond (Abs.distinct [b0, b1] && true) (some ((a0, a1, a2, a3, a4), [b0, b1])) none)
    | _ => none)
    | _ => none)
  | _ => none
theorem una_ok_relations_compose_1 : ∀ l H a ρ, una_relations_compose_1 l H = some (a, ρ) → ρ.length = 2 ∧ ρ.Nodup ∧ l = V.rens ρ (arg_relations_compose_1 a) ∧ ∀ b blk, Abs.look (H0_relations_compose_1 a) b = some blk → Abs.look H (getN ρ b) = some (blk.ren ρ) := by
  intro l H a ρ h
  unfold una_relations_compose_1 at h
  split at h
  · split at h
    · rename_i e0
      split at h
      · rename_i e1
        obtain ⟨hd, h⟩ := cond_some h
        simp only [Bool.and_eq_true] at hd
        obtain ⟨hd, _⟩ := hd
        cases h
        exact ⟨rfl, distinct_ok hd, rfl, eachH_look ⟨e0, e1, trivial⟩⟩
      · cases h
    · cases h
  · cases h
noncomputable def out_relations_compose_1 (r : (List (Int × Int × Int × Int))) : FOut := (⟨false, .ws 2, [(2, .rows [.i .i8, .i .i64, .i .i8, .i .i64] r)], [2]⟩ : FOut)
noncomputable def outK_relations_compose_1 (α : Type) (r : (List (Int × Int × Int × Int))) (k : FOut → Option α) : Option α := (k ⟨false, .ws 2, [(2, .rows [.i .i8, .i .i64, .i .i8, .i .i64] r)], [2]⟩)
theorem outK_ok_relations_compose_1 : ∀ α r k, outK_relations_compose_1 α r k = k (out_relations_compose_1 r) := by
  intro α r k
  rfl
noncomputable def unr_relations_compose_1 (pan : Bool) (v : V) (H : List (Nat × Blk)) (nw : List Nat) : Option ((List (Int × Int × Int × Int))) := match pan, v, H, nw with
  | false, .ws 2, [(2, .rows [.i .i8, .i .i64, .i .i8, .i .i64] r0)], [2] => some r0
  | _, _, _, _ => none
theorem unr_ok_relations_compose_1 : ∀ pan v H nw r, unr_relations_compose_1 pan v H nw = some r → (out_relations_compose_1 r).pan = pan ∧ (out_relations_compose_1 r).news = nw ∧ v = V.ren (upTo 0 2 ++ (out_relations_compose_1 r).news) (out_relations_compose_1 r).val ∧ H = renH (upTo 0 2 ++ (out_relations_compose_1 r).news) (out_relations_compose_1 r).H := by
  intro pan v H nw r h
  unfold unr_relations_compose_1 at h
  split at h
  · cases h; exact ⟨rfl, rfl, rfl, rfl⟩
  · cases h
theorem hv_relations_compose_1 : ∀ r, V.lt (2 + (out_relations_compose_1 r).news.length) (out_relations_compose_1 r).val = true := fun r => (by rfl)
theorem hc_relations_compose_1 : ∀ r, chkH (2 + (out_relations_compose_1 r).news.length) (out_relations_compose_1 r).H = true := fun r => (by rfl)
theorem hk_relations_compose_1 : ∀ r, hasKeys (out_relations_compose_1 r).H 2 (0 + (out_relations_compose_1 r).news.length) = true := fun r => (by rfl)
noncomputable def e_relations_compose_1 (n : Nat) : Ent := funE 52 2 una_relations_compose_1 (fun a => relations_compose_1 n a.1 a.2.1 a.2.2.1 a.2.2.2.1 a.2.2.2.2) outK_relations_compose_1
noncomputable def t_relations_compose_1 (l : List V) (H : List (Nat × Blk)) : Bool := isS (una_relations_compose_1 l H)
noncomputable def Es_relations_compose_1 (n : Nat) : List Ent := [e_relations_day n, e_relations_compose_2 n]
theorem Es_ok_relations_compose_1 (n : Nat) : ∀ x ∈ Es_relations_compose_1 n, EntOK Tryd.prog x := by
  intro x hx
  simp only [Es_relations_compose_1, List.mem_cons, List.not_mem_nil, or_false] at hx
  rcases hx with hx | hx
  · rw [hx]; exact ok_relations_day n
  · rw [hx]; exact ok_relations_compose_2 n
noncomputable def an_relations_compose_1_l1 : Ann := ⟨[0, 2, 3, 4, 6], [0, 1, 2], 3, []⟩
noncomputable def emb_relations_compose_1_l1 (x : Int × Int × Int × Int × Int × Int × Int × Int × List (Int × Int × Int × Int)) : St := ⟨[(0, some (.fn 53 [.p 0 0, .p 1 0])), (2, some (.ws 2)), (3, some (.i .i64 x.1)), (4, some (.i .i64 x.2.1)), (6, some (.i .i64 x.2.2.1))], [(0, .cells [.i .i8 x.2.2.2.1, .i .i64 x.2.2.2.2.1, .i .i8 x.2.2.2.2.2.1, .i .i64 x.2.2.2.2.2.2.1]), (1, .cells [.i .u8 x.2.2.2.2.2.2.2.1]), (2, .rows [.i .i8, .i .i64, .i .i8, .i .i64] x.2.2.2.2.2.2.2.2)], 3, 2, 2, 2⟩
noncomputable def un_relations_compose_1_l1 (s : St) : Option (Int × Int × Int × Int × Int × Int × Int × Int × List (Int × Int × Int × Int)) := match s with
  | ⟨[(0, some (.fn 53 [.p 0 0, .p 1 0])), (2, some (.ws 2)), (3, some (.i .i64 x0)), (4, some (.i .i64 x1)), (6, some (.i .i64 x2))], [(0, .cells [.i .i8 x3, .i .i64 x4, .i .i8 x5, .i .i64 x6]), (1, .cells [.i .u8 x7]), (2, .rows [.i .i8, .i .i64, .i .i8, .i .i64] x8)], 3, 2, 2, 2⟩ => some (x0, x1, x2, x3, x4, x5, x6, x7, x8)
  | _ => none
theorem un_ok_relations_compose_1_l1 : ∀ s x, un_relations_compose_1_l1 s = some x → s = emb_relations_compose_1_l1 x := by
  intro s x h
  unfold un_relations_compose_1_l1 at h
  split at h
  · cases h; rfl
  · cases h
noncomputable def ax_relations_compose_1_l1 : Ex → Ann := fun ex => match ex with
  | .exit 2 => ⟨[0, 2, 6], [0, 1, 2], 3, []⟩
  | _ => ⟨[], [], 0, []⟩
noncomputable def out_relations_compose_1_l1 (y : (Int × Int × Int × Int × Int × Int × List (Int × Int × Int × Int))) : Ex × St := (.exit 2, ⟨[(0, some (.fn 53 [.p 0 0, .p 1 0])), (2, some (.ws 2)), (6, some (.i .i64 y.1))], [(0, .cells [.i .i8 y.2.1, .i .i64 y.2.2.1, .i .i8 y.2.2.2.1, .i .i64 y.2.2.2.2.1]), (1, .cells [.i .u8 y.2.2.2.2.2.1]), (2, .rows [.i .i8, .i .i64, .i .i8, .i .i64] y.2.2.2.2.2.2)], 3, 2, 2, 2⟩)
noncomputable def outK_relations_compose_1_l1 (α : Type) (y : (Int × Int × Int × Int × Int × Int × List (Int × Int × Int × Int))) (k : Ex → St → Option α) : Option α := (k (.exit 2) ⟨[(0, some (.fn 53 [.p 0 0, .p 1 0])), (2, some (.ws 2)), (6, some (.i .i64 y.1))], [(0, .cells [.i .i8 y.2.1, .i .i64 y.2.2.1, .i .i8 y.2.2.2.1, .i .i64 y.2.2.2.2.1]), (1, .cells [.i .u8 y.2.2.2.2.2.1]), (2, .rows [.i .i8, .i .i64, .i .i8, .i .i64] y.2.2.2.2.2.2)], 3, 2, 2, 2⟩)
theorem outK_ok_relations_compose_1_l1 : ∀ α y k, outK_relations_compose_1_l1 α y k = k (out_relations_compose_1_l1 y).1 (out_relations_compose_1_l1 y).2 := by
  intro α y k
  rfl
noncomputable def ux_relations_compose_1_l1 (ex : Ex) (s : St) : Option ((Int × Int × Int × Int × Int × Int × List (Int × Int × Int × Int))) := match ex, s with
  | .exit 2, ⟨[(0, some (.fn 53 [.p 0 0, .p 1 0])), (2, some (.ws 2)), (6, some (.i .i64 y0))], [(0, .cells [.i .i8 y1, .i .i64 y2, .i .i8 y3, .i .i64 y4]), (1, .cells [.i .u8 y5]), (2, .rows [.i .i8, .i .i64, .i .i8, .i .i64] y6)], 3, 2, 2, 2⟩ => some (y0, y1, y2, y3, y4, y5, y6)
  | _, _ => none
theorem ux_ok_relations_compose_1_l1 : ∀ ex s y, ux_relations_compose_1_l1 ex s = some y → (ex, s) = out_relations_compose_1_l1 y := by
  intro ex s y h
  unfold ux_relations_compose_1_l1 at h
  split at h
  · cases h; rfl
  · cases h
noncomputable def an_relations_compose_1_l0 : Ann := ⟨[0, 2, 6], [0, 1, 2], 3, [.nilT 2 2 [.i .i8, .i .i64, .i .i8, .i .i64]]⟩
noncomputable def emb_relations_compose_1_l0 (x : Int × Int × Int × Int × Int × Int × List (Int × Int × Int × Int)) : St := ⟨[(0, some (.fn 53 [.p 0 0, .p 1 0])), (2, some (.ws 2)), (6, some (.i .i64 x.1))], [(0, .cells [.i .i8 x.2.1, .i .i64 x.2.2.1, .i .i8 x.2.2.2.1, .i .i64 x.2.2.2.2.1]), (1, .cells [.i .u8 x.2.2.2.2.2.1]), (2, .rows [.i .i8, .i .i64, .i .i8, .i .i64] x.2.2.2.2.2.2)], 3, 2, 2, 2⟩
noncomputable def un_relations_compose_1_l0 (s : St) : Option (Int × Int × Int × Int × Int × Int × List (Int × Int × Int × Int)) := match s with
  | ⟨[(0, some (.fn 53 [.p 0 0, .p 1 0])), (2, some (.ws 2)), (6, some (.i .i64 x0))], [(0, .cells [.i .i8 x1, .i .i64 x2, .i .i8 x3, .i .i64 x4]), (1, .cells [.i .u8 x5]), (2, .rows [.i .i8, .i .i64, .i .i8, .i .i64] x6)], 3, 2, 2, 2⟩ => some (x0, x1, x2, x3, x4, x5, x6)
  | _ => none
theorem un_ok_relations_compose_1_l0 : ∀ s x, un_relations_compose_1_l0 s = some x → s = emb_relations_compose_1_l0 x := by
  intro s x h
  unfold un_relations_compose_1_l0 at h
  split at h
  · cases h; rfl
  · cases h
noncomputable def ax_relations_compose_1_l0 : Ex → Ann := fun ex => match ex with
  | .exit 0 => ⟨[2], [2], 3, []⟩
  | _ => ⟨[], [], 0, []⟩
noncomputable def out_relations_compose_1_l0 (y : (List (Int × Int × Int × Int))) : Ex × St := (.exit 0, ⟨[(2, some (.ws 2))], [(2, .rows [.i .i8, .i .i64, .i .i8, .i .i64] y)], 3, 2, 2, 2⟩)
noncomputable def outK_relations_compose_1_l0 (α : Type) (y : (List (Int × Int × Int × Int))) (k : Ex → St → Option α) : Option α := (k (.exit 0) ⟨[(2, some (.ws 2))], [(2, .rows [.i .i8, .i .i64, .i .i8, .i .i64] y)], 3, 2, 2, 2⟩)
theorem outK_ok_relations_compose_1_l0 : ∀ α y k, outK_relations_compose_1_l0 α y k = k (out_relations_compose_1_l0 y).1 (out_relations_compose_1_l0 y).2 := by
  intro α y k
  rfl
noncomputable def ux_relations_compose_1_l0 (ex : Ex) (s : St) : Option ((List (Int × Int × Int × Int))) := match ex, s with
  | .exit 0, ⟨[(2, some (.ws 2))], [(2, .rows [.i .i8, .i .i64, .i .i8, .i .i64] y0)], 3, 2, 2, 2⟩ => some y0
  | _, _ => none
theorem ux_ok_relations_compose_1_l0 : ∀ ex s y, ux_relations_compose_1_l0 ex s = some y → (ex, s) = out_relations_compose_1_l0 y := by
  intro ex s y h
  unfold ux_relations_compose_1_l0 at h
  split at h
  · cases h; rfl
  · cases h
noncomputable def Ls_relations_compose_1 (n : Nat) : List Sub := [subE 1 an_relations_compose_1_l1 un_relations_compose_1_l1 (fun x => iterL (relations_compose_1_l1 n) n x) outK_relations_compose_1_l1, subE 0 an_relations_compose_1_l0 un_relations_compose_1_l0 (fun x => iterL (relations_compose_1_l0 n) n x) outK_relations_compose_1_l0]
noncomputable def sac_relations_compose_1_l0 : AC := getS (subs (acOf Tryd.f52)) 0
noncomputable def ac_relations_compose_1_l0 : AC := AC.body sac_relations_compose_1_l0
noncomputable def sac_relations_compose_1_l1 : AC := getS (subs ac_relations_compose_1_l0) 1
noncomputable def ac_relations_compose_1_l1 : AC := AC.body sac_relations_compose_1_l1
theorem subs_relations_compose_1_l1 (n : Nat) : SubOK Tryd.prog 28 (Ls_relations_compose_1 n) ac_relations_compose_1_l1 := SubOK_of _ (by
  have e : subs ac_relations_compose_1_l1 = [] := by kernel_rfl
  rw [e]; intro p hp; cases hp)
theorem body_relations_compose_1_l1 (n : Nat) : ∀ x, run Tryd.prog (Es_relations_compose_1 n) (Ls_relations_compose_1 n) 28 ac_relations_compose_1_l1 (emb_relations_compose_1_l1 x) (roundK an_relations_compose_1_l1 un_relations_compose_1_l1 ax_relations_compose_1_l1 ux_relations_compose_1_l1) = relations_compose_1_l1 n x := fun _ => by kernel_rfl
theorem sub1_relations_compose_1_l1 (n : Nat) : ∀ (α : Type) (s : St) (k : Ex → St → Option α) (z : α), (subE 1 an_relations_compose_1_l1 un_relations_compose_1_l1 (fun x => iterL (relations_compose_1_l1 n) n x) outK_relations_compose_1_l1).e α s k = some z → SemC Tryd.prog 28 (sac_relations_compose_1_l1).code s fun ex s' => k ex s' = some z := by
  intro α s k z h
  have e : sac_relations_compose_1_l1 = .loop ac_relations_compose_1_l1 := by kernel_rfl
  rw [e]
  exact subE_ok (m := 1) (f := fun x => iterL (relations_compose_1_l1 n) n x) (out := out_relations_compose_1_l1) outK_ok_relations_compose_1_l1 un_ok_relations_compose_1_l1 (fun x y hy => loop_ok (Es_ok_relations_compose_1 n) (subs_relations_compose_1_l1 n) un_ok_relations_compose_1_l1 ux_ok_relations_compose_1_l1 (body_relations_compose_1_l1 n) n x y hy) h
theorem sub_relations_compose_1_l1 (n : Nat) : SubSt Tryd.prog 28 (Ls_relations_compose_1 n) 1 sac_relations_compose_1_l1 := fun α s k z => sub1_relations_compose_1_l1 n α s k z
theorem subs_relations_compose_1_l0 (n : Nat) : SubOK Tryd.prog 28 (Ls_relations_compose_1 n) ac_relations_compose_1_l0 := SubOK_of _ (by
  have e : subs ac_relations_compose_1_l0 = [(1, sac_relations_compose_1_l1)] := by kernel_rfl
  rw [e]; intro p hp
  simp only [List.mem_cons, List.not_mem_nil, or_false] at hp
  · rw [hp]; exact sub_relations_compose_1_l1 n
  )
theorem body_relations_compose_1_l0 (n : Nat) : ∀ x, run Tryd.prog (Es_relations_compose_1 n) (Ls_relations_compose_1 n) 28 ac_relations_compose_1_l0 (emb_relations_compose_1_l0 x) (roundK an_relations_compose_1_l0 un_relations_compose_1_l0 ax_relations_compose_1_l0 ux_relations_compose_1_l0) = relations_compose_1_l0 n x := fun _ => by kernel_rfl
theorem sub1_relations_compose_1_l0 (n : Nat) : ∀ (α : Type) (s : St) (k : Ex → St → Option α) (z : α), (subE 0 an_relations_compose_1_l0 un_relations_compose_1_l0 (fun x => iterL (relations_compose_1_l0 n) n x) outK_relations_compose_1_l0).e α s k = some z → SemC Tryd.prog 28 (sac_relations_compose_1_l0).code s fun ex s' => k ex s' = some z := by
  intro α s k z h
  have e : sac_relations_compose_1_l0 = .loop ac_relations_compose_1_l0 := by kernel_rfl
  rw [e]
  exact subE_ok (m := 0) (f := fun x => iterL (relations_compose_1_l0 n) n x) (out := out_relations_compose_1_l0) outK_ok_relations_compose_1_l0 un_ok_relations_compose_1_l0 (fun x y hy => loop_ok (Es_ok_relations_compose_1 n) (subs_relations_compose_1_l0 n) un_ok_relations_compose_1_l0 ux_ok_relations_compose_1_l0 (body_relations_compose_1_l0 n) n x y hy) h
theorem sub_relations_compose_1_l0 (n : Nat) : SubSt Tryd.prog 28 (Ls_relations_compose_1 n) 0 sac_relations_compose_1_l0 := fun α s k z => sub1_relations_compose_1_l0 n α s k z
theorem subs_relations_compose_1 (n : Nat) : SubOK Tryd.prog 28 (Ls_relations_compose_1 n) (acOf Tryd.f52) := SubOK_of _ (by
  have e : subs (acOf Tryd.f52) = [(0, sac_relations_compose_1_l0)] := by kernel_rfl
  rw [e]; intro p hp
  simp only [List.mem_cons, List.not_mem_nil, or_false] at hp
  · rw [hp]; exact sub_relations_compose_1_l0 n
  )
theorem cert_relations_compose_1 (n : Nat) (a0 : Int) (a1 : Int) (a2 : Int) (a3 : Int) (a4 : Int) : run Tryd.prog (Es_relations_compose_1 n) (Ls_relations_compose_1 n) Tryd.f52.ntmps (acOf Tryd.f52) ⟨argsT [.fn 53 [.p 0 0, .p 1 0]] 0, [(0, .cells [.i .i8 a0, .i .i64 a1, .i .i8 a2, .i .i64 a3]), (1, .cells [.i .u8 a4])], 2, 2, 2, 2⟩ (finK Tryd.prog Tryd.f52.results.toList (funX [] 2 2 2 unr_relations_compose_1)) = relations_compose_1 n a0 a1 a2 a3 a4 := by kernel_rfl
theorem fun_relations_compose_1 (n : Nat) : ∀ a r, relations_compose_1 n a.1 a.2.1 a.2.2.1 a.2.2.2.1 a.2.2.2.2 = some r → FunOK Tryd.prog 52 (arg_relations_compose_1 a) (H0_relations_compose_1 a) 2 2 2 (out_relations_compose_1 r) := fun a r h => funX_ok (ws := []) unr_ok_relations_compose_1 hv_relations_compose_1 (fun r b blk hl => (chkH_look (hc_relations_compose_1 r) b blk hl).2) (fun r => chkH_keys (hc_relations_compose_1 r)) (by decide) (Es_ok_relations_compose_1 n) Tryd.func52 rfl (acOf_code _) (subs_relations_compose_1 n) rfl rfl ((cert_relations_compose_1 n a.1 a.2.1 a.2.2.1 a.2.2.2.1 a.2.2.2.2).trans h)
theorem ok_relations_compose_1 (n : Nat) : EntOK Tryd.prog (e_relations_compose_1 n) := funE_ok (m := 2) (ro := 2) (rb := 2) (out := out_relations_compose_1) (arg := arg_relations_compose_1) (H0 := H0_relations_compose_1) Tryd.call52 (by decide) (by decide) outK_ok_relations_compose_1 una_ok_relations_compose_1 (fun _ => rfl) (fun a => chkH_look (m := 2) (H := H0_relations_compose_1 a) rfl) (fun _ => rfl) (fun r => chkH_keys (hc_relations_compose_1 r)) (fun r b blk h => (chkH_look (hc_relations_compose_1 r) b blk h).2) (fun r b h1 h2 => hasKeys_ok (hk_relations_compose_1 r) b h1 (by omega)) hv_relations_compose_1 (fun_relations_compose_1 n)

/-! circa/relations.compose$3 -/
noncomputable def arg_relations_compose_3 (a : Int × Int × Int × Int × Int × Int × Int × Int × Int) : List V := [.ag [.i .i8 a.1, .i .i64 a.2.1, .i .i8 a.2.2.1, .i .i64 a.2.2.2.1], .p 0 0, .p 1 0]
noncomputable def H0_relations_compose_3 (a : Int × Int × Int × Int × Int × Int × Int × Int × Int) : List (Nat × Blk) := [(0, .cells [.i .i8 a.2.2.2.2.1, .i .i64 a.2.2.2.2.2.1, .i .i8 a.2.2.2.2.2.2.1, .i .i64 a.2.2.2.2.2.2.2.1]), (1, .cells [.i .u8 a.2.2.2.2.2.2.2.2])]
noncomputable def una_relations_compose_3 (l : List V) (H : List (Nat × Blk)) : Option ((Int × Int × Int × Int × Int × Int × Int × Int × Int) × List Nat) := match l with
  | [.ag [.i .i8 a0, .i .i64 a1, .i .i8 a2, .i .i64 a3], .p b0 0, .p b1 0] => (match Abs.look H b0 with
    | some (.cells [.i .i8 a4, .i .i64 a5, .i .i8 a6, .i .i64 a7]) => (match Abs.look H b1 with
    | some (.cells [.i .u8 a8]) => (cond (Abs.distinct [b0, b1] && true) (some ((a0, a1, a2, a3, a4, a5, a6, a7, a8), [b0, b1])) none)
    | _ => none)
    | _ => none)
  | _ => none
theorem una_ok_relations_compose_3 : ∀ l H a ρ, una_relations_compose_3 l H = some (a, ρ) → ρ.length = 2 ∧ ρ.Nodup ∧ l = V.rens ρ (arg_relations_compose_3 a) ∧ ∀ b blk, Abs.look (H0_relations_compose_3 a) b = some blk → Abs.look H (getN ρ b) = some (blk.ren ρ) := by
  intro l H a ρ h
  unfold una_relations_compose_3 at h
  split at h
  · split at h
    · rename_i e0
      split at h
      · rename_i e1
        obtain ⟨hd, h⟩ := cond_some h
        simp only [Bool.and_eq_true] at hd
        obtain ⟨hd, _⟩ := hd
        cases h
        exact ⟨rfl, distinct_ok hd, rfl, eachH_look ⟨e0, e1, trivial⟩⟩
      · cases h
    · cases h
  · cases h
noncomputable def out_relations_compose_3 (r : Bool) : FOut := (⟨false, .b r, [], []⟩ : FOut)
noncomputable def outK_relations_compose_3 (α : Type) (r : Bool) (k : FOut → Option α) : Option α := (k ⟨false, .b r, [], []⟩)
theorem outK_ok_relations_compose_3 : ∀ α r k, outK_relations_compose_3 α r k = k (out_relations_compose_3 r) := by
  intro α r k
  rfl
noncomputable def unr_relations_compose_3 (pan : Bool) (v : V) (H : List (Nat × Blk)) (nw : List Nat) : Option (Bool) := match pan, v, H, nw with
  | false, .b r0, [], [] => some r0
  | _, _, _, _ => none
theorem unr_ok_relations_compose_3 : ∀ pan v H nw r, unr_relations_compose_3 pan v H nw = some r → (out_relations_compose_3 r).pan = pan ∧ (out_relations_compose_3 r).news = nw ∧ v = V.ren (upTo 0 2 ++ (out_relations_compose_3 r).news) (out_relations_compose_3 r).val ∧ H = renH (upTo 0 2 ++ (out_relations_compose_3 r).news) (out_relations_compose_3 r).H := by
  intro pan v H nw r h
  unfold unr_relations_compose_3 at h
  split at h
  · cases h; exact ⟨rfl, rfl, rfl, rfl⟩
  · cases h
theorem hv_relations_compose_3 : ∀ r, V.lt (2 + (out_relations_compose_3 r).news.length) (out_relations_compose_3 r).val = true := fun r => (by rfl)
theorem hc_relations_compose_3 : ∀ r, chkH (2 + (out_relations_compose_3 r).news.length) (out_relations_compose_3 r).H = true := fun r => (by rfl)
theorem hk_relations_compose_3 : ∀ r, hasKeys (out_relations_compose_3 r).H 2 (0 + (out_relations_compose_3 r).news.length) = true := fun r => (by rfl)
noncomputable def e_relations_compose_3 (n : Nat) : Ent := funE 54 2 una_relations_compose_3 (fun a => relations_compose_3 n a.1 a.2.1 a.2.2.1 a.2.2.2.1 a.2.2.2.2.1 a.2.2.2.2.2.1 a.2.2.2.2.2.2.1 a.2.2.2.2.2.2.2.1 a.2.2.2.2.2.2.2.2) outK_relations_compose_3
noncomputable def t_relations_compose_3 (l : List V) (H : List (Nat × Blk)) : Bool := isS (una_relations_compose_3 l H)
noncomputable def Es_relations_compose_3 (n : Nat) : List Ent := [e_relations_of n]
theorem Es_ok_relations_compose_3 (n : Nat) : ∀ x ∈ Es_relations_compose_3 n, EntOK Tryd.prog x := by
  intro x hx
  simp only [Es_relations_compose_3, List.mem_cons, List.not_mem_nil, or_false] at hx
  · rw [hx]; exact ok_relations_of n
noncomputable def Ls_relations_compose_3 (_n : Nat) : List Sub := []
theorem subs_relations_compose_3 (n : Nat) : SubOK Tryd.prog 10 (Ls_relations_compose_3 n) (acOf Tryd.f54) := SubOK_of _ (by
  have e : subs (acOf Tryd.f54) = [] := by kernel_rfl
  rw [e]; intro p hp; cases hp)
theorem cert_relations_compose_3 (n : Nat) (a0 : Int) (a1 : Int) (a2 : Int) (a3 : Int) (a4 : Int) (a5 : Int) (a6 : Int) (a7 : Int) (a8 : Int) : run Tryd.prog (Es_relations_compose_3 n) (Ls_relations_compose_3 n) Tryd.f54.ntmps (acOf Tryd.f54) ⟨argsT [.ag [.i .i8 a0, .i .i64 a1, .i .i8 a2, .i .i64 a3], .p 0 0, .p 1 0] 0, [(0, .cells [.i .i8 a4, .i .i64 a5, .i .i8 a6, .i .i64 a7]), (1, .cells [.i .u8 a8])], 2, 2, 2, 2⟩ (finK Tryd.prog Tryd.f54.results.toList (funX [] 2 2 2 unr_relations_compose_3)) = relations_compose_3 n a0 a1 a2 a3 a4 a5 a6 a7 a8 := by kernel_rfl
theorem fun_relations_compose_3 (n : Nat) : ∀ a r, relations_compose_3 n a.1 a.2.1 a.2.2.1 a.2.2.2.1 a.2.2.2.2.1 a.2.2.2.2.2.1 a.2.2.2.2.2.2.1 a.2.2.2.2.2.2.2.1 a.2.2.2.2.2.2.2.2 = some r → FunOK Tryd.prog 54 (arg_relations_compose_3 a) (H0_relations_compose_3 a) 2 2 2 (out_relations_compose_3 r) := fun a r h => funX_ok (ws := []) unr_ok_relations_compose_3 hv_relations_compose_3 (fun r b blk hl => (chkH_look (hc_relations_compose_3 r) b blk hl).2) (fun r => chkH_keys (hc_relations_compose_3 r)) (by decide) (Es_ok_relations_compose_3 n) Tryd.func54 rfl (acOf_code _) (subs_relations_compose_3 n) rfl rfl ((cert_relations_compose_3 n a.1 a.2.1 a.2.2.1 a.2.2.2.1 a.2.2.2.2.1 a.2.2.2.2.2.1 a.2.2.2.2.2.2.1 a.2.2.2.2.2.2.2.1 a.2.2.2.2.2.2.2.2).trans h)
theorem ok_relations_compose_3 (n : Nat) : EntOK Tryd.prog (e_relations_compose_3 n) := funE_ok (m := 2) (ro := 2) (rb := 2) (out := out_relations_compose_3) (arg := arg_relations_compose_3) (H0 := H0_relations_compose_3) Tryd.call54 (by decide) (by decide) outK_ok_relations_compose_3 una_ok_relations_compose_3 (fun _ => rfl) (fun a => chkH_look (m := 2) (H := H0_relations_compose_3 a) rfl) (fun _ => rfl) (fun r => chkH_keys (hc_relations_compose_3 r)) (fun r b blk h => (chkH_look (hc_relations_compose_3 r) b blk h).2) (fun r b h1 h2 => hasKeys_ok (hk_relations_compose_3 r) b h1 (by omega)) hv_relations_compose_3 (fun_relations_compose_3 n)

/-! circa/relations.compose$1 -/
noncomputable def arg_relations_compose_1_v2 (a : Int × Int × Int × Int × Int) : List V := [.fn 54 [.p 0 0, .p 1 0]]
noncomputable def H0_relations_compose_1_v2 (a : Int × Int × Int × Int × Int) : List (Nat × Blk) := [(0, .cells [.i .i8 a.1, .i .i64 a.2.1, .i .i8 a.2.2.1, .i .i64 a.2.2.2.1]), (1, .cells [.i .u8 a.2.2.2.2])]
noncomputable def una_relations_compose_1_v2 (l : List V) (H : List (Nat × Blk)) : Option ((Int × Int × Int × Int × Int) × List Nat) := match l with
  | [.fn 54 [.p b0 0, .p b1 0]] => (match Abs.look H b0 with
    | some (.cells [.i .i8 a0, .i .i64 a1, .i .i8 a2, .i .i64 a3]) => (match Abs.look H b1 with
    | some (.cells [.i .u8 a4]) => (cond (Abs.distinct [b0, b1] && true) (some ((a0, a1, a2, a3, a4), [b0, b1])) none)
    | _ => none)
    | _ => none)
  | _ => none
theorem una_ok_relations_compose_1_v2 : ∀ l H a ρ, una_relations_compose_1_v2 l H = some (a, ρ) → ρ.length = 2 ∧ ρ.Nodup ∧ l = V.rens ρ (arg_relations_compose_1_v2 a) ∧ ∀ b blk, Abs.look (H0_relations_compose_1_v2 a) b = some blk → Abs.look H (getN ρ b) = some (blk.ren ρ) := by
  intro l H a ρ h
  unfold una_relations_compose_1_v2 at h
  split at h
  · split at h
    · rename_i e0
      split at h
      · rename_i e1
        obtain ⟨hd, h⟩ := cond_some h
        simp only [Bool.and_eq_true] at hd
        obtain ⟨hd, _⟩ := hd
        cases h
        exact ⟨rfl, distinct_ok hd, rfl, eachH_look ⟨e0, e1, trivial⟩⟩
      · cases h
    · cases h
  · cases h
noncomputable def out_relations_compose_1_v2 (r : (List (Int × Int × Int × Int))) : FOut := (⟨false, .ws 2, [(2, .rows [.i .i8, .i .i64, .i .i8, .i .i64] r)], [2]⟩ : FOut)
noncomputable def outK_relations_compose_1_v2 (α : Type) (r : (List (Int × Int × Int × Int))) (k : FOut → Option α) : Option α := (k ⟨false, .ws 2, [(2, .rows [.i .i8, .i .i64, .i .i8, .i .i64] r)], [2]⟩)
theorem outK_ok_relations_compose_1_v2 : ∀ α r k, outK_relations_compose_1_v2 α r k = k (out_relations_compose_1_v2 r) := by
  intro α r k
  rfl
noncomputable def unr_relations_compose_1_v2 (pan : Bool) (v : V) (H : List (Nat × Blk)) (nw : List Nat) : Option ((List (Int × Int × Int × Int))) := match pan, v, H, nw with
  | false, .ws 2, [(2, .rows [.i .i8, .i .i64, .i .i8, .i .i64] r0)], [2] => some r0
  | _, _, _, _ => none
theorem unr_ok_relations_compose_1_v2 : ∀ pan v H nw r, unr_relations_compose_1_v2 pan v H nw = some r → (out_relations_compose_1_v2 r).pan = pan ∧ (out_relations_compose_1_v2 r).news = nw ∧ v = V.ren (upTo 0 2 ++ (out_relations_compose_1_v2 r).news) (out_relations_compose_1_v2 r).val ∧ H = renH (upTo 0 2 ++ (out_relations_compose_1_v2 r).news) (out_relations_compose_1_v2 r).H := by
  intro pan v H nw r h
  unfold unr_relations_compose_1_v2 at h
  split at h
  · cases h; exact ⟨rfl, rfl, rfl, rfl⟩
  · cases h
theorem hv_relations_compose_1_v2 : ∀ r, V.lt (2 + (out_relations_compose_1_v2 r).news.length) (out_relations_compose_1_v2 r).val = true := fun r => (by rfl)
theorem hc_relations_compose_1_v2 : ∀ r, chkH (2 + (out_relations_compose_1_v2 r).news.length) (out_relations_compose_1_v2 r).H = true := fun r => (by rfl)
theorem hk_relations_compose_1_v2 : ∀ r, hasKeys (out_relations_compose_1_v2 r).H 2 (0 + (out_relations_compose_1_v2 r).news.length) = true := fun r => (by rfl)
noncomputable def e_relations_compose_1_v2 (n : Nat) : Ent := funE 52 2 una_relations_compose_1_v2 (fun a => relations_compose_1_v2 n a.1 a.2.1 a.2.2.1 a.2.2.2.1 a.2.2.2.2) outK_relations_compose_1_v2
noncomputable def t_relations_compose_1_v2 (l : List V) (H : List (Nat × Blk)) : Bool := isS (una_relations_compose_1_v2 l H)
noncomputable def Es_relations_compose_1_v2 (n : Nat) : List Ent := [e_relations_day n, e_relations_compose_3 n]
theorem Es_ok_relations_compose_1_v2 (n : Nat) : ∀ x ∈ Es_relations_compose_1_v2 n, EntOK Tryd.prog x := by
  intro x hx
  simp only [Es_relations_compose_1_v2, List.mem_cons, List.not_mem_nil, or_false] at hx
  rcases hx with hx | hx
  · rw [hx]; exact ok_relations_day n
  · rw [hx]; exact ok_relations_compose_3 n
noncomputable def an_relations_compose_1_v2_l1 : Ann := ⟨[0, 2, 3, 4, 6], [0, 1, 2], 3, []⟩
noncomputable def emb_relations_compose_1_v2_l1 (x : Int × Int × Int × Int × Int × Int × Int × Int × List (Int × Int × Int × Int)) : St := ⟨[(0, some (.fn 54 [.p 0 0, .p 1 0])), (2, some (.ws 2)), (3, some (.i .i64 x.1)), (4, some (.i .i64 x.2.1)), (6, some (.i .i64 x.2.2.1))], [(0, .cells [.i .i8 x.2.2.2.1, .i .i64 x.2.2.2.2.1, .i .i8 x.2.2.2.2.2.1, .i .i64 x.2.2.2.2.2.2.1]), (1, .cells [.i .u8 x.2.2.2.2.2.2.2.1]), (2, .rows [.i .i8, .i .i64, .i .i8, .i .i64] x.2.2.2.2.2.2.2.2)], 3, 2, 2, 2⟩
noncomputable def un_relations_compose_1_v2_l1 (s : St) : Option (Int × Int × Int × Int × Int × Int × Int × Int × List (Int × Int × Int × Int)) := match s with
  | ⟨[(0, some (.fn 54 [.p 0 0, .p 1 0])), (2, some (.ws 2)), (3, some (.i .i64 x0)), (4, some (.i .i64 x1)), (6, some (.i .i64 x2))], [(0, .cells [.i .i8 x3, .i .i64 x4, .i .i8 x5, .i .i64 x6]), (1, .cells [.i .u8 x7]), (2, .rows [.i .i8, .i .i64, .i .i8, .i .i64] x8)], 3, 2, 2, 2⟩ => some (x0, x1, x2, x3, x4, x5, x6, x7, x8)
  | _ => none
theorem un_ok_relations_compose_1_v2_l1 : ∀ s x, un_relations_compose_1_v2_l1 s = some x → s = emb_relations_compose_1_v2_l1 x := by
  intro s x h
  unfold un_relations_compose_1_v2_l1 at h
  split at h
  · cases h; rfl
  · cases h
noncomputable def ax_relations_compose_1_v2_l1 : Ex → Ann := fun ex => match ex with
  | .exit 2 => ⟨[0, 2, 6], [0, 1, 2], 3, []⟩
  | _ => ⟨[], [], 0, []⟩
noncomputable def out_relations_compose_1_v2_l1 (y : (Int × Int × Int × Int × Int × Int × List (Int × Int × Int × Int))) : Ex × St := (.exit 2, ⟨[(0, some (.fn 54 [.p 0 0, .p 1 0])), (2, some (.ws 2)), (6, some (.i .i64 y.1))], [(0, .cells [.i .i8 y.2.1, .i .i64 y.2.2.1, .i .i8 y.2.2.2.1, .i .i64 y.2.2.2.2.1]), (1, .cells [.i .u8 y.2.2.2.2.2.1]), (2, .rows [.i .i8, .i .i64, .i .i8, .i .i64] y.2.2.2.2.2.2)], 3, 2, 2, 2⟩)
noncomputable def outK_relations_compose_1_v2_l1 (α : Type) (y : (Int × Int × Int × Int × Int × Int × List (Int × Int × Int × Int))) (k : Ex → St → Option α) : Option α := (k (.exit 2) ⟨[(0, some (.fn 54 [.p 0 0, .p 1 0])), (2, some (.ws 2)), (6, some (.i .i64 y.1))], [(0, .cells [.i .i8 y.2.1, .i .i64 y.2.2.1, .i .i8 y.2.2.2.1, .i .i64 y.2.2.2.2.1]), (1, .cells [.i .u8 y.2.2.2.2.2.1]), (2, .rows [.i .i8, .i .i64, .i .i8, .i .i64] y.2.2.2.2.2.2)], 3, 2, 2, 2⟩)
theorem outK_ok_relations_compose_1_v2_l1 : ∀ α y k, outK_relations_compose_1_v2_l1 α y k = k (out_relations_compose_1_v2_l1 y).1 (out_relations_compose_1_v2_l1 y).2 := by
  intro α y k
  rfl
noncomputable def ux_relations_compose_1_v2_l1 (ex : Ex) (s : St) : Option ((Int × Int × Int × Int × Int × Int × List (Int × Int × Int × Int))) := match ex, s with
  | .exit 2, ⟨[(0, some (.fn 54 [.p 0 0, .p 1 0])), (2, some (.ws 2)), (6, some (.i .i64 y0))], [(0, .cells [.i .i8 y1, .i .i64 y2, .i .i8 y3, .i .i64 y4]), (1, .cells [.i .u8 y5]), (2, .rows [.i .i8, .i .i64, .i .i8, .i .i64] y6)], 3, 2, 2, 2⟩ => some (y0, y1, y2, y3, y4, y5, y6)
  | _, _ => none
theorem ux_ok_relations_compose_1_v2_l1 : ∀ ex s y, ux_relations_compose_1_v2_l1 ex s = some y → (ex, s) = out_relations_compose_1_v2_l1 y := by
  intro ex s y h
  unfold ux_relations_compose_1_v2_l1 at h
  split at h
  · cases h; rfl
  · cases h
noncomputable def an_relations_compose_1_v2_l0 : Ann := ⟨[0, 2, 6], [0, 1, 2], 3, [.nilT 2 2 [.i .i8, .i .i64, .i .i8, .i .i64]]⟩
noncomputable def emb_relations_compose_1_v2_l0 (x : Int × Int × Int × Int × Int × Int × List (Int × Int × Int × Int)) : St := ⟨[(0, some (.fn 54 [.p 0 0, .p 1 0])), (2, some (.ws 2)), (6, some (.i .i64 x.1))], [(0, .cells [.i .i8 x.2.1, .i .i64 x.2.2.1, .i .i8 x.2.2.2.1, .i .i64 x.2.2.2.2.1]), (1, .cells [.i .u8 x.2.2.2.2.2.1]), (2, .rows [.i .i8, .i .i64, .i .i8, .i .i64] x.2.2.2.2.2.2)], 3, 2, 2, 2⟩
noncomputable def un_relations_compose_1_v2_l0 (s : St) : Option (Int × Int × Int × Int × Int × Int × List (Int × Int × Int × Int)) := match s with
  | ⟨[(0, some (.fn 54 [.p 0 0, .p 1 0])), (2, some (.ws 2)), (6, some (.i .i64 x0))], [(0, .cells [.i .i8 x1, .i .i64 x2, .i .i8 x3, .i .i64 x4]), (1, .cells [.i .u8 x5]), (2, .rows [.i .i8, .i .i64, .i .i8, .i .i64] x6)], 3, 2, 2, 2⟩ => some (x0, x1, x2, x3, x4, x5, x6)
  | _ => none
theorem un_ok_relations_compose_1_v2_l0 : ∀ s x, un_relations_compose_1_v2_l0 s = some x → s = emb_relations_compose_1_v2_l0 x := by
  intro s x h
  unfold un_relations_compose_1_v2_l0 at h
  split at h
  · cases h; rfl
  · cases h
noncomputable def ax_relations_compose_1_v2_l0 : Ex → Ann := fun ex => match ex with
  | .exit 0 => ⟨[2], [2], 3, []⟩
  | _ => ⟨[], [], 0, []⟩
noncomputable def out_relations_compose_1_v2_l0 (y : (List (Int × Int × Int × Int))) : Ex × St := (.exit 0, ⟨[(2, some (.ws 2))], [(2, .rows [.i .i8, .i .i64, .i .i8, .i .i64] y)], 3, 2, 2, 2⟩)
noncomputable def outK_relations_compose_1_v2_l0 (α : Type) (y : (List (Int × Int × Int × Int))) (k : Ex → St → Option α) : Option α := (k (.exit 0) ⟨[(2, some (.ws 2))], [(2, .rows [.i .i8, .i .i64, .i .i8, .i .i64] y)], 3, 2, 2, 2⟩)
theorem outK_ok_relations_compose_1_v2_l0 : ∀ α y k, outK_relations_compose_1_v2_l0 α y k = k (out_relations_compose_1_v2_l0 y).1 (out_relations_compose_1_v2_l0 y).2 := by
  intro α y k
  rfl
noncomputable def ux_relations_compose_1_v2_l0 (ex : Ex) (s : St) : Option ((List (Int × Int × Int × Int))) := match ex, s with
  | .exit 0, ⟨[(2, some (.ws 2))], [(2, .rows [.i .i8, .i .i64, .i .i8, .i .i64] y0)], 3, 2, 2, 2⟩ => some y0
  | _, _ => none
theorem ux_ok_relations_compose_1_v2_l0 : ∀ ex s y, ux_relations_compose_1_v2_l0 ex s = some y → (ex, s) = out_relations_compose_1_v2_l0 y := by
  intro ex s y h
  unfold ux_relations_compose_1_v2_l0 at h
  split at h
  · cases h; rfl
  · cases h
noncomputable def Ls_relations_compose_1_v2 (n : Nat) : List Sub := [subE 1 an_relations_compose_1_v2_l1 un_relations_compose_1_v2_l1 (fun x => iterL (relations_compose_1_v2_l1 n) n x) outK_relations_compose_1_v2_l1, subE 0 an_relations_compose_1_v2_l0 un_relations_compose_1_v2_l0 (fun x => iterL (relations_compose_1_v2_l0 n) n x) outK_relations_compose_1_v2_l0]
noncomputable def sac_relations_compose_1_v2_l0 : AC := getS (subs (acOf Tryd.f52)) 0
noncomputable def ac_relations_compose_1_v2_l0 : AC := AC.body sac_relations_compose_1_v2_l0
noncomputable def sac_relations_compose_1_v2_l1 : AC := getS (subs ac_relations_compose_1_v2_l0) 1
noncomputable def ac_relations_compose_1_v2_l1 : AC := AC.body sac_relations_compose_1_v2_l1
theorem subs_relations_compose_1_v2_l1 (n : Nat) : SubOK Tryd.prog 28 (Ls_relations_compose_1_v2 n) ac_relations_compose_1_v2_l1 := SubOK_of _ (by
  have e : subs ac_relations_compose_1_v2_l1 = [] := by kernel_rfl
  rw [e]; intro p hp; cases hp)
theorem body_relations_compose_1_v2_l1 (n : Nat) : ∀ x, run Tryd.prog (Es_relations_compose_1_v2 n) (Ls_relations_compose_1_v2 n) 28 ac_relations_compose_1_v2_l1 (emb_relations_compose_1_v2_l1 x) (roundK an_relations_compose_1_v2_l1 un_relations_compose_1_v2_l1 ax_relations_compose_1_v2_l1 ux_relations_compose_1_v2_l1) = relations_compose_1_v2_l1 n x := fun _ => by kernel_rfl
theorem sub1_relations_compose_1_v2_l1 (n : Nat) : ∀ (α : Type) (s : St) (k : Ex → St → Option α) (z : α), (subE 1 an_relations_compose_1_v2_l1 un_relations_compose_1_v2_l1 (fun x => iterL (relations_compose_1_v2_l1 n) n x) outK_relations_compose_1_v2_l1).e α s k = some z → SemC Tryd.prog 28 (sac_relations_compose_1_v2_l1).code s fun ex s' => k ex s' = some z := by
  intro α s k z h
  have e : sac_relations_compose_1_v2_l1 = .loop ac_relations_compose_1_v2_l1 := by kernel_rfl
  rw [e]
  exact subE_ok (m := 1) (f := fun x => iterL (relations_compose_1_v2_l1 n) n x) (out := out_relations_compose_1_v2_l1) outK_ok_relations_compose_1_v2_l1 un_ok_relations_compose_1_v2_l1 (fun x y hy => loop_ok (Es_ok_relations_compose_1_v2 n) (subs_relations_compose_1_v2_l1 n) un_ok_relations_compose_1_v2_l1 ux_ok_relations_compose_1_v2_l1 (body_relations_compose_1_v2_l1 n) n x y hy) h
theorem sub_relations_compose_1_v2_l1 (n : Nat) : SubSt Tryd.prog 28 (Ls_relations_compose_1_v2 n) 1 sac_relations_compose_1_v2_l1 := fun α s k z => sub1_relations_compose_1_v2_l1 n α s k z
theorem subs_relations_compose_1_v2_l0 (n : Nat) : SubOK Tryd.prog 28 (Ls_relations_compose_1_v2 n) ac_relations_compose_1_v2_l0 := SubOK_of _ (by
  have e : subs ac_relations_compose_1_v2_l0 = [(1, sac_relations_compose_1_v2_l1)] := by kernel_rfl
  rw [e]; intro p hp
  simp only [List.mem_cons, List.not_mem_nil, or_false] at hp
  · rw [hp]; exact sub_relations_compose_1_v2_l1 n
  )
theorem body_relations_compose_1_v2_l0 (n : Nat) : ∀ x, run Tryd.prog (Es_relations_compose_1_v2 n) (Ls_relations_compose_1_v2 n) 28 ac_relations_compose_1_v2_l0 (emb_relations_compose_1_v2_l0 x) (roundK an_relations_compose_1_v2_l0 un_relations_compose_1_v2_l0 ax_relations_compose_1_v2_l0 ux_relations_compose_1_v2_l0) = relations_compose_1_v2_l0 n x := fun _ => by kernel_rfl
theorem sub1_relations_compose_1_v2_l0 (n : Nat) : ∀ (α : Type) (s : St) (k : Ex → St → Option α) (z : α), (subE 0 an_relations_compose_1_v2_l0 un_relations_compose_1_v2_l0 (fun x => iterL (relations_compose_1_v2_l0 n) n x) outK_relations_compose_1_v2_l0).e α s k = some z → SemC Tryd.prog 28 (sac_relations_compose_1_v2_l0).code s fun ex s' => k ex s' = some z := by
  intro α s k z h
  have e : sac_relations_compose_1_v2_l0 = .loop ac_relations_compose_1_v2_l0 := by kernel_rfl
  rw [e]
  exact subE_ok (m := 0) (f := fun x => iterL (relations_compose_1_v2_l0 n) n x) (out := out_relations_compose_1_v2_l0) outK_ok_relations_compose_1_v2_l0 un_ok_relations_compose_1_v2_l0 (fun x y hy => loop_ok (Es_ok_relations_compose_1_v2 n) (subs_relations_compose_1_v2_l0 n) un_ok_relations_compose_1_v2_l0 ux_ok_relations_compose_1_v2_l0 (body_relations_compose_1_v2_l0 n) n x y hy) h
theorem sub_relations_compose_1_v2_l0 (n : Nat) : SubSt Tryd.prog 28 (Ls_relations_compose_1_v2 n) 0 sac_relations_compose_1_v2_l0 := fun α s k z => sub1_relations_compose_1_v2_l0 n α s k z
theorem subs_relations_compose_1_v2 (n : Nat) : SubOK Tryd.prog 28 (Ls_relations_compose_1_v2 n) (acOf Tryd.f52) := SubOK_of _ (by
  have e : subs (acOf Tryd.f52) = [(0, sac_relations_compose_1_v2_l0)] := by kernel_rfl
  rw [e]; intro p hp
  simp only [List.mem_cons, List.not_mem_nil, or_false] at hp
  · rw [hp]; exact sub_relations_compose_1_v2_l0 n
  )
theorem cert_relations_compose_1_v2 (n : Nat) (a0 : Int) (a1 : Int) (a2 : Int) (a3 : Int) (a4 : Int) : run Tryd.prog (Es_relations_compose_1_v2 n) (Ls_relations_compose_1_v2 n) Tryd.f52.ntmps (acOf Tryd.f52) ⟨argsT [.fn 54 [.p 0 0, .p 1 0]] 0, [(0, .cells [.i .i8 a0, .i .i64 a1, .i .i8 a2, .i .i64 a3]), (1, .cells [.i .u8 a4])], 2, 2, 2, 2⟩ (finK Tryd.prog Tryd.f52.results.toList (funX [] 2 2 2 unr_relations_compose_1_v2)) = relations_compose_1_v2 n a0 a1 a2 a3 a4 := by kernel_rfl
theorem fun_relations_compose_1_v2 (n : Nat) : ∀ a r, relations_compose_1_v2 n a.1 a.2.1 a.2.2.1 a.2.2.2.1 a.2.2.2.2 = some r → FunOK Tryd.prog 52 (arg_relations_compose_1_v2 a) (H0_relations_compose_1_v2 a) 2 2 2 (out_relations_compose_1_v2 r) := fun a r h => funX_ok (ws := []) unr_ok_relations_compose_1_v2 hv_relations_compose_1_v2 (fun r b blk hl => (chkH_look (hc_relations_compose_1_v2 r) b blk hl).2) (fun r => chkH_keys (hc_relations_compose_1_v2 r)) (by decide) (Es_ok_relations_compose_1_v2 n) Tryd.func52 rfl (acOf_code _) (subs_relations_compose_1_v2 n) rfl rfl ((cert_relations_compose_1_v2 n a.1 a.2.1 a.2.2.1 a.2.2.2.1 a.2.2.2.2).trans h)
theorem ok_relations_compose_1_v2 (n : Nat) : EntOK Tryd.prog (e_relations_compose_1_v2 n) := funE_ok (m := 2) (ro := 2) (rb := 2) (out := out_relations_compose_1_v2) (arg := arg_relations_compose_1_v2) (H0 := H0_relations_compose_1_v2) Tryd.call52 (by decide) (by decide) outK_ok_relations_compose_1_v2 una_ok_relations_compose_1_v2 (fun _ => rfl) (fun a => chkH_look (m := 2) (H := H0_relations_compose_1_v2 a) rfl) (fun _ => rfl) (fun r => chkH_keys (hc_relations_compose_1_v2 r)) (fun r b blk h => (chkH_look (hc_relations_compose_1_v2 r) b blk h).2) (fun r b h1 h2 => hasKeys_ok (hk_relations_compose_1_v2 r) b h1 (by omega)) hv_relations_compose_1_v2 (fun_relations_compose_1_v2 n)

/-! circa/relations.compose -/
noncomputable def arg_relations_compose (a : Int × Int) : List V := [.i .u8 a.1, .i .u8 a.2]
noncomputable def una_relations_compose (l : List V) : Option (Int × Int) := match l with
  | [.i .u8 a0, .i .u8 a1] => some (a0, a1)
  | _ => none
theorem una_ok_relations_compose : ∀ l a, una_relations_compose l = some a → l = arg_relations_compose a := by
  intro l a h
  unfold una_relations_compose at h
  split at h
  · cases h; rfl
  · cases h
noncomputable def enc_relations_compose (r : Int) : V := .i .u16 r
noncomputable def unr_relations_compose (v : V) : Option (Int) := match v with
  | .i .u16 r0 => some r0
  | _ => none
theorem unr_ok_relations_compose : ∀ v r, unr_relations_compose v = some r → v = enc_relations_compose r := by
  intro v r h
  unfold unr_relations_compose at h
  split at h
  · cases h; rfl
  · cases h
noncomputable def e_relations_compose (n : Nat) : Ent := pureE 39 una_relations_compose (fun a => relations_compose n a.1 a.2) enc_relations_compose
noncomputable def t_relations_compose (l : List V) (_ : List (Nat × Blk)) : Bool := isS (una_relations_compose l)
noncomputable def Es_relations_compose (n : Nat) : List Ent := [e_relations_day n, altE (e_relations_compose_1 n) t_relations_compose_1 (e_relations_compose_1_v2 n), e_relations_of n]
theorem Es_ok_relations_compose (n : Nat) : ∀ x ∈ Es_relations_compose n, EntOK Tryd.prog x := by
  intro x hx
  simp only [Es_relations_compose, List.mem_cons, List.not_mem_nil, or_false] at hx
  rcases hx with hx | hx | hx
  · rw [hx]; exact ok_relations_day n
  · rw [hx]; exact altE_ok (ok_relations_compose_1 n) (ok_relations_compose_1_v2 n) rfl
  · rw [hx]; exact ok_relations_of n
noncomputable def an_relations_compose_l1 : Ann := ⟨[7, 8, 10, 21, 22, 23, 27, 28, 29], [3, 4, 5], 6, []⟩
noncomputable def emb_relations_compose_l1 (x : Int × Int × Int × Int × Int × List (Int × Int × Int × Int) × List (Int × Int × Int × Int) × Int × Int × Int × Int) : St := ⟨[(7, some (.i .u16 x.1)), (8, some (.ws 3)), (10, some (.p 5 0)), (21, some (.ws 4)), (22, some (.i .i64 x.2.1)), (23, some (.i .i64 x.2.2.1)), (27, some (.ws 3)), (28, some (.i .i64 x.2.2.2.1)), (29, some (.i .i64 x.2.2.2.2.1))], [(3, .rows [.i .i8, .i .i64, .i .i8, .i .i64] x.2.2.2.2.2.1), (4, .rows [.i .i8, .i .i64, .i .i8, .i .i64] x.2.2.2.2.2.2.1), (5, .cells [.i .i8 x.2.2.2.2.2.2.2.1, .i .i64 x.2.2.2.2.2.2.2.2.1, .i .i8 x.2.2.2.2.2.2.2.2.2.1, .i .i64 x.2.2.2.2.2.2.2.2.2.2])], 6, 0, 0, 0⟩
noncomputable def un_relations_compose_l1 (s : St) : Option (Int × Int × Int × Int × Int × List (Int × Int × Int × Int) × List (Int × Int × Int × Int) × Int × Int × Int × Int) := match s with
  | ⟨[(7, some (.i .u16 x0)), (8, some (.ws 3)), (10, some (.p 5 0)), (21, some (.ws 4)), (22, some (.i .i64 x1)), (23, some (.i .i64 x2)), (27, some (.ws 3)), (28, some (.i .i64 x3)), (29, some (.i .i64 x4))], [(3, .rows [.i .i8, .i .i64, .i .i8, .i .i64] x5), (4, .rows [.i .i8, .i .i64, .i .i8, .i .i64] x6), (5, .cells [.i .i8 x7, .i .i64 x8, .i .i8 x9, .i .i64 x10])], 6, 0, 0, 0⟩ => some (x0, x1, x2, x3, x4, x5, x6, x7, x8, x9, x10)
  | _ => none
theorem un_ok_relations_compose_l1 : ∀ s x, un_relations_compose_l1 s = some x → s = emb_relations_compose_l1 x := by
  intro s x h
  unfold un_relations_compose_l1 at h
  split at h
  · cases h; rfl
  · cases h
noncomputable def ax_relations_compose_l1 : Ex → Ann := fun ex => match ex with
  | .exit 2 => ⟨[7, 8, 21, 22, 23], [3, 4], 6, []⟩
  | _ => ⟨[], [], 0, []⟩
noncomputable def out_relations_compose_l1 (y : (Int × Int × Int × List (Int × Int × Int × Int) × List (Int × Int × Int × Int))) : Ex × St := (.exit 2, ⟨[(7, some (.i .u16 y.1)), (8, some (.ws 3)), (21, some (.ws 4)), (22, some (.i .i64 y.2.1)), (23, some (.i .i64 y.2.2.1))], [(3, .rows [.i .i8, .i .i64, .i .i8, .i .i64] y.2.2.2.1), (4, .rows [.i .i8, .i .i64, .i .i8, .i .i64] y.2.2.2.2)], 6, 0, 0, 0⟩)
noncomputable def outK_relations_compose_l1 (α : Type) (y : (Int × Int × Int × List (Int × Int × Int × Int) × List (Int × Int × Int × Int))) (k : Ex → St → Option α) : Option α := (k (.exit 2) ⟨[(7, some (.i .u16 y.1)), (8, some (.ws 3)), (21, some (.ws 4)), (22, some (.i .i64 y.2.1)), (23, some (.i .i64 y.2.2.1))], [(3, .rows [.i .i8, .i .i64, .i .i8, .i .i64] y.2.2.2.1), (4, .rows [.i .i8, .i .i64, .i .i8, .i .i64] y.2.2.2.2)], 6, 0, 0, 0⟩)
theorem outK_ok_relations_compose_l1 : ∀ α y k, outK_relations_compose_l1 α y k = k (out_relations_compose_l1 y).1 (out_relations_compose_l1 y).2 := by
  intro α y k
  rfl
noncomputable def ux_relations_compose_l1 (ex : Ex) (s : St) : Option ((Int × Int × Int × List (Int × Int × Int × Int) × List (Int × Int × Int × Int))) := match ex, s with
  | .exit 2, ⟨[(7, some (.i .u16 y0)), (8, some (.ws 3)), (21, some (.ws 4)), (22, some (.i .i64 y1)), (23, some (.i .i64 y2))], [(3, .rows [.i .i8, .i .i64, .i .i8, .i .i64] y3), (4, .rows [.i .i8, .i .i64, .i .i8, .i .i64] y4)], 6, 0, 0, 0⟩ => some (y0, y1, y2, y3, y4)
  | _, _ => none
theorem ux_ok_relations_compose_l1 : ∀ ex s y, ux_relations_compose_l1 ex s = some y → (ex, s) = out_relations_compose_l1 y := by
  intro ex s y h
  unfold ux_relations_compose_l1 at h
  split at h
  · cases h; rfl
  · cases h
noncomputable def an_relations_compose_l0 : Ann := ⟨[7, 8, 21, 22, 23], [3, 4], 5, []⟩
noncomputable def emb_relations_compose_l0 (x : Int × Int × Int × List (Int × Int × Int × Int) × List (Int × Int × Int × Int)) : St := ⟨[(7, some (.i .u16 x.1)), (8, some (.ws 3)), (21, some (.ws 4)), (22, some (.i .i64 x.2.1)), (23, some (.i .i64 x.2.2.1))], [(3, .rows [.i .i8, .i .i64, .i .i8, .i .i64] x.2.2.2.1), (4, .rows [.i .i8, .i .i64, .i .i8, .i .i64] x.2.2.2.2)], 5, 0, 0, 0⟩
noncomputable def un_relations_compose_l0 (s : St) : Option (Int × Int × Int × List (Int × Int × Int × Int) × List (Int × Int × Int × Int)) := match s with
  | ⟨[(7, some (.i .u16 x0)), (8, some (.ws 3)), (21, some (.ws 4)), (22, some (.i .i64 x1)), (23, some (.i .i64 x2))], [(3, .rows [.i .i8, .i .i64, .i .i8, .i .i64] x3), (4, .rows [.i .i8, .i .i64, .i .i8, .i .i64] x4)], 5, 0, 0, 0⟩ => some (x0, x1, x2, x3, x4)
  | _ => none
theorem un_ok_relations_compose_l0 : ∀ s x, un_relations_compose_l0 s = some x → s = emb_relations_compose_l0 x := by
  intro s x h
  unfold un_relations_compose_l0 at h
  split at h
  · cases h; rfl
  · cases h
noncomputable def ax_relations_compose_l0 : Ex → Ann := fun ex => match ex with
  | .exit 0 => ⟨[7], [], 5, []⟩
  | _ => ⟨[], [], 0, []⟩
noncomputable def out_relations_compose_l0 (y : Int) : Ex × St := (.exit 0, ⟨[(7, some (.i .u16 y))], [], 5, 0, 0, 0⟩)
noncomputable def outK_relations_compose_l0 (α : Type) (y : Int) (k : Ex → St → Option α) : Option α := (k (.exit 0) ⟨[(7, some (.i .u16 y))], [], 5, 0, 0, 0⟩)
theorem outK_ok_relations_compose_l0 : ∀ α y k, outK_relations_compose_l0 α y k = k (out_relations_compose_l0 y).1 (out_relations_compose_l0 y).2 := by
  intro α y k
  rfl
noncomputable def ux_relations_compose_l0 (ex : Ex) (s : St) : Option (Int) := match ex, s with
  | .exit 0, ⟨[(7, some (.i .u16 y0))], [], 5, 0, 0, 0⟩ => some y0
  | _, _ => none
theorem ux_ok_relations_compose_l0 : ∀ ex s y, ux_relations_compose_l0 ex s = some y → (ex, s) = out_relations_compose_l0 y := by
  intro ex s y h
  unfold ux_relations_compose_l0 at h
  split at h
  · cases h; rfl
  · cases h
noncomputable def Ls_relations_compose (n : Nat) : List Sub := [subE 1 an_relations_compose_l1 un_relations_compose_l1 (fun x => iterL (relations_compose_l1 n) n x) outK_relations_compose_l1, subE 0 an_relations_compose_l0 un_relations_compose_l0 (fun x => iterL (relations_compose_l0 n) n x) outK_relations_compose_l0]
noncomputable def sac_relations_compose_l0 : AC := getS (subs (acOf Tryd.f39)) 0
noncomputable def ac_relations_compose_l0 : AC := AC.body sac_relations_compose_l0
noncomputable def sac_relations_compose_l1 : AC := getS (subs ac_relations_compose_l0) 1
noncomputable def ac_relations_compose_l1 : AC := AC.body sac_relations_compose_l1
theorem subs_relations_compose_l1 (n : Nat) : SubOK Tryd.prog 42 (Ls_relations_compose n) ac_relations_compose_l1 := SubOK_of _ (by
  have e : subs ac_relations_compose_l1 = [] := by kernel_rfl
  rw [e]; intro p hp; cases hp)
theorem body_relations_compose_l1 (n : Nat) : ∀ x, run Tryd.prog (Es_relations_compose n) (Ls_relations_compose n) 42 ac_relations_compose_l1 (emb_relations_compose_l1 x) (roundK an_relations_compose_l1 un_relations_compose_l1 ax_relations_compose_l1 ux_relations_compose_l1) = relations_compose_l1 n x := fun _ => by kernel_rfl
theorem sub1_relations_compose_l1 (n : Nat) : ∀ (α : Type) (s : St) (k : Ex → St → Option α) (z : α), (subE 1 an_relations_compose_l1 un_relations_compose_l1 (fun x => iterL (relations_compose_l1 n) n x) outK_relations_compose_l1).e α s k = some z → SemC Tryd.prog 42 (sac_relations_compose_l1).code s fun ex s' => k ex s' = some z := by
  intro α s k z h
  have e : sac_relations_compose_l1 = .loop ac_relations_compose_l1 := by kernel_rfl
  rw [e]
  exact subE_ok (m := 1) (f := fun x => iterL (relations_compose_l1 n) n x) (out := out_relations_compose_l1) outK_ok_relations_compose_l1 un_ok_relations_compose_l1 (fun x y hy => loop_ok (Es_ok_relations_compose n) (subs_relations_compose_l1 n) un_ok_relations_compose_l1 ux_ok_relations_compose_l1 (body_relations_compose_l1 n) n x y hy) h
theorem sub_relations_compose_l1 (n : Nat) : SubSt Tryd.prog 42 (Ls_relations_compose n) 1 sac_relations_compose_l1 := fun α s k z => sub1_relations_compose_l1 n α s k z
theorem subs_relations_compose_l0 (n : Nat) : SubOK Tryd.prog 42 (Ls_relations_compose n) ac_relations_compose_l0 := SubOK_of _ (by
  have e : subs ac_relations_compose_l0 = [(1, sac_relations_compose_l1)] := by kernel_rfl
  rw [e]; intro p hp
  simp only [List.mem_cons, List.not_mem_nil, or_false] at hp
  · rw [hp]; exact sub_relations_compose_l1 n
  )
theorem body_relations_compose_l0 (n : Nat) : ∀ x, run Tryd.prog (Es_relations_compose n) (Ls_relations_compose n) 42 ac_relations_compose_l0 (emb_relations_compose_l0 x) (roundK an_relations_compose_l0 un_relations_compose_l0 ax_relations_compose_l0 ux_relations_compose_l0) = relations_compose_l0 n x := fun _ => by kernel_rfl
theorem sub1_relations_compose_l0 (n : Nat) : ∀ (α : Type) (s : St) (k : Ex → St → Option α) (z : α), (subE 0 an_relations_compose_l0 un_relations_compose_l0 (fun x => iterL (relations_compose_l0 n) n x) outK_relations_compose_l0).e α s k = some z → SemC Tryd.prog 42 (sac_relations_compose_l0).code s fun ex s' => k ex s' = some z := by
  intro α s k z h
  have e : sac_relations_compose_l0 = .loop ac_relations_compose_l0 := by kernel_rfl
  rw [e]
  exact subE_ok (m := 0) (f := fun x => iterL (relations_compose_l0 n) n x) (out := out_relations_compose_l0) outK_ok_relations_compose_l0 un_ok_relations_compose_l0 (fun x y hy => loop_ok (Es_ok_relations_compose n) (subs_relations_compose_l0 n) un_ok_relations_compose_l0 ux_ok_relations_compose_l0 (body_relations_compose_l0 n) n x y hy) h
theorem sub_relations_compose_l0 (n : Nat) : SubSt Tryd.prog 42 (Ls_relations_compose n) 0 sac_relations_compose_l0 := fun α s k z => sub1_relations_compose_l0 n α s k z
theorem subs_relations_compose (n : Nat) : SubOK Tryd.prog 42 (Ls_relations_compose n) (acOf Tryd.f39) := SubOK_of _ (by
  have e : subs (acOf Tryd.f39) = [(0, sac_relations_compose_l0)] := by kernel_rfl
  rw [e]; intro p hp
  simp only [List.mem_cons, List.not_mem_nil, or_false] at hp
  · rw [hp]; exact sub_relations_compose_l0 n
  )
theorem cert_relations_compose (n : Nat) (a0 : Int) (a1 : Int) : run Tryd.prog (Es_relations_compose n) (Ls_relations_compose n) Tryd.f39.ntmps (acOf Tryd.f39) ⟨argsT [.i .u8 a0, .i .u8 a1] 0, [], 0, 0, 0, 0⟩ (finK Tryd.prog Tryd.f39.results.toList (retX unr_relations_compose)) = relations_compose n a0 a1 := by kernel_rfl
theorem pure_relations_compose (n : Nat) : ∀ a r, relations_compose n a.1 a.2 = some r → PureOK Tryd.prog 39 (arg_relations_compose a) (enc_relations_compose r) := fun a r h => pureX_ok unr_ok_relations_compose (Es_ok_relations_compose n) Tryd.func39 rfl (acOf_code _) (subs_relations_compose n) rfl ((cert_relations_compose n a.1 a.2).trans h)
theorem ok_relations_compose (n : Nat) : EntOK Tryd.prog (e_relations_compose n) := pureE_ok Tryd.call39 una_ok_relations_compose (fun _ => rfl) (pure_relations_compose n)

/-! circa/relations.Compose -/
noncomputable def arg_relations_Compose (a : Int × Int) : List V := [.i .u8 a.1, .i .u8 a.2]
noncomputable def una_relations_Compose (l : List V) : Option (Int × Int) := match l with
  | [.i .u8 a0, .i .u8 a1] => some (a0, a1)
  | _ => none
theorem una_ok_relations_Compose : ∀ l a, una_relations_Compose l = some a → l = arg_relations_Compose a := by
  intro l a h
  unfold una_relations_Compose at h
  split at h
  · cases h; rfl
  · cases h
noncomputable def enc_relations_Compose (r : Int × Int) : V := .tp [.i .u16 r.1, .i .i64 r.2]
noncomputable def unr_relations_Compose (v : V) : Option (Int × Int) := match v with
  | .tp [.i .u16 r0, .i .i64 r1] => some (r0, r1)
  | _ => none
theorem unr_ok_relations_Compose : ∀ v r, unr_relations_Compose v = some r → v = enc_relations_Compose r := by
  intro v r h
  unfold unr_relations_Compose at h
  split at h
  · cases h; rfl
  · cases h
noncomputable def e_relations_Compose (n : Nat) : Ent := pureE 15 una_relations_Compose (fun a => relations_Compose n a.1 a.2) enc_relations_Compose
noncomputable def t_relations_Compose (l : List V) (_ : List (Nat × Blk)) : Bool := isS (una_relations_Compose l)
noncomputable def Es_relations_Compose (n : Nat) : List Ent := [e_relations_valid n, e_relations_compose n]
theorem Es_ok_relations_Compose (n : Nat) : ∀ x ∈ Es_relations_Compose n, EntOK Tryd.prog x := by
  intro x hx
  simp only [Es_relations_Compose, List.mem_cons, List.not_mem_nil, or_false] at hx
  rcases hx with hx | hx
  · rw [hx]; exact ok_relations_valid n
  · rw [hx]; exact ok_relations_compose n
noncomputable def Ls_relations_Compose (_n : Nat) : List Sub := []
theorem subs_relations_Compose (n : Nat) : SubOK Tryd.prog 17 (Ls_relations_Compose n) (acOf Tryd.f15) := SubOK_of _ (by
  have e : subs (acOf Tryd.f15) = [] := by kernel_rfl
  rw [e]; intro p hp; cases hp)
theorem cert_relations_Compose (n : Nat) (a0 : Int) (a1 : Int) : run Tryd.prog (Es_relations_Compose n) (Ls_relations_Compose n) Tryd.f15.ntmps (acOf Tryd.f15) ⟨argsT [.i .u8 a0, .i .u8 a1] 0, [], 0, 0, 0, 0⟩ (finK Tryd.prog Tryd.f15.results.toList (retX unr_relations_Compose)) = relations_Compose n a0 a1 := by kernel_rfl
theorem pure_relations_Compose (n : Nat) : ∀ a r, relations_Compose n a.1 a.2 = some r → PureOK Tryd.prog 15 (arg_relations_Compose a) (enc_relations_Compose r) := fun a r h => pureX_ok unr_ok_relations_Compose (Es_ok_relations_Compose n) Tryd.func15 rfl (acOf_code _) (subs_relations_Compose n) rfl ((cert_relations_Compose n a.1 a.2).trans h)
theorem ok_relations_Compose (n : Nat) : EntOK Tryd.prog (e_relations_Compose n) := pureE_ok Tryd.call15 una_ok_relations_Compose (fun _ => rfl) (pure_relations_Compose n)

/-! circa/relations.Mirror -/
noncomputable def arg_relations_Mirror (a : Int) : List V := [.i .u8 a]
noncomputable def una_relations_Mirror (l : List V) : Option (Int) := match l with
  | [.i .u8 a0] => some a0
  | _ => none
theorem una_ok_relations_Mirror : ∀ l a, una_relations_Mirror l = some a → l = arg_relations_Mirror a := by
  intro l a h
  unfold una_relations_Mirror at h
  split at h
  · cases h; rfl
  · cases h
noncomputable def enc_relations_Mirror (r : Int × Int) : V := .tp [.i .u8 r.1, .i .i64 r.2]
noncomputable def unr_relations_Mirror (v : V) : Option (Int × Int) := match v with
  | .tp [.i .u8 r0, .i .i64 r1] => some (r0, r1)
  | _ => none
theorem unr_ok_relations_Mirror : ∀ v r, unr_relations_Mirror v = some r → v = enc_relations_Mirror r := by
  intro v r h
  unfold unr_relations_Mirror at h
  split at h
  · cases h; rfl
  · cases h
noncomputable def e_relations_Mirror (n : Nat) : Ent := pureE 17 una_relations_Mirror (fun a => relations_Mirror n a) enc_relations_Mirror
noncomputable def t_relations_Mirror (l : List V) (_ : List (Nat × Blk)) : Bool := isS (una_relations_Mirror l)
noncomputable def Es_relations_Mirror (n : Nat) : List Ent := [e_relations_valid n]
theorem Es_ok_relations_Mirror (n : Nat) : ∀ x ∈ Es_relations_Mirror n, EntOK Tryd.prog x := by
  intro x hx
  simp only [Es_relations_Mirror, List.mem_cons, List.not_mem_nil, or_false] at hx
  · rw [hx]; exact ok_relations_valid n
noncomputable def Ls_relations_Mirror (_n : Nat) : List Sub := []
theorem subs_relations_Mirror (n : Nat) : SubOK Tryd.prog 23 (Ls_relations_Mirror n) (acOf Tryd.f17) := SubOK_of _ (by
  have e : subs (acOf Tryd.f17) = [] := by kernel_rfl
  rw [e]; intro p hp; cases hp)
theorem cert_relations_Mirror (n : Nat) (a0 : Int) : run Tryd.prog (Es_relations_Mirror n) (Ls_relations_Mirror n) Tryd.f17.ntmps (acOf Tryd.f17) ⟨argsT [.i .u8 a0] 0, [], 0, 0, 0, 0⟩ (finK Tryd.prog Tryd.f17.results.toList (retX unr_relations_Mirror)) = relations_Mirror n a0 := by kernel_rfl
theorem pure_relations_Mirror (n : Nat) : ∀ a r, relations_Mirror n a = some r → PureOK Tryd.prog 17 (arg_relations_Mirror a) (enc_relations_Mirror r) := fun a r h => pureX_ok unr_ok_relations_Mirror (Es_ok_relations_Mirror n) Tryd.func17 rfl (acOf_code _) (subs_relations_Mirror n) rfl ((cert_relations_Mirror n a).trans h)
theorem ok_relations_Mirror (n : Nat) : EntOK Tryd.prog (e_relations_Mirror n) := pureE_ok Tryd.call17 una_ok_relations_Mirror (fun _ => rfl) (pure_relations_Mirror n)

/-! circa/relations.Converse -/
noncomputable def arg_relations_Converse (a : Int) : List V := [.i .u8 a]
noncomputable def una_relations_Converse (l : List V) : Option (Int) := match l with
  | [.i .u8 a0] => some a0
  | _ => none
theorem una_ok_relations_Converse : ∀ l a, una_relations_Converse l = some a → l = arg_relations_Converse a := by
  intro l a h
  unfold una_relations_Converse at h
  split at h
  · cases h; rfl
  · cases h
noncomputable def enc_relations_Converse (r : Int × Int) : V := .tp [.i .u8 r.1, .i .i64 r.2]
noncomputable def unr_relations_Converse (v : V) : Option (Int × Int) := match v with
  | .tp [.i .u8 r0, .i .i64 r1] => some (r0, r1)
  | _ => none
theorem unr_ok_relations_Converse : ∀ v r, unr_relations_Converse v = some r → v = enc_relations_Converse r := by
  intro v r h
  unfold unr_relations_Converse at h
  split at h
  · cases h; rfl
  · cases h
noncomputable def e_relations_Converse (n : Nat) : Ent := pureE 12 una_relations_Converse (fun a => relations_Converse n a) enc_relations_Converse
noncomputable def t_relations_Converse (l : List V) (_ : List (Nat × Blk)) : Bool := isS (una_relations_Converse l)
noncomputable def Es_relations_Converse (n : Nat) : List Ent := [e_relations_valid n]
theorem Es_ok_relations_Converse (n : Nat) : ∀ x ∈ Es_relations_Converse n, EntOK Tryd.prog x := by
  intro x hx
  simp only [Es_relations_Converse, List.mem_cons, List.not_mem_nil, or_false] at hx
  · rw [hx]; exact ok_relations_valid n
noncomputable def Ls_relations_Converse (_n : Nat) : List Sub := []
theorem subs_relations_Converse (n : Nat) : SubOK Tryd.prog 9 (Ls_relations_Converse n) (acOf Tryd.f12) := SubOK_of _ (by
  have e : subs (acOf Tryd.f12) = [] := by kernel_rfl
  rw [e]; intro p hp; cases hp)
theorem cert_relations_Converse (n : Nat) (a0 : Int) : run Tryd.prog (Es_relations_Converse n) (Ls_relations_Converse n) Tryd.f12.ntmps (acOf Tryd.f12) ⟨argsT [.i .u8 a0] 0, [], 0, 0, 0, 0⟩ (finK Tryd.prog Tryd.f12.results.toList (retX unr_relations_Converse)) = relations_Converse n a0 := by kernel_rfl
theorem pure_relations_Converse (n : Nat) : ∀ a r, relations_Converse n a = some r → PureOK Tryd.prog 12 (arg_relations_Converse a) (enc_relations_Converse r) := fun a r h => pureX_ok unr_ok_relations_Converse (Es_ok_relations_Converse n) Tryd.func12 rfl (acOf_code _) (subs_relations_Converse n) rfl ((cert_relations_Converse n a).trans h)
theorem ok_relations_Converse (n : Nat) : EntOK Tryd.prog (e_relations_Converse n) := pureE_ok Tryd.call12 una_ok_relations_Converse (fun _ => rfl) (pure_relations_Converse n)

/-! (circa/relations.Set).right -/
noncomputable def arg_relations_Set_right (a : Int) : List V := [.i .u16 a]
noncomputable def una_relations_Set_right (l : List V) : Option (Int) := match l with
  | [.i .u16 a0] => some a0
  | _ => none
theorem una_ok_relations_Set_right : ∀ l a, una_relations_Set_right l = some a → l = arg_relations_Set_right a := by
  intro l a h
  unfold una_relations_Set_right at h
  split at h
  · cases h; rfl
  · cases h
noncomputable def enc_relations_Set_right (r : Bool) : V := .b r
noncomputable def unr_relations_Set_right (v : V) : Option (Bool) := match v with
  | .b r0 => some r0
  | _ => none
theorem unr_ok_relations_Set_right : ∀ v r, unr_relations_Set_right v = some r → v = enc_relations_Set_right r := by
  intro v r h
  unfold unr_relations_Set_right at h
  split at h
  · cases h; rfl
  · cases h
noncomputable def e_relations_Set_right (n : Nat) : Ent := pureE 40 una_relations_Set_right (fun a => relations_Set_right n a) enc_relations_Set_right
noncomputable def t_relations_Set_right (l : List V) (_ : List (Nat × Blk)) : Bool := isS (una_relations_Set_right l)
noncomputable def Es_relations_Set_right (_n : Nat) : List Ent := []
theorem Es_ok_relations_Set_right (n : Nat) : ∀ x ∈ Es_relations_Set_right n, EntOK Tryd.prog x := by
  intro x hx
  simp [Es_relations_Set_right] at hx
noncomputable def Ls_relations_Set_right (_n : Nat) : List Sub := []
theorem subs_relations_Set_right (n : Nat) : SubOK Tryd.prog 6 (Ls_relations_Set_right n) (acOf Tryd.f40) := SubOK_of _ (by
  have e : subs (acOf Tryd.f40) = [] := by kernel_rfl
  rw [e]; intro p hp; cases hp)
theorem cert_relations_Set_right (n : Nat) (a0 : Int) : run Tryd.prog (Es_relations_Set_right n) (Ls_relations_Set_right n) Tryd.f40.ntmps (acOf Tryd.f40) ⟨argsT [.i .u16 a0] 0, [], 0, 0, 0, 0⟩ (finK Tryd.prog Tryd.f40.results.toList (retX unr_relations_Set_right)) = relations_Set_right n a0 := by kernel_rfl
theorem pure_relations_Set_right (n : Nat) : ∀ a r, relations_Set_right n a = some r → PureOK Tryd.prog 40 (arg_relations_Set_right a) (enc_relations_Set_right r) := fun a r h => pureX_ok unr_ok_relations_Set_right (Es_ok_relations_Set_right n) Tryd.func40 rfl (acOf_code _) (subs_relations_Set_right n) rfl ((cert_relations_Set_right n a).trans h)
theorem ok_relations_Set_right (n : Nat) : EntOK Tryd.prog (e_relations_Set_right n) := pureE_ok Tryd.call40 una_ok_relations_Set_right (fun _ => rfl) (pure_relations_Set_right n)

/-! (circa/relations.Set).Has -/
noncomputable def arg_relations_Set_Has (a : Int × Int) : List V := [.i .u16 a.1, .i .u8 a.2]
noncomputable def una_relations_Set_Has (l : List V) : Option (Int × Int) := match l with
  | [.i .u16 a0, .i .u8 a1] => some (a0, a1)
  | _ => none
theorem una_ok_relations_Set_Has : ∀ l a, una_relations_Set_Has l = some a → l = arg_relations_Set_Has a := by
  intro l a h
  unfold una_relations_Set_Has at h
  split at h
  · cases h; rfl
  · cases h
noncomputable def enc_relations_Set_Has (r : Bool) : V := .b r
noncomputable def unr_relations_Set_Has (v : V) : Option (Bool) := match v with
  | .b r0 => some r0
  | _ => none
theorem unr_ok_relations_Set_Has : ∀ v r, unr_relations_Set_Has v = some r → v = enc_relations_Set_Has r := by
  intro v r h
  unfold unr_relations_Set_Has at h
  split at h
  · cases h; rfl
  · cases h
noncomputable def e_relations_Set_Has (n : Nat) : Ent := pureE 16 una_relations_Set_Has (fun a => relations_Set_Has n a.1 a.2) enc_relations_Set_Has
noncomputable def t_relations_Set_Has (l : List V) (_ : List (Nat × Blk)) : Bool := isS (una_relations_Set_Has l)
noncomputable def Es_relations_Set_Has (n : Nat) : List Ent := [e_relations_valid n]
theorem Es_ok_relations_Set_Has (n : Nat) : ∀ x ∈ Es_relations_Set_Has n, EntOK Tryd.prog x := by
  intro x hx
  simp only [Es_relations_Set_Has, List.mem_cons, List.not_mem_nil, or_false] at hx
  · rw [hx]; exact ok_relations_valid n
noncomputable def Ls_relations_Set_Has (_n : Nat) : List Sub := []
theorem subs_relations_Set_Has (n : Nat) : SubOK Tryd.prog 14 (Ls_relations_Set_Has n) (acOf Tryd.f16) := SubOK_of _ (by
  have e : subs (acOf Tryd.f16) = [] := by kernel_rfl
  rw [e]; intro p hp; cases hp)
theorem cert_relations_Set_Has (n : Nat) (a0 : Int) (a1 : Int) : run Tryd.prog (Es_relations_Set_Has n) (Ls_relations_Set_Has n) Tryd.f16.ntmps (acOf Tryd.f16) ⟨argsT [.i .u16 a0, .i .u8 a1] 0, [], 0, 0, 0, 0⟩ (finK Tryd.prog Tryd.f16.results.toList (retX unr_relations_Set_Has)) = relations_Set_Has n a0 a1 := by kernel_rfl
theorem pure_relations_Set_Has (n : Nat) : ∀ a r, relations_Set_Has n a.1 a.2 = some r → PureOK Tryd.prog 16 (arg_relations_Set_Has a) (enc_relations_Set_Has r) := fun a r h => pureX_ok unr_ok_relations_Set_Has (Es_ok_relations_Set_Has n) Tryd.func16 rfl (acOf_code _) (subs_relations_Set_Has n) rfl ((cert_relations_Set_Has n a.1 a.2).trans h)
theorem ok_relations_Set_Has (n : Nat) : EntOK Tryd.prog (e_relations_Set_Has n) := pureE_ok Tryd.call16 una_ok_relations_Set_Has (fun _ => rfl) (pure_relations_Set_Has n)

/-! slices.Clip[[]circa/api.Relation,circa/api.Relation] -/
noncomputable def arg_slices_Clip_api_Relation_api_Relation (a : List (Int)) : List V := [.ws 0]
noncomputable def H0_slices_Clip_api_Relation_api_Relation (a : List (Int)) : List (Nat × Blk) := [(0, .rows [.i .u8] a)]
noncomputable def una_slices_Clip_api_Relation_api_Relation (l : List V) (H : List (Nat × Blk)) : Option ((List (Int)) × List Nat) := match l with
  | [.ws b0] => (match Abs.look H b0 with
    | some (.rows [.i .u8] a0) => (cond (Abs.distinct [b0] && true) (some (a0, [b0])) none)
    | _ => none)
  | _ => none
theorem una_ok_slices_Clip_api_Relation_api_Relation : ∀ l H a ρ, una_slices_Clip_api_Relation_api_Relation l H = some (a, ρ) → ρ.length = 1 ∧ ρ.Nodup ∧ l = V.rens ρ (arg_slices_Clip_api_Relation_api_Relation a) ∧ ∀ b blk, Abs.look (H0_slices_Clip_api_Relation_api_Relation a) b = some blk → Abs.look H (getN ρ b) = some (blk.ren ρ) := by
  intro l H a ρ h
  unfold una_slices_Clip_api_Relation_api_Relation at h
  split at h
  · split at h
    · rename_i e0
      obtain ⟨hd, h⟩ := cond_some h
      simp only [Bool.and_eq_true] at hd
      obtain ⟨hd, _⟩ := hd
      cases h
      exact ⟨rfl, distinct_ok hd, rfl, eachH_look ⟨e0, trivial⟩⟩
    · cases h
  · cases h
noncomputable def out_slices_Clip_api_Relation_api_Relation (r : (Nat × Nat)) : FOut := (⟨false, .rs 1 0 0 r.1 (some r.2), [], []⟩ : FOut)
noncomputable def outK_slices_Clip_api_Relation_api_Relation (α : Type) (r : (Nat × Nat)) (k : FOut → Option α) : Option α := (k ⟨false, .rs 1 0 0 r.1 (some r.2), [], []⟩)
theorem outK_ok_slices_Clip_api_Relation_api_Relation : ∀ α r k, outK_slices_Clip_api_Relation_api_Relation α r k = k (out_slices_Clip_api_Relation_api_Relation r) := by
  intro α r k
  rfl
noncomputable def unr_slices_Clip_api_Relation_api_Relation (pan : Bool) (v : V) (H : List (Nat × Blk)) (nw : List Nat) : Option ((Nat × Nat)) := match pan, v, H, nw with
  | false, .rs 1 0 0 r0 (some r1), [], [] => some (r0, r1)
  | _, _, _, _ => none
theorem unr_ok_slices_Clip_api_Relation_api_Relation : ∀ pan v H nw r, unr_slices_Clip_api_Relation_api_Relation pan v H nw = some r → (out_slices_Clip_api_Relation_api_Relation r).pan = pan ∧ (out_slices_Clip_api_Relation_api_Relation r).news = nw ∧ v = V.ren (upTo 0 1 ++ (out_slices_Clip_api_Relation_api_Relation r).news) (out_slices_Clip_api_Relation_api_Relation r).val ∧ H = renH (upTo 0 1 ++ (out_slices_Clip_api_Relation_api_Relation r).news) (out_slices_Clip_api_Relation_api_Relation r).H := by
  intro pan v H nw r h
  unfold unr_slices_Clip_api_Relation_api_Relation at h
  split at h
  · cases h; exact ⟨rfl, rfl, rfl, rfl⟩
  · cases h
theorem hv_slices_Clip_api_Relation_api_Relation : ∀ r, V.lt (1 + (out_slices_Clip_api_Relation_api_Relation r).news.length) (out_slices_Clip_api_Relation_api_Relation r).val = true := fun r => (by rfl)
theorem hc_slices_Clip_api_Relation_api_Relation : ∀ r, chkH (1 + (out_slices_Clip_api_Relation_api_Relation r).news.length) (out_slices_Clip_api_Relation_api_Relation r).H = true := fun r => (by rfl)
theorem hk_slices_Clip_api_Relation_api_Relation : ∀ r, hasKeys (out_slices_Clip_api_Relation_api_Relation r).H 1 (0 + (out_slices_Clip_api_Relation_api_Relation r).news.length) = true := fun r => (by rfl)
noncomputable def e_slices_Clip_api_Relation_api_Relation (n : Nat) : Ent := funE 45 1 una_slices_Clip_api_Relation_api_Relation (fun a => slices_Clip_api_Relation_api_Relation n a) outK_slices_Clip_api_Relation_api_Relation
noncomputable def t_slices_Clip_api_Relation_api_Relation (l : List V) (H : List (Nat × Blk)) : Bool := isS (una_slices_Clip_api_Relation_api_Relation l H)
noncomputable def Es_slices_Clip_api_Relation_api_Relation (_n : Nat) : List Ent := []
theorem Es_ok_slices_Clip_api_Relation_api_Relation (n : Nat) : ∀ x ∈ Es_slices_Clip_api_Relation_api_Relation n, EntOK Tryd.prog x := by
  intro x hx
  simp [Es_slices_Clip_api_Relation_api_Relation] at hx
noncomputable def Ls_slices_Clip_api_Relation_api_Relation (_n : Nat) : List Sub := []
theorem subs_slices_Clip_api_Relation_api_Relation (n : Nat) : SubOK Tryd.prog 9 (Ls_slices_Clip_api_Relation_api_Relation n) (acOf Tryd.f45) := SubOK_of _ (by
  have e : subs (acOf Tryd.f45) = [] := by kernel_rfl
  rw [e]; intro p hp; cases hp)
theorem cert_slices_Clip_api_Relation_api_Relation (n : Nat) (a0 : List (Int)) : run Tryd.prog (Es_slices_Clip_api_Relation_api_Relation n) (Ls_slices_Clip_api_Relation_api_Relation n) Tryd.f45.ntmps (acOf Tryd.f45) ⟨argsT [.ws 0] 0, [(0, .rows [.i .u8] a0)], 1, 1, 1, 1⟩ (finK Tryd.prog Tryd.f45.results.toList (funX [] 1 1 1 unr_slices_Clip_api_Relation_api_Relation)) = slices_Clip_api_Relation_api_Relation n a0 := by kernel_rfl
theorem fun_slices_Clip_api_Relation_api_Relation (n : Nat) : ∀ a r, slices_Clip_api_Relation_api_Relation n a = some r → FunOK Tryd.prog 45 (arg_slices_Clip_api_Relation_api_Relation a) (H0_slices_Clip_api_Relation_api_Relation a) 1 1 1 (out_slices_Clip_api_Relation_api_Relation r) := fun a r h => funX_ok (ws := []) unr_ok_slices_Clip_api_Relation_api_Relation hv_slices_Clip_api_Relation_api_Relation (fun r b blk hl => (chkH_look (hc_slices_Clip_api_Relation_api_Relation r) b blk hl).2) (fun r => chkH_keys (hc_slices_Clip_api_Relation_api_Relation r)) (by decide) (Es_ok_slices_Clip_api_Relation_api_Relation n) Tryd.func45 rfl (acOf_code _) (subs_slices_Clip_api_Relation_api_Relation n) rfl rfl ((cert_slices_Clip_api_Relation_api_Relation n a).trans h)
theorem ok_slices_Clip_api_Relation_api_Relation (n : Nat) : EntOK Tryd.prog (e_slices_Clip_api_Relation_api_Relation n) := funE_ok (m := 1) (ro := 1) (rb := 1) (out := out_slices_Clip_api_Relation_api_Relation) (arg := arg_slices_Clip_api_Relation_api_Relation) (H0 := H0_slices_Clip_api_Relation_api_Relation) Tryd.call45 (by decide) (by decide) outK_ok_slices_Clip_api_Relation_api_Relation una_ok_slices_Clip_api_Relation_api_Relation (fun _ => rfl) (fun a => chkH_look (m := 1) (H := H0_slices_Clip_api_Relation_api_Relation a) rfl) (fun _ => rfl) (fun r => chkH_keys (hc_slices_Clip_api_Relation_api_Relation r)) (fun r b blk h => (chkH_look (hc_slices_Clip_api_Relation_api_Relation r) b blk h).2) (fun r b h1 h2 => hasKeys_ok (hk_slices_Clip_api_Relation_api_Relation r) b h1 (by omega)) hv_slices_Clip_api_Relation_api_Relation (fun_slices_Clip_api_Relation_api_Relation n)

/-! (circa/relations.Set).List -/
noncomputable def arg_relations_Set_List (a : Int) : List V := [.i .u16 a]
noncomputable def H0_relations_Set_List (a : Int) : List (Nat × Blk) := []
noncomputable def una_relations_Set_List (l : List V) (H : List (Nat × Blk)) : Option ((Int) × List Nat) := match l with
  | [.i .u16 a0] => (cond (Abs.distinct [] && true) (some (a0, [])) none)
  | _ => none
theorem una_ok_relations_Set_List : ∀ l H a ρ, una_relations_Set_List l H = some (a, ρ) → ρ.length = 0 ∧ ρ.Nodup ∧ l = V.rens ρ (arg_relations_Set_List a) ∧ ∀ b blk, Abs.look (H0_relations_Set_List a) b = some blk → Abs.look H (getN ρ b) = some (blk.ren ρ) := by
  intro l H a ρ h
  unfold una_relations_Set_List at h
  split at h
  · obtain ⟨hd, h⟩ := cond_some h
    simp only [Bool.and_eq_true] at hd
    obtain ⟨hd, _⟩ := hd
    cases h
    exact ⟨rfl, distinct_ok hd, rfl, eachH_look trivial⟩
  · cases h
noncomputable def out_relations_Set_List (r : (Nat × Nat × List (Int))) : FOut := (⟨false, .rs 1 0 0 r.1 (some r.2.1), [(0, .rows [.i .u8] r.2.2)], [0]⟩ : FOut)
noncomputable def outK_relations_Set_List (α : Type) (r : (Nat × Nat × List (Int))) (k : FOut → Option α) : Option α := (k ⟨false, .rs 1 0 0 r.1 (some r.2.1), [(0, .rows [.i .u8] r.2.2)], [0]⟩)
theorem outK_ok_relations_Set_List : ∀ α r k, outK_relations_Set_List α r k = k (out_relations_Set_List r) := by
  intro α r k
  rfl
noncomputable def unr_relations_Set_List (pan : Bool) (v : V) (H : List (Nat × Blk)) (nw : List Nat) : Option ((Nat × Nat × List (Int))) := match pan, v, H, nw with
  | false, .rs 1 0 0 r0 (some r1), [(0, .rows [.i .u8] r2)], [0] => some (r0, r1, r2)
  | _, _, _, _ => none
theorem unr_ok_relations_Set_List : ∀ pan v H nw r, unr_relations_Set_List pan v H nw = some r → (out_relations_Set_List r).pan = pan ∧ (out_relations_Set_List r).news = nw ∧ v = V.ren (upTo 0 0 ++ (out_relations_Set_List r).news) (out_relations_Set_List r).val ∧ H = renH (upTo 0 0 ++ (out_relations_Set_List r).news) (out_relations_Set_List r).H := by
  intro pan v H nw r h
  unfold unr_relations_Set_List at h
  split at h
  · cases h; exact ⟨rfl, rfl, rfl, rfl⟩
  · cases h
theorem hv_relations_Set_List : ∀ r, V.lt (0 + (out_relations_Set_List r).news.length) (out_relations_Set_List r).val = true := fun r => (by rfl)
theorem hc_relations_Set_List : ∀ r, chkH (0 + (out_relations_Set_List r).news.length) (out_relations_Set_List r).H = true := fun r => (by rfl)
theorem hk_relations_Set_List : ∀ r, hasKeys (out_relations_Set_List r).H 0 (0 + (out_relations_Set_List r).news.length) = true := fun r => (by rfl)
noncomputable def e_relations_Set_List (n : Nat) : Ent := funE 26 0 una_relations_Set_List (fun a => relations_Set_List n a) outK_relations_Set_List
noncomputable def t_relations_Set_List (l : List V) (H : List (Nat × Blk)) : Bool := isS (una_relations_Set_List l H)
noncomputable def Es_relations_Set_List (n : Nat) : List Ent := [e_relations_Set_Has n, e_slices_Clip_api_Relation_api_Relation n]
theorem Es_ok_relations_Set_List (n : Nat) : ∀ x ∈ Es_relations_Set_List n, EntOK Tryd.prog x := by
  intro x hx
  simp only [Es_relations_Set_List, List.mem_cons, List.not_mem_nil, or_false] at hx
  rcases hx with hx | hx
  · rw [hx]; exact ok_relations_Set_Has n
  · rw [hx]; exact ok_slices_Clip_api_Relation_api_Relation n
noncomputable def an_relations_Set_List_l0 : Ann := ⟨[0, 3, 4], [0], 1, [.nilT 3 0 [.i .u8]]⟩
noncomputable def emb_relations_Set_List_l0 (x : Int × Int × List (Int)) : St := ⟨[(0, some (.i .u16 x.1)), (3, some (.ws 0)), (4, some (.i .u8 x.2.1))], [(0, .rows [.i .u8] x.2.2)], 1, 0, 0, 0⟩
noncomputable def un_relations_Set_List_l0 (s : St) : Option (Int × Int × List (Int)) := match s with
  | ⟨[(0, some (.i .u16 x0)), (3, some (.ws 0)), (4, some (.i .u8 x1))], [(0, .rows [.i .u8] x2)], 1, 0, 0, 0⟩ => some (x0, x1, x2)
  | _ => none
theorem un_ok_relations_Set_List_l0 : ∀ s x, un_relations_Set_List_l0 s = some x → s = emb_relations_Set_List_l0 x := by
  intro s x h
  unfold un_relations_Set_List_l0 at h
  split at h
  · cases h; rfl
  · cases h
noncomputable def ax_relations_Set_List_l0 : Ex → Ann := fun ex => match ex with
  | .exit 0 => ⟨[3], [0], 1, []⟩
  | _ => ⟨[], [], 0, []⟩
noncomputable def out_relations_Set_List_l0 (y : List (Int)) : Ex × St := (.exit 0, ⟨[(3, some (.ws 0))], [(0, .rows [.i .u8] y)], 1, 0, 0, 0⟩)
noncomputable def outK_relations_Set_List_l0 (α : Type) (y : List (Int)) (k : Ex → St → Option α) : Option α := (k (.exit 0) ⟨[(3, some (.ws 0))], [(0, .rows [.i .u8] y)], 1, 0, 0, 0⟩)
theorem outK_ok_relations_Set_List_l0 : ∀ α y k, outK_relations_Set_List_l0 α y k = k (out_relations_Set_List_l0 y).1 (out_relations_Set_List_l0 y).2 := by
  intro α y k
  rfl
noncomputable def ux_relations_Set_List_l0 (ex : Ex) (s : St) : Option (List (Int)) := match ex, s with
  | .exit 0, ⟨[(3, some (.ws 0))], [(0, .rows [.i .u8] y0)], 1, 0, 0, 0⟩ => some y0
  | _, _ => none
theorem ux_ok_relations_Set_List_l0 : ∀ ex s y, ux_relations_Set_List_l0 ex s = some y → (ex, s) = out_relations_Set_List_l0 y := by
  intro ex s y h
  unfold ux_relations_Set_List_l0 at h
  split at h
  · cases h; rfl
  · cases h
noncomputable def Ls_relations_Set_List (n : Nat) : List Sub := [subE 0 an_relations_Set_List_l0 un_relations_Set_List_l0 (fun x => iterL (relations_Set_List_l0 n) n x) outK_relations_Set_List_l0]
noncomputable def sac_relations_Set_List_l0 : AC := getS (subs (acOf Tryd.f26)) 0
noncomputable def ac_relations_Set_List_l0 : AC := AC.body sac_relations_Set_List_l0
theorem subs_relations_Set_List_l0 (n : Nat) : SubOK Tryd.prog 18 (Ls_relations_Set_List n) ac_relations_Set_List_l0 := SubOK_of _ (by
  have e : subs ac_relations_Set_List_l0 = [] := by kernel_rfl
  rw [e]; intro p hp; cases hp)
theorem body_relations_Set_List_l0 (n : Nat) : ∀ x, run Tryd.prog (Es_relations_Set_List n) (Ls_relations_Set_List n) 18 ac_relations_Set_List_l0 (emb_relations_Set_List_l0 x) (roundK an_relations_Set_List_l0 un_relations_Set_List_l0 ax_relations_Set_List_l0 ux_relations_Set_List_l0) = relations_Set_List_l0 n x := fun _ => by kernel_rfl
theorem sub1_relations_Set_List_l0 (n : Nat) : ∀ (α : Type) (s : St) (k : Ex → St → Option α) (z : α), (subE 0 an_relations_Set_List_l0 un_relations_Set_List_l0 (fun x => iterL (relations_Set_List_l0 n) n x) outK_relations_Set_List_l0).e α s k = some z → SemC Tryd.prog 18 (sac_relations_Set_List_l0).code s fun ex s' => k ex s' = some z := by
  intro α s k z h
  have e : sac_relations_Set_List_l0 = .loop ac_relations_Set_List_l0 := by kernel_rfl
  rw [e]
  exact subE_ok (m := 0) (f := fun x => iterL (relations_Set_List_l0 n) n x) (out := out_relations_Set_List_l0) outK_ok_relations_Set_List_l0 un_ok_relations_Set_List_l0 (fun x y hy => loop_ok (Es_ok_relations_Set_List n) (subs_relations_Set_List_l0 n) un_ok_relations_Set_List_l0 ux_ok_relations_Set_List_l0 (body_relations_Set_List_l0 n) n x y hy) h
theorem sub_relations_Set_List_l0 (n : Nat) : SubSt Tryd.prog 18 (Ls_relations_Set_List n) 0 sac_relations_Set_List_l0 := fun α s k z => sub1_relations_Set_List_l0 n α s k z
theorem subs_relations_Set_List (n : Nat) : SubOK Tryd.prog 18 (Ls_relations_Set_List n) (acOf Tryd.f26) := SubOK_of _ (by
  have e : subs (acOf Tryd.f26) = [(0, sac_relations_Set_List_l0)] := by kernel_rfl
  rw [e]; intro p hp
  simp only [List.mem_cons, List.not_mem_nil, or_false] at hp
  · rw [hp]; exact sub_relations_Set_List_l0 n
  )
theorem cert_relations_Set_List (n : Nat) (a0 : Int) : run Tryd.prog (Es_relations_Set_List n) (Ls_relations_Set_List n) Tryd.f26.ntmps (acOf Tryd.f26) ⟨argsT [.i .u16 a0] 0, [], 0, 0, 0, 0⟩ (finK Tryd.prog Tryd.f26.results.toList (funX [] 0 0 0 unr_relations_Set_List)) = relations_Set_List n a0 := by kernel_rfl
theorem fun_relations_Set_List (n : Nat) : ∀ a r, relations_Set_List n a = some r → FunOK Tryd.prog 26 (arg_relations_Set_List a) (H0_relations_Set_List a) 0 0 0 (out_relations_Set_List r) := fun a r h => funX_ok (ws := []) unr_ok_relations_Set_List hv_relations_Set_List (fun r b blk hl => (chkH_look (hc_relations_Set_List r) b blk hl).2) (fun r => chkH_keys (hc_relations_Set_List r)) (by decide) (Es_ok_relations_Set_List n) Tryd.func26 rfl (acOf_code _) (subs_relations_Set_List n) rfl rfl ((cert_relations_Set_List n a).trans h)
theorem ok_relations_Set_List (n : Nat) : EntOK Tryd.prog (e_relations_Set_List n) := funE_ok (m := 0) (ro := 0) (rb := 0) (out := out_relations_Set_List) (arg := arg_relations_Set_List) (H0 := H0_relations_Set_List) Tryd.call26 (by decide) (by decide) outK_ok_relations_Set_List una_ok_relations_Set_List (fun _ => rfl) (fun a => chkH_look (m := 0) (H := H0_relations_Set_List a) rfl) (fun _ => rfl) (fun r => chkH_keys (hc_relations_Set_List r)) (fun r b blk h => (chkH_look (hc_relations_Set_List r) b blk h).2) (fun r b h1 h2 => hasKeys_ok (hk_relations_Set_List r) b h1 (by omega)) hv_relations_Set_List (fun_relations_Set_List n)

/-! circa/relations.names -/
noncomputable def arg_relations_names (_a : Unit) : List V := []
noncomputable def una_relations_names (l : List V) : Option (Unit) := match l with
  | [] => some ()
  | _ => none
theorem una_ok_relations_names : ∀ l a, una_relations_names l = some a → l = arg_relations_names a := by
  intro l a h
  unfold una_relations_names at h
  split at h
  · cases h; rfl
  · cases h
noncomputable def enc_relations_names (r : List UInt8 × List UInt8 × List UInt8 × List UInt8 × List UInt8 × List UInt8 × List UInt8 × List UInt8 × List UInt8 × List UInt8 × List UInt8 × List UInt8 × List UInt8 × List UInt8) : V := .ag [.s r.1, .s r.2.1, .s r.2.2.1, .s r.2.2.2.1, .s r.2.2.2.2.1, .s r.2.2.2.2.2.1, .s r.2.2.2.2.2.2.1, .s r.2.2.2.2.2.2.2.1, .s r.2.2.2.2.2.2.2.2.1, .s r.2.2.2.2.2.2.2.2.2.1, .s r.2.2.2.2.2.2.2.2.2.2.1, .s r.2.2.2.2.2.2.2.2.2.2.2.1, .s r.2.2.2.2.2.2.2.2.2.2.2.2.1, .s r.2.2.2.2.2.2.2.2.2.2.2.2.2]
noncomputable def unr_relations_names (v : V) : Option (List UInt8 × List UInt8 × List UInt8 × List UInt8 × List UInt8 × List UInt8 × List UInt8 × List UInt8 × List UInt8 × List UInt8 × List UInt8 × List UInt8 × List UInt8 × List UInt8) := match v with
  | .ag [.s r0, .s r1, .s r2, .s r3, .s r4, .s r5, .s r6, .s r7, .s r8, .s r9, .s r10, .s r11, .s r12, .s r13] => some (r0, r1, r2, r3, r4, r5, r6, r7, r8, r9, r10, r11, r12, r13)
  | _ => none
theorem unr_ok_relations_names : ∀ v r, unr_relations_names v = some r → v = enc_relations_names r := by
  intro v r h
  unfold unr_relations_names at h
  split at h
  · cases h; rfl
  · cases h
noncomputable def e_relations_names (n : Nat) : Ent := pureE 42 una_relations_names (fun _a => relations_names n) enc_relations_names
noncomputable def t_relations_names (l : List V) (_ : List (Nat × Blk)) : Bool := isS (una_relations_names l)
noncomputable def Es_relations_names (_n : Nat) : List Ent := []
theorem Es_ok_relations_names (n : Nat) : ∀ x ∈ Es_relations_names n, EntOK Tryd.prog x := by
  intro x hx
  simp [Es_relations_names] at hx
noncomputable def Ls_relations_names (_n : Nat) : List Sub := []
theorem subs_relations_names (n : Nat) : SubOK Tryd.prog 2 (Ls_relations_names n) (acOf Tryd.f42) := SubOK_of _ (by
  have e : subs (acOf Tryd.f42) = [] := by kernel_rfl
  rw [e]; intro p hp; cases hp)
theorem cert_relations_names (n : Nat) : run Tryd.prog (Es_relations_names n) (Ls_relations_names n) Tryd.f42.ntmps (acOf Tryd.f42) ⟨argsT [] 0, [], 0, 0, 0, 0⟩ (finK Tryd.prog Tryd.f42.results.toList (retX unr_relations_names)) = relations_names n := by kernel_rfl
theorem pure_relations_names (n : Nat) : ∀ a r, relations_names n = some r → PureOK Tryd.prog 42 (arg_relations_names a) (enc_relations_names r) := fun a r h => pureX_ok unr_ok_relations_names (Es_ok_relations_names n) Tryd.func42 rfl (acOf_code _) (subs_relations_names n) rfl ((cert_relations_names n).trans h)
theorem ok_relations_names (n : Nat) : EntOK Tryd.prog (e_relations_names n) := pureE_ok Tryd.call42 una_ok_relations_names (fun _ => rfl) (pure_relations_names n)

/-! circa/relations.Name -/
noncomputable def arg_relations_Name (a : Int) : List V := [.i .u8 a]
noncomputable def una_relations_Name (l : List V) : Option (Int) := match l with
  | [.i .u8 a0] => some a0
  | _ => none
theorem una_ok_relations_Name : ∀ l a, una_relations_Name l = some a → l = arg_relations_Name a := by
  intro l a h
  unfold una_relations_Name at h
  split at h
  · cases h; rfl
  · cases h
noncomputable def enc_relations_Name (r : List UInt8) : V := .s r
noncomputable def unr_relations_Name (v : V) : Option (List UInt8) := match v with
  | .s r0 => some r0
  | _ => none
theorem unr_ok_relations_Name : ∀ v r, unr_relations_Name v = some r → v = enc_relations_Name r := by
  intro v r h
  unfold unr_relations_Name at h
  split at h
  · cases h; rfl
  · cases h
noncomputable def e_relations_Name (n : Nat) : Ent := pureE 22 una_relations_Name (fun a => relations_Name n a) enc_relations_Name
noncomputable def t_relations_Name (l : List V) (_ : List (Nat × Blk)) : Bool := isS (una_relations_Name l)
noncomputable def Es_relations_Name (n : Nat) : List Ent := [e_relations_valid n, e_relations_names n]
theorem Es_ok_relations_Name (n : Nat) : ∀ x ∈ Es_relations_Name n, EntOK Tryd.prog x := by
  intro x hx
  simp only [Es_relations_Name, List.mem_cons, List.not_mem_nil, or_false] at hx
  rcases hx with hx | hx
  · rw [hx]; exact ok_relations_valid n
  · rw [hx]; exact ok_relations_names n
noncomputable def Ls_relations_Name (_n : Nat) : List Sub := []
theorem subs_relations_Name (n : Nat) : SubOK Tryd.prog 9 (Ls_relations_Name n) (acOf Tryd.f22) := SubOK_of _ (by
  have e : subs (acOf Tryd.f22) = [] := by kernel_rfl
  rw [e]; intro p hp; cases hp)
theorem cert_relations_Name (n : Nat) (a0 : Int) : run Tryd.prog (Es_relations_Name n) (Ls_relations_Name n) Tryd.f22.ntmps (acOf Tryd.f22) ⟨argsT [.i .u8 a0] 0, [], 0, 0, 0, 0⟩ (finK Tryd.prog Tryd.f22.results.toList (retX unr_relations_Name)) = relations_Name n a0 := by kernel_rfl
theorem pure_relations_Name (n : Nat) : ∀ a r, relations_Name n a = some r → PureOK Tryd.prog 22 (arg_relations_Name a) (enc_relations_Name r) := fun a r h => pureX_ok unr_ok_relations_Name (Es_ok_relations_Name n) Tryd.func22 rfl (acOf_code _) (subs_relations_Name n) rfl ((cert_relations_Name n a).trans h)
theorem ok_relations_Name (n : Nat) : EntOK Tryd.prog (e_relations_Name n) := pureE_ok Tryd.call22 una_ok_relations_Name (fun _ => rfl) (pure_relations_Name n)

noncomputable def e_lib_41 (_n : Nat) : Ent := joinE 41
theorem ok_lib_41 (n : Nat) : EntOK Tryd.prog (e_lib_41 n) := joinE_ok Tryd.call41 Tryd.strings_Join_none Tryd.strings_Join

/-! (circa/relations.Set).Text -/
noncomputable def arg_relations_Set_Text (a : Int) : List V := [.i .u16 a]
noncomputable def una_relations_Set_Text (l : List V) : Option (Int) := match l with
  | [.i .u16 a0] => some a0
  | _ => none
theorem una_ok_relations_Set_Text : ∀ l a, una_relations_Set_Text l = some a → l = arg_relations_Set_Text a := by
  intro l a h
  unfold una_relations_Set_Text at h
  split at h
  · cases h; rfl
  · cases h
noncomputable def enc_relations_Set_Text (r : List UInt8 × Int) : V := .tp [.s r.1, .i .i64 r.2]
noncomputable def unr_relations_Set_Text (v : V) : Option (List UInt8 × Int) := match v with
  | .tp [.s r0, .i .i64 r1] => some (r0, r1)
  | _ => none
theorem unr_ok_relations_Set_Text : ∀ v r, unr_relations_Set_Text v = some r → v = enc_relations_Set_Text r := by
  intro v r h
  unfold unr_relations_Set_Text at h
  split at h
  · cases h; rfl
  · cases h
noncomputable def e_relations_Set_Text (n : Nat) : Ent := pureE 18 una_relations_Set_Text (fun a => relations_Set_Text n a) enc_relations_Set_Text
noncomputable def t_relations_Set_Text (l : List V) (_ : List (Nat × Blk)) : Bool := isS (una_relations_Set_Text l)
noncomputable def Es_relations_Set_Text (n : Nat) : List Ent := [e_relations_Set_right n, e_relations_Set_List n, e_relations_Name n, e_lib_41 n]
theorem Es_ok_relations_Set_Text (n : Nat) : ∀ x ∈ Es_relations_Set_Text n, EntOK Tryd.prog x := by
  intro x hx
  simp only [Es_relations_Set_Text, List.mem_cons, List.not_mem_nil, or_false] at hx
  rcases hx with hx | hx | hx | hx
  · rw [hx]; exact ok_relations_Set_right n
  · rw [hx]; exact ok_relations_Set_List n
  · rw [hx]; exact ok_relations_Name n
  · rw [hx]; exact ok_lib_41 n
noncomputable def an_relations_Set_Text_l0 : Ann := ⟨[4, 13, 14, 15], [0, 1], 2, [.nilT 4 1 [.s]]⟩
noncomputable def emb_relations_Set_Text_l0 (x : Nat × Nat × Int × Int × List (Int) × List (List UInt8)) : St := ⟨[(4, some (.ws 1)), (13, some (.rs 1 0 0 x.1 (some x.2.1))), (14, some (.i .i64 x.2.2.1)), (15, some (.i .i64 x.2.2.2.1))], [(0, .rows [.i .u8] x.2.2.2.2.1), (1, .rows [.s] x.2.2.2.2.2)], 2, 0, 0, 0⟩
noncomputable def un_relations_Set_Text_l0 (s : St) : Option (Nat × Nat × Int × Int × List (Int) × List (List UInt8)) := match s with
  | ⟨[(4, some (.ws 1)), (13, some (.rs 1 0 0 x0 (some x1))), (14, some (.i .i64 x2)), (15, some (.i .i64 x3))], [(0, .rows [.i .u8] x4), (1, .rows [.s] x5)], 2, 0, 0, 0⟩ => some (x0, x1, x2, x3, x4, x5)
  | _ => none
theorem un_ok_relations_Set_Text_l0 : ∀ s x, un_relations_Set_Text_l0 s = some x → s = emb_relations_Set_Text_l0 x := by
  intro s x h
  unfold un_relations_Set_Text_l0 at h
  split at h
  · cases h; rfl
  · cases h
noncomputable def ax_relations_Set_Text_l0 : Ex → Ann := fun ex => match ex with
  | .exit 0 => ⟨[4], [1], 2, []⟩
  | _ => ⟨[], [], 0, []⟩
noncomputable def out_relations_Set_Text_l0 (y : List (List UInt8)) : Ex × St := (.exit 0, ⟨[(4, some (.ws 1))], [(1, .rows [.s] y)], 2, 0, 0, 0⟩)
noncomputable def outK_relations_Set_Text_l0 (α : Type) (y : List (List UInt8)) (k : Ex → St → Option α) : Option α := (k (.exit 0) ⟨[(4, some (.ws 1))], [(1, .rows [.s] y)], 2, 0, 0, 0⟩)
theorem outK_ok_relations_Set_Text_l0 : ∀ α y k, outK_relations_Set_Text_l0 α y k = k (out_relations_Set_Text_l0 y).1 (out_relations_Set_Text_l0 y).2 := by
  intro α y k
  rfl
noncomputable def ux_relations_Set_Text_l0 (ex : Ex) (s : St) : Option (List (List UInt8)) := match ex, s with
  | .exit 0, ⟨[(4, some (.ws 1))], [(1, .rows [.s] y0)], 2, 0, 0, 0⟩ => some y0
  | _, _ => none
theorem ux_ok_relations_Set_Text_l0 : ∀ ex s y, ux_relations_Set_Text_l0 ex s = some y → (ex, s) = out_relations_Set_Text_l0 y := by
  intro ex s y h
  unfold ux_relations_Set_Text_l0 at h
  split at h
  · cases h; rfl
  · cases h
noncomputable def Ls_relations_Set_Text (n : Nat) : List Sub := [subE 0 an_relations_Set_Text_l0 un_relations_Set_Text_l0 (fun x => iterL (relations_Set_Text_l0 n) n x) outK_relations_Set_Text_l0]
noncomputable def sac_relations_Set_Text_l0 : AC := getS (subs (acOf Tryd.f18)) 0
noncomputable def ac_relations_Set_Text_l0 : AC := AC.body sac_relations_Set_Text_l0
theorem subs_relations_Set_Text_l0 (n : Nat) : SubOK Tryd.prog 27 (Ls_relations_Set_Text n) ac_relations_Set_Text_l0 := SubOK_of _ (by
  have e : subs ac_relations_Set_Text_l0 = [] := by kernel_rfl
  rw [e]; intro p hp; cases hp)
theorem body_relations_Set_Text_l0 (n : Nat) : ∀ x, run Tryd.prog (Es_relations_Set_Text n) (Ls_relations_Set_Text n) 27 ac_relations_Set_Text_l0 (emb_relations_Set_Text_l0 x) (roundK an_relations_Set_Text_l0 un_relations_Set_Text_l0 ax_relations_Set_Text_l0 ux_relations_Set_Text_l0) = relations_Set_Text_l0 n x := fun _ => by kernel_rfl
theorem sub1_relations_Set_Text_l0 (n : Nat) : ∀ (α : Type) (s : St) (k : Ex → St → Option α) (z : α), (subE 0 an_relations_Set_Text_l0 un_relations_Set_Text_l0 (fun x => iterL (relations_Set_Text_l0 n) n x) outK_relations_Set_Text_l0).e α s k = some z → SemC Tryd.prog 27 (sac_relations_Set_Text_l0).code s fun ex s' => k ex s' = some z := by
  intro α s k z h
  have e : sac_relations_Set_Text_l0 = .loop ac_relations_Set_Text_l0 := by kernel_rfl
  rw [e]
  exact subE_ok (m := 0) (f := fun x => iterL (relations_Set_Text_l0 n) n x) (out := out_relations_Set_Text_l0) outK_ok_relations_Set_Text_l0 un_ok_relations_Set_Text_l0 (fun x y hy => loop_ok (Es_ok_relations_Set_Text n) (subs_relations_Set_Text_l0 n) un_ok_relations_Set_Text_l0 ux_ok_relations_Set_Text_l0 (body_relations_Set_Text_l0 n) n x y hy) h
theorem sub_relations_Set_Text_l0 (n : Nat) : SubSt Tryd.prog 27 (Ls_relations_Set_Text n) 0 sac_relations_Set_Text_l0 := fun α s k z => sub1_relations_Set_Text_l0 n α s k z
theorem subs_relations_Set_Text (n : Nat) : SubOK Tryd.prog 27 (Ls_relations_Set_Text n) (acOf Tryd.f18) := SubOK_of _ (by
  have e : subs (acOf Tryd.f18) = [(0, sac_relations_Set_Text_l0)] := by kernel_rfl
  rw [e]; intro p hp
  simp only [List.mem_cons, List.not_mem_nil, or_false] at hp
  · rw [hp]; exact sub_relations_Set_Text_l0 n
  )
theorem cert_relations_Set_Text (n : Nat) (a0 : Int) : run Tryd.prog (Es_relations_Set_Text n) (Ls_relations_Set_Text n) Tryd.f18.ntmps (acOf Tryd.f18) ⟨argsT [.i .u16 a0] 0, [], 0, 0, 0, 0⟩ (finK Tryd.prog Tryd.f18.results.toList (retX unr_relations_Set_Text)) = relations_Set_Text n a0 := by kernel_rfl
theorem pure_relations_Set_Text (n : Nat) : ∀ a r, relations_Set_Text n a = some r → PureOK Tryd.prog 18 (arg_relations_Set_Text a) (enc_relations_Set_Text r) := fun a r h => pureX_ok unr_ok_relations_Set_Text (Es_ok_relations_Set_Text n) Tryd.func18 rfl (acOf_code _) (subs_relations_Set_Text n) rfl ((cert_relations_Set_Text n a).trans h)
theorem ok_relations_Set_Text (n : Nat) : EntOK Tryd.prog (e_relations_Set_Text n) := pureE_ok Tryd.call18 una_ok_relations_Set_Text (fun _ => rfl) (pure_relations_Set_Text n)

noncomputable def e_ext_73 (_n : Nat) : Ent := countE 73
theorem ok_ext_73 (n : Nat) : EntOK Tryd.prog (e_ext_73 n) := countE_ok Tryd.func73 (by kernel_rfl) (by kernel_rfl) (by kernel_rfl) (by kernel_rfl)

/-! strings.Count -/
noncomputable def arg_strings_Count (a : List UInt8) : List V := [.s a, .s [44]]
noncomputable def una_strings_Count (l : List V) : Option (List UInt8) := match l with
  | [.s a0, .s [44]] => some a0
  | _ => none
theorem una_ok_strings_Count : ∀ l a, una_strings_Count l = some a → l = arg_strings_Count a := by
  intro l a h
  unfold una_strings_Count at h
  split at h
  · cases h; rfl
  · cases h
noncomputable def enc_strings_Count (r : Int) : V := .i .i64 r
noncomputable def unr_strings_Count (v : V) : Option (Int) := match v with
  | .i .i64 r0 => some r0
  | _ => none
theorem unr_ok_strings_Count : ∀ v r, unr_strings_Count v = some r → v = enc_strings_Count r := by
  intro v r h
  unfold unr_strings_Count at h
  split at h
  · cases h; rfl
  · cases h
noncomputable def e_strings_Count (n : Nat) : Ent := pureE 65 una_strings_Count (fun a => strings_Count n a) enc_strings_Count
noncomputable def t_strings_Count (l : List V) (_ : List (Nat × Blk)) : Bool := isS (una_strings_Count l)
noncomputable def Es_strings_Count (n : Nat) : List Ent := [e_ext_73 n]
theorem Es_ok_strings_Count (n : Nat) : ∀ x ∈ Es_strings_Count n, EntOK Tryd.prog x := by
  intro x hx
  simp only [Es_strings_Count, List.mem_cons, List.not_mem_nil, or_false] at hx
  · rw [hx]; exact ok_ext_73 n
noncomputable def Ls_strings_Count (_n : Nat) : List Sub := []
noncomputable def sac_strings_Count_l0 : AC := getS (subs (acOf Tryd.f65)) 0
theorem nosub_strings_Count_l0 (n : Nat) : SubSt Tryd.prog 34 (Ls_strings_Count n) 0 sac_strings_Count_l0 := by
  intro α s k z h
  simp [subOf, Ls_strings_Count, subE, altS, Nat.beq] at h
theorem subs_strings_Count (n : Nat) : SubOK Tryd.prog 34 (Ls_strings_Count n) (acOf Tryd.f65) := SubOK_of _ (by
  have e : subs (acOf Tryd.f65) = [(0, sac_strings_Count_l0)] := by kernel_rfl
  rw [e]; intro p hp
  simp only [List.mem_cons, List.not_mem_nil, or_false] at hp
  · rw [hp]; exact nosub_strings_Count_l0 n
  )
theorem cert_strings_Count (n : Nat) (a0 : List UInt8) : run Tryd.prog (Es_strings_Count n) (Ls_strings_Count n) Tryd.f65.ntmps (acOf Tryd.f65) ⟨argsT [.s a0, .s [44]] 0, [], 0, 0, 0, 0⟩ (finK Tryd.prog Tryd.f65.results.toList (retX unr_strings_Count)) = strings_Count n a0 := by kernel_rfl
theorem pure_strings_Count (n : Nat) : ∀ a r, strings_Count n a = some r → PureOK Tryd.prog 65 (arg_strings_Count a) (enc_strings_Count r) := fun a r h => pureX_ok unr_ok_strings_Count (Es_ok_strings_Count n) Tryd.func65 rfl (acOf_code _) (subs_strings_Count n) rfl ((cert_strings_Count n a).trans h)
theorem ok_strings_Count (n : Nat) : EntOK Tryd.prog (e_strings_Count n) := pureE_ok Tryd.call65 una_ok_strings_Count (fun _ => rfl) (pure_strings_Count n)

noncomputable def e_ext_80 (_n : Nat) : Ent := indexE 80
theorem ok_ext_80 (n : Nat) : EntOK Tryd.prog (e_ext_80 n) := indexE_ok Tryd.func80 (by kernel_rfl) (by kernel_rfl) (by kernel_rfl) (by kernel_rfl)

/-! internal/stringslite.IndexByte -/
noncomputable def arg_int_stringslite_IndexByte (a : List UInt8 × Int) : List V := [.s a.1, .i .u8 a.2]
noncomputable def una_int_stringslite_IndexByte (l : List V) : Option (List UInt8 × Int) := match l with
  | [.s a0, .i .u8 a1] => some (a0, a1)
  | _ => none
theorem una_ok_int_stringslite_IndexByte : ∀ l a, una_int_stringslite_IndexByte l = some a → l = arg_int_stringslite_IndexByte a := by
  intro l a h
  unfold una_int_stringslite_IndexByte at h
  split at h
  · cases h; rfl
  · cases h
noncomputable def enc_int_stringslite_IndexByte (r : Int) : V := .i .i64 r
noncomputable def unr_int_stringslite_IndexByte (v : V) : Option (Int) := match v with
  | .i .i64 r0 => some r0
  | _ => none
theorem unr_ok_int_stringslite_IndexByte : ∀ v r, unr_int_stringslite_IndexByte v = some r → v = enc_int_stringslite_IndexByte r := by
  intro v r h
  unfold unr_int_stringslite_IndexByte at h
  split at h
  · cases h; rfl
  · cases h
noncomputable def e_int_stringslite_IndexByte (n : Nat) : Ent := pureE 76 una_int_stringslite_IndexByte (fun a => int_stringslite_IndexByte n a.1 a.2) enc_int_stringslite_IndexByte
noncomputable def t_int_stringslite_IndexByte (l : List V) (_ : List (Nat × Blk)) : Bool := isS (una_int_stringslite_IndexByte l)
noncomputable def Es_int_stringslite_IndexByte (n : Nat) : List Ent := [e_ext_80 n]
theorem Es_ok_int_stringslite_IndexByte (n : Nat) : ∀ x ∈ Es_int_stringslite_IndexByte n, EntOK Tryd.prog x := by
  intro x hx
  simp only [Es_int_stringslite_IndexByte, List.mem_cons, List.not_mem_nil, or_false] at hx
  · rw [hx]; exact ok_ext_80 n
noncomputable def Ls_int_stringslite_IndexByte (_n : Nat) : List Sub := []
theorem subs_int_stringslite_IndexByte (n : Nat) : SubOK Tryd.prog 8 (Ls_int_stringslite_IndexByte n) (acOf Tryd.f76) := SubOK_of _ (by
  have e : subs (acOf Tryd.f76) = [] := by kernel_rfl
  rw [e]; intro p hp; cases hp)
theorem cert_int_stringslite_IndexByte (n : Nat) (a0 : List UInt8) (a1 : Int) : run Tryd.prog (Es_int_stringslite_IndexByte n) (Ls_int_stringslite_IndexByte n) Tryd.f76.ntmps (acOf Tryd.f76) ⟨argsT [.s a0, .i .u8 a1] 0, [], 0, 0, 0, 0⟩ (finK Tryd.prog Tryd.f76.results.toList (retX unr_int_stringslite_IndexByte)) = int_stringslite_IndexByte n a0 a1 := by kernel_rfl
theorem pure_int_stringslite_IndexByte (n : Nat) : ∀ a r, int_stringslite_IndexByte n a.1 a.2 = some r → PureOK Tryd.prog 76 (arg_int_stringslite_IndexByte a) (enc_int_stringslite_IndexByte r) := fun a r h => pureX_ok unr_ok_int_stringslite_IndexByte (Es_ok_int_stringslite_IndexByte n) Tryd.func76 rfl (acOf_code _) (subs_int_stringslite_IndexByte n) rfl ((cert_int_stringslite_IndexByte n a.1 a.2).trans h)
theorem ok_int_stringslite_IndexByte (n : Nat) : EntOK Tryd.prog (e_int_stringslite_IndexByte n) := pureE_ok Tryd.call76 una_ok_int_stringslite_IndexByte (fun _ => rfl) (pure_int_stringslite_IndexByte n)

/-! internal/stringslite.Index -/
noncomputable def arg_int_stringslite_Index (a : List UInt8) : List V := [.s a, .s [44]]
noncomputable def una_int_stringslite_Index (l : List V) : Option (List UInt8) := match l with
  | [.s a0, .s [44]] => some a0
  | _ => none
theorem una_ok_int_stringslite_Index : ∀ l a, una_int_stringslite_Index l = some a → l = arg_int_stringslite_Index a := by
  intro l a h
  unfold una_int_stringslite_Index at h
  split at h
  · cases h; rfl
  · cases h
noncomputable def enc_int_stringslite_Index (r : Int) : V := .i .i64 r
noncomputable def unr_int_stringslite_Index (v : V) : Option (Int) := match v with
  | .i .i64 r0 => some r0
  | _ => none
theorem unr_ok_int_stringslite_Index : ∀ v r, unr_int_stringslite_Index v = some r → v = enc_int_stringslite_Index r := by
  intro v r h
  unfold unr_int_stringslite_Index at h
  split at h
  · cases h; rfl
  · cases h
noncomputable def e_int_stringslite_Index (n : Nat) : Ent := pureE 74 una_int_stringslite_Index (fun a => int_stringslite_Index n a) enc_int_stringslite_Index
noncomputable def t_int_stringslite_Index (l : List V) (_ : List (Nat × Blk)) : Bool := isS (una_int_stringslite_Index l)
noncomputable def Es_int_stringslite_Index (n : Nat) : List Ent := [e_int_stringslite_IndexByte n]
theorem Es_ok_int_stringslite_Index (n : Nat) : ∀ x ∈ Es_int_stringslite_Index n, EntOK Tryd.prog x := by
  intro x hx
  simp only [Es_int_stringslite_Index, List.mem_cons, List.not_mem_nil, or_false] at hx
  · rw [hx]; exact ok_int_stringslite_IndexByte n
noncomputable def Ls_int_stringslite_Index (_n : Nat) : List Sub := []
noncomputable def sac_int_stringslite_Index_l0 : AC := getS (subs (acOf Tryd.f74)) 0
theorem nosub_int_stringslite_Index_l0 (n : Nat) : SubSt Tryd.prog 143 (Ls_int_stringslite_Index n) 0 sac_int_stringslite_Index_l0 := by
  intro α s k z h
  simp [subOf, Ls_int_stringslite_Index, subE, altS, Nat.beq] at h
theorem subs_int_stringslite_Index (n : Nat) : SubOK Tryd.prog 143 (Ls_int_stringslite_Index n) (acOf Tryd.f74) := SubOK_of _ (by
  have e : subs (acOf Tryd.f74) = [(0, sac_int_stringslite_Index_l0)] := by kernel_rfl
  rw [e]; intro p hp
  simp only [List.mem_cons, List.not_mem_nil, or_false] at hp
  · rw [hp]; exact nosub_int_stringslite_Index_l0 n
  )
theorem cert_int_stringslite_Index (n : Nat) (a0 : List UInt8) : run Tryd.prog (Es_int_stringslite_Index n) (Ls_int_stringslite_Index n) Tryd.f74.ntmps (acOf Tryd.f74) ⟨argsT [.s a0, .s [44]] 0, [], 0, 0, 0, 0⟩ (finK Tryd.prog Tryd.f74.results.toList (retX unr_int_stringslite_Index)) = int_stringslite_Index n a0 := by kernel_rfl
theorem pure_int_stringslite_Index (n : Nat) : ∀ a r, int_stringslite_Index n a = some r → PureOK Tryd.prog 74 (arg_int_stringslite_Index a) (enc_int_stringslite_Index r) := fun a r h => pureX_ok unr_ok_int_stringslite_Index (Es_ok_int_stringslite_Index n) Tryd.func74 rfl (acOf_code _) (subs_int_stringslite_Index n) rfl ((cert_int_stringslite_Index n a).trans h)
theorem ok_int_stringslite_Index (n : Nat) : EntOK Tryd.prog (e_int_stringslite_Index n) := pureE_ok Tryd.call74 una_ok_int_stringslite_Index (fun _ => rfl) (pure_int_stringslite_Index n)

/-! strings.Index -/
noncomputable def arg_strings_Index (a : List UInt8) : List V := [.s a, .s [44]]
noncomputable def una_strings_Index (l : List V) : Option (List UInt8) := match l with
  | [.s a0, .s [44]] => some a0
  | _ => none
theorem una_ok_strings_Index : ∀ l a, una_strings_Index l = some a → l = arg_strings_Index a := by
  intro l a h
  unfold una_strings_Index at h
  split at h
  · cases h; rfl
  · cases h
noncomputable def enc_strings_Index (r : Int) : V := .i .i64 r
noncomputable def unr_strings_Index (v : V) : Option (Int) := match v with
  | .i .i64 r0 => some r0
  | _ => none
theorem unr_ok_strings_Index : ∀ v r, unr_strings_Index v = some r → v = enc_strings_Index r := by
  intro v r h
  unfold unr_strings_Index at h
  split at h
  · cases h; rfl
  · cases h
noncomputable def e_strings_Index (n : Nat) : Ent := pureE 66 una_strings_Index (fun a => strings_Index n a) enc_strings_Index
noncomputable def t_strings_Index (l : List V) (_ : List (Nat × Blk)) : Bool := isS (una_strings_Index l)
noncomputable def Es_strings_Index (n : Nat) : List Ent := [e_int_stringslite_Index n]
theorem Es_ok_strings_Index (n : Nat) : ∀ x ∈ Es_strings_Index n, EntOK Tryd.prog x := by
  intro x hx
  simp only [Es_strings_Index, List.mem_cons, List.not_mem_nil, or_false] at hx
  · rw [hx]; exact ok_int_stringslite_Index n
noncomputable def Ls_strings_Index (_n : Nat) : List Sub := []
theorem subs_strings_Index (n : Nat) : SubOK Tryd.prog 8 (Ls_strings_Index n) (acOf Tryd.f66) := SubOK_of _ (by
  have e : subs (acOf Tryd.f66) = [] := by kernel_rfl
  rw [e]; intro p hp; cases hp)
theorem cert_strings_Index (n : Nat) (a0 : List UInt8) : run Tryd.prog (Es_strings_Index n) (Ls_strings_Index n) Tryd.f66.ntmps (acOf Tryd.f66) ⟨argsT [.s a0, .s [44]] 0, [], 0, 0, 0, 0⟩ (finK Tryd.prog Tryd.f66.results.toList (retX unr_strings_Index)) = strings_Index n a0 := by kernel_rfl
theorem pure_strings_Index (n : Nat) : ∀ a r, strings_Index n a = some r → PureOK Tryd.prog 66 (arg_strings_Index a) (enc_strings_Index r) := fun a r h => pureX_ok unr_ok_strings_Index (Es_ok_strings_Index n) Tryd.func66 rfl (acOf_code _) (subs_strings_Index n) rfl ((cert_strings_Index n a).trans h)
theorem ok_strings_Index (n : Nat) : EntOK Tryd.prog (e_strings_Index n) := pureE_ok Tryd.call66 una_ok_strings_Index (fun _ => rfl) (pure_strings_Index n)

/-! strings.genSplit -/
noncomputable def arg_strings_genSplit (a : List UInt8 × Int × Int) : List V := [.s a.1, .s [44], .i .i64 a.2.1, .i .i64 a.2.2]
noncomputable def H0_strings_genSplit (a : List UInt8 × Int × Int) : List (Nat × Blk) := []
noncomputable def una_strings_genSplit (l : List V) (H : List (Nat × Blk)) : Option ((List UInt8 × Int × Int) × List Nat) := match l with
  | [.s a0, .s [44], .i .i64 a1, .i .i64 a2] => (cond (Abs.distinct [] && true) (some ((a0, a1, a2), [])) none)
  | _ => none
theorem una_ok_strings_genSplit : ∀ l H a ρ, una_strings_genSplit l H = some (a, ρ) → ρ.length = 0 ∧ ρ.Nodup ∧ l = V.rens ρ (arg_strings_genSplit a) ∧ ∀ b blk, Abs.look (H0_strings_genSplit a) b = some blk → Abs.look H (getN ρ b) = some (blk.ren ρ) := by
  intro l H a ρ h
  unfold una_strings_genSplit at h
  split at h
  · obtain ⟨hd, h⟩ := cond_some h
    simp only [Bool.and_eq_true] at hd
    obtain ⟨hd, _⟩ := hd
    cases h
    exact ⟨rfl, distinct_ok hd, rfl, eachH_look trivial⟩
  · cases h
noncomputable def out_strings_genSplit (r : Unit ⊕ (Nat × List (List UInt8))) : FOut := (Sum.casesOn (motive := fun _ => FOut) r (fun a0 => (⟨false, .sn, [], []⟩ : FOut)) (fun b0 => (⟨false, .rs 1 0 0 b0.1 none, [(0, .rows [.s] b0.2)], [0]⟩ : FOut)))
noncomputable def outK_strings_genSplit (α : Type) (r : Unit ⊕ (Nat × List (List UInt8))) (k : FOut → Option α) : Option α := (Sum.casesOn (motive := fun _ => Option α) r (fun a0 => (k ⟨false, .sn, [], []⟩)) (fun b0 => (k ⟨false, .rs 1 0 0 b0.1 none, [(0, .rows [.s] b0.2)], [0]⟩)))
theorem outK_ok_strings_genSplit : ∀ α r k, outK_strings_genSplit α r k = k (out_strings_genSplit r) := by
  intro α r k
  rcases r with r | r <;> rfl
noncomputable def unr_strings_genSplit (pan : Bool) (v : V) (H : List (Nat × Blk)) (nw : List Nat) : Option (Unit ⊕ (Nat × List (List UInt8))) := match pan, v, H, nw with
  | false, .sn, [], [] => some (.inl ())
  | false, .rs 1 0 0 r0 none, [(0, .rows [.s] r1)], [0] => some (.inr (r0, r1))
  | _, _, _, _ => none
theorem unr_ok_strings_genSplit : ∀ pan v H nw r, unr_strings_genSplit pan v H nw = some r → (out_strings_genSplit r).pan = pan ∧ (out_strings_genSplit r).news = nw ∧ v = V.ren (upTo 0 0 ++ (out_strings_genSplit r).news) (out_strings_genSplit r).val ∧ H = renH (upTo 0 0 ++ (out_strings_genSplit r).news) (out_strings_genSplit r).H := by
  intro pan v H nw r h
  unfold unr_strings_genSplit at h
  split at h
  · cases h; exact ⟨rfl, rfl, rfl, rfl⟩
  · cases h; exact ⟨rfl, rfl, rfl, rfl⟩
  · cases h
theorem hv_strings_genSplit : ∀ r, V.lt (0 + (out_strings_genSplit r).news.length) (out_strings_genSplit r).val = true := fun r => (by rcases r with r | r <;> rfl)
theorem hc_strings_genSplit : ∀ r, chkH (0 + (out_strings_genSplit r).news.length) (out_strings_genSplit r).H = true := fun r => (by rcases r with r | r <;> rfl)
theorem hk_strings_genSplit : ∀ r, hasKeys (out_strings_genSplit r).H 0 (0 + (out_strings_genSplit r).news.length) = true := fun r => (by rcases r with r | r <;> rfl)
noncomputable def e_strings_genSplit (n : Nat) : Ent := funE 58 0 una_strings_genSplit (fun a => strings_genSplit n a.1 a.2.1 a.2.2) outK_strings_genSplit
noncomputable def t_strings_genSplit (l : List V) (H : List (Nat × Blk)) : Bool := isS (una_strings_genSplit l H)
noncomputable def Es_strings_genSplit (n : Nat) : List Ent := [e_strings_Count n, e_strings_Index n]
theorem Es_ok_strings_genSplit (n : Nat) : ∀ x ∈ Es_strings_genSplit n, EntOK Tryd.prog x := by
  intro x hx
  simp only [Es_strings_genSplit, List.mem_cons, List.not_mem_nil, or_false] at hx
  rcases hx with hx | hx
  · rw [hx]; exact ok_strings_Count n
  · rw [hx]; exact ok_strings_Index n
noncomputable def an_strings_genSplit_l0 : Ann := ⟨[0, 1, 2, 3, 9, 10], [0], 1, []⟩
noncomputable def emb_strings_genSplit_l0 (x : List UInt8 × Int × Int × Int × List (List UInt8)) : St := ⟨[(0, some (.s x.1)), (1, some (.s [44])), (2, some (.i .i64 x.2.1)), (3, some (.i .i64 x.2.2.1)), (9, some (.ws 0)), (10, some (.i .i64 x.2.2.2.1))], [(0, .rows [.s] x.2.2.2.2)], 1, 0, 0, 0⟩
noncomputable def un_strings_genSplit_l0 (s : St) : Option (List UInt8 × Int × Int × Int × List (List UInt8)) := match s with
  | ⟨[(0, some (.s x0)), (1, some (.s [44])), (2, some (.i .i64 x1)), (3, some (.i .i64 x2)), (9, some (.ws 0)), (10, some (.i .i64 x3))], [(0, .rows [.s] x4)], 1, 0, 0, 0⟩ => some (x0, x1, x2, x3, x4)
  | _ => none
theorem un_ok_strings_genSplit_l0 : ∀ s x, un_strings_genSplit_l0 s = some x → s = emb_strings_genSplit_l0 x := by
  intro s x h
  unfold un_strings_genSplit_l0 at h
  split at h
  · cases h; rfl
  · cases h
noncomputable def ax_strings_genSplit_l0 : Ex → Ann := fun ex => match ex with
  | .exit 0 => ⟨[0, 9, 10], [0], 1, []⟩
  | _ => ⟨[], [], 0, []⟩
noncomputable def out_strings_genSplit_l0 (y : (List UInt8 × Int × List (List UInt8))) : Ex × St := (.exit 0, ⟨[(0, some (.s y.1)), (9, some (.ws 0)), (10, some (.i .i64 y.2.1))], [(0, .rows [.s] y.2.2)], 1, 0, 0, 0⟩)
noncomputable def outK_strings_genSplit_l0 (α : Type) (y : (List UInt8 × Int × List (List UInt8))) (k : Ex → St → Option α) : Option α := (k (.exit 0) ⟨[(0, some (.s y.1)), (9, some (.ws 0)), (10, some (.i .i64 y.2.1))], [(0, .rows [.s] y.2.2)], 1, 0, 0, 0⟩)
theorem outK_ok_strings_genSplit_l0 : ∀ α y k, outK_strings_genSplit_l0 α y k = k (out_strings_genSplit_l0 y).1 (out_strings_genSplit_l0 y).2 := by
  intro α y k
  rfl
noncomputable def ux_strings_genSplit_l0 (ex : Ex) (s : St) : Option ((List UInt8 × Int × List (List UInt8))) := match ex, s with
  | .exit 0, ⟨[(0, some (.s y0)), (9, some (.ws 0)), (10, some (.i .i64 y1))], [(0, .rows [.s] y2)], 1, 0, 0, 0⟩ => some (y0, y1, y2)
  | _, _ => none
theorem ux_ok_strings_genSplit_l0 : ∀ ex s y, ux_strings_genSplit_l0 ex s = some y → (ex, s) = out_strings_genSplit_l0 y := by
  intro ex s y h
  unfold ux_strings_genSplit_l0 at h
  split at h
  · cases h; rfl
  · cases h
noncomputable def Ls_strings_genSplit (n : Nat) : List Sub := [subE 0 an_strings_genSplit_l0 un_strings_genSplit_l0 (fun x => iterL (strings_genSplit_l0 n) n x) outK_strings_genSplit_l0]
noncomputable def sac_strings_genSplit_l0 : AC := getS (subs (acOf Tryd.f58)) 0
noncomputable def ac_strings_genSplit_l0 : AC := AC.body sac_strings_genSplit_l0
theorem subs_strings_genSplit_l0 (n : Nat) : SubOK Tryd.prog 66 (Ls_strings_genSplit n) ac_strings_genSplit_l0 := SubOK_of _ (by
  have e : subs ac_strings_genSplit_l0 = [] := by kernel_rfl
  rw [e]; intro p hp; cases hp)
theorem body_strings_genSplit_l0 (n : Nat) : ∀ x, run Tryd.prog (Es_strings_genSplit n) (Ls_strings_genSplit n) 66 ac_strings_genSplit_l0 (emb_strings_genSplit_l0 x) (roundK an_strings_genSplit_l0 un_strings_genSplit_l0 ax_strings_genSplit_l0 ux_strings_genSplit_l0) = strings_genSplit_l0 n x := fun _ => by kernel_rfl
theorem sub1_strings_genSplit_l0 (n : Nat) : ∀ (α : Type) (s : St) (k : Ex → St → Option α) (z : α), (subE 0 an_strings_genSplit_l0 un_strings_genSplit_l0 (fun x => iterL (strings_genSplit_l0 n) n x) outK_strings_genSplit_l0).e α s k = some z → SemC Tryd.prog 66 (sac_strings_genSplit_l0).code s fun ex s' => k ex s' = some z := by
  intro α s k z h
  have e : sac_strings_genSplit_l0 = .loop ac_strings_genSplit_l0 := by kernel_rfl
  rw [e]
  exact subE_ok (m := 0) (f := fun x => iterL (strings_genSplit_l0 n) n x) (out := out_strings_genSplit_l0) outK_ok_strings_genSplit_l0 un_ok_strings_genSplit_l0 (fun x y hy => loop_ok (Es_ok_strings_genSplit n) (subs_strings_genSplit_l0 n) un_ok_strings_genSplit_l0 ux_ok_strings_genSplit_l0 (body_strings_genSplit_l0 n) n x y hy) h
theorem sub_strings_genSplit_l0 (n : Nat) : SubSt Tryd.prog 66 (Ls_strings_genSplit n) 0 sac_strings_genSplit_l0 := fun α s k z => sub1_strings_genSplit_l0 n α s k z
theorem subs_strings_genSplit (n : Nat) : SubOK Tryd.prog 66 (Ls_strings_genSplit n) (acOf Tryd.f58) := SubOK_of _ (by
  have e : subs (acOf Tryd.f58) = [(0, sac_strings_genSplit_l0)] := by kernel_rfl
  rw [e]; intro p hp
  simp only [List.mem_cons, List.not_mem_nil, or_false] at hp
  · rw [hp]; exact sub_strings_genSplit_l0 n
  )
theorem cert_strings_genSplit (n : Nat) (a0 : List UInt8) (a1 : Int) (a2 : Int) : run Tryd.prog (Es_strings_genSplit n) (Ls_strings_genSplit n) Tryd.f58.ntmps (acOf Tryd.f58) ⟨argsT [.s a0, .s [44], .i .i64 a1, .i .i64 a2] 0, [], 0, 0, 0, 0⟩ (finK Tryd.prog Tryd.f58.results.toList (funX [] 0 0 0 unr_strings_genSplit)) = strings_genSplit n a0 a1 a2 := by kernel_rfl
theorem fun_strings_genSplit (n : Nat) : ∀ a r, strings_genSplit n a.1 a.2.1 a.2.2 = some r → FunOK Tryd.prog 58 (arg_strings_genSplit a) (H0_strings_genSplit a) 0 0 0 (out_strings_genSplit r) := fun a r h => funX_ok (ws := []) unr_ok_strings_genSplit hv_strings_genSplit (fun r b blk hl => (chkH_look (hc_strings_genSplit r) b blk hl).2) (fun r => chkH_keys (hc_strings_genSplit r)) (by decide) (Es_ok_strings_genSplit n) Tryd.func58 rfl (acOf_code _) (subs_strings_genSplit n) rfl rfl ((cert_strings_genSplit n a.1 a.2.1 a.2.2).trans h)
theorem ok_strings_genSplit (n : Nat) : EntOK Tryd.prog (e_strings_genSplit n) := funE_ok (m := 0) (ro := 0) (rb := 0) (out := out_strings_genSplit) (arg := arg_strings_genSplit) (H0 := H0_strings_genSplit) Tryd.call58 (by decide) (by decide) outK_ok_strings_genSplit una_ok_strings_genSplit (fun _ => rfl) (fun a => chkH_look (m := 0) (H := H0_strings_genSplit a) rfl) (fun _ => rfl) (fun r => chkH_keys (hc_strings_genSplit r)) (fun r b blk h => (chkH_look (hc_strings_genSplit r) b blk h).2) (fun r b h1 h2 => hasKeys_ok (hk_strings_genSplit r) b h1 (by omega)) hv_strings_genSplit (fun_strings_genSplit n)

/-! strings.Split -/
noncomputable def arg_strings_Split (a : List UInt8) : List V := [.s a, .s [44]]
noncomputable def H0_strings_Split (a : List UInt8) : List (Nat × Blk) := []
noncomputable def una_strings_Split (l : List V) (H : List (Nat × Blk)) : Option ((List UInt8) × List Nat) := match l with
  | [.s a0, .s [44]] => (cond (Abs.distinct [] && true) (some (a0, [])) none)
  | _ => none
theorem una_ok_strings_Split : ∀ l H a ρ, una_strings_Split l H = some (a, ρ) → ρ.length = 0 ∧ ρ.Nodup ∧ l = V.rens ρ (arg_strings_Split a) ∧ ∀ b blk, Abs.look (H0_strings_Split a) b = some blk → Abs.look H (getN ρ b) = some (blk.ren ρ) := by
  intro l H a ρ h
  unfold una_strings_Split at h
  split at h
  · obtain ⟨hd, h⟩ := cond_some h
    simp only [Bool.and_eq_true] at hd
    obtain ⟨hd, _⟩ := hd
    cases h
    exact ⟨rfl, distinct_ok hd, rfl, eachH_look trivial⟩
  · cases h
noncomputable def out_strings_Split (r : Unit ⊕ (Nat × List (List UInt8))) : FOut := (Sum.casesOn (motive := fun _ => FOut) r (fun a0 => (⟨false, .sn, [], []⟩ : FOut)) (fun b0 => (⟨false, .rs 1 0 0 b0.1 none, [(0, .rows [.s] b0.2)], [0]⟩ : FOut)))
noncomputable def outK_strings_Split (α : Type) (r : Unit ⊕ (Nat × List (List UInt8))) (k : FOut → Option α) : Option α := (Sum.casesOn (motive := fun _ => Option α) r (fun a0 => (k ⟨false, .sn, [], []⟩)) (fun b0 => (k ⟨false, .rs 1 0 0 b0.1 none, [(0, .rows [.s] b0.2)], [0]⟩)))
theorem outK_ok_strings_Split : ∀ α r k, outK_strings_Split α r k = k (out_strings_Split r) := by
  intro α r k
  rcases r with r | r <;> rfl
noncomputable def unr_strings_Split (pan : Bool) (v : V) (H : List (Nat × Blk)) (nw : List Nat) : Option (Unit ⊕ (Nat × List (List UInt8))) := match pan, v, H, nw with
  | false, .sn, [], [] => some (.inl ())
  | false, .rs 1 0 0 r0 none, [(0, .rows [.s] r1)], [0] => some (.inr (r0, r1))
  | _, _, _, _ => none
theorem unr_ok_strings_Split : ∀ pan v H nw r, unr_strings_Split pan v H nw = some r → (out_strings_Split r).pan = pan ∧ (out_strings_Split r).news = nw ∧ v = V.ren (upTo 0 0 ++ (out_strings_Split r).news) (out_strings_Split r).val ∧ H = renH (upTo 0 0 ++ (out_strings_Split r).news) (out_strings_Split r).H := by
  intro pan v H nw r h
  unfold unr_strings_Split at h
  split at h
  · cases h; exact ⟨rfl, rfl, rfl, rfl⟩
  · cases h; exact ⟨rfl, rfl, rfl, rfl⟩
  · cases h
theorem hv_strings_Split : ∀ r, V.lt (0 + (out_strings_Split r).news.length) (out_strings_Split r).val = true := fun r => (by rcases r with r | r <;> rfl)
theorem hc_strings_Split : ∀ r, chkH (0 + (out_strings_Split r).news.length) (out_strings_Split r).H = true := fun r => (by rcases r with r | r <;> rfl)
theorem hk_strings_Split : ∀ r, hasKeys (out_strings_Split r).H 0 (0 + (out_strings_Split r).news.length) = true := fun r => (by rcases r with r | r <;> rfl)
noncomputable def e_strings_Split (n : Nat) : Ent := funE 43 0 una_strings_Split (fun a => strings_Split n a) outK_strings_Split
noncomputable def t_strings_Split (l : List V) (H : List (Nat × Blk)) : Bool := isS (una_strings_Split l H)
noncomputable def Es_strings_Split (n : Nat) : List Ent := [e_strings_genSplit n]
theorem Es_ok_strings_Split (n : Nat) : ∀ x ∈ Es_strings_Split n, EntOK Tryd.prog x := by
  intro x hx
  simp only [Es_strings_Split, List.mem_cons, List.not_mem_nil, or_false] at hx
  · rw [hx]; exact ok_strings_genSplit n
noncomputable def Ls_strings_Split (_n : Nat) : List Sub := []
theorem subs_strings_Split (n : Nat) : SubOK Tryd.prog 8 (Ls_strings_Split n) (acOf Tryd.f43) := SubOK_of _ (by
  have e : subs (acOf Tryd.f43) = [] := by kernel_rfl
  rw [e]; intro p hp; cases hp)
theorem cert_strings_Split (n : Nat) (a0 : List UInt8) : run Tryd.prog (Es_strings_Split n) (Ls_strings_Split n) Tryd.f43.ntmps (acOf Tryd.f43) ⟨argsT [.s a0, .s [44]] 0, [], 0, 0, 0, 0⟩ (finK Tryd.prog Tryd.f43.results.toList (funX [] 0 0 0 unr_strings_Split)) = strings_Split n a0 := by kernel_rfl
theorem fun_strings_Split (n : Nat) : ∀ a r, strings_Split n a = some r → FunOK Tryd.prog 43 (arg_strings_Split a) (H0_strings_Split a) 0 0 0 (out_strings_Split r) := fun a r h => funX_ok (ws := []) unr_ok_strings_Split hv_strings_Split (fun r b blk hl => (chkH_look (hc_strings_Split r) b blk hl).2) (fun r => chkH_keys (hc_strings_Split r)) (by decide) (Es_ok_strings_Split n) Tryd.func43 rfl (acOf_code _) (subs_strings_Split n) rfl rfl ((cert_strings_Split n a).trans h)
theorem ok_strings_Split (n : Nat) : EntOK Tryd.prog (e_strings_Split n) := funE_ok (m := 0) (ro := 0) (rb := 0) (out := out_strings_Split) (arg := arg_strings_Split) (H0 := H0_strings_Split) Tryd.call43 (by decide) (by decide) outK_ok_strings_Split una_ok_strings_Split (fun _ => rfl) (fun a => chkH_look (m := 0) (H := H0_strings_Split a) rfl) (fun _ => rfl) (fun r => chkH_keys (hc_strings_Split r)) (fun r b blk h => (chkH_look (hc_strings_Split r) b blk h).2) (fun r b h1 h2 => hasKeys_ok (hk_strings_Split r) b h1 (by omega)) hv_strings_Split (fun_strings_Split n)

/-! slices.Index[[]string,string] -/
noncomputable def arg_slices_Index_string_string (a : List UInt8 × List UInt8 × List UInt8 × List UInt8 × List UInt8 × List UInt8 × List UInt8 × List UInt8 × List UInt8 × List UInt8 × List UInt8 × List UInt8 × List UInt8 × List UInt8 × List UInt8) : List V := [.sl 0 1 13 (some 13), .s a.1]
noncomputable def H0_slices_Index_string_string (a : List UInt8 × List UInt8 × List UInt8 × List UInt8 × List UInt8 × List UInt8 × List UInt8 × List UInt8 × List UInt8 × List UInt8 × List UInt8 × List UInt8 × List UInt8 × List UInt8 × List UInt8) : List (Nat × Blk) := [(0, .cells [.s a.2.1, .s a.2.2.1, .s a.2.2.2.1, .s a.2.2.2.2.1, .s a.2.2.2.2.2.1, .s a.2.2.2.2.2.2.1, .s a.2.2.2.2.2.2.2.1, .s a.2.2.2.2.2.2.2.2.1, .s a.2.2.2.2.2.2.2.2.2.1, .s a.2.2.2.2.2.2.2.2.2.2.1, .s a.2.2.2.2.2.2.2.2.2.2.2.1, .s a.2.2.2.2.2.2.2.2.2.2.2.2.1, .s a.2.2.2.2.2.2.2.2.2.2.2.2.2.1, .s a.2.2.2.2.2.2.2.2.2.2.2.2.2.2])]
noncomputable def una_slices_Index_string_string (l : List V) (H : List (Nat × Blk)) : Option ((List UInt8 × List UInt8 × List UInt8 × List UInt8 × List UInt8 × List UInt8 × List UInt8 × List UInt8 × List UInt8 × List UInt8 × List UInt8 × List UInt8 × List UInt8 × List UInt8 × List UInt8) × List Nat) := match l with
  | [.sl b0 1 13 (some 13), .s a0] => (match Abs.look H b0 with
    | some (.cells [.s a1, .s a2, .s a3, .s a4, .s a5, .s a6, .s a7, .s a8, .s a9, .s a10, .s a11, .s a12, .s a13, .s a14]) => (cond (Abs.distinct [b0] && true) (some ((a0, a1, a2, a3, a4, a5, a6, a7, a8, a9, a10, a11, a12, a13, a14), [b0])) none)
    | _ => none)
  | _ => none
theorem una_ok_slices_Index_string_string : ∀ l H a ρ, una_slices_Index_string_string l H = some (a, ρ) → ρ.length = 1 ∧ ρ.Nodup ∧ l = V.rens ρ (arg_slices_Index_string_string a) ∧ ∀ b blk, Abs.look (H0_slices_Index_string_string a) b = some blk → Abs.look H (getN ρ b) = some (blk.ren ρ) := by
  intro l H a ρ h
  unfold una_slices_Index_string_string at h
  split at h
  · split at h
    · rename_i e0
      obtain ⟨hd, h⟩ := cond_some h
      simp only [Bool.and_eq_true] at hd
      obtain ⟨hd, _⟩ := hd
      cases h
      exact ⟨rfl, distinct_ok hd, rfl, eachH_look ⟨e0, trivial⟩⟩
    · cases h
  · cases h
noncomputable def out_slices_Index_string_string (r : Int) : FOut := (⟨false, .i .i64 r, [], []⟩ : FOut)
noncomputable def outK_slices_Index_string_string (α : Type) (r : Int) (k : FOut → Option α) : Option α := (k ⟨false, .i .i64 r, [], []⟩)
theorem outK_ok_slices_Index_string_string : ∀ α r k, outK_slices_Index_string_string α r k = k (out_slices_Index_string_string r) := by
  intro α r k
  rfl
noncomputable def unr_slices_Index_string_string (pan : Bool) (v : V) (H : List (Nat × Blk)) (nw : List Nat) : Option (Int) := match pan, v, H, nw with
  | false, .i .i64 r0, [], [] => some r0
  | _, _, _, _ => none
theorem unr_ok_slices_Index_string_string : ∀ pan v H nw r, unr_slices_Index_string_string pan v H nw = some r → (out_slices_Index_string_string r).pan = pan ∧ (out_slices_Index_string_string r).news = nw ∧ v = V.ren (upTo 0 1 ++ (out_slices_Index_string_string r).news) (out_slices_Index_string_string r).val ∧ H = renH (upTo 0 1 ++ (out_slices_Index_string_string r).news) (out_slices_Index_string_string r).H := by
  intro pan v H nw r h
  unfold unr_slices_Index_string_string at h
  split at h
  · cases h; exact ⟨rfl, rfl, rfl, rfl⟩
  · cases h
theorem hv_slices_Index_string_string : ∀ r, V.lt (1 + (out_slices_Index_string_string r).news.length) (out_slices_Index_string_string r).val = true := fun r => (by rfl)
theorem hc_slices_Index_string_string : ∀ r, chkH (1 + (out_slices_Index_string_string r).news.length) (out_slices_Index_string_string r).H = true := fun r => (by rfl)
theorem hk_slices_Index_string_string : ∀ r, hasKeys (out_slices_Index_string_string r).H 1 (0 + (out_slices_Index_string_string r).news.length) = true := fun r => (by rfl)
noncomputable def e_slices_Index_string_string (n : Nat) : Ent := funE 44 1 una_slices_Index_string_string (fun a => slices_Index_string_string n a.1 a.2.1 a.2.2.1 a.2.2.2.1 a.2.2.2.2.1 a.2.2.2.2.2.1 a.2.2.2.2.2.2.1 a.2.2.2.2.2.2.2.1 a.2.2.2.2.2.2.2.2.1 a.2.2.2.2.2.2.2.2.2.1 a.2.2.2.2.2.2.2.2.2.2.1 a.2.2.2.2.2.2.2.2.2.2.2.1 a.2.2.2.2.2.2.2.2.2.2.2.2.1 a.2.2.2.2.2.2.2.2.2.2.2.2.2.1 a.2.2.2.2.2.2.2.2.2.2.2.2.2.2) outK_slices_Index_string_string
noncomputable def t_slices_Index_string_string (l : List V) (H : List (Nat × Blk)) : Bool := isS (una_slices_Index_string_string l H)
noncomputable def Es_slices_Index_string_string (_n : Nat) : List Ent := []
theorem Es_ok_slices_Index_string_string (n : Nat) : ∀ x ∈ Es_slices_Index_string_string n, EntOK Tryd.prog x := by
  intro x hx
  simp [Es_slices_Index_string_string] at hx
noncomputable def an_slices_Index_string_string_l0 : Ann := ⟨[0, 1, 7, 8], [0], 1, []⟩
noncomputable def emb_slices_Index_string_string_l0 (x : List UInt8 × Int × Int × List UInt8 × List UInt8 × List UInt8 × List UInt8 × List UInt8 × List UInt8 × List UInt8 × List UInt8 × List UInt8 × List UInt8 × List UInt8 × List UInt8 × List UInt8 × List UInt8) : St := ⟨[(0, some (.sl 0 1 13 (some 13))), (1, some (.s x.1)), (7, some (.i .i64 x.2.1)), (8, some (.i .i64 x.2.2.1))], [(0, .cells [.s x.2.2.2.1, .s x.2.2.2.2.1, .s x.2.2.2.2.2.1, .s x.2.2.2.2.2.2.1, .s x.2.2.2.2.2.2.2.1, .s x.2.2.2.2.2.2.2.2.1, .s x.2.2.2.2.2.2.2.2.2.1, .s x.2.2.2.2.2.2.2.2.2.2.1, .s x.2.2.2.2.2.2.2.2.2.2.2.1, .s x.2.2.2.2.2.2.2.2.2.2.2.2.1, .s x.2.2.2.2.2.2.2.2.2.2.2.2.2.1, .s x.2.2.2.2.2.2.2.2.2.2.2.2.2.2.1, .s x.2.2.2.2.2.2.2.2.2.2.2.2.2.2.2.1, .s x.2.2.2.2.2.2.2.2.2.2.2.2.2.2.2.2])], 1, 1, 1, 1⟩
noncomputable def un_slices_Index_string_string_l0 (s : St) : Option (List UInt8 × Int × Int × List UInt8 × List UInt8 × List UInt8 × List UInt8 × List UInt8 × List UInt8 × List UInt8 × List UInt8 × List UInt8 × List UInt8 × List UInt8 × List UInt8 × List UInt8 × List UInt8) := match s with
  | ⟨[(0, some (.sl 0 1 13 (some 13))), (1, some (.s x0)), (7, some (.i .i64 x1)), (8, some (.i .i64 x2))], [(0, .cells [.s x3, .s x4, .s x5, .s x6, .s x7, .s x8, .s x9, .s x10, .s x11, .s x12, .s x13, .s x14, .s x15, .s x16])], 1, 1, 1, 1⟩ => some (x0, x1, x2, x3, x4, x5, x6, x7, x8, x9, x10, x11, x12, x13, x14, x15, x16)
  | _ => none
theorem un_ok_slices_Index_string_string_l0 : ∀ s x, un_slices_Index_string_string_l0 s = some x → s = emb_slices_Index_string_string_l0 x := by
  intro s x h
  unfold un_slices_Index_string_string_l0 at h
  split at h
  · cases h; rfl
  · cases h
noncomputable def ax_slices_Index_string_string_l0 : Ex → Ann := fun ex => match ex with
  | .ret => ⟨[4], [], 1, []⟩
  | .exit 0 => ⟨[], [], 1, []⟩
  | _ => ⟨[], [], 0, []⟩
noncomputable def out_slices_Index_string_string_l0 (y : Int ⊕ Unit) : Ex × St := (Sum.casesOn (motive := fun _ => Ex × St) y (fun a0 => (.ret, ⟨[(4, some (.i .i64 a0))], [], 1, 1, 1, 1⟩)) (fun b0 => (.exit 0, ⟨[], [], 1, 1, 1, 1⟩)))
noncomputable def outK_slices_Index_string_string_l0 (α : Type) (y : Int ⊕ Unit) (k : Ex → St → Option α) : Option α := (Sum.casesOn (motive := fun _ => Option α) y (fun a0 => (k (.ret) ⟨[(4, some (.i .i64 a0))], [], 1, 1, 1, 1⟩)) (fun b0 => (k (.exit 0) ⟨[], [], 1, 1, 1, 1⟩)))
theorem outK_ok_slices_Index_string_string_l0 : ∀ α y k, outK_slices_Index_string_string_l0 α y k = k (out_slices_Index_string_string_l0 y).1 (out_slices_Index_string_string_l0 y).2 := by
  intro α y k
  rcases y with y | y <;> rfl
noncomputable def ux_slices_Index_string_string_l0 (ex : Ex) (s : St) : Option (Int ⊕ Unit) := match ex, s with
  | .ret, ⟨[(4, some (.i .i64 y0))], [], 1, 1, 1, 1⟩ => some (.inl y0)
  | .exit 0, ⟨[], [], 1, 1, 1, 1⟩ => some (.inr ())
  | _, _ => none
theorem ux_ok_slices_Index_string_string_l0 : ∀ ex s y, ux_slices_Index_string_string_l0 ex s = some y → (ex, s) = out_slices_Index_string_string_l0 y := by
  intro ex s y h
  unfold ux_slices_Index_string_string_l0 at h
  split at h
  · cases h; rfl
  · cases h; rfl
  · cases h
noncomputable def Ls_slices_Index_string_string (n : Nat) : List Sub := [subE 0 an_slices_Index_string_string_l0 un_slices_Index_string_string_l0 (fun x => iterL (slices_Index_string_string_l0 n) n x) outK_slices_Index_string_string_l0]
noncomputable def sac_slices_Index_string_string_l0 : AC := getS (subs (acOf Tryd.f44)) 0
noncomputable def ac_slices_Index_string_string_l0 : AC := AC.body sac_slices_Index_string_string_l0
theorem subs_slices_Index_string_string_l0 (n : Nat) : SubOK Tryd.prog 19 (Ls_slices_Index_string_string n) ac_slices_Index_string_string_l0 := SubOK_of _ (by
  have e : subs ac_slices_Index_string_string_l0 = [] := by kernel_rfl
  rw [e]; intro p hp; cases hp)
theorem body_slices_Index_string_string_l0 (n : Nat) : ∀ x, run Tryd.prog (Es_slices_Index_string_string n) (Ls_slices_Index_string_string n) 19 ac_slices_Index_string_string_l0 (emb_slices_Index_string_string_l0 x) (roundK an_slices_Index_string_string_l0 un_slices_Index_string_string_l0 ax_slices_Index_string_string_l0 ux_slices_Index_string_string_l0) = slices_Index_string_string_l0 n x := fun _ => by kernel_rfl
theorem sub1_slices_Index_string_string_l0 (n : Nat) : ∀ (α : Type) (s : St) (k : Ex → St → Option α) (z : α), (subE 0 an_slices_Index_string_string_l0 un_slices_Index_string_string_l0 (fun x => iterL (slices_Index_string_string_l0 n) n x) outK_slices_Index_string_string_l0).e α s k = some z → SemC Tryd.prog 19 (sac_slices_Index_string_string_l0).code s fun ex s' => k ex s' = some z := by
  intro α s k z h
  have e : sac_slices_Index_string_string_l0 = .loop ac_slices_Index_string_string_l0 := by kernel_rfl
  rw [e]
  exact subE_ok (m := 0) (f := fun x => iterL (slices_Index_string_string_l0 n) n x) (out := out_slices_Index_string_string_l0) outK_ok_slices_Index_string_string_l0 un_ok_slices_Index_string_string_l0 (fun x y hy => loop_ok (Es_ok_slices_Index_string_string n) (subs_slices_Index_string_string_l0 n) un_ok_slices_Index_string_string_l0 ux_ok_slices_Index_string_string_l0 (body_slices_Index_string_string_l0 n) n x y hy) h
theorem sub_slices_Index_string_string_l0 (n : Nat) : SubSt Tryd.prog 19 (Ls_slices_Index_string_string n) 0 sac_slices_Index_string_string_l0 := fun α s k z => sub1_slices_Index_string_string_l0 n α s k z
theorem subs_slices_Index_string_string (n : Nat) : SubOK Tryd.prog 19 (Ls_slices_Index_string_string n) (acOf Tryd.f44) := SubOK_of _ (by
  have e : subs (acOf Tryd.f44) = [(0, sac_slices_Index_string_string_l0)] := by kernel_rfl
  rw [e]; intro p hp
  simp only [List.mem_cons, List.not_mem_nil, or_false] at hp
  · rw [hp]; exact sub_slices_Index_string_string_l0 n
  )
theorem cert_slices_Index_string_string (n : Nat) (a0 : List UInt8) (a1 : List UInt8) (a2 : List UInt8) (a3 : List UInt8) (a4 : List UInt8) (a5 : List UInt8) (a6 : List UInt8) (a7 : List UInt8) (a8 : List UInt8) (a9 : List UInt8) (a10 : List UInt8) (a11 : List UInt8) (a12 : List UInt8) (a13 : List UInt8) (a14 : List UInt8) : run Tryd.prog (Es_slices_Index_string_string n) (Ls_slices_Index_string_string n) Tryd.f44.ntmps (acOf Tryd.f44) ⟨argsT [.sl 0 1 13 (some 13), .s a0] 0, [(0, .cells [.s a1, .s a2, .s a3, .s a4, .s a5, .s a6, .s a7, .s a8, .s a9, .s a10, .s a11, .s a12, .s a13, .s a14])], 1, 1, 1, 1⟩ (finK Tryd.prog Tryd.f44.results.toList (funX [] 1 1 1 unr_slices_Index_string_string)) = slices_Index_string_string n a0 a1 a2 a3 a4 a5 a6 a7 a8 a9 a10 a11 a12 a13 a14 := by kernel_rfl
theorem fun_slices_Index_string_string (n : Nat) : ∀ a r, slices_Index_string_string n a.1 a.2.1 a.2.2.1 a.2.2.2.1 a.2.2.2.2.1 a.2.2.2.2.2.1 a.2.2.2.2.2.2.1 a.2.2.2.2.2.2.2.1 a.2.2.2.2.2.2.2.2.1 a.2.2.2.2.2.2.2.2.2.1 a.2.2.2.2.2.2.2.2.2.2.1 a.2.2.2.2.2.2.2.2.2.2.2.1 a.2.2.2.2.2.2.2.2.2.2.2.2.1 a.2.2.2.2.2.2.2.2.2.2.2.2.2.1 a.2.2.2.2.2.2.2.2.2.2.2.2.2.2 = some r → FunOK Tryd.prog 44 (arg_slices_Index_string_string a) (H0_slices_Index_string_string a) 1 1 1 (out_slices_Index_string_string r) := fun a r h => funX_ok (ws := []) unr_ok_slices_Index_string_string hv_slices_Index_string_string (fun r b blk hl => (chkH_look (hc_slices_Index_string_string r) b blk hl).2) (fun r => chkH_keys (hc_slices_Index_string_string r)) (by decide) (Es_ok_slices_Index_string_string n) Tryd.func44 rfl (acOf_code _) (subs_slices_Index_string_string n) rfl rfl ((cert_slices_Index_string_string n a.1 a.2.1 a.2.2.1 a.2.2.2.1 a.2.2.2.2.1 a.2.2.2.2.2.1 a.2.2.2.2.2.2.1 a.2.2.2.2.2.2.2.1 a.2.2.2.2.2.2.2.2.1 a.2.2.2.2.2.2.2.2.2.1 a.2.2.2.2.2.2.2.2.2.2.1 a.2.2.2.2.2.2.2.2.2.2.2.1 a.2.2.2.2.2.2.2.2.2.2.2.2.1 a.2.2.2.2.2.2.2.2.2.2.2.2.2.1 a.2.2.2.2.2.2.2.2.2.2.2.2.2.2).trans h)
theorem ok_slices_Index_string_string (n : Nat) : EntOK Tryd.prog (e_slices_Index_string_string n) := funE_ok (m := 1) (ro := 1) (rb := 1) (out := out_slices_Index_string_string) (arg := arg_slices_Index_string_string) (H0 := H0_slices_Index_string_string) Tryd.call44 (by decide) (by decide) outK_ok_slices_Index_string_string una_ok_slices_Index_string_string (fun _ => rfl) (fun a => chkH_look (m := 1) (H := H0_slices_Index_string_string a) rfl) (fun _ => rfl) (fun r => chkH_keys (hc_slices_Index_string_string r)) (fun r b blk h => (chkH_look (hc_slices_Index_string_string r) b blk h).2) (fun r b h1 h2 => hasKeys_ok (hk_slices_Index_string_string r) b h1 (by omega)) hv_slices_Index_string_string (fun_slices_Index_string_string n)

/-! circa/relations.Parse -/
noncomputable def arg_relations_Parse (a : List UInt8) : List V := [.s a]
noncomputable def una_relations_Parse (l : List V) : Option (List UInt8) := match l with
  | [.s a0] => some a0
  | _ => none
theorem una_ok_relations_Parse : ∀ l a, una_relations_Parse l = some a → l = arg_relations_Parse a := by
  intro l a h
  unfold una_relations_Parse at h
  split at h
  · cases h; rfl
  · cases h
noncomputable def enc_relations_Parse (r : Int × Int) : V := .tp [.i .u16 r.1, .i .i64 r.2]
noncomputable def unr_relations_Parse (v : V) : Option (Int × Int) := match v with
  | .tp [.i .u16 r0, .i .i64 r1] => some (r0, r1)
  | _ => none
theorem unr_ok_relations_Parse : ∀ v r, unr_relations_Parse v = some r → v = enc_relations_Parse r := by
  intro v r h
  unfold unr_relations_Parse at h
  split at h
  · cases h; rfl
  · cases h
noncomputable def e_relations_Parse (n : Nat) : Ent := pureE 19 una_relations_Parse (fun a => relations_Parse n a) enc_relations_Parse
noncomputable def t_relations_Parse (l : List V) (_ : List (Nat × Blk)) : Bool := isS (una_relations_Parse l)
noncomputable def Es_relations_Parse (n : Nat) : List Ent := [e_relations_names n, e_strings_Split n, e_relations_Set_Text n, e_slices_Index_string_string n]
theorem Es_ok_relations_Parse (n : Nat) : ∀ x ∈ Es_relations_Parse n, EntOK Tryd.prog x := by
  intro x hx
  simp only [Es_relations_Parse, List.mem_cons, List.not_mem_nil, or_false] at hx
  rcases hx with hx | hx | hx | hx
  · rw [hx]; exact ok_relations_names n
  · rw [hx]; exact ok_strings_Split n
  · rw [hx]; exact ok_relations_Set_Text n
  · rw [hx]; exact ok_slices_Index_string_string n
noncomputable def an_relations_Parse_l0 : Ann := ⟨[0, 4, 5, 13, 14, 15], [0], 1, []⟩
noncomputable def emb_relations_Parse_l0 (x : List UInt8 × Int × Int × Int × List UInt8 × List UInt8 × List UInt8 × List UInt8 × List UInt8 × List UInt8 × List UInt8 × List UInt8 × List UInt8 × List UInt8 × List UInt8 × List UInt8 × List UInt8 × List UInt8) : St := ⟨[(0, some (.s x.1)), (4, some (.i .u16 x.2.1)), (5, some (.p 0 0)), (13, some (.sn)), (14, some (.i .i64 x.2.2.1)), (15, some (.i .i64 x.2.2.2.1))], [(0, .cells [.s x.2.2.2.2.1, .s x.2.2.2.2.2.1, .s x.2.2.2.2.2.2.1, .s x.2.2.2.2.2.2.2.1, .s x.2.2.2.2.2.2.2.2.1, .s x.2.2.2.2.2.2.2.2.2.1, .s x.2.2.2.2.2.2.2.2.2.2.1, .s x.2.2.2.2.2.2.2.2.2.2.2.1, .s x.2.2.2.2.2.2.2.2.2.2.2.2.1, .s x.2.2.2.2.2.2.2.2.2.2.2.2.2.1, .s x.2.2.2.2.2.2.2.2.2.2.2.2.2.2.1, .s x.2.2.2.2.2.2.2.2.2.2.2.2.2.2.2.1, .s x.2.2.2.2.2.2.2.2.2.2.2.2.2.2.2.2.1, .s x.2.2.2.2.2.2.2.2.2.2.2.2.2.2.2.2.2])], 1, 0, 0, 0⟩
noncomputable def un_relations_Parse_l0 (s : St) : Option (List UInt8 × Int × Int × Int × List UInt8 × List UInt8 × List UInt8 × List UInt8 × List UInt8 × List UInt8 × List UInt8 × List UInt8 × List UInt8 × List UInt8 × List UInt8 × List UInt8 × List UInt8 × List UInt8) := match s with
  | ⟨[(0, some (.s x0)), (4, some (.i .u16 x1)), (5, some (.p 0 0)), (13, some (.sn)), (14, some (.i .i64 x2)), (15, some (.i .i64 x3))], [(0, .cells [.s x4, .s x5, .s x6, .s x7, .s x8, .s x9, .s x10, .s x11, .s x12, .s x13, .s x14, .s x15, .s x16, .s x17])], 1, 0, 0, 0⟩ => some (x0, x1, x2, x3, x4, x5, x6, x7, x8, x9, x10, x11, x12, x13, x14, x15, x16, x17)
  | _ => none
theorem un_ok_relations_Parse_l0 : ∀ s x, un_relations_Parse_l0 s = some x → s = emb_relations_Parse_l0 x := by
  intro s x h
  unfold un_relations_Parse_l0 at h
  split at h
  · cases h; rfl
  · cases h
noncomputable def ax_relations_Parse_l0 : Ex → Ann := fun ex => match ex with
  | .exit 0 => ⟨[0, 4], [], 1, []⟩
  | _ => ⟨[], [], 0, []⟩
noncomputable def out_relations_Parse_l0 (y : (List UInt8 × Int)) : Ex × St := (.exit 0, ⟨[(0, some (.s y.1)), (4, some (.i .u16 y.2))], [], 1, 0, 0, 0⟩)
noncomputable def outK_relations_Parse_l0 (α : Type) (y : (List UInt8 × Int)) (k : Ex → St → Option α) : Option α := (k (.exit 0) ⟨[(0, some (.s y.1)), (4, some (.i .u16 y.2))], [], 1, 0, 0, 0⟩)
theorem outK_ok_relations_Parse_l0 : ∀ α y k, outK_relations_Parse_l0 α y k = k (out_relations_Parse_l0 y).1 (out_relations_Parse_l0 y).2 := by
  intro α y k
  rfl
noncomputable def ux_relations_Parse_l0 (ex : Ex) (s : St) : Option ((List UInt8 × Int)) := match ex, s with
  | .exit 0, ⟨[(0, some (.s y0)), (4, some (.i .u16 y1))], [], 1, 0, 0, 0⟩ => some (y0, y1)
  | _, _ => none
theorem ux_ok_relations_Parse_l0 : ∀ ex s y, ux_relations_Parse_l0 ex s = some y → (ex, s) = out_relations_Parse_l0 y := by
  intro ex s y h
  unfold ux_relations_Parse_l0 at h
  split at h
  · cases h; rfl
  · cases h
noncomputable def an_relations_Parse_l0a : Ann := ⟨[0, 4, 5, 13, 14, 15], [0, 1], 2, []⟩
noncomputable def emb_relations_Parse_l0a (x : List UInt8 × Int × Nat × Int × Int × List UInt8 × List UInt8 × List UInt8 × List UInt8 × List UInt8 × List UInt8 × List UInt8 × List UInt8 × List UInt8 × List UInt8 × List UInt8 × List UInt8 × List UInt8 × List UInt8 × List (List UInt8)) : St := ⟨[(0, some (.s x.1)), (4, some (.i .u16 x.2.1)), (5, some (.p 0 0)), (13, some (.rs 1 1 0 x.2.2.1 none)), (14, some (.i .i64 x.2.2.2.1)), (15, some (.i .i64 x.2.2.2.2.1))], [(0, .cells [.s x.2.2.2.2.2.1, .s x.2.2.2.2.2.2.1, .s x.2.2.2.2.2.2.2.1, .s x.2.2.2.2.2.2.2.2.1, .s x.2.2.2.2.2.2.2.2.2.1, .s x.2.2.2.2.2.2.2.2.2.2.1, .s x.2.2.2.2.2.2.2.2.2.2.2.1, .s x.2.2.2.2.2.2.2.2.2.2.2.2.1, .s x.2.2.2.2.2.2.2.2.2.2.2.2.2.1, .s x.2.2.2.2.2.2.2.2.2.2.2.2.2.2.1, .s x.2.2.2.2.2.2.2.2.2.2.2.2.2.2.2.1, .s x.2.2.2.2.2.2.2.2.2.2.2.2.2.2.2.2.1, .s x.2.2.2.2.2.2.2.2.2.2.2.2.2.2.2.2.2.1, .s x.2.2.2.2.2.2.2.2.2.2.2.2.2.2.2.2.2.2.1]), (1, .rows [.s] x.2.2.2.2.2.2.2.2.2.2.2.2.2.2.2.2.2.2.2)], 2, 0, 0, 0⟩
noncomputable def un_relations_Parse_l0a (s : St) : Option (List UInt8 × Int × Nat × Int × Int × List UInt8 × List UInt8 × List UInt8 × List UInt8 × List UInt8 × List UInt8 × List UInt8 × List UInt8 × List UInt8 × List UInt8 × List UInt8 × List UInt8 × List UInt8 × List UInt8 × List (List UInt8)) := match s with
  | ⟨[(0, some (.s x0)), (4, some (.i .u16 x1)), (5, some (.p 0 0)), (13, some (.rs 1 1 0 x2 none)), (14, some (.i .i64 x3)), (15, some (.i .i64 x4))], [(0, .cells [.s x5, .s x6, .s x7, .s x8, .s x9, .s x10, .s x11, .s x12, .s x13, .s x14, .s x15, .s x16, .s x17, .s x18]), (1, .rows [.s] x19)], 2, 0, 0, 0⟩ => some (x0, x1, x2, x3, x4, x5, x6, x7, x8, x9, x10, x11, x12, x13, x14, x15, x16, x17, x18, x19)
  | _ => none
theorem un_ok_relations_Parse_l0a : ∀ s x, un_relations_Parse_l0a s = some x → s = emb_relations_Parse_l0a x := by
  intro s x h
  unfold un_relations_Parse_l0a at h
  split at h
  · cases h; rfl
  · cases h
noncomputable def ax_relations_Parse_l0a : Ex → Ann := fun ex => match ex with
  | .ret => ⟨[2, 3], [], 2, []⟩
  | .exit 0 => ⟨[0, 4], [], 2, []⟩
  | _ => ⟨[], [], 0, []⟩
noncomputable def out_relations_Parse_l0a (y : (Int × Int) ⊕ (List UInt8 × Int)) : Ex × St := (Sum.casesOn (motive := fun _ => Ex × St) y (fun a0 => (.ret, ⟨[(2, some (.i .u16 a0.1)), (3, some (.i .i64 a0.2))], [], 2, 0, 0, 0⟩)) (fun b0 => (.exit 0, ⟨[(0, some (.s b0.1)), (4, some (.i .u16 b0.2))], [], 2, 0, 0, 0⟩)))
noncomputable def outK_relations_Parse_l0a (α : Type) (y : (Int × Int) ⊕ (List UInt8 × Int)) (k : Ex → St → Option α) : Option α := (Sum.casesOn (motive := fun _ => Option α) y (fun a0 => (k (.ret) ⟨[(2, some (.i .u16 a0.1)), (3, some (.i .i64 a0.2))], [], 2, 0, 0, 0⟩)) (fun b0 => (k (.exit 0) ⟨[(0, some (.s b0.1)), (4, some (.i .u16 b0.2))], [], 2, 0, 0, 0⟩)))
theorem outK_ok_relations_Parse_l0a : ∀ α y k, outK_relations_Parse_l0a α y k = k (out_relations_Parse_l0a y).1 (out_relations_Parse_l0a y).2 := by
  intro α y k
  rcases y with y | y <;> rfl
noncomputable def ux_relations_Parse_l0a (ex : Ex) (s : St) : Option ((Int × Int) ⊕ (List UInt8 × Int)) := match ex, s with
  | .ret, ⟨[(2, some (.i .u16 y0)), (3, some (.i .i64 y1))], [], 2, 0, 0, 0⟩ => some (.inl (y0, y1))
  | .exit 0, ⟨[(0, some (.s y0)), (4, some (.i .u16 y1))], [], 2, 0, 0, 0⟩ => some (.inr (y0, y1))
  | _, _ => none
theorem ux_ok_relations_Parse_l0a : ∀ ex s y, ux_relations_Parse_l0a ex s = some y → (ex, s) = out_relations_Parse_l0a y := by
  intro ex s y h
  unfold ux_relations_Parse_l0a at h
  split at h
  · cases h; rfl
  · cases h; rfl
  · cases h
noncomputable def Ls_relations_Parse (n : Nat) : List Sub := [altS (subE 0 an_relations_Parse_l0 un_relations_Parse_l0 (fun x => iterL (relations_Parse_l0 n) n x) outK_relations_Parse_l0) (readsS an_relations_Parse_l0 un_relations_Parse_l0) (subE 0 an_relations_Parse_l0a un_relations_Parse_l0a (fun x => iterL (relations_Parse_l0a n) n x) outK_relations_Parse_l0a)]
noncomputable def sac_relations_Parse_l0 : AC := getS (subs (acOf Tryd.f19)) 0
noncomputable def ac_relations_Parse_l0 : AC := AC.body sac_relations_Parse_l0
theorem subs_relations_Parse_l0 (n : Nat) : SubOK Tryd.prog 49 (Ls_relations_Parse n) ac_relations_Parse_l0 := SubOK_of _ (by
  have e : subs ac_relations_Parse_l0 = [] := by kernel_rfl
  rw [e]; intro p hp; cases hp)
theorem body_relations_Parse_l0 (n : Nat) : ∀ x, run Tryd.prog (Es_relations_Parse n) (Ls_relations_Parse n) 49 ac_relations_Parse_l0 (emb_relations_Parse_l0 x) (roundK an_relations_Parse_l0 un_relations_Parse_l0 ax_relations_Parse_l0 ux_relations_Parse_l0) = relations_Parse_l0 n x := fun _ => by kernel_rfl
theorem sub1_relations_Parse_l0 (n : Nat) : ∀ (α : Type) (s : St) (k : Ex → St → Option α) (z : α), (subE 0 an_relations_Parse_l0 un_relations_Parse_l0 (fun x => iterL (relations_Parse_l0 n) n x) outK_relations_Parse_l0).e α s k = some z → SemC Tryd.prog 49 (sac_relations_Parse_l0).code s fun ex s' => k ex s' = some z := by
  intro α s k z h
  have e : sac_relations_Parse_l0 = .loop ac_relations_Parse_l0 := by kernel_rfl
  rw [e]
  exact subE_ok (m := 0) (f := fun x => iterL (relations_Parse_l0 n) n x) (out := out_relations_Parse_l0) outK_ok_relations_Parse_l0 un_ok_relations_Parse_l0 (fun x y hy => loop_ok (Es_ok_relations_Parse n) (subs_relations_Parse_l0 n) un_ok_relations_Parse_l0 ux_ok_relations_Parse_l0 (body_relations_Parse_l0 n) n x y hy) h
theorem body_relations_Parse_l0a (n : Nat) : ∀ x, run Tryd.prog (Es_relations_Parse n) (Ls_relations_Parse n) 49 ac_relations_Parse_l0 (emb_relations_Parse_l0a x) (roundK an_relations_Parse_l0a un_relations_Parse_l0a ax_relations_Parse_l0a ux_relations_Parse_l0a) = relations_Parse_l0a n x := fun _ => by kernel_rfl
theorem sub1_relations_Parse_l0a (n : Nat) : ∀ (α : Type) (s : St) (k : Ex → St → Option α) (z : α), (subE 0 an_relations_Parse_l0a un_relations_Parse_l0a (fun x => iterL (relations_Parse_l0a n) n x) outK_relations_Parse_l0a).e α s k = some z → SemC Tryd.prog 49 (sac_relations_Parse_l0).code s fun ex s' => k ex s' = some z := by
  intro α s k z h
  have e : sac_relations_Parse_l0 = .loop ac_relations_Parse_l0 := by kernel_rfl
  rw [e]
  exact subE_ok (m := 0) (f := fun x => iterL (relations_Parse_l0a n) n x) (out := out_relations_Parse_l0a) outK_ok_relations_Parse_l0a un_ok_relations_Parse_l0a (fun x y hy => loop_ok (Es_ok_relations_Parse n) (subs_relations_Parse_l0 n) un_ok_relations_Parse_l0a ux_ok_relations_Parse_l0a (body_relations_Parse_l0a n) n x y hy) h
theorem sub_relations_Parse_l0 (n : Nat) : SubSt Tryd.prog 49 (Ls_relations_Parse n) 0 sac_relations_Parse_l0 := fun α s k z => altS_ok (sub1_relations_Parse_l0 n α s k z) (sub1_relations_Parse_l0a n α s k z)
theorem subs_relations_Parse (n : Nat) : SubOK Tryd.prog 49 (Ls_relations_Parse n) (acOf Tryd.f19) := SubOK_of _ (by
  have e : subs (acOf Tryd.f19) = [(0, sac_relations_Parse_l0)] := by kernel_rfl
  rw [e]; intro p hp
  simp only [List.mem_cons, List.not_mem_nil, or_false] at hp
  · rw [hp]; exact sub_relations_Parse_l0 n
  )
theorem cert_relations_Parse (n : Nat) (a0 : List UInt8) : run Tryd.prog (Es_relations_Parse n) (Ls_relations_Parse n) Tryd.f19.ntmps (acOf Tryd.f19) ⟨argsT [.s a0] 0, [], 0, 0, 0, 0⟩ (finK Tryd.prog Tryd.f19.results.toList (retX unr_relations_Parse)) = relations_Parse n a0 := by kernel_rfl
theorem pure_relations_Parse (n : Nat) : ∀ a r, relations_Parse n a = some r → PureOK Tryd.prog 19 (arg_relations_Parse a) (enc_relations_Parse r) := fun a r h => pureX_ok unr_ok_relations_Parse (Es_ok_relations_Parse n) Tryd.func19 rfl (acOf_code _) (subs_relations_Parse n) rfl ((cert_relations_Parse n a).trans h)
theorem ok_relations_Parse (n : Nat) : EntOK Tryd.prog (e_relations_Parse n) := pureE_ok Tryd.call19 una_ok_relations_Parse (fun _ => rfl) (pure_relations_Parse n)

/-! circa/circalaw31.lives -/
noncomputable def arg_circalaw31_lives (_a : Unit) : List V := []
noncomputable def una_circalaw31_lives (l : List V) : Option (Unit) := match l with
  | [] => some ()
  | _ => none
theorem una_ok_circalaw31_lives : ∀ l a, una_circalaw31_lives l = some a → l = arg_circalaw31_lives a := by
  intro l a h
  unfold una_circalaw31_lives at h
  split at h
  · cases h; rfl
  · cases h
noncomputable def enc_circalaw31_lives (r : Bool) : V := .b r
noncomputable def unr_circalaw31_lives (v : V) : Option (Bool) := match v with
  | .b r0 => some r0
  | _ => none
theorem unr_ok_circalaw31_lives : ∀ v r, unr_circalaw31_lives v = some r → v = enc_circalaw31_lives r := by
  intro v r h
  unfold unr_circalaw31_lives at h
  split at h
  · cases h; rfl
  · cases h
noncomputable def e_circalaw31_lives (n : Nat) : Ent := pureE 11 una_circalaw31_lives (fun _a => circalaw31_lives n) enc_circalaw31_lives
noncomputable def t_circalaw31_lives (l : List V) (_ : List (Nat × Blk)) : Bool := isS (una_circalaw31_lives l)
noncomputable def Es_circalaw31_lives (n : Nat) : List Ent := [e_circalaw31_run n, e_circalaw31_is n, e_relations_Compose n, e_relations_Mirror n, e_relations_Converse n, e_relations_Set_Text n, e_relations_Parse n]
theorem Es_ok_circalaw31_lives (n : Nat) : ∀ x ∈ Es_circalaw31_lives n, EntOK Tryd.prog x := by
  intro x hx
  simp only [Es_circalaw31_lives, List.mem_cons, List.not_mem_nil, or_false] at hx
  rcases hx with hx | hx | hx | hx | hx | hx | hx
  · rw [hx]; exact ok_circalaw31_run n
  · rw [hx]; exact ok_circalaw31_is n
  · rw [hx]; exact ok_relations_Compose n
  · rw [hx]; exact ok_relations_Mirror n
  · rw [hx]; exact ok_relations_Converse n
  · rw [hx]; exact ok_relations_Set_Text n
  · rw [hx]; exact ok_relations_Parse n
noncomputable def Ls_circalaw31_lives (_n : Nat) : List Sub := []
theorem subs_circalaw31_lives (n : Nat) : SubOK Tryd.prog 160 (Ls_circalaw31_lives n) (acOf Tryd.f11) := SubOK_of _ (by
  have e : subs (acOf Tryd.f11) = [] := by kernel_rfl
  rw [e]; intro p hp; cases hp)
theorem cert_circalaw31_lives (n : Nat) : run Tryd.prog (Es_circalaw31_lives n) (Ls_circalaw31_lives n) Tryd.f11.ntmps (acOf Tryd.f11) ⟨argsT [] 0, [], 0, 0, 0, 0⟩ (finK Tryd.prog Tryd.f11.results.toList (retX unr_circalaw31_lives)) = circalaw31_lives n := by kernel_rfl
theorem pure_circalaw31_lives (n : Nat) : ∀ a r, circalaw31_lives n = some r → PureOK Tryd.prog 11 (arg_circalaw31_lives a) (enc_circalaw31_lives r) := fun a r h => pureX_ok unr_ok_circalaw31_lives (Es_ok_circalaw31_lives n) Tryd.func11 rfl (acOf_code _) (subs_circalaw31_lives n) rfl ((cert_circalaw31_lives n).trans h)
theorem ok_circalaw31_lives (n : Nat) : EntOK Tryd.prog (e_circalaw31_lives n) := pureE_ok Tryd.call11 una_ok_circalaw31_lives (fun _ => rfl) (pure_circalaw31_lives n)

/-! circa/circaref31.same -/
noncomputable def arg_circaref31_same (a : Int × Int × Int × Int) : List V := [.ag [.i .i8 a.1, .i .i64 a.2.1], .ag [.i .i8 a.2.2.1, .i .i64 a.2.2.2]]
noncomputable def una_circaref31_same (l : List V) : Option (Int × Int × Int × Int) := match l with
  | [.ag [.i .i8 a0, .i .i64 a1], .ag [.i .i8 a2, .i .i64 a3]] => some (a0, a1, a2, a3)
  | _ => none
theorem una_ok_circaref31_same : ∀ l a, una_circaref31_same l = some a → l = arg_circaref31_same a := by
  intro l a h
  unfold una_circaref31_same at h
  split at h
  · cases h; rfl
  · cases h
noncomputable def enc_circaref31_same (r : Int) : V := .i .i64 r
noncomputable def unr_circaref31_same (v : V) : Option (Int) := match v with
  | .i .i64 r0 => some r0
  | _ => none
theorem unr_ok_circaref31_same : ∀ v r, unr_circaref31_same v = some r → v = enc_circaref31_same r := by
  intro v r h
  unfold unr_circaref31_same at h
  split at h
  · cases h; rfl
  · cases h
noncomputable def e_circaref31_same (n : Nat) : Ent := pureE 50 una_circaref31_same (fun a => circaref31_same n a.1 a.2.1 a.2.2.1 a.2.2.2) enc_circaref31_same
noncomputable def t_circaref31_same (l : List V) (_ : List (Nat × Blk)) : Bool := isS (una_circaref31_same l)
noncomputable def Es_circaref31_same (_n : Nat) : List Ent := []
theorem Es_ok_circaref31_same (n : Nat) : ∀ x ∈ Es_circaref31_same n, EntOK Tryd.prog x := by
  intro x hx
  simp [Es_circaref31_same] at hx
noncomputable def Ls_circaref31_same (_n : Nat) : List Sub := []
theorem subs_circaref31_same (n : Nat) : SubOK Tryd.prog 22 (Ls_circaref31_same n) (acOf Tryd.f50) := SubOK_of _ (by
  have e : subs (acOf Tryd.f50) = [] := by kernel_rfl
  rw [e]; intro p hp; cases hp)
theorem cert_circaref31_same (n : Nat) (a0 : Int) (a1 : Int) (a2 : Int) (a3 : Int) : run Tryd.prog (Es_circaref31_same n) (Ls_circaref31_same n) Tryd.f50.ntmps (acOf Tryd.f50) ⟨argsT [.ag [.i .i8 a0, .i .i64 a1], .ag [.i .i8 a2, .i .i64 a3]] 0, [], 0, 0, 0, 0⟩ (finK Tryd.prog Tryd.f50.results.toList (retX unr_circaref31_same)) = circaref31_same n a0 a1 a2 a3 := by kernel_rfl
theorem pure_circaref31_same (n : Nat) : ∀ a r, circaref31_same n a.1 a.2.1 a.2.2.1 a.2.2.2 = some r → PureOK Tryd.prog 50 (arg_circaref31_same a) (enc_circaref31_same r) := fun a r h => pureX_ok unr_ok_circaref31_same (Es_ok_circaref31_same n) Tryd.func50 rfl (acOf_code _) (subs_circaref31_same n) rfl ((cert_circaref31_same n a.1 a.2.1 a.2.2.1 a.2.2.2).trans h)
theorem ok_circaref31_same (n : Nat) : EntOK Tryd.prog (e_circaref31_same n) := pureE_ok Tryd.call50 una_ok_circaref31_same (fun _ => rfl) (pure_circaref31_same n)

/-! circa/circaref31.holds -/
noncomputable def arg_circaref31_holds (a : Int × Int × Int × Int × Int × Int × Int × Int × Int) : List V := [.i .i64 a.1, .ag [.i .i8 a.2.1, .i .i64 a.2.2.1, .i .i8 a.2.2.2.1, .i .i64 a.2.2.2.2.1], .ag [.i .i8 a.2.2.2.2.2.1, .i .i64 a.2.2.2.2.2.2.1, .i .i8 a.2.2.2.2.2.2.2.1, .i .i64 a.2.2.2.2.2.2.2.2]]
noncomputable def una_circaref31_holds (l : List V) : Option (Int × Int × Int × Int × Int × Int × Int × Int × Int) := match l with
  | [.i .i64 a0, .ag [.i .i8 a1, .i .i64 a2, .i .i8 a3, .i .i64 a4], .ag [.i .i8 a5, .i .i64 a6, .i .i8 a7, .i .i64 a8]] => some (a0, a1, a2, a3, a4, a5, a6, a7, a8)
  | _ => none
theorem una_ok_circaref31_holds : ∀ l a, una_circaref31_holds l = some a → l = arg_circaref31_holds a := by
  intro l a h
  unfold una_circaref31_holds at h
  split at h
  · cases h; rfl
  · cases h
noncomputable def enc_circaref31_holds (r : Int) : V := .i .i64 r
noncomputable def unr_circaref31_holds (v : V) : Option (Int) := match v with
  | .i .i64 r0 => some r0
  | _ => none
theorem unr_ok_circaref31_holds : ∀ v r, unr_circaref31_holds v = some r → v = enc_circaref31_holds r := by
  intro v r h
  unfold unr_circaref31_holds at h
  split at h
  · cases h; rfl
  · cases h
noncomputable def e_circaref31_holds (n : Nat) : Ent := pureE 38 una_circaref31_holds (fun a => circaref31_holds n a.1 a.2.1 a.2.2.1 a.2.2.2.1 a.2.2.2.2.1 a.2.2.2.2.2.1 a.2.2.2.2.2.2.1 a.2.2.2.2.2.2.2.1 a.2.2.2.2.2.2.2.2) enc_circaref31_holds
noncomputable def t_circaref31_holds (l : List V) (_ : List (Nat × Blk)) : Bool := isS (una_circaref31_holds l)
noncomputable def Es_circaref31_holds (n : Nat) : List Ent := [e_circaref31_less n, e_circaref31_same n]
theorem Es_ok_circaref31_holds (n : Nat) : ∀ x ∈ Es_circaref31_holds n, EntOK Tryd.prog x := by
  intro x hx
  simp only [Es_circaref31_holds, List.mem_cons, List.not_mem_nil, or_false] at hx
  rcases hx with hx | hx
  · rw [hx]; exact ok_circaref31_less n
  · rw [hx]; exact ok_circaref31_same n
noncomputable def Ls_circaref31_holds (_n : Nat) : List Sub := []
theorem subs_circaref31_holds (n : Nat) : SubOK Tryd.prog 123 (Ls_circaref31_holds n) (acOf Tryd.f38) := SubOK_of _ (by
  have e : subs (acOf Tryd.f38) = [] := by kernel_rfl
  rw [e]; intro p hp; cases hp)
theorem cert_circaref31_holds (n : Nat) (a0 : Int) (a1 : Int) (a2 : Int) (a3 : Int) (a4 : Int) (a5 : Int) (a6 : Int) (a7 : Int) (a8 : Int) : run Tryd.prog (Es_circaref31_holds n) (Ls_circaref31_holds n) Tryd.f38.ntmps (acOf Tryd.f38) ⟨argsT [.i .i64 a0, .ag [.i .i8 a1, .i .i64 a2, .i .i8 a3, .i .i64 a4], .ag [.i .i8 a5, .i .i64 a6, .i .i8 a7, .i .i64 a8]] 0, [], 0, 0, 0, 0⟩ (finK Tryd.prog Tryd.f38.results.toList (retX unr_circaref31_holds)) = circaref31_holds n a0 a1 a2 a3 a4 a5 a6 a7 a8 := by kernel_rfl
theorem pure_circaref31_holds (n : Nat) : ∀ a r, circaref31_holds n a.1 a.2.1 a.2.2.1 a.2.2.2.1 a.2.2.2.2.1 a.2.2.2.2.2.1 a.2.2.2.2.2.2.1 a.2.2.2.2.2.2.2.1 a.2.2.2.2.2.2.2.2 = some r → PureOK Tryd.prog 38 (arg_circaref31_holds a) (enc_circaref31_holds r) := fun a r h => pureX_ok unr_ok_circaref31_holds (Es_ok_circaref31_holds n) Tryd.func38 rfl (acOf_code _) (subs_circaref31_holds n) rfl ((cert_circaref31_holds n a.1 a.2.1 a.2.2.1 a.2.2.2.1 a.2.2.2.2.1 a.2.2.2.2.2.1 a.2.2.2.2.2.2.1 a.2.2.2.2.2.2.2.1 a.2.2.2.2.2.2.2.2).trans h)
theorem ok_circaref31_holds (n : Nat) : EntOK Tryd.prog (e_circaref31_holds n) := pureE_ok Tryd.call38 una_ok_circaref31_holds (fun _ => rfl) (pure_circaref31_holds n)

/-! circa/circaref31.Of -/
noncomputable def arg_circaref31_Of (a : Int × Int × Int × Int × Int × Int × Int × Int) : List V := [.ag [.i .i8 a.1, .i .i64 a.2.1, .i .i8 a.2.2.1, .i .i64 a.2.2.2.1], .ag [.i .i8 a.2.2.2.2.1, .i .i64 a.2.2.2.2.2.1, .i .i8 a.2.2.2.2.2.2.1, .i .i64 a.2.2.2.2.2.2.2]]
noncomputable def una_circaref31_Of (l : List V) : Option (Int × Int × Int × Int × Int × Int × Int × Int) := match l with
  | [.ag [.i .i8 a0, .i .i64 a1, .i .i8 a2, .i .i64 a3], .ag [.i .i8 a4, .i .i64 a5, .i .i8 a6, .i .i64 a7]] => some (a0, a1, a2, a3, a4, a5, a6, a7)
  | _ => none
theorem una_ok_circaref31_Of : ∀ l a, una_circaref31_Of l = some a → l = arg_circaref31_Of a := by
  intro l a h
  unfold una_circaref31_Of at h
  split at h
  · cases h; rfl
  · cases h
noncomputable def enc_circaref31_Of (r : Int) : V := .i .i64 r
noncomputable def unr_circaref31_Of (v : V) : Option (Int) := match v with
  | .i .i64 r0 => some r0
  | _ => none
theorem unr_ok_circaref31_Of : ∀ v r, unr_circaref31_Of v = some r → v = enc_circaref31_Of r := by
  intro v r h
  unfold unr_circaref31_Of at h
  split at h
  · cases h; rfl
  · cases h
noncomputable def e_circaref31_Of (n : Nat) : Ent := pureE 13 una_circaref31_Of (fun a => circaref31_Of n a.1 a.2.1 a.2.2.1 a.2.2.2.1 a.2.2.2.2.1 a.2.2.2.2.2.1 a.2.2.2.2.2.2.1 a.2.2.2.2.2.2.2) enc_circaref31_Of
noncomputable def t_circaref31_Of (l : List V) (_ : List (Nat × Blk)) : Bool := isS (una_circaref31_Of l)
noncomputable def Es_circaref31_Of (n : Nat) : List Ent := [e_circaref31_holds n]
theorem Es_ok_circaref31_Of (n : Nat) : ∀ x ∈ Es_circaref31_Of n, EntOK Tryd.prog x := by
  intro x hx
  simp only [Es_circaref31_Of, List.mem_cons, List.not_mem_nil, or_false] at hx
  · rw [hx]; exact ok_circaref31_holds n
noncomputable def an_circaref31_Of_l0 : Ann := ⟨[2, 3, 5], [0, 1], 2, []⟩
noncomputable def emb_circaref31_Of_l0 (x : Int × Int × Int × Int × Int × Int × Int × Int × Int) : St := ⟨[(2, some (.p 0 0)), (3, some (.p 1 0)), (5, some (.i .i64 x.1))], [(0, .cells [.i .i8 x.2.1, .i .i64 x.2.2.1, .i .i8 x.2.2.2.1, .i .i64 x.2.2.2.2.1]), (1, .cells [.i .i8 x.2.2.2.2.2.1, .i .i64 x.2.2.2.2.2.2.1, .i .i8 x.2.2.2.2.2.2.2.1, .i .i64 x.2.2.2.2.2.2.2.2])], 2, 0, 0, 0⟩
noncomputable def un_circaref31_Of_l0 (s : St) : Option (Int × Int × Int × Int × Int × Int × Int × Int × Int) := match s with
  | ⟨[(2, some (.p 0 0)), (3, some (.p 1 0)), (5, some (.i .i64 x0))], [(0, .cells [.i .i8 x1, .i .i64 x2, .i .i8 x3, .i .i64 x4]), (1, .cells [.i .i8 x5, .i .i64 x6, .i .i8 x7, .i .i64 x8])], 2, 0, 0, 0⟩ => some (x0, x1, x2, x3, x4, x5, x6, x7, x8)
  | _ => none
theorem un_ok_circaref31_Of_l0 : ∀ s x, un_circaref31_Of_l0 s = some x → s = emb_circaref31_Of_l0 x := by
  intro s x h
  unfold un_circaref31_Of_l0 at h
  split at h
  · cases h; rfl
  · cases h
noncomputable def ax_circaref31_Of_l0 : Ex → Ann := fun ex => match ex with
  | .ret => ⟨[4], [], 2, []⟩
  | .exit 0 => ⟨[], [], 2, []⟩
  | _ => ⟨[], [], 0, []⟩
noncomputable def out_circaref31_Of_l0 (y : Int ⊕ Unit) : Ex × St := (Sum.casesOn (motive := fun _ => Ex × St) y (fun a0 => (.ret, ⟨[(4, some (.i .i64 a0))], [], 2, 0, 0, 0⟩)) (fun b0 => (.exit 0, ⟨[], [], 2, 0, 0, 0⟩)))
noncomputable def outK_circaref31_Of_l0 (α : Type) (y : Int ⊕ Unit) (k : Ex → St → Option α) : Option α := (Sum.casesOn (motive := fun _ => Option α) y (fun a0 => (k (.ret) ⟨[(4, some (.i .i64 a0))], [], 2, 0, 0, 0⟩)) (fun b0 => (k (.exit 0) ⟨[], [], 2, 0, 0, 0⟩)))
theorem outK_ok_circaref31_Of_l0 : ∀ α y k, outK_circaref31_Of_l0 α y k = k (out_circaref31_Of_l0 y).1 (out_circaref31_Of_l0 y).2 := by
  intro α y k
  rcases y with y | y <;> rfl
noncomputable def ux_circaref31_Of_l0 (ex : Ex) (s : St) : Option (Int ⊕ Unit) := match ex, s with
  | .ret, ⟨[(4, some (.i .i64 y0))], [], 2, 0, 0, 0⟩ => some (.inl y0)
  | .exit 0, ⟨[], [], 2, 0, 0, 0⟩ => some (.inr ())
  | _, _ => none
theorem ux_ok_circaref31_Of_l0 : ∀ ex s y, ux_circaref31_Of_l0 ex s = some y → (ex, s) = out_circaref31_Of_l0 y := by
  intro ex s y h
  unfold ux_circaref31_Of_l0 at h
  split at h
  · cases h; rfl
  · cases h; rfl
  · cases h
noncomputable def Ls_circaref31_Of (n : Nat) : List Sub := [subE 0 an_circaref31_Of_l0 un_circaref31_Of_l0 (fun x => iterL (circaref31_Of_l0 n) n x) outK_circaref31_Of_l0]
noncomputable def sac_circaref31_Of_l0 : AC := getS (subs (acOf Tryd.f13)) 0
noncomputable def ac_circaref31_Of_l0 : AC := AC.body sac_circaref31_Of_l0
theorem subs_circaref31_Of_l0 (n : Nat) : SubOK Tryd.prog 23 (Ls_circaref31_Of n) ac_circaref31_Of_l0 := SubOK_of _ (by
  have e : subs ac_circaref31_Of_l0 = [] := by kernel_rfl
  rw [e]; intro p hp; cases hp)
theorem body_circaref31_Of_l0 (n : Nat) : ∀ x, run Tryd.prog (Es_circaref31_Of n) (Ls_circaref31_Of n) 23 ac_circaref31_Of_l0 (emb_circaref31_Of_l0 x) (roundK an_circaref31_Of_l0 un_circaref31_Of_l0 ax_circaref31_Of_l0 ux_circaref31_Of_l0) = circaref31_Of_l0 n x := fun _ => by kernel_rfl
theorem sub1_circaref31_Of_l0 (n : Nat) : ∀ (α : Type) (s : St) (k : Ex → St → Option α) (z : α), (subE 0 an_circaref31_Of_l0 un_circaref31_Of_l0 (fun x => iterL (circaref31_Of_l0 n) n x) outK_circaref31_Of_l0).e α s k = some z → SemC Tryd.prog 23 (sac_circaref31_Of_l0).code s fun ex s' => k ex s' = some z := by
  intro α s k z h
  have e : sac_circaref31_Of_l0 = .loop ac_circaref31_Of_l0 := by kernel_rfl
  rw [e]
  exact subE_ok (m := 0) (f := fun x => iterL (circaref31_Of_l0 n) n x) (out := out_circaref31_Of_l0) outK_ok_circaref31_Of_l0 un_ok_circaref31_Of_l0 (fun x y hy => loop_ok (Es_ok_circaref31_Of n) (subs_circaref31_Of_l0 n) un_ok_circaref31_Of_l0 ux_ok_circaref31_Of_l0 (body_circaref31_Of_l0 n) n x y hy) h
theorem sub_circaref31_Of_l0 (n : Nat) : SubSt Tryd.prog 23 (Ls_circaref31_Of n) 0 sac_circaref31_Of_l0 := fun α s k z => sub1_circaref31_Of_l0 n α s k z
theorem subs_circaref31_Of (n : Nat) : SubOK Tryd.prog 23 (Ls_circaref31_Of n) (acOf Tryd.f13) := SubOK_of _ (by
  have e : subs (acOf Tryd.f13) = [(0, sac_circaref31_Of_l0)] := by kernel_rfl
  rw [e]; intro p hp
  simp only [List.mem_cons, List.not_mem_nil, or_false] at hp
  · rw [hp]; exact sub_circaref31_Of_l0 n
  )
theorem cert_circaref31_Of (n : Nat) (a0 : Int) (a1 : Int) (a2 : Int) (a3 : Int) (a4 : Int) (a5 : Int) (a6 : Int) (a7 : Int) : run Tryd.prog (Es_circaref31_Of n) (Ls_circaref31_Of n) Tryd.f13.ntmps (acOf Tryd.f13) ⟨argsT [.ag [.i .i8 a0, .i .i64 a1, .i .i8 a2, .i .i64 a3], .ag [.i .i8 a4, .i .i64 a5, .i .i8 a6, .i .i64 a7]] 0, [], 0, 0, 0, 0⟩ (finK Tryd.prog Tryd.f13.results.toList (retX unr_circaref31_Of)) = circaref31_Of n a0 a1 a2 a3 a4 a5 a6 a7 := by kernel_rfl
theorem pure_circaref31_Of (n : Nat) : ∀ a r, circaref31_Of n a.1 a.2.1 a.2.2.1 a.2.2.2.1 a.2.2.2.2.1 a.2.2.2.2.2.1 a.2.2.2.2.2.2.1 a.2.2.2.2.2.2.2 = some r → PureOK Tryd.prog 13 (arg_circaref31_Of a) (enc_circaref31_Of r) := fun a r h => pureX_ok unr_ok_circaref31_Of (Es_ok_circaref31_Of n) Tryd.func13 rfl (acOf_code _) (subs_circaref31_Of n) rfl ((cert_circaref31_Of n a.1 a.2.1 a.2.2.1 a.2.2.2.1 a.2.2.2.2.1 a.2.2.2.2.2.1 a.2.2.2.2.2.2.1 a.2.2.2.2.2.2.2).trans h)
theorem ok_circaref31_Of (n : Nat) : EntOK Tryd.prog (e_circaref31_Of n) := pureE_ok Tryd.call13 una_ok_circaref31_Of (fun _ => rfl) (pure_circaref31_Of n)

/-! circa/circalaw31.RelationsOf -/
noncomputable def arg_circalaw31_RelationsOf (a : Int × Int × Int × Int × Int × Int × Int × Int) : List V := [.ag [.i .i8 a.1, .i .i64 a.2.1, .i .i8 a.2.2.1, .i .i64 a.2.2.2.1], .ag [.i .i8 a.2.2.2.2.1, .i .i64 a.2.2.2.2.2.1, .i .i8 a.2.2.2.2.2.2.1, .i .i64 a.2.2.2.2.2.2.2]]
noncomputable def una_circalaw31_RelationsOf (l : List V) : Option (Int × Int × Int × Int × Int × Int × Int × Int) := match l with
  | [.ag [.i .i8 a0, .i .i64 a1, .i .i8 a2, .i .i64 a3], .ag [.i .i8 a4, .i .i64 a5, .i .i8 a6, .i .i64 a7]] => some (a0, a1, a2, a3, a4, a5, a6, a7)
  | _ => none
theorem una_ok_circalaw31_RelationsOf : ∀ l a, una_circalaw31_RelationsOf l = some a → l = arg_circalaw31_RelationsOf a := by
  intro l a h
  unfold una_circalaw31_RelationsOf at h
  split at h
  · cases h; rfl
  · cases h
noncomputable def enc_circalaw31_RelationsOf (r : Bool) : V := .b r
noncomputable def unr_circalaw31_RelationsOf (v : V) : Option (Bool) := match v with
  | .b r0 => some r0
  | _ => none
theorem unr_ok_circalaw31_RelationsOf : ∀ v r, unr_circalaw31_RelationsOf v = some r → v = enc_circalaw31_RelationsOf r := by
  intro v r h
  unfold unr_circalaw31_RelationsOf at h
  split at h
  · cases h; rfl
  · cases h
noncomputable def e_circalaw31_RelationsOf (n : Nat) : Ent := pureE 3 una_circalaw31_RelationsOf (fun a => circalaw31_RelationsOf n a.1 a.2.1 a.2.2.1 a.2.2.2.1 a.2.2.2.2.1 a.2.2.2.2.2.1 a.2.2.2.2.2.2.1 a.2.2.2.2.2.2.2) enc_circalaw31_RelationsOf
noncomputable def t_circalaw31_RelationsOf (l : List V) (_ : List (Nat × Blk)) : Bool := isS (una_circalaw31_RelationsOf l)
noncomputable def Es_circalaw31_RelationsOf (n : Nat) : List Ent := [e_relations_Of n, e_circaref31_Run n, e_circalaw31_lives n, e_relations_Converse n, e_circaref31_Of n]
theorem Es_ok_circalaw31_RelationsOf (n : Nat) : ∀ x ∈ Es_circalaw31_RelationsOf n, EntOK Tryd.prog x := by
  intro x hx
  simp only [Es_circalaw31_RelationsOf, List.mem_cons, List.not_mem_nil, or_false] at hx
  rcases hx with hx | hx | hx | hx | hx
  · rw [hx]; exact ok_relations_Of n
  · rw [hx]; exact ok_circaref31_Run n
  · rw [hx]; exact ok_circalaw31_lives n
  · rw [hx]; exact ok_relations_Converse n
  · rw [hx]; exact ok_circaref31_Of n
noncomputable def Ls_circalaw31_RelationsOf (_n : Nat) : List Sub := []
theorem subs_circalaw31_RelationsOf (n : Nat) : SubOK Tryd.prog 77 (Ls_circalaw31_RelationsOf n) (acOf Tryd.f3) := SubOK_of _ (by
  have e : subs (acOf Tryd.f3) = [] := by kernel_rfl
  rw [e]; intro p hp; cases hp)
theorem cert_circalaw31_RelationsOf (n : Nat) (a0 : Int) (a1 : Int) (a2 : Int) (a3 : Int) (a4 : Int) (a5 : Int) (a6 : Int) (a7 : Int) : run Tryd.prog (Es_circalaw31_RelationsOf n) (Ls_circalaw31_RelationsOf n) Tryd.f3.ntmps (acOf Tryd.f3) ⟨argsT [.ag [.i .i8 a0, .i .i64 a1, .i .i8 a2, .i .i64 a3], .ag [.i .i8 a4, .i .i64 a5, .i .i8 a6, .i .i64 a7]] 0, [], 0, 0, 0, 0⟩ (finK Tryd.prog Tryd.f3.results.toList (retX unr_circalaw31_RelationsOf)) = circalaw31_RelationsOf n a0 a1 a2 a3 a4 a5 a6 a7 := by kernel_rfl
theorem pure_circalaw31_RelationsOf (n : Nat) : ∀ a r, circalaw31_RelationsOf n a.1 a.2.1 a.2.2.1 a.2.2.2.1 a.2.2.2.2.1 a.2.2.2.2.2.1 a.2.2.2.2.2.2.1 a.2.2.2.2.2.2.2 = some r → PureOK Tryd.prog 3 (arg_circalaw31_RelationsOf a) (enc_circalaw31_RelationsOf r) := fun a r h => pureX_ok unr_ok_circalaw31_RelationsOf (Es_ok_circalaw31_RelationsOf n) Tryd.func3 rfl (acOf_code _) (subs_circalaw31_RelationsOf n) rfl ((cert_circalaw31_RelationsOf n a.1 a.2.1 a.2.2.1 a.2.2.2.1 a.2.2.2.2.1 a.2.2.2.2.2.1 a.2.2.2.2.2.2.1 a.2.2.2.2.2.2.2).trans h)
theorem ok_circalaw31_RelationsOf (n : Nat) : EntOK Tryd.prog (e_circalaw31_RelationsOf n) := pureE_ok Tryd.call3 una_ok_circalaw31_RelationsOf (fun _ => rfl) (pure_circalaw31_RelationsOf n)

/-! circa/circalaw31.RelationsThree -/
noncomputable def arg_circalaw31_RelationsThree (a : List Int × List Int × List Int) : List V := [.ai .i16 2 a.1, .ai .i16 2 a.2.1, .ai .i16 2 a.2.2]
noncomputable def una_circalaw31_RelationsThree (l : List V) : Option (List Int × List Int × List Int) := match l with
  | [.ai .i16 2 a0, .ai .i16 2 a1, .ai .i16 2 a2] => some (a0, a1, a2)
  | _ => none
theorem una_ok_circalaw31_RelationsThree : ∀ l a, una_circalaw31_RelationsThree l = some a → l = arg_circalaw31_RelationsThree a := by
  intro l a h
  unfold una_circalaw31_RelationsThree at h
  split at h
  · cases h; rfl
  · cases h
noncomputable def enc_circalaw31_RelationsThree (r : Bool) : V := .b r
noncomputable def unr_circalaw31_RelationsThree (v : V) : Option (Bool) := match v with
  | .b r0 => some r0
  | _ => none
theorem unr_ok_circalaw31_RelationsThree : ∀ v r, unr_circalaw31_RelationsThree v = some r → v = enc_circalaw31_RelationsThree r := by
  intro v r h
  unfold unr_circalaw31_RelationsThree at h
  split at h
  · cases h; rfl
  · cases h
noncomputable def e_circalaw31_RelationsThree (n : Nat) : Ent := pureE 4 una_circalaw31_RelationsThree (fun a => circalaw31_RelationsThree n a.1 a.2.1 a.2.2) enc_circalaw31_RelationsThree
noncomputable def t_circalaw31_RelationsThree (l : List V) (_ : List (Nat × Blk)) : Bool := isS (una_circalaw31_RelationsThree l)
noncomputable def Es_circalaw31_RelationsThree (n : Nat) : List Ent := [e_circalaw31_run n, e_relations_Of n, e_relations_Compose n, e_relations_Set_Has n, e_relations_Mirror n, e_circalaw31_lives n]
theorem Es_ok_circalaw31_RelationsThree (n : Nat) : ∀ x ∈ Es_circalaw31_RelationsThree n, EntOK Tryd.prog x := by
  intro x hx
  simp only [Es_circalaw31_RelationsThree, List.mem_cons, List.not_mem_nil, or_false] at hx
  rcases hx with hx | hx | hx | hx | hx | hx
  · rw [hx]; exact ok_circalaw31_run n
  · rw [hx]; exact ok_relations_Of n
  · rw [hx]; exact ok_relations_Compose n
  · rw [hx]; exact ok_relations_Set_Has n
  · rw [hx]; exact ok_relations_Mirror n
  · rw [hx]; exact ok_circalaw31_lives n
noncomputable def an_circalaw31_RelationsThree_l0 : Ann := ⟨[3, 4, 5, 7, 8], [0, 1, 2, 3], 4, [.nilT 7 3 [.i .i8, .i .i64, .i .i8, .i .i64]]⟩
noncomputable def emb_circalaw31_RelationsThree_l0 (x : Int × List Int × List Int × List Int × List (Int × Int × Int × Int)) : St := ⟨[(3, some (.p 0 0)), (4, some (.p 1 0)), (5, some (.p 2 0)), (7, some (.ws 3)), (8, some (.i .i64 x.1))], [(0, .ints .i16 2 x.2.1), (1, .ints .i16 2 x.2.2.1), (2, .ints .i16 2 x.2.2.2.1), (3, .rows [.i .i8, .i .i64, .i .i8, .i .i64] x.2.2.2.2)], 4, 0, 0, 0⟩
noncomputable def un_circalaw31_RelationsThree_l0 (s : St) : Option (Int × List Int × List Int × List Int × List (Int × Int × Int × Int)) := match s with
  | ⟨[(3, some (.p 0 0)), (4, some (.p 1 0)), (5, some (.p 2 0)), (7, some (.ws 3)), (8, some (.i .i64 x0))], [(0, .ints .i16 2 x1), (1, .ints .i16 2 x2), (2, .ints .i16 2 x3), (3, .rows [.i .i8, .i .i64, .i .i8, .i .i64] x4)], 4, 0, 0, 0⟩ => some (x0, x1, x2, x3, x4)
  | _ => none
theorem un_ok_circalaw31_RelationsThree_l0 : ∀ s x, un_circalaw31_RelationsThree_l0 s = some x → s = emb_circalaw31_RelationsThree_l0 x := by
  intro s x h
  unfold un_circalaw31_RelationsThree_l0 at h
  split at h
  · cases h; rfl
  · cases h
noncomputable def ax_circalaw31_RelationsThree_l0 : Ex → Ann := fun ex => match ex with
  | .exit 0 => ⟨[7], [3], 4, []⟩
  | _ => ⟨[], [], 0, []⟩
noncomputable def out_circalaw31_RelationsThree_l0 (y : (List (Int × Int × Int × Int))) : Ex × St := (.exit 0, ⟨[(7, some (.ws 3))], [(3, .rows [.i .i8, .i .i64, .i .i8, .i .i64] y)], 4, 0, 0, 0⟩)
noncomputable def outK_circalaw31_RelationsThree_l0 (α : Type) (y : (List (Int × Int × Int × Int))) (k : Ex → St → Option α) : Option α := (k (.exit 0) ⟨[(7, some (.ws 3))], [(3, .rows [.i .i8, .i .i64, .i .i8, .i .i64] y)], 4, 0, 0, 0⟩)
theorem outK_ok_circalaw31_RelationsThree_l0 : ∀ α y k, outK_circalaw31_RelationsThree_l0 α y k = k (out_circalaw31_RelationsThree_l0 y).1 (out_circalaw31_RelationsThree_l0 y).2 := by
  intro α y k
  rfl
noncomputable def ux_circalaw31_RelationsThree_l0 (ex : Ex) (s : St) : Option ((List (Int × Int × Int × Int))) := match ex, s with
  | .exit 0, ⟨[(7, some (.ws 3))], [(3, .rows [.i .i8, .i .i64, .i .i8, .i .i64] y0)], 4, 0, 0, 0⟩ => some y0
  | _, _ => none
theorem ux_ok_circalaw31_RelationsThree_l0 : ∀ ex s y, ux_circalaw31_RelationsThree_l0 ex s = some y → (ex, s) = out_circalaw31_RelationsThree_l0 y := by
  intro ex s y h
  unfold ux_circalaw31_RelationsThree_l0 at h
  split at h
  · cases h; rfl
  · cases h
noncomputable def Ls_circalaw31_RelationsThree (n : Nat) : List Sub := [subE 0 an_circalaw31_RelationsThree_l0 un_circalaw31_RelationsThree_l0 (fun x => iterL (circalaw31_RelationsThree_l0 n) n x) outK_circalaw31_RelationsThree_l0]
noncomputable def sac_circalaw31_RelationsThree_l0 : AC := getS (subs (acOf Tryd.f4)) 0
noncomputable def ac_circalaw31_RelationsThree_l0 : AC := AC.body sac_circalaw31_RelationsThree_l0
theorem subs_circalaw31_RelationsThree_l0 (n : Nat) : SubOK Tryd.prog 152 (Ls_circalaw31_RelationsThree n) ac_circalaw31_RelationsThree_l0 := SubOK_of _ (by
  have e : subs ac_circalaw31_RelationsThree_l0 = [] := by kernel_rfl
  rw [e]; intro p hp; cases hp)
theorem body_circalaw31_RelationsThree_l0 (n : Nat) : ∀ x, run Tryd.prog (Es_circalaw31_RelationsThree n) (Ls_circalaw31_RelationsThree n) 152 ac_circalaw31_RelationsThree_l0 (emb_circalaw31_RelationsThree_l0 x) (roundK an_circalaw31_RelationsThree_l0 un_circalaw31_RelationsThree_l0 ax_circalaw31_RelationsThree_l0 ux_circalaw31_RelationsThree_l0) = circalaw31_RelationsThree_l0 n x := fun _ => by kernel_rfl
theorem sub1_circalaw31_RelationsThree_l0 (n : Nat) : ∀ (α : Type) (s : St) (k : Ex → St → Option α) (z : α), (subE 0 an_circalaw31_RelationsThree_l0 un_circalaw31_RelationsThree_l0 (fun x => iterL (circalaw31_RelationsThree_l0 n) n x) outK_circalaw31_RelationsThree_l0).e α s k = some z → SemC Tryd.prog 152 (sac_circalaw31_RelationsThree_l0).code s fun ex s' => k ex s' = some z := by
  intro α s k z h
  have e : sac_circalaw31_RelationsThree_l0 = .loop ac_circalaw31_RelationsThree_l0 := by kernel_rfl
  rw [e]
  exact subE_ok (m := 0) (f := fun x => iterL (circalaw31_RelationsThree_l0 n) n x) (out := out_circalaw31_RelationsThree_l0) outK_ok_circalaw31_RelationsThree_l0 un_ok_circalaw31_RelationsThree_l0 (fun x y hy => loop_ok (Es_ok_circalaw31_RelationsThree n) (subs_circalaw31_RelationsThree_l0 n) un_ok_circalaw31_RelationsThree_l0 ux_ok_circalaw31_RelationsThree_l0 (body_circalaw31_RelationsThree_l0 n) n x y hy) h
theorem sub_circalaw31_RelationsThree_l0 (n : Nat) : SubSt Tryd.prog 152 (Ls_circalaw31_RelationsThree n) 0 sac_circalaw31_RelationsThree_l0 := fun α s k z => sub1_circalaw31_RelationsThree_l0 n α s k z
theorem subs_circalaw31_RelationsThree (n : Nat) : SubOK Tryd.prog 152 (Ls_circalaw31_RelationsThree n) (acOf Tryd.f4) := SubOK_of _ (by
  have e : subs (acOf Tryd.f4) = [(0, sac_circalaw31_RelationsThree_l0)] := by kernel_rfl
  rw [e]; intro p hp
  simp only [List.mem_cons, List.not_mem_nil, or_false] at hp
  · rw [hp]; exact sub_circalaw31_RelationsThree_l0 n
  )
theorem cert_circalaw31_RelationsThree (n : Nat) (a0 : List Int) (a1 : List Int) (a2 : List Int) : run Tryd.prog (Es_circalaw31_RelationsThree n) (Ls_circalaw31_RelationsThree n) Tryd.f4.ntmps (acOf Tryd.f4) ⟨argsT [.ai .i16 2 a0, .ai .i16 2 a1, .ai .i16 2 a2] 0, [], 0, 0, 0, 0⟩ (finK Tryd.prog Tryd.f4.results.toList (retX unr_circalaw31_RelationsThree)) = circalaw31_RelationsThree n a0 a1 a2 := by kernel_rfl
theorem pure_circalaw31_RelationsThree (n : Nat) : ∀ a r, circalaw31_RelationsThree n a.1 a.2.1 a.2.2 = some r → PureOK Tryd.prog 4 (arg_circalaw31_RelationsThree a) (enc_circalaw31_RelationsThree r) := fun a r h => pureX_ok unr_ok_circalaw31_RelationsThree (Es_ok_circalaw31_RelationsThree n) Tryd.func4 rfl (acOf_code _) (subs_circalaw31_RelationsThree n) rfl ((cert_circalaw31_RelationsThree n a.1 a.2.1 a.2.2).trans h)
theorem ok_circalaw31_RelationsThree (n : Nat) : EntOK Tryd.prog (e_circalaw31_RelationsThree n) := pureE_ok Tryd.call4 una_ok_circalaw31_RelationsThree (fun _ => rfl) (pure_circalaw31_RelationsThree n)

/-! circa/circaref31.Has -/
noncomputable def arg_circaref31_Has (a : Int × Int) : List V := [.i .i64 a.1, .i .i64 a.2]
noncomputable def una_circaref31_Has (l : List V) : Option (Int × Int) := match l with
  | [.i .i64 a0, .i .i64 a1] => some (a0, a1)
  | _ => none
theorem una_ok_circaref31_Has : ∀ l a, una_circaref31_Has l = some a → l = arg_circaref31_Has a := by
  intro l a h
  unfold una_circaref31_Has at h
  split at h
  · cases h; rfl
  · cases h
noncomputable def enc_circaref31_Has (r : Int) : V := .i .i64 r
noncomputable def unr_circaref31_Has (v : V) : Option (Int) := match v with
  | .i .i64 r0 => some r0
  | _ => none
theorem unr_ok_circaref31_Has : ∀ v r, unr_circaref31_Has v = some r → v = enc_circaref31_Has r := by
  intro v r h
  unfold unr_circaref31_Has at h
  split at h
  · cases h; rfl
  · cases h
noncomputable def e_circaref31_Has (n : Nat) : Ent := pureE 27 una_circaref31_Has (fun a => circaref31_Has n a.1 a.2) enc_circaref31_Has
noncomputable def t_circaref31_Has (l : List V) (_ : List (Nat × Blk)) : Bool := isS (una_circaref31_Has l)
noncomputable def Es_circaref31_Has (_n : Nat) : List Ent := []
theorem Es_ok_circaref31_Has (n : Nat) : ∀ x ∈ Es_circaref31_Has n, EntOK Tryd.prog x := by
  intro x hx
  simp [Es_circaref31_Has] at hx
noncomputable def Ls_circaref31_Has (_n : Nat) : List Sub := []
theorem subs_circaref31_Has (n : Nat) : SubOK Tryd.prog 15 (Ls_circaref31_Has n) (acOf Tryd.f27) := SubOK_of _ (by
  have e : subs (acOf Tryd.f27) = [] := by kernel_rfl
  rw [e]; intro p hp; cases hp)
theorem cert_circaref31_Has (n : Nat) (a0 : Int) (a1 : Int) : run Tryd.prog (Es_circaref31_Has n) (Ls_circaref31_Has n) Tryd.f27.ntmps (acOf Tryd.f27) ⟨argsT [.i .i64 a0, .i .i64 a1] 0, [], 0, 0, 0, 0⟩ (finK Tryd.prog Tryd.f27.results.toList (retX unr_circaref31_Has)) = circaref31_Has n a0 a1 := by kernel_rfl
theorem pure_circaref31_Has (n : Nat) : ∀ a r, circaref31_Has n a.1 a.2 = some r → PureOK Tryd.prog 27 (arg_circaref31_Has a) (enc_circaref31_Has r) := fun a r h => pureX_ok unr_ok_circaref31_Has (Es_ok_circaref31_Has n) Tryd.func27 rfl (acOf_code _) (subs_circaref31_Has n) rfl ((cert_circaref31_Has n a.1 a.2).trans h)
theorem ok_circaref31_Has (n : Nat) : EntOK Tryd.prog (e_circaref31_Has n) := pureE_ok Tryd.call27 una_ok_circaref31_Has (fun _ => rfl) (pure_circaref31_Has n)

/-! circa/circaref31.Name -/
noncomputable def arg_circaref31_Name (a : Int) : List V := [.i .i64 a]
noncomputable def una_circaref31_Name (l : List V) : Option (Int) := match l with
  | [.i .i64 a0] => some a0
  | _ => none
theorem una_ok_circaref31_Name : ∀ l a, una_circaref31_Name l = some a → l = arg_circaref31_Name a := by
  intro l a h
  unfold una_circaref31_Name at h
  split at h
  · cases h; rfl
  · cases h
noncomputable def enc_circaref31_Name (r : List UInt8) : V := .s r
noncomputable def unr_circaref31_Name (v : V) : Option (List UInt8) := match v with
  | .s r0 => some r0
  | _ => none
theorem unr_ok_circaref31_Name : ∀ v r, unr_circaref31_Name v = some r → v = enc_circaref31_Name r := by
  intro v r h
  unfold unr_circaref31_Name at h
  split at h
  · cases h; rfl
  · cases h
noncomputable def e_circaref31_Name (n : Nat) : Ent := pureE 23 una_circaref31_Name (fun a => circaref31_Name n a) enc_circaref31_Name
noncomputable def t_circaref31_Name (l : List V) (_ : List (Nat × Blk)) : Bool := isS (una_circaref31_Name l)
noncomputable def Es_circaref31_Name (_n : Nat) : List Ent := []
theorem Es_ok_circaref31_Name (n : Nat) : ∀ x ∈ Es_circaref31_Name n, EntOK Tryd.prog x := by
  intro x hx
  simp [Es_circaref31_Name] at hx
noncomputable def Ls_circaref31_Name (_n : Nat) : List Sub := []
theorem subs_circaref31_Name (n : Nat) : SubOK Tryd.prog 14 (Ls_circaref31_Name n) (acOf Tryd.f23) := SubOK_of _ (by
  have e : subs (acOf Tryd.f23) = [] := by kernel_rfl
  rw [e]; intro p hp; cases hp)
theorem cert_circaref31_Name (n : Nat) (a0 : Int) : run Tryd.prog (Es_circaref31_Name n) (Ls_circaref31_Name n) Tryd.f23.ntmps (acOf Tryd.f23) ⟨argsT [.i .i64 a0] 0, [], 0, 0, 0, 0⟩ (finK Tryd.prog Tryd.f23.results.toList (retX unr_circaref31_Name)) = circaref31_Name n a0 := by kernel_rfl
theorem pure_circaref31_Name (n : Nat) : ∀ a r, circaref31_Name n a = some r → PureOK Tryd.prog 23 (arg_circaref31_Name a) (enc_circaref31_Name r) := fun a r h => pureX_ok unr_ok_circaref31_Name (Es_ok_circaref31_Name n) Tryd.func23 rfl (acOf_code _) (subs_circaref31_Name n) rfl ((cert_circaref31_Name n a).trans h)
theorem ok_circaref31_Name (n : Nat) : EntOK Tryd.prog (e_circaref31_Name n) := pureE_ok Tryd.call23 una_ok_circaref31_Name (fun _ => rfl) (pure_circaref31_Name n)

/-! circa/circaref31.Text -/
noncomputable def arg_circaref31_Text (a : Int) : List V := [.i .i64 a]
noncomputable def una_circaref31_Text (l : List V) : Option (Int) := match l with
  | [.i .i64 a0] => some a0
  | _ => none
theorem una_ok_circaref31_Text : ∀ l a, una_circaref31_Text l = some a → l = arg_circaref31_Text a := by
  intro l a h
  unfold una_circaref31_Text at h
  split at h
  · cases h; rfl
  · cases h
noncomputable def enc_circaref31_Text (r : List UInt8) : V := .s r
noncomputable def unr_circaref31_Text (v : V) : Option (List UInt8) := match v with
  | .s r0 => some r0
  | _ => none
theorem unr_ok_circaref31_Text : ∀ v r, unr_circaref31_Text v = some r → v = enc_circaref31_Text r := by
  intro v r h
  unfold unr_circaref31_Text at h
  split at h
  · cases h; rfl
  · cases h
noncomputable def e_circaref31_Text (n : Nat) : Ent := pureE 20 una_circaref31_Text (fun a => circaref31_Text n a) enc_circaref31_Text
noncomputable def t_circaref31_Text (l : List V) (_ : List (Nat × Blk)) : Bool := isS (una_circaref31_Text l)
noncomputable def Es_circaref31_Text (n : Nat) : List Ent := [e_circaref31_Has n, e_circaref31_Name n]
theorem Es_ok_circaref31_Text (n : Nat) : ∀ x ∈ Es_circaref31_Text n, EntOK Tryd.prog x := by
  intro x hx
  simp only [Es_circaref31_Text, List.mem_cons, List.not_mem_nil, or_false] at hx
  rcases hx with hx | hx
  · rw [hx]; exact ok_circaref31_Has n
  · rw [hx]; exact ok_circaref31_Name n
noncomputable def an_circaref31_Text_l0 : Ann := ⟨[0, 3, 4], [], 0, []⟩
noncomputable def emb_circaref31_Text_l0 (x : Int × List UInt8 × Int) : St := ⟨[(0, some (.i .i64 x.1)), (3, some (.s x.2.1)), (4, some (.i .i64 x.2.2))], [], 0, 0, 0, 0⟩
noncomputable def un_circaref31_Text_l0 (s : St) : Option (Int × List UInt8 × Int) := match s with
  | ⟨[(0, some (.i .i64 x0)), (3, some (.s x1)), (4, some (.i .i64 x2))], [], 0, 0, 0, 0⟩ => some (x0, x1, x2)
  | _ => none
theorem un_ok_circaref31_Text_l0 : ∀ s x, un_circaref31_Text_l0 s = some x → s = emb_circaref31_Text_l0 x := by
  intro s x h
  unfold un_circaref31_Text_l0 at h
  split at h
  · cases h; rfl
  · cases h
noncomputable def ax_circaref31_Text_l0 : Ex → Ann := fun ex => match ex with
  | .exit 0 => ⟨[3], [], 0, []⟩
  | _ => ⟨[], [], 0, []⟩
noncomputable def out_circaref31_Text_l0 (y : List UInt8) : Ex × St := (.exit 0, ⟨[(3, some (.s y))], [], 0, 0, 0, 0⟩)
noncomputable def outK_circaref31_Text_l0 (α : Type) (y : List UInt8) (k : Ex → St → Option α) : Option α := (k (.exit 0) ⟨[(3, some (.s y))], [], 0, 0, 0, 0⟩)
theorem outK_ok_circaref31_Text_l0 : ∀ α y k, outK_circaref31_Text_l0 α y k = k (out_circaref31_Text_l0 y).1 (out_circaref31_Text_l0 y).2 := by
  intro α y k
  rfl
noncomputable def ux_circaref31_Text_l0 (ex : Ex) (s : St) : Option (List UInt8) := match ex, s with
  | .exit 0, ⟨[(3, some (.s y0))], [], 0, 0, 0, 0⟩ => some y0
  | _, _ => none
theorem ux_ok_circaref31_Text_l0 : ∀ ex s y, ux_circaref31_Text_l0 ex s = some y → (ex, s) = out_circaref31_Text_l0 y := by
  intro ex s y h
  unfold ux_circaref31_Text_l0 at h
  split at h
  · cases h; rfl
  · cases h
noncomputable def Ls_circaref31_Text (n : Nat) : List Sub := [subE 0 an_circaref31_Text_l0 un_circaref31_Text_l0 (fun x => iterL (circaref31_Text_l0 n) n x) outK_circaref31_Text_l0]
noncomputable def sac_circaref31_Text_l0 : AC := getS (subs (acOf Tryd.f20)) 0
noncomputable def ac_circaref31_Text_l0 : AC := AC.body sac_circaref31_Text_l0
theorem subs_circaref31_Text_l0 (n : Nat) : SubOK Tryd.prog 24 (Ls_circaref31_Text n) ac_circaref31_Text_l0 := SubOK_of _ (by
  have e : subs ac_circaref31_Text_l0 = [] := by kernel_rfl
  rw [e]; intro p hp; cases hp)
theorem body_circaref31_Text_l0 (n : Nat) : ∀ x, run Tryd.prog (Es_circaref31_Text n) (Ls_circaref31_Text n) 24 ac_circaref31_Text_l0 (emb_circaref31_Text_l0 x) (roundK an_circaref31_Text_l0 un_circaref31_Text_l0 ax_circaref31_Text_l0 ux_circaref31_Text_l0) = circaref31_Text_l0 n x := fun _ => by kernel_rfl
theorem sub1_circaref31_Text_l0 (n : Nat) : ∀ (α : Type) (s : St) (k : Ex → St → Option α) (z : α), (subE 0 an_circaref31_Text_l0 un_circaref31_Text_l0 (fun x => iterL (circaref31_Text_l0 n) n x) outK_circaref31_Text_l0).e α s k = some z → SemC Tryd.prog 24 (sac_circaref31_Text_l0).code s fun ex s' => k ex s' = some z := by
  intro α s k z h
  have e : sac_circaref31_Text_l0 = .loop ac_circaref31_Text_l0 := by kernel_rfl
  rw [e]
  exact subE_ok (m := 0) (f := fun x => iterL (circaref31_Text_l0 n) n x) (out := out_circaref31_Text_l0) outK_ok_circaref31_Text_l0 un_ok_circaref31_Text_l0 (fun x y hy => loop_ok (Es_ok_circaref31_Text n) (subs_circaref31_Text_l0 n) un_ok_circaref31_Text_l0 ux_ok_circaref31_Text_l0 (body_circaref31_Text_l0 n) n x y hy) h
theorem sub_circaref31_Text_l0 (n : Nat) : SubSt Tryd.prog 24 (Ls_circaref31_Text n) 0 sac_circaref31_Text_l0 := fun α s k z => sub1_circaref31_Text_l0 n α s k z
theorem subs_circaref31_Text (n : Nat) : SubOK Tryd.prog 24 (Ls_circaref31_Text n) (acOf Tryd.f20) := SubOK_of _ (by
  have e : subs (acOf Tryd.f20) = [(0, sac_circaref31_Text_l0)] := by kernel_rfl
  rw [e]; intro p hp
  simp only [List.mem_cons, List.not_mem_nil, or_false] at hp
  · rw [hp]; exact sub_circaref31_Text_l0 n
  )
theorem cert_circaref31_Text (n : Nat) (a0 : Int) : run Tryd.prog (Es_circaref31_Text n) (Ls_circaref31_Text n) Tryd.f20.ntmps (acOf Tryd.f20) ⟨argsT [.i .i64 a0] 0, [], 0, 0, 0, 0⟩ (finK Tryd.prog Tryd.f20.results.toList (retX unr_circaref31_Text)) = circaref31_Text n a0 := by kernel_rfl
theorem pure_circaref31_Text (n : Nat) : ∀ a r, circaref31_Text n a = some r → PureOK Tryd.prog 20 (arg_circaref31_Text a) (enc_circaref31_Text r) := fun a r h => pureX_ok unr_ok_circaref31_Text (Es_ok_circaref31_Text n) Tryd.func20 rfl (acOf_code _) (subs_circaref31_Text n) rfl ((cert_circaref31_Text n a).trans h)
theorem ok_circaref31_Text (n : Nat) : EntOK Tryd.prog (e_circaref31_Text n) := pureE_ok Tryd.call20 una_ok_circaref31_Text (fun _ => rfl) (pure_circaref31_Text n)

/-! circa/circalaw31.RelationsText -/
noncomputable def arg_circalaw31_RelationsText (a : Int × List UInt8) : List V := [.i .u16 a.1, .s a.2]
noncomputable def una_circalaw31_RelationsText (l : List V) : Option (Int × List UInt8) := match l with
  | [.i .u16 a0, .s a1] => some (a0, a1)
  | _ => none
theorem una_ok_circalaw31_RelationsText : ∀ l a, una_circalaw31_RelationsText l = some a → l = arg_circalaw31_RelationsText a := by
  intro l a h
  unfold una_circalaw31_RelationsText at h
  split at h
  · cases h; rfl
  · cases h
noncomputable def enc_circalaw31_RelationsText (r : Bool) : V := .b r
noncomputable def unr_circalaw31_RelationsText (v : V) : Option (Bool) := match v with
  | .b r0 => some r0
  | _ => none
theorem unr_ok_circalaw31_RelationsText : ∀ v r, unr_circalaw31_RelationsText v = some r → v = enc_circalaw31_RelationsText r := by
  intro v r h
  unfold unr_circalaw31_RelationsText at h
  split at h
  · cases h; rfl
  · cases h
noncomputable def e_circalaw31_RelationsText (n : Nat) : Ent := pureE 5 una_circalaw31_RelationsText (fun a => circalaw31_RelationsText n a.1 a.2) enc_circalaw31_RelationsText
noncomputable def t_circalaw31_RelationsText (l : List V) (_ : List (Nat × Blk)) : Bool := isS (una_circalaw31_RelationsText l)
noncomputable def Es_circalaw31_RelationsText (n : Nat) : List Ent := [e_circalaw31_lives n, e_relations_Set_Text n, e_relations_Parse n, e_circaref31_Text n]
theorem Es_ok_circalaw31_RelationsText (n : Nat) : ∀ x ∈ Es_circalaw31_RelationsText n, EntOK Tryd.prog x := by
  intro x hx
  simp only [Es_circalaw31_RelationsText, List.mem_cons, List.not_mem_nil, or_false] at hx
  rcases hx with hx | hx | hx | hx
  · rw [hx]; exact ok_circalaw31_lives n
  · rw [hx]; exact ok_relations_Set_Text n
  · rw [hx]; exact ok_relations_Parse n
  · rw [hx]; exact ok_circaref31_Text n
noncomputable def Ls_circalaw31_RelationsText (_n : Nat) : List Sub := []
theorem subs_circalaw31_RelationsText (n : Nat) : SubOK Tryd.prog 91 (Ls_circalaw31_RelationsText n) (acOf Tryd.f5) := SubOK_of _ (by
  have e : subs (acOf Tryd.f5) = [] := by kernel_rfl
  rw [e]; intro p hp; cases hp)
theorem cert_circalaw31_RelationsText (n : Nat) (a0 : Int) (a1 : List UInt8) : run Tryd.prog (Es_circalaw31_RelationsText n) (Ls_circalaw31_RelationsText n) Tryd.f5.ntmps (acOf Tryd.f5) ⟨argsT [.i .u16 a0, .s a1] 0, [], 0, 0, 0, 0⟩ (finK Tryd.prog Tryd.f5.results.toList (retX unr_circalaw31_RelationsText)) = circalaw31_RelationsText n a0 a1 := by kernel_rfl
theorem pure_circalaw31_RelationsText (n : Nat) : ∀ a r, circalaw31_RelationsText n a.1 a.2 = some r → PureOK Tryd.prog 5 (arg_circalaw31_RelationsText a) (enc_circalaw31_RelationsText r) := fun a r h => pureX_ok unr_ok_circalaw31_RelationsText (Es_ok_circalaw31_RelationsText n) Tryd.func5 rfl (acOf_code _) (subs_circalaw31_RelationsText n) rfl ((cert_circalaw31_RelationsText n a.1 a.2).trans h)
theorem ok_circalaw31_RelationsText (n : Nat) : EntOK Tryd.prog (e_circalaw31_RelationsText n) := pureE_ok Tryd.call5 una_ok_circalaw31_RelationsText (fun _ => rfl) (pure_circalaw31_RelationsText n)

/-! circa/relations.One -/
noncomputable def arg_relations_One (a : Int) : List V := [.i .u8 a]
noncomputable def una_relations_One (l : List V) : Option (Int) := match l with
  | [.i .u8 a0] => some a0
  | _ => none
theorem una_ok_relations_One : ∀ l a, una_relations_One l = some a → l = arg_relations_One a := by
  intro l a h
  unfold una_relations_One at h
  split at h
  · cases h; rfl
  · cases h
noncomputable def enc_relations_One (r : Int × Int) : V := .tp [.i .u16 r.1, .i .i64 r.2]
noncomputable def unr_relations_One (v : V) : Option (Int × Int) := match v with
  | .tp [.i .u16 r0, .i .i64 r1] => some (r0, r1)
  | _ => none
theorem unr_ok_relations_One : ∀ v r, unr_relations_One v = some r → v = enc_relations_One r := by
  intro v r h
  unfold unr_relations_One at h
  split at h
  · cases h; rfl
  · cases h
noncomputable def e_relations_One (n : Nat) : Ent := pureE 21 una_relations_One (fun a => relations_One n a) enc_relations_One
noncomputable def t_relations_One (l : List V) (_ : List (Nat × Blk)) : Bool := isS (una_relations_One l)
noncomputable def Es_relations_One (n : Nat) : List Ent := [e_relations_valid n]
theorem Es_ok_relations_One (n : Nat) : ∀ x ∈ Es_relations_One n, EntOK Tryd.prog x := by
  intro x hx
  simp only [Es_relations_One, List.mem_cons, List.not_mem_nil, or_false] at hx
  · rw [hx]; exact ok_relations_valid n
noncomputable def Ls_relations_One (_n : Nat) : List Sub := []
theorem subs_relations_One (n : Nat) : SubOK Tryd.prog 9 (Ls_relations_One n) (acOf Tryd.f21) := SubOK_of _ (by
  have e : subs (acOf Tryd.f21) = [] := by kernel_rfl
  rw [e]; intro p hp; cases hp)
theorem cert_relations_One (n : Nat) (a0 : Int) : run Tryd.prog (Es_relations_One n) (Ls_relations_One n) Tryd.f21.ntmps (acOf Tryd.f21) ⟨argsT [.i .u8 a0] 0, [], 0, 0, 0, 0⟩ (finK Tryd.prog Tryd.f21.results.toList (retX unr_relations_One)) = relations_One n a0 := by kernel_rfl
theorem pure_relations_One (n : Nat) : ∀ a r, relations_One n a = some r → PureOK Tryd.prog 21 (arg_relations_One a) (enc_relations_One r) := fun a r h => pureX_ok unr_ok_relations_One (Es_ok_relations_One n) Tryd.func21 rfl (acOf_code _) (subs_relations_One n) rfl ((cert_relations_One n a).trans h)
theorem ok_relations_One (n : Nat) : EntOK Tryd.prog (e_relations_One n) := pureE_ok Tryd.call21 una_ok_relations_One (fun _ => rfl) (pure_relations_One n)

end Go.Sh
