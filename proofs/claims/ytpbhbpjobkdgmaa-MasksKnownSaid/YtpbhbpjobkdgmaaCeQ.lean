/- Each function of the program computes its plain function: the certificates.
   Conditions: none. Printed by the bench tool gen.py. -/
import Derived.Test.YtpbhbpjobkdgmaaShQ
import Derived.Test.YtpbhbpjobkdgmaaProg
import Derived.Test.YtpbhbpjobkdgmaaAbsX
import Derived.KernelRfl
set_option linter.unusedVariables false
set_option linter.unusedSimpArgs false
set_option maxRecDepth 100000
namespace Go.Sh
open Go.Abs Go.Proofs

/-! (circa/circalaw03.M).Of -/
noncomputable def arg_circalaw03_M_Of (a : List (Int)) : List V := [.ag [.ws 0]]
noncomputable def H0_circalaw03_M_Of (a : List (Int)) : List (Nat × Blk) := [(0, .rows [.i .u8] a)]
noncomputable def una_circalaw03_M_Of (l : List V) (H : List (Nat × Blk)) : Option ((List (Int)) × List Nat) := match l with
  | [.ag [.ws b0]] => (match Abs.look H b0 with
    | some (.rows [.i .u8] a0) => (cond (Abs.distinct [b0] && true) (some (a0, [b0])) none)
    | _ => none)
  | _ => none
theorem una_ok_circalaw03_M_Of : ∀ l H a ρ, una_circalaw03_M_Of l H = some (a, ρ) → ρ.length = 1 ∧ ρ.Nodup ∧ l = V.rens ρ (arg_circalaw03_M_Of a) ∧ ∀ b blk, Abs.look (H0_circalaw03_M_Of a) b = some blk → Abs.look H (getN ρ b) = some (blk.ren ρ) := by
  intro l H a ρ h
  unfold una_circalaw03_M_Of at h
  split at h
  · split at h
    · rename_i e0
      obtain ⟨hd, h⟩ := cond_some h
      simp only [Bool.and_eq_true] at hd
      obtain ⟨hd, _⟩ := hd
      cases h
      exact ⟨rfl, distinct_ok hd, rfl, eachH_look ⟨e0, trivial⟩⟩
    · cases h
  · cases h
noncomputable def out_circalaw03_M_Of (r : List UInt8) : FOut := (⟨false, .s r, [], []⟩ : FOut)
noncomputable def outK_circalaw03_M_Of (α : Type) (r : List UInt8) (k : FOut → Option α) : Option α := (k ⟨false, .s r, [], []⟩)
theorem outK_ok_circalaw03_M_Of : ∀ α r k, outK_circalaw03_M_Of α r k = k (out_circalaw03_M_Of r) := by
  intro α r k
  rfl
noncomputable def unr_circalaw03_M_Of (pan : Bool) (v : V) (H : List (Nat × Blk)) (nw : List Nat) : Option (List UInt8) := match pan, v, H, nw with
  | false, .s r0, [], [] => some r0
  | _, _, _, _ => none
theorem unr_ok_circalaw03_M_Of : ∀ pan v H nw r, unr_circalaw03_M_Of pan v H nw = some r → (out_circalaw03_M_Of r).pan = pan ∧ (out_circalaw03_M_Of r).news = nw ∧ v = V.ren (upTo 0 1 ++ (out_circalaw03_M_Of r).news) (out_circalaw03_M_Of r).val ∧ H = renH (upTo 0 1 ++ (out_circalaw03_M_Of r).news) (out_circalaw03_M_Of r).H := by
  intro pan v H nw r h
  unfold unr_circalaw03_M_Of at h
  split at h
  · cases h; exact ⟨rfl, rfl, rfl, rfl⟩
  · cases h
theorem hv_circalaw03_M_Of : ∀ r, V.lt (1 + (out_circalaw03_M_Of r).news.length) (out_circalaw03_M_Of r).val = true := fun r => (by rfl)
theorem hc_circalaw03_M_Of : ∀ r, chkH (1 + (out_circalaw03_M_Of r).news.length) (out_circalaw03_M_Of r).H = true := fun r => (by rfl)
theorem hk_circalaw03_M_Of : ∀ r, hasKeys (out_circalaw03_M_Of r).H 1 (0 + (out_circalaw03_M_Of r).news.length) = true := fun r => (by rfl)
noncomputable def e_circalaw03_M_Of (n : Nat) : Ent := funE 42 1 una_circalaw03_M_Of (fun a => circalaw03_M_Of n a) outK_circalaw03_M_Of
noncomputable def t_circalaw03_M_Of (l : List V) (H : List (Nat × Blk)) : Bool := isS (una_circalaw03_M_Of l H)
noncomputable def Es_circalaw03_M_Of (_n : Nat) : List Ent := []
theorem Es_ok_circalaw03_M_Of (n : Nat) : ∀ x ∈ Es_circalaw03_M_Of n, EntOK Try.prog x := by
  intro x hx
  simp [Es_circalaw03_M_Of] at hx
noncomputable def an_circalaw03_M_Of_l0 : Ann := ⟨[1, 3, 4], [0, 1], 2, []⟩
noncomputable def emb_circalaw03_M_Of_l0 (x : List UInt8 × Int × List (Int)) : St := ⟨[(1, some (.p 1 0)), (3, some (.s x.1)), (4, some (.i .i64 x.2.1))], [(0, .rows [.i .u8] x.2.2), (1, .cells [.ws 0])], 2, 1, 1, 1⟩
noncomputable def un_circalaw03_M_Of_l0 (s : St) : Option (List UInt8 × Int × List (Int)) := match s with
  | ⟨[(1, some (.p 1 0)), (3, some (.s x0)), (4, some (.i .i64 x1))], [(0, .rows [.i .u8] x2), (1, .cells [.ws 0])], 2, 1, 1, 1⟩ => some (x0, x1, x2)
  | _ => none
theorem un_ok_circalaw03_M_Of_l0 : ∀ s x, un_circalaw03_M_Of_l0 s = some x → s = emb_circalaw03_M_Of_l0 x := by
  intro s x h
  unfold un_circalaw03_M_Of_l0 at h
  split at h
  · cases h; rfl
  · cases h
noncomputable def ax_circalaw03_M_Of_l0 : Ex → Ann := fun ex => match ex with
  | .exit 0 => ⟨[3], [], 2, []⟩
  | _ => ⟨[], [], 0, []⟩
noncomputable def out_circalaw03_M_Of_l0 (y : List UInt8) : Ex × St := (.exit 0, ⟨[(3, some (.s y))], [], 2, 1, 1, 1⟩)
noncomputable def outK_circalaw03_M_Of_l0 (α : Type) (y : List UInt8) (k : Ex → St → Option α) : Option α := (k (.exit 0) ⟨[(3, some (.s y))], [], 2, 1, 1, 1⟩)
theorem outK_ok_circalaw03_M_Of_l0 : ∀ α y k, outK_circalaw03_M_Of_l0 α y k = k (out_circalaw03_M_Of_l0 y).1 (out_circalaw03_M_Of_l0 y).2 := by
  intro α y k
  rfl
noncomputable def ux_circalaw03_M_Of_l0 (ex : Ex) (s : St) : Option (List UInt8) := match ex, s with
  | .exit 0, ⟨[(3, some (.s y0))], [], 2, 1, 1, 1⟩ => some y0
  | _, _ => none
theorem ux_ok_circalaw03_M_Of_l0 : ∀ ex s y, ux_circalaw03_M_Of_l0 ex s = some y → (ex, s) = out_circalaw03_M_Of_l0 y := by
  intro ex s y h
  unfold ux_circalaw03_M_Of_l0 at h
  split at h
  · cases h; rfl
  · cases h
noncomputable def Ls_circalaw03_M_Of (n : Nat) : List Sub := [subE 0 an_circalaw03_M_Of_l0 un_circalaw03_M_Of_l0 (fun x => iterL (circalaw03_M_Of_l0 n) n x) outK_circalaw03_M_Of_l0]
noncomputable def sac_circalaw03_M_Of_l0 : AC := getS (subs (acOf Try.f42)) 0
noncomputable def ac_circalaw03_M_Of_l0 : AC := AC.body sac_circalaw03_M_Of_l0
theorem subs_circalaw03_M_Of_l0 (n : Nat) : SubOK Try.prog 35 (Ls_circalaw03_M_Of n) ac_circalaw03_M_Of_l0 := SubOK_of _ (by
  have e : subs ac_circalaw03_M_Of_l0 = [] := by kernel_rfl
  rw [e]; intro p hp; cases hp)
theorem body_circalaw03_M_Of_l0 (n : Nat) : ∀ x, run Try.prog (Es_circalaw03_M_Of n) (Ls_circalaw03_M_Of n) 35 ac_circalaw03_M_Of_l0 (emb_circalaw03_M_Of_l0 x) (roundK an_circalaw03_M_Of_l0 un_circalaw03_M_Of_l0 ax_circalaw03_M_Of_l0 ux_circalaw03_M_Of_l0) = circalaw03_M_Of_l0 n x := fun _ => by kernel_rfl
theorem sub1_circalaw03_M_Of_l0 (n : Nat) : ∀ (α : Type) (s : St) (k : Ex → St → Option α) (z : α), (subE 0 an_circalaw03_M_Of_l0 un_circalaw03_M_Of_l0 (fun x => iterL (circalaw03_M_Of_l0 n) n x) outK_circalaw03_M_Of_l0).e α s k = some z → SemC Try.prog 35 (sac_circalaw03_M_Of_l0).code s fun ex s' => k ex s' = some z := by
  intro α s k z h
  have e : sac_circalaw03_M_Of_l0 = .loop ac_circalaw03_M_Of_l0 := by kernel_rfl
  rw [e]
  exact subE_ok (m := 0) (f := fun x => iterL (circalaw03_M_Of_l0 n) n x) (out := out_circalaw03_M_Of_l0) outK_ok_circalaw03_M_Of_l0 un_ok_circalaw03_M_Of_l0 (fun x y hy => loop_ok (Es_ok_circalaw03_M_Of n) (subs_circalaw03_M_Of_l0 n) un_ok_circalaw03_M_Of_l0 ux_ok_circalaw03_M_Of_l0 (body_circalaw03_M_Of_l0 n) n x y hy) h
theorem sub_circalaw03_M_Of_l0 (n : Nat) : SubSt Try.prog 35 (Ls_circalaw03_M_Of n) 0 sac_circalaw03_M_Of_l0 := fun α s k z => sub1_circalaw03_M_Of_l0 n α s k z
theorem subs_circalaw03_M_Of (n : Nat) : SubOK Try.prog 35 (Ls_circalaw03_M_Of n) (acOf Try.f42) := SubOK_of _ (by
  have e : subs (acOf Try.f42) = [(0, sac_circalaw03_M_Of_l0)] := by kernel_rfl
  rw [e]; intro p hp
  simp only [List.mem_cons, List.not_mem_nil, or_false] at hp
  · rw [hp]; exact sub_circalaw03_M_Of_l0 n
  )
theorem cert_circalaw03_M_Of (n : Nat) (a0 : List (Int)) : run Try.prog (Es_circalaw03_M_Of n) (Ls_circalaw03_M_Of n) Try.f42.ntmps (acOf Try.f42) ⟨argsT [.ag [.ws 0]] 0, [(0, .rows [.i .u8] a0)], 1, 1, 1, 1⟩ (finK Try.prog Try.f42.results.toList (funX [] 1 1 1 unr_circalaw03_M_Of)) = circalaw03_M_Of n a0 := by kernel_rfl
theorem fun_circalaw03_M_Of (n : Nat) : ∀ a r, circalaw03_M_Of n a = some r → FunOK Try.prog 42 (arg_circalaw03_M_Of a) (H0_circalaw03_M_Of a) 1 1 1 (out_circalaw03_M_Of r) := fun a r h => funX_ok (ws := []) unr_ok_circalaw03_M_Of hv_circalaw03_M_Of (fun r b blk hl => (chkH_look (hc_circalaw03_M_Of r) b blk hl).2) (fun r => chkH_keys (hc_circalaw03_M_Of r)) (by decide) (Es_ok_circalaw03_M_Of n) Try.func42 rfl (acOf_code _) (subs_circalaw03_M_Of n) rfl rfl ((cert_circalaw03_M_Of n a).trans h)
theorem ok_circalaw03_M_Of (n : Nat) : EntOK Try.prog (e_circalaw03_M_Of n) := funE_ok (m := 1) (ro := 1) (rb := 1) (out := out_circalaw03_M_Of) (arg := arg_circalaw03_M_Of) (H0 := H0_circalaw03_M_Of) Try.call42 (by decide) (by decide) outK_ok_circalaw03_M_Of una_ok_circalaw03_M_Of (fun _ => rfl) (fun a => chkH_look (m := 1) (H := H0_circalaw03_M_Of a) rfl) (fun _ => rfl) (fun r => chkH_keys (hc_circalaw03_M_Of r)) (fun r b blk h => (chkH_look (hc_circalaw03_M_Of r) b blk h).2) (fun r b h1 h2 => hasKeys_ok (hk_circalaw03_M_Of r) b h1 (by omega)) hv_circalaw03_M_Of (fun_circalaw03_M_Of n)

/-! circa/masks.Check -/
noncomputable def arg_masks_Check (a : List UInt8) : List V := [.s a]
noncomputable def una_masks_Check (l : List V) : Option (List UInt8) := match l with
  | [.s a0] => some a0
  | _ => none
theorem una_ok_masks_Check : ∀ l a, una_masks_Check l = some a → l = arg_masks_Check a := by
  intro l a h
  unfold una_masks_Check at h
  split at h
  · cases h; rfl
  · cases h
noncomputable def enc_masks_Check (r : Int) : V := .i .i64 r
noncomputable def unr_masks_Check (v : V) : Option (Int) := match v with
  | .i .i64 r0 => some r0
  | _ => none
theorem unr_ok_masks_Check : ∀ v r, unr_masks_Check v = some r → v = enc_masks_Check r := by
  intro v r h
  unfold unr_masks_Check at h
  split at h
  · cases h; rfl
  · cases h
noncomputable def e_masks_Check (n : Nat) : Ent := pureE 49 una_masks_Check (fun a => masks_Check n a) enc_masks_Check
noncomputable def t_masks_Check (l : List V) (_ : List (Nat × Blk)) : Bool := isS (una_masks_Check l)
noncomputable def Es_masks_Check (_n : Nat) : List Ent := []
theorem Es_ok_masks_Check (n : Nat) : ∀ x ∈ Es_masks_Check n, EntOK Try.prog x := by
  intro x hx
  simp [Es_masks_Check] at hx
noncomputable def an_masks_Check_l0 : Ann := ⟨[0, 9], [0], 1, []⟩
noncomputable def emb_masks_Check_l0 (x : List UInt8 × List UInt8 × Nat) : St := ⟨[(0, some (.s x.1)), (9, some (.p 0 0))], [(0, .iter x.2.1 x.2.2)], 1, 0, 0, 0⟩
noncomputable def un_masks_Check_l0 (s : St) : Option (List UInt8 × List UInt8 × Nat) := match s with
  | ⟨[(0, some (.s x0)), (9, some (.p 0 0))], [(0, .iter x1 x2)], 1, 0, 0, 0⟩ => some (x0, x1, x2)
  | _ => none
theorem un_ok_masks_Check_l0 : ∀ s x, un_masks_Check_l0 s = some x → s = emb_masks_Check_l0 x := by
  intro s x h
  unfold un_masks_Check_l0 at h
  split at h
  · cases h; rfl
  · cases h
noncomputable def ax_masks_Check_l0 : Ex → Ann := fun ex => match ex with
  | .ret => ⟨[2], [], 1, []⟩
  | .exit 0 => ⟨[0], [], 1, []⟩
  | _ => ⟨[], [], 0, []⟩
noncomputable def out_masks_Check_l0 (y : Int ⊕ List UInt8) : Ex × St := (Sum.casesOn (motive := fun _ => Ex × St) y (fun a0 => (.ret, ⟨[(2, some (.i .i64 a0))], [], 1, 0, 0, 0⟩)) (fun b0 => (.exit 0, ⟨[(0, some (.s b0))], [], 1, 0, 0, 0⟩)))
noncomputable def outK_masks_Check_l0 (α : Type) (y : Int ⊕ List UInt8) (k : Ex → St → Option α) : Option α := (Sum.casesOn (motive := fun _ => Option α) y (fun a0 => (k (.ret) ⟨[(2, some (.i .i64 a0))], [], 1, 0, 0, 0⟩)) (fun b0 => (k (.exit 0) ⟨[(0, some (.s b0))], [], 1, 0, 0, 0⟩)))
theorem outK_ok_masks_Check_l0 : ∀ α y k, outK_masks_Check_l0 α y k = k (out_masks_Check_l0 y).1 (out_masks_Check_l0 y).2 := by
  intro α y k
  rcases y with y | y <;> rfl
noncomputable def ux_masks_Check_l0 (ex : Ex) (s : St) : Option (Int ⊕ List UInt8) := match ex, s with
  | .ret, ⟨[(2, some (.i .i64 y0))], [], 1, 0, 0, 0⟩ => some (.inl y0)
  | .exit 0, ⟨[(0, some (.s y0))], [], 1, 0, 0, 0⟩ => some (.inr y0)
  | _, _ => none
theorem ux_ok_masks_Check_l0 : ∀ ex s y, ux_masks_Check_l0 ex s = some y → (ex, s) = out_masks_Check_l0 y := by
  intro ex s y h
  unfold ux_masks_Check_l0 at h
  split at h
  · cases h; rfl
  · cases h; rfl
  · cases h
noncomputable def Ls_masks_Check (n : Nat) : List Sub := [subE 0 an_masks_Check_l0 un_masks_Check_l0 (fun x => iterL (masks_Check_l0 n) n x) outK_masks_Check_l0]
noncomputable def sac_masks_Check_l0 : AC := getS (subs (acOf Try.f49)) 0
noncomputable def ac_masks_Check_l0 : AC := AC.body sac_masks_Check_l0
theorem subs_masks_Check_l0 (n : Nat) : SubOK Try.prog 25 (Ls_masks_Check n) ac_masks_Check_l0 := SubOK_of _ (by
  have e : subs ac_masks_Check_l0 = [] := by kernel_rfl
  rw [e]; intro p hp; cases hp)
theorem body_masks_Check_l0 (n : Nat) : ∀ x, run Try.prog (Es_masks_Check n) (Ls_masks_Check n) 25 ac_masks_Check_l0 (emb_masks_Check_l0 x) (roundK an_masks_Check_l0 un_masks_Check_l0 ax_masks_Check_l0 ux_masks_Check_l0) = masks_Check_l0 n x := fun _ => by kernel_rfl
theorem sub1_masks_Check_l0 (n : Nat) : ∀ (α : Type) (s : St) (k : Ex → St → Option α) (z : α), (subE 0 an_masks_Check_l0 un_masks_Check_l0 (fun x => iterL (masks_Check_l0 n) n x) outK_masks_Check_l0).e α s k = some z → SemC Try.prog 25 (sac_masks_Check_l0).code s fun ex s' => k ex s' = some z := by
  intro α s k z h
  have e : sac_masks_Check_l0 = .loop ac_masks_Check_l0 := by kernel_rfl
  rw [e]
  exact subE_ok (m := 0) (f := fun x => iterL (masks_Check_l0 n) n x) (out := out_masks_Check_l0) outK_ok_masks_Check_l0 un_ok_masks_Check_l0 (fun x y hy => loop_ok (Es_ok_masks_Check n) (subs_masks_Check_l0 n) un_ok_masks_Check_l0 ux_ok_masks_Check_l0 (body_masks_Check_l0 n) n x y hy) h
theorem sub_masks_Check_l0 (n : Nat) : SubSt Try.prog 25 (Ls_masks_Check n) 0 sac_masks_Check_l0 := fun α s k z => sub1_masks_Check_l0 n α s k z
theorem subs_masks_Check (n : Nat) : SubOK Try.prog 25 (Ls_masks_Check n) (acOf Try.f49) := SubOK_of _ (by
  have e : subs (acOf Try.f49) = [(0, sac_masks_Check_l0)] := by kernel_rfl
  rw [e]; intro p hp
  simp only [List.mem_cons, List.not_mem_nil, or_false] at hp
  · rw [hp]; exact sub_masks_Check_l0 n
  )
theorem cert_masks_Check (n : Nat) (a0 : List UInt8) : run Try.prog (Es_masks_Check n) (Ls_masks_Check n) Try.f49.ntmps (acOf Try.f49) ⟨argsT [.s a0] 0, [], 0, 0, 0, 0⟩ (finK Try.prog Try.f49.results.toList (retX unr_masks_Check)) = masks_Check n a0 := by kernel_rfl
theorem pure_masks_Check (n : Nat) : ∀ a r, masks_Check n a = some r → PureOK Try.prog 49 (arg_masks_Check a) (enc_masks_Check r) := fun a r h => pureX_ok unr_ok_masks_Check (Es_ok_masks_Check n) Try.func49 rfl (acOf_code _) (subs_masks_Check n) rfl ((cert_masks_Check n a).trans h)
theorem ok_masks_Check (n : Nat) : EntOK Try.prog (e_masks_Check n) := pureE_ok Try.call49 una_ok_masks_Check (fun _ => rfl) (pure_masks_Check n)

noncomputable def e_ext_101 (_n : Nat) : Ent := countE 101
theorem ok_ext_101 (n : Nat) : EntOK Try.prog (e_ext_101 n) := countE_ok Try.func101 (by kernel_rfl) (by kernel_rfl) (by kernel_rfl) (by kernel_rfl)

/-! strings.Count -/
noncomputable def arg_strings_Count (a : List UInt8) : List V := [.s a, .s [88]]
noncomputable def una_strings_Count (l : List V) : Option (List UInt8) := match l with
  | [.s a0, .s [88]] => some a0
  | _ => none
theorem una_ok_strings_Count : ∀ l a, una_strings_Count l = some a → l = arg_strings_Count a := by
  intro l a h
  unfold una_strings_Count at h
  split at h
  · cases h; rfl
  · cases h
noncomputable def enc_strings_Count (r : Int) : V := .i .i64 r
noncomputable def unr_strings_Count (v : V) : Option (Int) := match v with
  | .i .i64 r0 => some r0
  | _ => none
theorem unr_ok_strings_Count : ∀ v r, unr_strings_Count v = some r → v = enc_strings_Count r := by
  intro v r h
  unfold unr_strings_Count at h
  split at h
  · cases h; rfl
  · cases h
noncomputable def e_strings_Count (n : Nat) : Ent := pureE 85 una_strings_Count (fun a => strings_Count n a) enc_strings_Count
noncomputable def t_strings_Count (l : List V) (_ : List (Nat × Blk)) : Bool := isS (una_strings_Count l)
noncomputable def Es_strings_Count (n : Nat) : List Ent := [e_ext_101 n]
theorem Es_ok_strings_Count (n : Nat) : ∀ x ∈ Es_strings_Count n, EntOK Try.prog x := by
  intro x hx
  simp only [Es_strings_Count, List.mem_cons, List.not_mem_nil, or_false] at hx
  · rw [hx]; exact ok_ext_101 n
noncomputable def Ls_strings_Count (_n : Nat) : List Sub := []
noncomputable def sac_strings_Count_l0 : AC := getS (subs (acOf Try.f85)) 0
theorem nosub_strings_Count_l0 (n : Nat) : SubSt Try.prog 34 (Ls_strings_Count n) 0 sac_strings_Count_l0 := by
  intro α s k z h
  simp [subOf, Ls_strings_Count, subE, altS, Nat.beq] at h
theorem subs_strings_Count (n : Nat) : SubOK Try.prog 34 (Ls_strings_Count n) (acOf Try.f85) := SubOK_of _ (by
  have e : subs (acOf Try.f85) = [(0, sac_strings_Count_l0)] := by kernel_rfl
  rw [e]; intro p hp
  simp only [List.mem_cons, List.not_mem_nil, or_false] at hp
  · rw [hp]; exact nosub_strings_Count_l0 n
  )
theorem cert_strings_Count (n : Nat) (a0 : List UInt8) : run Try.prog (Es_strings_Count n) (Ls_strings_Count n) Try.f85.ntmps (acOf Try.f85) ⟨argsT [.s a0, .s [88]] 0, [], 0, 0, 0, 0⟩ (finK Try.prog Try.f85.results.toList (retX unr_strings_Count)) = strings_Count n a0 := by kernel_rfl
theorem pure_strings_Count (n : Nat) : ∀ a r, strings_Count n a = some r → PureOK Try.prog 85 (arg_strings_Count a) (enc_strings_Count r) := fun a r h => pureX_ok unr_ok_strings_Count (Es_ok_strings_Count n) Try.func85 rfl (acOf_code _) (subs_strings_Count n) rfl ((cert_strings_Count n a).trans h)
theorem ok_strings_Count (n : Nat) : EntOK Try.prog (e_strings_Count n) := pureE_ok Try.call85 una_ok_strings_Count (fun _ => rfl) (pure_strings_Count n)

/-! circa/ints.Pow10 -/
noncomputable def arg_ints_Pow10 (a : Int) : List V := [.i .i64 a]
noncomputable def una_ints_Pow10 (l : List V) : Option (Int) := match l with
  | [.i .i64 a0] => some a0
  | _ => none
theorem una_ok_ints_Pow10 : ∀ l a, una_ints_Pow10 l = some a → l = arg_ints_Pow10 a := by
  intro l a h
  unfold una_ints_Pow10 at h
  split at h
  · cases h; rfl
  · cases h
noncomputable def enc_ints_Pow10 (r : Int × Int) : V := .tp [.i .i64 r.1, .i .i64 r.2]
noncomputable def unr_ints_Pow10 (v : V) : Option (Int × Int) := match v with
  | .tp [.i .i64 r0, .i .i64 r1] => some (r0, r1)
  | _ => none
theorem unr_ok_ints_Pow10 : ∀ v r, unr_ints_Pow10 v = some r → v = enc_ints_Pow10 r := by
  intro v r h
  unfold unr_ints_Pow10 at h
  split at h
  · cases h; rfl
  · cases h
noncomputable def e_ints_Pow10 (n : Nat) : Ent := pureE 99 una_ints_Pow10 (fun a => ints_Pow10 n a) enc_ints_Pow10
noncomputable def t_ints_Pow10 (l : List V) (_ : List (Nat × Blk)) : Bool := isS (una_ints_Pow10 l)
noncomputable def Es_ints_Pow10 (_n : Nat) : List Ent := []
theorem Es_ok_ints_Pow10 (n : Nat) : ∀ x ∈ Es_ints_Pow10 n, EntOK Try.prog x := by
  intro x hx
  simp [Es_ints_Pow10] at hx
noncomputable def an_ints_Pow10_l0 : Ann := ⟨[4, 9, 10], [], 0, []⟩
noncomputable def emb_ints_Pow10_l0 (x : Int × Int × Int) : St := ⟨[(4, some (.i .i64 x.1)), (9, some (.i .i64 x.2.1)), (10, some (.i .i64 x.2.2))], [], 0, 0, 0, 0⟩
noncomputable def un_ints_Pow10_l0 (s : St) : Option (Int × Int × Int) := match s with
  | ⟨[(4, some (.i .i64 x0)), (9, some (.i .i64 x1)), (10, some (.i .i64 x2))], [], 0, 0, 0, 0⟩ => some (x0, x1, x2)
  | _ => none
theorem un_ok_ints_Pow10_l0 : ∀ s x, un_ints_Pow10_l0 s = some x → s = emb_ints_Pow10_l0 x := by
  intro s x h
  unfold un_ints_Pow10_l0 at h
  split at h
  · cases h; rfl
  · cases h
noncomputable def ax_ints_Pow10_l0 : Ex → Ann := fun ex => match ex with
  | .exit 0 => ⟨[4], [], 0, []⟩
  | _ => ⟨[], [], 0, []⟩
noncomputable def out_ints_Pow10_l0 (y : Int) : Ex × St := (.exit 0, ⟨[(4, some (.i .i64 y))], [], 0, 0, 0, 0⟩)
noncomputable def outK_ints_Pow10_l0 (α : Type) (y : Int) (k : Ex → St → Option α) : Option α := (k (.exit 0) ⟨[(4, some (.i .i64 y))], [], 0, 0, 0, 0⟩)
theorem outK_ok_ints_Pow10_l0 : ∀ α y k, outK_ints_Pow10_l0 α y k = k (out_ints_Pow10_l0 y).1 (out_ints_Pow10_l0 y).2 := by
  intro α y k
  rfl
noncomputable def ux_ints_Pow10_l0 (ex : Ex) (s : St) : Option (Int) := match ex, s with
  | .exit 0, ⟨[(4, some (.i .i64 y0))], [], 0, 0, 0, 0⟩ => some y0
  | _, _ => none
theorem ux_ok_ints_Pow10_l0 : ∀ ex s y, ux_ints_Pow10_l0 ex s = some y → (ex, s) = out_ints_Pow10_l0 y := by
  intro ex s y h
  unfold ux_ints_Pow10_l0 at h
  split at h
  · cases h; rfl
  · cases h
noncomputable def Ls_ints_Pow10 (n : Nat) : List Sub := [subE 0 an_ints_Pow10_l0 un_ints_Pow10_l0 (fun x => iterL (ints_Pow10_l0 n) n x) outK_ints_Pow10_l0]
noncomputable def sac_ints_Pow10_l0 : AC := getS (subs (acOf Try.f99)) 0
noncomputable def ac_ints_Pow10_l0 : AC := AC.body sac_ints_Pow10_l0
theorem subs_ints_Pow10_l0 (n : Nat) : SubOK Try.prog 16 (Ls_ints_Pow10 n) ac_ints_Pow10_l0 := SubOK_of _ (by
  have e : subs ac_ints_Pow10_l0 = [] := by kernel_rfl
  rw [e]; intro p hp; cases hp)
theorem body_ints_Pow10_l0 (n : Nat) : ∀ x, run Try.prog (Es_ints_Pow10 n) (Ls_ints_Pow10 n) 16 ac_ints_Pow10_l0 (emb_ints_Pow10_l0 x) (roundK an_ints_Pow10_l0 un_ints_Pow10_l0 ax_ints_Pow10_l0 ux_ints_Pow10_l0) = ints_Pow10_l0 n x := fun _ => by kernel_rfl
theorem sub1_ints_Pow10_l0 (n : Nat) : ∀ (α : Type) (s : St) (k : Ex → St → Option α) (z : α), (subE 0 an_ints_Pow10_l0 un_ints_Pow10_l0 (fun x => iterL (ints_Pow10_l0 n) n x) outK_ints_Pow10_l0).e α s k = some z → SemC Try.prog 16 (sac_ints_Pow10_l0).code s fun ex s' => k ex s' = some z := by
  intro α s k z h
  have e : sac_ints_Pow10_l0 = .loop ac_ints_Pow10_l0 := by kernel_rfl
  rw [e]
  exact subE_ok (m := 0) (f := fun x => iterL (ints_Pow10_l0 n) n x) (out := out_ints_Pow10_l0) outK_ok_ints_Pow10_l0 un_ok_ints_Pow10_l0 (fun x y hy => loop_ok (Es_ok_ints_Pow10 n) (subs_ints_Pow10_l0 n) un_ok_ints_Pow10_l0 ux_ok_ints_Pow10_l0 (body_ints_Pow10_l0 n) n x y hy) h
theorem sub_ints_Pow10_l0 (n : Nat) : SubSt Try.prog 16 (Ls_ints_Pow10 n) 0 sac_ints_Pow10_l0 := fun α s k z => sub1_ints_Pow10_l0 n α s k z
theorem subs_ints_Pow10 (n : Nat) : SubOK Try.prog 16 (Ls_ints_Pow10 n) (acOf Try.f99) := SubOK_of _ (by
  have e : subs (acOf Try.f99) = [(0, sac_ints_Pow10_l0)] := by kernel_rfl
  rw [e]; intro p hp
  simp only [List.mem_cons, List.not_mem_nil, or_false] at hp
  · rw [hp]; exact sub_ints_Pow10_l0 n
  )
theorem cert_ints_Pow10 (n : Nat) (a0 : Int) : run Try.prog (Es_ints_Pow10 n) (Ls_ints_Pow10 n) Try.f99.ntmps (acOf Try.f99) ⟨argsT [.i .i64 a0] 0, [], 0, 0, 0, 0⟩ (finK Try.prog Try.f99.results.toList (retX unr_ints_Pow10)) = ints_Pow10 n a0 := by kernel_rfl
theorem pure_ints_Pow10 (n : Nat) : ∀ a r, ints_Pow10 n a = some r → PureOK Try.prog 99 (arg_ints_Pow10 a) (enc_ints_Pow10 r) := fun a r h => pureX_ok unr_ok_ints_Pow10 (Es_ok_ints_Pow10 n) Try.func99 rfl (acOf_code _) (subs_ints_Pow10 n) rfl ((cert_ints_Pow10 n a).trans h)
theorem ok_ints_Pow10 (n : Nat) : EntOK Try.prog (e_ints_Pow10 n) := pureE_ok Try.call99 una_ok_ints_Pow10 (fun _ => rfl) (pure_ints_Pow10 n)

/-! circa/masks.power -/
noncomputable def arg_masks_power (a : Int) : List V := [.i .i64 a]
noncomputable def una_masks_power (l : List V) : Option (Int) := match l with
  | [.i .i64 a0] => some a0
  | _ => none
theorem una_ok_masks_power : ∀ l a, una_masks_power l = some a → l = arg_masks_power a := by
  intro l a h
  unfold una_masks_power at h
  split at h
  · cases h; rfl
  · cases h
noncomputable def enc_masks_power (r : Int) : V := .i .i64 r
noncomputable def unr_masks_power (v : V) : Option (Int) := match v with
  | .i .i64 r0 => some r0
  | _ => none
theorem unr_ok_masks_power : ∀ v r, unr_masks_power v = some r → v = enc_masks_power r := by
  intro v r h
  unfold unr_masks_power at h
  split at h
  · cases h; rfl
  · cases h
noncomputable def e_masks_power (n : Nat) : Ent := pureE 84 una_masks_power (fun a => masks_power n a) enc_masks_power
noncomputable def t_masks_power (l : List V) (_ : List (Nat × Blk)) : Bool := isS (una_masks_power l)
noncomputable def Es_masks_power (n : Nat) : List Ent := [e_ints_Pow10 n]
theorem Es_ok_masks_power (n : Nat) : ∀ x ∈ Es_masks_power n, EntOK Try.prog x := by
  intro x hx
  simp only [Es_masks_power, List.mem_cons, List.not_mem_nil, or_false] at hx
  · rw [hx]; exact ok_ints_Pow10 n
noncomputable def Ls_masks_power (_n : Nat) : List Sub := []
theorem subs_masks_power (n : Nat) : SubOK Try.prog 11 (Ls_masks_power n) (acOf Try.f84) := SubOK_of _ (by
  have e : subs (acOf Try.f84) = [] := by kernel_rfl
  rw [e]; intro p hp; cases hp)
theorem cert_masks_power (n : Nat) (a0 : Int) : run Try.prog (Es_masks_power n) (Ls_masks_power n) Try.f84.ntmps (acOf Try.f84) ⟨argsT [.i .i64 a0] 0, [], 0, 0, 0, 0⟩ (finK Try.prog Try.f84.results.toList (retX unr_masks_power)) = masks_power n a0 := by kernel_rfl
theorem pure_masks_power (n : Nat) : ∀ a r, masks_power n a = some r → PureOK Try.prog 84 (arg_masks_power a) (enc_masks_power r) := fun a r h => pureX_ok unr_ok_masks_power (Es_ok_masks_power n) Try.func84 rfl (acOf_code _) (subs_masks_power n) rfl ((cert_masks_power n a).trans h)
theorem ok_masks_power (n : Nat) : EntOK Try.prog (e_masks_power n) := pureE_ok Try.call84 una_ok_masks_power (fun _ => rfl) (pure_masks_power n)

/-! circa/masks.Count -/
noncomputable def arg_masks_Count (a : List UInt8) : List V := [.s a]
noncomputable def una_masks_Count (l : List V) : Option (List UInt8) := match l with
  | [.s a0] => some a0
  | _ => none
theorem una_ok_masks_Count : ∀ l a, una_masks_Count l = some a → l = arg_masks_Count a := by
  intro l a h
  unfold una_masks_Count at h
  split at h
  · cases h; rfl
  · cases h
noncomputable def enc_masks_Count (r : Int × Int) : V := .tp [.i .i64 r.1, .i .i64 r.2]
noncomputable def unr_masks_Count (v : V) : Option (Int × Int) := match v with
  | .tp [.i .i64 r0, .i .i64 r1] => some (r0, r1)
  | _ => none
theorem unr_ok_masks_Count : ∀ v r, unr_masks_Count v = some r → v = enc_masks_Count r := by
  intro v r h
  unfold unr_masks_Count at h
  split at h
  · cases h; rfl
  · cases h
noncomputable def e_masks_Count (n : Nat) : Ent := pureE 43 una_masks_Count (fun a => masks_Count n a) enc_masks_Count
noncomputable def t_masks_Count (l : List V) (_ : List (Nat × Blk)) : Bool := isS (una_masks_Count l)
noncomputable def Es_masks_Count (n : Nat) : List Ent := [e_masks_Check n, e_strings_Count n, e_masks_power n]
theorem Es_ok_masks_Count (n : Nat) : ∀ x ∈ Es_masks_Count n, EntOK Try.prog x := by
  intro x hx
  simp only [Es_masks_Count, List.mem_cons, List.not_mem_nil, or_false] at hx
  rcases hx with hx | hx | hx
  · rw [hx]; exact ok_masks_Check n
  · rw [hx]; exact ok_strings_Count n
  · rw [hx]; exact ok_masks_power n
noncomputable def Ls_masks_Count (_n : Nat) : List Sub := []
theorem subs_masks_Count (n : Nat) : SubOK Try.prog 13 (Ls_masks_Count n) (acOf Try.f43) := SubOK_of _ (by
  have e : subs (acOf Try.f43) = [] := by kernel_rfl
  rw [e]; intro p hp; cases hp)
theorem cert_masks_Count (n : Nat) (a0 : List UInt8) : run Try.prog (Es_masks_Count n) (Ls_masks_Count n) Try.f43.ntmps (acOf Try.f43) ⟨argsT [.s a0] 0, [], 0, 0, 0, 0⟩ (finK Try.prog Try.f43.results.toList (retX unr_masks_Count)) = masks_Count n a0 := by kernel_rfl
theorem pure_masks_Count (n : Nat) : ∀ a r, masks_Count n a = some r → PureOK Try.prog 43 (arg_masks_Count a) (enc_masks_Count r) := fun a r h => pureX_ok unr_ok_masks_Count (Es_ok_masks_Count n) Try.func43 rfl (acOf_code _) (subs_masks_Count n) rfl ((cert_masks_Count n a).trans h)
theorem ok_masks_Count (n : Nat) : EntOK Try.prog (e_masks_Count n) := pureE_ok Try.call43 una_ok_masks_Count (fun _ => rfl) (pure_masks_Count n)

/-! circa/masks.filled -/
noncomputable def arg_masks_filled (a : List UInt8 × Int) : List V := [.s a.1, .i .u8 a.2]
noncomputable def una_masks_filled (l : List V) : Option (List UInt8 × Int) := match l with
  | [.s a0, .i .u8 a1] => some (a0, a1)
  | _ => none
theorem una_ok_masks_filled : ∀ l a, una_masks_filled l = some a → l = arg_masks_filled a := by
  intro l a h
  unfold una_masks_filled at h
  split at h
  · cases h; rfl
  · cases h
noncomputable def enc_masks_filled (r : Int) : V := .i .i64 r
noncomputable def unr_masks_filled (v : V) : Option (Int) := match v with
  | .i .i64 r0 => some r0
  | _ => none
theorem unr_ok_masks_filled : ∀ v r, unr_masks_filled v = some r → v = enc_masks_filled r := by
  intro v r h
  unfold unr_masks_filled at h
  split at h
  · cases h; rfl
  · cases h
noncomputable def e_masks_filled (n : Nat) : Ent := pureE 86 una_masks_filled (fun a => masks_filled n a.1 a.2) enc_masks_filled
noncomputable def t_masks_filled (l : List V) (_ : List (Nat × Blk)) : Bool := isS (una_masks_filled l)
noncomputable def Es_masks_filled (_n : Nat) : List Ent := []
theorem Es_ok_masks_filled (n : Nat) : ∀ x ∈ Es_masks_filled n, EntOK Try.prog x := by
  intro x hx
  simp [Es_masks_filled] at hx
noncomputable def an_masks_filled_l0 : Ann := ⟨[1, 5, 9, 10, 11], [0], 1, []⟩
noncomputable def emb_masks_filled_l0 (x : Int × Int × Int × Int × List (Int)) : St := ⟨[(1, some (.i .u8 x.1)), (5, some (.i .i64 x.2.1)), (9, some (.ws 0)), (10, some (.i .i64 x.2.2.1)), (11, some (.i .i64 x.2.2.2.1))], [(0, .rows [.i .u8] x.2.2.2.2)], 1, 0, 0, 0⟩
noncomputable def un_masks_filled_l0 (s : St) : Option (Int × Int × Int × Int × List (Int)) := match s with
  | ⟨[(1, some (.i .u8 x0)), (5, some (.i .i64 x1)), (9, some (.ws 0)), (10, some (.i .i64 x2)), (11, some (.i .i64 x3))], [(0, .rows [.i .u8] x4)], 1, 0, 0, 0⟩ => some (x0, x1, x2, x3, x4)
  | _ => none
theorem un_ok_masks_filled_l0 : ∀ s x, un_masks_filled_l0 s = some x → s = emb_masks_filled_l0 x := by
  intro s x h
  unfold un_masks_filled_l0 at h
  split at h
  · cases h; rfl
  · cases h
noncomputable def ax_masks_filled_l0 : Ex → Ann := fun ex => match ex with
  | .exit 0 => ⟨[5], [], 1, []⟩
  | _ => ⟨[], [], 0, []⟩
noncomputable def out_masks_filled_l0 (y : Int) : Ex × St := (.exit 0, ⟨[(5, some (.i .i64 y))], [], 1, 0, 0, 0⟩)
noncomputable def outK_masks_filled_l0 (α : Type) (y : Int) (k : Ex → St → Option α) : Option α := (k (.exit 0) ⟨[(5, some (.i .i64 y))], [], 1, 0, 0, 0⟩)
theorem outK_ok_masks_filled_l0 : ∀ α y k, outK_masks_filled_l0 α y k = k (out_masks_filled_l0 y).1 (out_masks_filled_l0 y).2 := by
  intro α y k
  rfl
noncomputable def ux_masks_filled_l0 (ex : Ex) (s : St) : Option (Int) := match ex, s with
  | .exit 0, ⟨[(5, some (.i .i64 y0))], [], 1, 0, 0, 0⟩ => some y0
  | _, _ => none
theorem ux_ok_masks_filled_l0 : ∀ ex s y, ux_masks_filled_l0 ex s = some y → (ex, s) = out_masks_filled_l0 y := by
  intro ex s y h
  unfold ux_masks_filled_l0 at h
  split at h
  · cases h; rfl
  · cases h
noncomputable def Ls_masks_filled (n : Nat) : List Sub := [subE 0 an_masks_filled_l0 un_masks_filled_l0 (fun x => iterL (masks_filled_l0 n) n x) outK_masks_filled_l0]
noncomputable def sac_masks_filled_l0 : AC := getS (subs (acOf Try.f86)) 0
noncomputable def ac_masks_filled_l0 : AC := AC.body sac_masks_filled_l0
theorem subs_masks_filled_l0 (n : Nat) : SubOK Try.prog 26 (Ls_masks_filled n) ac_masks_filled_l0 := SubOK_of _ (by
  have e : subs ac_masks_filled_l0 = [] := by kernel_rfl
  rw [e]; intro p hp; cases hp)
theorem body_masks_filled_l0 (n : Nat) : ∀ x, run Try.prog (Es_masks_filled n) (Ls_masks_filled n) 26 ac_masks_filled_l0 (emb_masks_filled_l0 x) (roundK an_masks_filled_l0 un_masks_filled_l0 ax_masks_filled_l0 ux_masks_filled_l0) = masks_filled_l0 n x := fun _ => by kernel_rfl
theorem sub1_masks_filled_l0 (n : Nat) : ∀ (α : Type) (s : St) (k : Ex → St → Option α) (z : α), (subE 0 an_masks_filled_l0 un_masks_filled_l0 (fun x => iterL (masks_filled_l0 n) n x) outK_masks_filled_l0).e α s k = some z → SemC Try.prog 26 (sac_masks_filled_l0).code s fun ex s' => k ex s' = some z := by
  intro α s k z h
  have e : sac_masks_filled_l0 = .loop ac_masks_filled_l0 := by kernel_rfl
  rw [e]
  exact subE_ok (m := 0) (f := fun x => iterL (masks_filled_l0 n) n x) (out := out_masks_filled_l0) outK_ok_masks_filled_l0 un_ok_masks_filled_l0 (fun x y hy => loop_ok (Es_ok_masks_filled n) (subs_masks_filled_l0 n) un_ok_masks_filled_l0 ux_ok_masks_filled_l0 (body_masks_filled_l0 n) n x y hy) h
theorem sub_masks_filled_l0 (n : Nat) : SubSt Try.prog 26 (Ls_masks_filled n) 0 sac_masks_filled_l0 := fun α s k z => sub1_masks_filled_l0 n α s k z
theorem subs_masks_filled (n : Nat) : SubOK Try.prog 26 (Ls_masks_filled n) (acOf Try.f86) := SubOK_of _ (by
  have e : subs (acOf Try.f86) = [(0, sac_masks_filled_l0)] := by kernel_rfl
  rw [e]; intro p hp
  simp only [List.mem_cons, List.not_mem_nil, or_false] at hp
  · rw [hp]; exact sub_masks_filled_l0 n
  )
theorem cert_masks_filled (n : Nat) (a0 : List UInt8) (a1 : Int) : run Try.prog (Es_masks_filled n) (Ls_masks_filled n) Try.f86.ntmps (acOf Try.f86) ⟨argsT [.s a0, .i .u8 a1] 0, [], 0, 0, 0, 0⟩ (finK Try.prog Try.f86.results.toList (retX unr_masks_filled)) = masks_filled n a0 a1 := by kernel_rfl
theorem pure_masks_filled (n : Nat) : ∀ a r, masks_filled n a.1 a.2 = some r → PureOK Try.prog 86 (arg_masks_filled a) (enc_masks_filled r) := fun a r h => pureX_ok unr_ok_masks_filled (Es_ok_masks_filled n) Try.func86 rfl (acOf_code _) (subs_masks_filled n) rfl ((cert_masks_filled n a.1 a.2).trans h)
theorem ok_masks_filled (n : Nat) : EntOK Try.prog (e_masks_filled n) := pureE_ok Try.call86 una_ok_masks_filled (fun _ => rfl) (pure_masks_filled n)

/-! circa/masks.Least -/
noncomputable def arg_masks_Least (a : List UInt8) : List V := [.s a]
noncomputable def una_masks_Least (l : List V) : Option (List UInt8) := match l with
  | [.s a0] => some a0
  | _ => none
theorem una_ok_masks_Least : ∀ l a, una_masks_Least l = some a → l = arg_masks_Least a := by
  intro l a h
  unfold una_masks_Least at h
  split at h
  · cases h; rfl
  · cases h
noncomputable def enc_masks_Least (r : Int × Int) : V := .tp [.i .i64 r.1, .i .i64 r.2]
noncomputable def unr_masks_Least (v : V) : Option (Int × Int) := match v with
  | .tp [.i .i64 r0, .i .i64 r1] => some (r0, r1)
  | _ => none
theorem unr_ok_masks_Least : ∀ v r, unr_masks_Least v = some r → v = enc_masks_Least r := by
  intro v r h
  unfold unr_masks_Least at h
  split at h
  · cases h; rfl
  · cases h
noncomputable def e_masks_Least (n : Nat) : Ent := pureE 44 una_masks_Least (fun a => masks_Least n a) enc_masks_Least
noncomputable def t_masks_Least (l : List V) (_ : List (Nat × Blk)) : Bool := isS (una_masks_Least l)
noncomputable def Es_masks_Least (n : Nat) : List Ent := [e_masks_Check n, e_masks_filled n]
theorem Es_ok_masks_Least (n : Nat) : ∀ x ∈ Es_masks_Least n, EntOK Try.prog x := by
  intro x hx
  simp only [Es_masks_Least, List.mem_cons, List.not_mem_nil, or_false] at hx
  rcases hx with hx | hx
  · rw [hx]; exact ok_masks_Check n
  · rw [hx]; exact ok_masks_filled n
noncomputable def Ls_masks_Least (_n : Nat) : List Sub := []
theorem subs_masks_Least (n : Nat) : SubOK Try.prog 12 (Ls_masks_Least n) (acOf Try.f44) := SubOK_of _ (by
  have e : subs (acOf Try.f44) = [] := by kernel_rfl
  rw [e]; intro p hp; cases hp)
theorem cert_masks_Least (n : Nat) (a0 : List UInt8) : run Try.prog (Es_masks_Least n) (Ls_masks_Least n) Try.f44.ntmps (acOf Try.f44) ⟨argsT [.s a0] 0, [], 0, 0, 0, 0⟩ (finK Try.prog Try.f44.results.toList (retX unr_masks_Least)) = masks_Least n a0 := by kernel_rfl
theorem pure_masks_Least (n : Nat) : ∀ a r, masks_Least n a = some r → PureOK Try.prog 44 (arg_masks_Least a) (enc_masks_Least r) := fun a r h => pureX_ok unr_ok_masks_Least (Es_ok_masks_Least n) Try.func44 rfl (acOf_code _) (subs_masks_Least n) rfl ((cert_masks_Least n a).trans h)
theorem ok_masks_Least (n : Nat) : EntOK Try.prog (e_masks_Least n) := pureE_ok Try.call44 una_ok_masks_Least (fun _ => rfl) (pure_masks_Least n)

/-! circa/masks.Greatest -/
noncomputable def arg_masks_Greatest (a : List UInt8) : List V := [.s a]
noncomputable def una_masks_Greatest (l : List V) : Option (List UInt8) := match l with
  | [.s a0] => some a0
  | _ => none
theorem una_ok_masks_Greatest : ∀ l a, una_masks_Greatest l = some a → l = arg_masks_Greatest a := by
  intro l a h
  unfold una_masks_Greatest at h
  split at h
  · cases h; rfl
  · cases h
noncomputable def enc_masks_Greatest (r : Int × Int) : V := .tp [.i .i64 r.1, .i .i64 r.2]
noncomputable def unr_masks_Greatest (v : V) : Option (Int × Int) := match v with
  | .tp [.i .i64 r0, .i .i64 r1] => some (r0, r1)
  | _ => none
theorem unr_ok_masks_Greatest : ∀ v r, unr_masks_Greatest v = some r → v = enc_masks_Greatest r := by
  intro v r h
  unfold unr_masks_Greatest at h
  split at h
  · cases h; rfl
  · cases h
noncomputable def e_masks_Greatest (n : Nat) : Ent := pureE 45 una_masks_Greatest (fun a => masks_Greatest n a) enc_masks_Greatest
noncomputable def t_masks_Greatest (l : List V) (_ : List (Nat × Blk)) : Bool := isS (una_masks_Greatest l)
noncomputable def Es_masks_Greatest (n : Nat) : List Ent := [e_masks_Check n, e_masks_filled n]
theorem Es_ok_masks_Greatest (n : Nat) : ∀ x ∈ Es_masks_Greatest n, EntOK Try.prog x := by
  intro x hx
  simp only [Es_masks_Greatest, List.mem_cons, List.not_mem_nil, or_false] at hx
  rcases hx with hx | hx
  · rw [hx]; exact ok_masks_Check n
  · rw [hx]; exact ok_masks_filled n
noncomputable def Ls_masks_Greatest (_n : Nat) : List Sub := []
theorem subs_masks_Greatest (n : Nat) : SubOK Try.prog 12 (Ls_masks_Greatest n) (acOf Try.f45) := SubOK_of _ (by
  have e : subs (acOf Try.f45) = [] := by kernel_rfl
  rw [e]; intro p hp; cases hp)
theorem cert_masks_Greatest (n : Nat) (a0 : List UInt8) : run Try.prog (Es_masks_Greatest n) (Ls_masks_Greatest n) Try.f45.ntmps (acOf Try.f45) ⟨argsT [.s a0] 0, [], 0, 0, 0, 0⟩ (finK Try.prog Try.f45.results.toList (retX unr_masks_Greatest)) = masks_Greatest n a0 := by kernel_rfl
theorem pure_masks_Greatest (n : Nat) : ∀ a r, masks_Greatest n a = some r → PureOK Try.prog 45 (arg_masks_Greatest a) (enc_masks_Greatest r) := fun a r h => pureX_ok unr_ok_masks_Greatest (Es_ok_masks_Greatest n) Try.func45 rfl (acOf_code _) (subs_masks_Greatest n) rfl ((cert_masks_Greatest n a).trans h)
theorem ok_masks_Greatest (n : Nat) : EntOK Try.prog (e_masks_Greatest n) := pureE_ok Try.call45 una_ok_masks_Greatest (fun _ => rfl) (pure_masks_Greatest n)

/-! circa/circaref03.Count -/
noncomputable def arg_circaref03_Count (a : List UInt8) : List V := [.s a]
noncomputable def una_circaref03_Count (l : List V) : Option (List UInt8) := match l with
  | [.s a0] => some a0
  | _ => none
theorem una_ok_circaref03_Count : ∀ l a, una_circaref03_Count l = some a → l = arg_circaref03_Count a := by
  intro l a h
  unfold una_circaref03_Count at h
  split at h
  · cases h; rfl
  · cases h
noncomputable def enc_circaref03_Count (r : Int) : V := .i .i64 r
noncomputable def unr_circaref03_Count (v : V) : Option (Int) := match v with
  | .i .i64 r0 => some r0
  | _ => none
theorem unr_ok_circaref03_Count : ∀ v r, unr_circaref03_Count v = some r → v = enc_circaref03_Count r := by
  intro v r h
  unfold unr_circaref03_Count at h
  split at h
  · cases h; rfl
  · cases h
noncomputable def e_circaref03_Count (n : Nat) : Ent := pureE 46 una_circaref03_Count (fun a => circaref03_Count n a) enc_circaref03_Count
noncomputable def t_circaref03_Count (l : List V) (_ : List (Nat × Blk)) : Bool := isS (una_circaref03_Count l)
noncomputable def Es_circaref03_Count (_n : Nat) : List Ent := []
theorem Es_ok_circaref03_Count (n : Nat) : ∀ x ∈ Es_circaref03_Count n, EntOK Try.prog x := by
  intro x hx
  simp [Es_circaref03_Count] at hx
noncomputable def an_circaref03_Count_l0 : Ann := ⟨[0, 3, 4], [], 0, []⟩
noncomputable def emb_circaref03_Count_l0 (x : List UInt8 × Int × Int) : St := ⟨[(0, some (.s x.1)), (3, some (.i .i64 x.2.1)), (4, some (.i .i64 x.2.2))], [], 0, 0, 0, 0⟩
noncomputable def un_circaref03_Count_l0 (s : St) : Option (List UInt8 × Int × Int) := match s with
  | ⟨[(0, some (.s x0)), (3, some (.i .i64 x1)), (4, some (.i .i64 x2))], [], 0, 0, 0, 0⟩ => some (x0, x1, x2)
  | _ => none
theorem un_ok_circaref03_Count_l0 : ∀ s x, un_circaref03_Count_l0 s = some x → s = emb_circaref03_Count_l0 x := by
  intro s x h
  unfold un_circaref03_Count_l0 at h
  split at h
  · cases h; rfl
  · cases h
noncomputable def ax_circaref03_Count_l0 : Ex → Ann := fun ex => match ex with
  | .exit 0 => ⟨[3], [], 0, []⟩
  | _ => ⟨[], [], 0, []⟩
noncomputable def out_circaref03_Count_l0 (y : Int) : Ex × St := (.exit 0, ⟨[(3, some (.i .i64 y))], [], 0, 0, 0, 0⟩)
noncomputable def outK_circaref03_Count_l0 (α : Type) (y : Int) (k : Ex → St → Option α) : Option α := (k (.exit 0) ⟨[(3, some (.i .i64 y))], [], 0, 0, 0, 0⟩)
theorem outK_ok_circaref03_Count_l0 : ∀ α y k, outK_circaref03_Count_l0 α y k = k (out_circaref03_Count_l0 y).1 (out_circaref03_Count_l0 y).2 := by
  intro α y k
  rfl
noncomputable def ux_circaref03_Count_l0 (ex : Ex) (s : St) : Option (Int) := match ex, s with
  | .exit 0, ⟨[(3, some (.i .i64 y0))], [], 0, 0, 0, 0⟩ => some y0
  | _, _ => none
theorem ux_ok_circaref03_Count_l0 : ∀ ex s y, ux_circaref03_Count_l0 ex s = some y → (ex, s) = out_circaref03_Count_l0 y := by
  intro ex s y h
  unfold ux_circaref03_Count_l0 at h
  split at h
  · cases h; rfl
  · cases h
noncomputable def Ls_circaref03_Count (n : Nat) : List Sub := [subE 0 an_circaref03_Count_l0 un_circaref03_Count_l0 (fun x => iterL (circaref03_Count_l0 n) n x) outK_circaref03_Count_l0]
noncomputable def sac_circaref03_Count_l0 : AC := getS (subs (acOf Try.f46)) 0
noncomputable def ac_circaref03_Count_l0 : AC := AC.body sac_circaref03_Count_l0
theorem subs_circaref03_Count_l0 (n : Nat) : SubOK Try.prog 18 (Ls_circaref03_Count n) ac_circaref03_Count_l0 := SubOK_of _ (by
  have e : subs ac_circaref03_Count_l0 = [] := by kernel_rfl
  rw [e]; intro p hp; cases hp)
theorem body_circaref03_Count_l0 (n : Nat) : ∀ x, run Try.prog (Es_circaref03_Count n) (Ls_circaref03_Count n) 18 ac_circaref03_Count_l0 (emb_circaref03_Count_l0 x) (roundK an_circaref03_Count_l0 un_circaref03_Count_l0 ax_circaref03_Count_l0 ux_circaref03_Count_l0) = circaref03_Count_l0 n x := fun _ => by kernel_rfl
theorem sub1_circaref03_Count_l0 (n : Nat) : ∀ (α : Type) (s : St) (k : Ex → St → Option α) (z : α), (subE 0 an_circaref03_Count_l0 un_circaref03_Count_l0 (fun x => iterL (circaref03_Count_l0 n) n x) outK_circaref03_Count_l0).e α s k = some z → SemC Try.prog 18 (sac_circaref03_Count_l0).code s fun ex s' => k ex s' = some z := by
  intro α s k z h
  have e : sac_circaref03_Count_l0 = .loop ac_circaref03_Count_l0 := by kernel_rfl
  rw [e]
  exact subE_ok (m := 0) (f := fun x => iterL (circaref03_Count_l0 n) n x) (out := out_circaref03_Count_l0) outK_ok_circaref03_Count_l0 un_ok_circaref03_Count_l0 (fun x y hy => loop_ok (Es_ok_circaref03_Count n) (subs_circaref03_Count_l0 n) un_ok_circaref03_Count_l0 ux_ok_circaref03_Count_l0 (body_circaref03_Count_l0 n) n x y hy) h
theorem sub_circaref03_Count_l0 (n : Nat) : SubSt Try.prog 18 (Ls_circaref03_Count n) 0 sac_circaref03_Count_l0 := fun α s k z => sub1_circaref03_Count_l0 n α s k z
theorem subs_circaref03_Count (n : Nat) : SubOK Try.prog 18 (Ls_circaref03_Count n) (acOf Try.f46) := SubOK_of _ (by
  have e : subs (acOf Try.f46) = [(0, sac_circaref03_Count_l0)] := by kernel_rfl
  rw [e]; intro p hp
  simp only [List.mem_cons, List.not_mem_nil, or_false] at hp
  · rw [hp]; exact sub_circaref03_Count_l0 n
  )
theorem cert_circaref03_Count (n : Nat) (a0 : List UInt8) : run Try.prog (Es_circaref03_Count n) (Ls_circaref03_Count n) Try.f46.ntmps (acOf Try.f46) ⟨argsT [.s a0] 0, [], 0, 0, 0, 0⟩ (finK Try.prog Try.f46.results.toList (retX unr_circaref03_Count)) = circaref03_Count n a0 := by kernel_rfl
theorem pure_circaref03_Count (n : Nat) : ∀ a r, circaref03_Count n a = some r → PureOK Try.prog 46 (arg_circaref03_Count a) (enc_circaref03_Count r) := fun a r h => pureX_ok unr_ok_circaref03_Count (Es_ok_circaref03_Count n) Try.func46 rfl (acOf_code _) (subs_circaref03_Count n) rfl ((cert_circaref03_Count n a).trans h)
theorem ok_circaref03_Count (n : Nat) : EntOK Try.prog (e_circaref03_Count n) := pureE_ok Try.call46 una_ok_circaref03_Count (fun _ => rfl) (pure_circaref03_Count n)

/-! circa/circalaw03.num -/
noncomputable def arg_circalaw03_num (a : Int × Int × Int) : List V := [.i .i64 a.1, .i .i64 a.2.1, .i .i64 a.2.2]
noncomputable def una_circalaw03_num (l : List V) : Option (Int × Int × Int) := match l with
  | [.i .i64 a0, .i .i64 a1, .i .i64 a2] => some (a0, a1, a2)
  | _ => none
theorem una_ok_circalaw03_num : ∀ l a, una_circalaw03_num l = some a → l = arg_circalaw03_num a := by
  intro l a h
  unfold una_circalaw03_num at h
  split at h
  · cases h; rfl
  · cases h
noncomputable def enc_circalaw03_num (r : Bool) : V := .b r
noncomputable def unr_circalaw03_num (v : V) : Option (Bool) := match v with
  | .b r0 => some r0
  | _ => none
theorem unr_ok_circalaw03_num : ∀ v r, unr_circalaw03_num v = some r → v = enc_circalaw03_num r := by
  intro v r h
  unfold unr_circalaw03_num at h
  split at h
  · cases h; rfl
  · cases h
noncomputable def e_circalaw03_num (n : Nat) : Ent := pureE 47 una_circalaw03_num (fun a => circalaw03_num n a.1 a.2.1 a.2.2) enc_circalaw03_num
noncomputable def t_circalaw03_num (l : List V) (_ : List (Nat × Blk)) : Bool := isS (una_circalaw03_num l)
noncomputable def Es_circalaw03_num (_n : Nat) : List Ent := []
theorem Es_ok_circalaw03_num (n : Nat) : ∀ x ∈ Es_circalaw03_num n, EntOK Try.prog x := by
  intro x hx
  simp [Es_circalaw03_num] at hx
noncomputable def Ls_circalaw03_num (_n : Nat) : List Sub := []
theorem subs_circalaw03_num (n : Nat) : SubOK Try.prog 14 (Ls_circalaw03_num n) (acOf Try.f47) := SubOK_of _ (by
  have e : subs (acOf Try.f47) = [] := by kernel_rfl
  rw [e]; intro p hp; cases hp)
theorem cert_circalaw03_num (n : Nat) (a0 : Int) (a1 : Int) (a2 : Int) : run Try.prog (Es_circalaw03_num n) (Ls_circalaw03_num n) Try.f47.ntmps (acOf Try.f47) ⟨argsT [.i .i64 a0, .i .i64 a1, .i .i64 a2] 0, [], 0, 0, 0, 0⟩ (finK Try.prog Try.f47.results.toList (retX unr_circalaw03_num)) = circalaw03_num n a0 a1 a2 := by kernel_rfl
theorem pure_circalaw03_num (n : Nat) : ∀ a r, circalaw03_num n a.1 a.2.1 a.2.2 = some r → PureOK Try.prog 47 (arg_circalaw03_num a) (enc_circalaw03_num r) := fun a r h => pureX_ok unr_ok_circalaw03_num (Es_ok_circalaw03_num n) Try.func47 rfl (acOf_code _) (subs_circalaw03_num n) rfl ((cert_circalaw03_num n a.1 a.2.1 a.2.2).trans h)
theorem ok_circalaw03_num (n : Nat) : EntOK Try.prog (e_circalaw03_num n) := pureE_ok Try.call47 una_ok_circalaw03_num (fun _ => rfl) (pure_circalaw03_num n)

/-! circa/circaref03.Nth -/
noncomputable def arg_circaref03_Nth (a : List UInt8 × Int) : List V := [.s a.1, .i .i64 a.2]
noncomputable def una_circaref03_Nth (l : List V) : Option (List UInt8 × Int) := match l with
  | [.s a0, .i .i64 a1] => some (a0, a1)
  | _ => none
theorem una_ok_circaref03_Nth : ∀ l a, una_circaref03_Nth l = some a → l = arg_circaref03_Nth a := by
  intro l a h
  unfold una_circaref03_Nth at h
  split at h
  · cases h; rfl
  · cases h
noncomputable def enc_circaref03_Nth (r : Int) : V := .i .i64 r
noncomputable def unr_circaref03_Nth (v : V) : Option (Int) := match v with
  | .i .i64 r0 => some r0
  | _ => none
theorem unr_ok_circaref03_Nth : ∀ v r, unr_circaref03_Nth v = some r → v = enc_circaref03_Nth r := by
  intro v r h
  unfold unr_circaref03_Nth at h
  split at h
  · cases h; rfl
  · cases h
noncomputable def e_circaref03_Nth (n : Nat) : Ent := pureE 48 una_circaref03_Nth (fun a => circaref03_Nth n a.1 a.2) enc_circaref03_Nth
noncomputable def t_circaref03_Nth (l : List V) (_ : List (Nat × Blk)) : Bool := isS (una_circaref03_Nth l)
noncomputable def Es_circaref03_Nth (_n : Nat) : List Ent := []
theorem Es_ok_circaref03_Nth (n : Nat) : ∀ x ∈ Es_circaref03_Nth n, EntOK Try.prog x := by
  intro x hx
  simp [Es_circaref03_Nth] at hx
noncomputable def an_circaref03_Nth_l0 : Ann := ⟨[0, 1, 5, 6, 7], [], 0, []⟩
noncomputable def emb_circaref03_Nth_l0 (x : List UInt8 × Int × Int × Int × Int) : St := ⟨[(0, some (.s x.1)), (1, some (.i .i64 x.2.1)), (5, some (.i .i64 x.2.2.1)), (6, some (.i .i64 x.2.2.2.1)), (7, some (.i .i64 x.2.2.2.2))], [], 0, 0, 0, 0⟩
noncomputable def un_circaref03_Nth_l0 (s : St) : Option (List UInt8 × Int × Int × Int × Int) := match s with
  | ⟨[(0, some (.s x0)), (1, some (.i .i64 x1)), (5, some (.i .i64 x2)), (6, some (.i .i64 x3)), (7, some (.i .i64 x4))], [], 0, 0, 0, 0⟩ => some (x0, x1, x2, x3, x4)
  | _ => none
theorem un_ok_circaref03_Nth_l0 : ∀ s x, un_circaref03_Nth_l0 s = some x → s = emb_circaref03_Nth_l0 x := by
  intro s x h
  unfold un_circaref03_Nth_l0 at h
  split at h
  · cases h; rfl
  · cases h
noncomputable def ax_circaref03_Nth_l0 : Ex → Ann := fun ex => match ex with
  | .exit 0 => ⟨[5], [], 0, []⟩
  | _ => ⟨[], [], 0, []⟩
noncomputable def out_circaref03_Nth_l0 (y : Int) : Ex × St := (.exit 0, ⟨[(5, some (.i .i64 y))], [], 0, 0, 0, 0⟩)
noncomputable def outK_circaref03_Nth_l0 (α : Type) (y : Int) (k : Ex → St → Option α) : Option α := (k (.exit 0) ⟨[(5, some (.i .i64 y))], [], 0, 0, 0, 0⟩)
theorem outK_ok_circaref03_Nth_l0 : ∀ α y k, outK_circaref03_Nth_l0 α y k = k (out_circaref03_Nth_l0 y).1 (out_circaref03_Nth_l0 y).2 := by
  intro α y k
  rfl
noncomputable def ux_circaref03_Nth_l0 (ex : Ex) (s : St) : Option (Int) := match ex, s with
  | .exit 0, ⟨[(5, some (.i .i64 y0))], [], 0, 0, 0, 0⟩ => some y0
  | _, _ => none
theorem ux_ok_circaref03_Nth_l0 : ∀ ex s y, ux_circaref03_Nth_l0 ex s = some y → (ex, s) = out_circaref03_Nth_l0 y := by
  intro ex s y h
  unfold ux_circaref03_Nth_l0 at h
  split at h
  · cases h; rfl
  · cases h
noncomputable def Ls_circaref03_Nth (n : Nat) : List Sub := [subE 0 an_circaref03_Nth_l0 un_circaref03_Nth_l0 (fun x => iterL (circaref03_Nth_l0 n) n x) outK_circaref03_Nth_l0]
noncomputable def sac_circaref03_Nth_l0 : AC := getS (subs (acOf Try.f48)) 0
noncomputable def ac_circaref03_Nth_l0 : AC := AC.body sac_circaref03_Nth_l0
theorem subs_circaref03_Nth_l0 (n : Nat) : SubOK Try.prog 39 (Ls_circaref03_Nth n) ac_circaref03_Nth_l0 := SubOK_of _ (by
  have e : subs ac_circaref03_Nth_l0 = [] := by kernel_rfl
  rw [e]; intro p hp; cases hp)
theorem body_circaref03_Nth_l0 (n : Nat) : ∀ x, run Try.prog (Es_circaref03_Nth n) (Ls_circaref03_Nth n) 39 ac_circaref03_Nth_l0 (emb_circaref03_Nth_l0 x) (roundK an_circaref03_Nth_l0 un_circaref03_Nth_l0 ax_circaref03_Nth_l0 ux_circaref03_Nth_l0) = circaref03_Nth_l0 n x := fun _ => by kernel_rfl
theorem sub1_circaref03_Nth_l0 (n : Nat) : ∀ (α : Type) (s : St) (k : Ex → St → Option α) (z : α), (subE 0 an_circaref03_Nth_l0 un_circaref03_Nth_l0 (fun x => iterL (circaref03_Nth_l0 n) n x) outK_circaref03_Nth_l0).e α s k = some z → SemC Try.prog 39 (sac_circaref03_Nth_l0).code s fun ex s' => k ex s' = some z := by
  intro α s k z h
  have e : sac_circaref03_Nth_l0 = .loop ac_circaref03_Nth_l0 := by kernel_rfl
  rw [e]
  exact subE_ok (m := 0) (f := fun x => iterL (circaref03_Nth_l0 n) n x) (out := out_circaref03_Nth_l0) outK_ok_circaref03_Nth_l0 un_ok_circaref03_Nth_l0 (fun x y hy => loop_ok (Es_ok_circaref03_Nth n) (subs_circaref03_Nth_l0 n) un_ok_circaref03_Nth_l0 ux_ok_circaref03_Nth_l0 (body_circaref03_Nth_l0 n) n x y hy) h
theorem sub_circaref03_Nth_l0 (n : Nat) : SubSt Try.prog 39 (Ls_circaref03_Nth n) 0 sac_circaref03_Nth_l0 := fun α s k z => sub1_circaref03_Nth_l0 n α s k z
theorem subs_circaref03_Nth (n : Nat) : SubOK Try.prog 39 (Ls_circaref03_Nth n) (acOf Try.f48) := SubOK_of _ (by
  have e : subs (acOf Try.f48) = [(0, sac_circaref03_Nth_l0)] := by kernel_rfl
  rw [e]; intro p hp
  simp only [List.mem_cons, List.not_mem_nil, or_false] at hp
  · rw [hp]; exact sub_circaref03_Nth_l0 n
  )
theorem cert_circaref03_Nth (n : Nat) (a0 : List UInt8) (a1 : Int) : run Try.prog (Es_circaref03_Nth n) (Ls_circaref03_Nth n) Try.f48.ntmps (acOf Try.f48) ⟨argsT [.s a0, .i .i64 a1] 0, [], 0, 0, 0, 0⟩ (finK Try.prog Try.f48.results.toList (retX unr_circaref03_Nth)) = circaref03_Nth n a0 a1 := by kernel_rfl
theorem pure_circaref03_Nth (n : Nat) : ∀ a r, circaref03_Nth n a.1 a.2 = some r → PureOK Try.prog 48 (arg_circaref03_Nth a) (enc_circaref03_Nth r) := fun a r h => pureX_ok unr_ok_circaref03_Nth (Es_ok_circaref03_Nth n) Try.func48 rfl (acOf_code _) (subs_circaref03_Nth n) rfl ((cert_circaref03_Nth n a.1 a.2).trans h)
theorem ok_circaref03_Nth (n : Nat) : EntOK Try.prog (e_circaref03_Nth n) := pureE_ok Try.call48 una_ok_circaref03_Nth (fun _ => rfl) (pure_circaref03_Nth n)

/-! circa/masks.value -/
noncomputable def arg_masks_value (a : List UInt8 × List Int) : List V := [.s a.1, .ai .u8 18 a.2]
noncomputable def una_masks_value (l : List V) : Option (List UInt8 × List Int) := match l with
  | [.s a0, .ai .u8 18 a1] => some (a0, a1)
  | _ => none
theorem una_ok_masks_value : ∀ l a, una_masks_value l = some a → l = arg_masks_value a := by
  intro l a h
  unfold una_masks_value at h
  split at h
  · cases h; rfl
  · cases h
noncomputable def enc_masks_value (r : Int) : V := .i .i64 r
noncomputable def unr_masks_value (v : V) : Option (Int) := match v with
  | .i .i64 r0 => some r0
  | _ => none
theorem unr_ok_masks_value : ∀ v r, unr_masks_value v = some r → v = enc_masks_value r := by
  intro v r h
  unfold unr_masks_value at h
  split at h
  · cases h; rfl
  · cases h
noncomputable def e_masks_value (n : Nat) : Ent := pureE 87 una_masks_value (fun a => masks_value n a.1 a.2) enc_masks_value
noncomputable def t_masks_value (l : List V) (_ : List (Nat × Blk)) : Bool := isS (una_masks_value l)
noncomputable def Es_masks_value (n : Nat) : List Ent := [e_masks_filled n]
theorem Es_ok_masks_value (n : Nat) : ∀ x ∈ Es_masks_value n, EntOK Try.prog x := by
  intro x hx
  simp only [Es_masks_value, List.mem_cons, List.not_mem_nil, or_false] at hx
  · rw [hx]; exact ok_masks_filled n
noncomputable def Ls_masks_value (_n : Nat) : List Sub := []
theorem subs_masks_value (n : Nat) : SubOK Try.prog 10 (Ls_masks_value n) (acOf Try.f87) := SubOK_of _ (by
  have e : subs (acOf Try.f87) = [] := by kernel_rfl
  rw [e]; intro p hp; cases hp)
theorem cert_masks_value (n : Nat) (a0 : List UInt8) (a1 : List Int) : run Try.prog (Es_masks_value n) (Ls_masks_value n) Try.f87.ntmps (acOf Try.f87) ⟨argsT [.s a0, .ai .u8 18 a1] 0, [], 0, 0, 0, 0⟩ (finK Try.prog Try.f87.results.toList (retX unr_masks_value)) = masks_value n a0 a1 := by kernel_rfl
theorem pure_masks_value (n : Nat) : ∀ a r, masks_value n a.1 a.2 = some r → PureOK Try.prog 87 (arg_masks_value a) (enc_masks_value r) := fun a r h => pureX_ok unr_ok_masks_value (Es_ok_masks_value n) Try.func87 rfl (acOf_code _) (subs_masks_value n) rfl ((cert_masks_value n a.1 a.2).trans h)
theorem ok_masks_value (n : Nat) : EntOK Try.prog (e_masks_value n) := pureE_ok Try.call87 una_ok_masks_value (fun _ => rfl) (pure_masks_value n)

/-! circa/masks.Nth -/
noncomputable def arg_masks_Nth (a : List UInt8 × Int) : List V := [.s a.1, .i .i64 a.2]
noncomputable def una_masks_Nth (l : List V) : Option (List UInt8 × Int) := match l with
  | [.s a0, .i .i64 a1] => some (a0, a1)
  | _ => none
theorem una_ok_masks_Nth : ∀ l a, una_masks_Nth l = some a → l = arg_masks_Nth a := by
  intro l a h
  unfold una_masks_Nth at h
  split at h
  · cases h; rfl
  · cases h
noncomputable def enc_masks_Nth (r : Int × Int) : V := .tp [.i .i64 r.1, .i .i64 r.2]
noncomputable def unr_masks_Nth (v : V) : Option (Int × Int) := match v with
  | .tp [.i .i64 r0, .i .i64 r1] => some (r0, r1)
  | _ => none
theorem unr_ok_masks_Nth : ∀ v r, unr_masks_Nth v = some r → v = enc_masks_Nth r := by
  intro v r h
  unfold unr_masks_Nth at h
  split at h
  · cases h; rfl
  · cases h
noncomputable def e_masks_Nth (n : Nat) : Ent := pureE 50 una_masks_Nth (fun a => masks_Nth n a.1 a.2) enc_masks_Nth
noncomputable def t_masks_Nth (l : List V) (_ : List (Nat × Blk)) : Bool := isS (una_masks_Nth l)
noncomputable def Es_masks_Nth (n : Nat) : List Ent := [e_masks_Count n, e_masks_value n]
theorem Es_ok_masks_Nth (n : Nat) : ∀ x ∈ Es_masks_Nth n, EntOK Try.prog x := by
  intro x hx
  simp only [Es_masks_Nth, List.mem_cons, List.not_mem_nil, or_false] at hx
  rcases hx with hx | hx
  · rw [hx]; exact ok_masks_Count n
  · rw [hx]; exact ok_masks_value n
noncomputable def an_masks_Nth_l0 : Ann := ⟨[0, 1, 8, 9], [0], 1, []⟩
noncomputable def emb_masks_Nth_l0 (x : List UInt8 × Int × Int × List Int) : St := ⟨[(0, some (.s x.1)), (1, some (.i .i64 x.2.1)), (8, some (.p 0 0)), (9, some (.i .i64 x.2.2.1))], [(0, .ints .u8 18 x.2.2.2)], 1, 0, 0, 0⟩
noncomputable def un_masks_Nth_l0 (s : St) : Option (List UInt8 × Int × Int × List Int) := match s with
  | ⟨[(0, some (.s x0)), (1, some (.i .i64 x1)), (8, some (.p 0 0)), (9, some (.i .i64 x2))], [(0, .ints .u8 18 x3)], 1, 0, 0, 0⟩ => some (x0, x1, x2, x3)
  | _ => none
theorem un_ok_masks_Nth_l0 : ∀ s x, un_masks_Nth_l0 s = some x → s = emb_masks_Nth_l0 x := by
  intro s x h
  unfold un_masks_Nth_l0 at h
  split at h
  · cases h; rfl
  · cases h
noncomputable def ax_masks_Nth_l0 : Ex → Ann := fun ex => match ex with
  | .exit 0 => ⟨[0, 8], [0], 1, []⟩
  | _ => ⟨[], [], 0, []⟩
noncomputable def out_masks_Nth_l0 (y : (List UInt8 × List Int)) : Ex × St := (.exit 0, ⟨[(0, some (.s y.1)), (8, some (.p 0 0))], [(0, .ints .u8 18 y.2)], 1, 0, 0, 0⟩)
noncomputable def outK_masks_Nth_l0 (α : Type) (y : (List UInt8 × List Int)) (k : Ex → St → Option α) : Option α := (k (.exit 0) ⟨[(0, some (.s y.1)), (8, some (.p 0 0))], [(0, .ints .u8 18 y.2)], 1, 0, 0, 0⟩)
theorem outK_ok_masks_Nth_l0 : ∀ α y k, outK_masks_Nth_l0 α y k = k (out_masks_Nth_l0 y).1 (out_masks_Nth_l0 y).2 := by
  intro α y k
  rfl
noncomputable def ux_masks_Nth_l0 (ex : Ex) (s : St) : Option ((List UInt8 × List Int)) := match ex, s with
  | .exit 0, ⟨[(0, some (.s y0)), (8, some (.p 0 0))], [(0, .ints .u8 18 y1)], 1, 0, 0, 0⟩ => some (y0, y1)
  | _, _ => none
theorem ux_ok_masks_Nth_l0 : ∀ ex s y, ux_masks_Nth_l0 ex s = some y → (ex, s) = out_masks_Nth_l0 y := by
  intro ex s y h
  unfold ux_masks_Nth_l0 at h
  split at h
  · cases h; rfl
  · cases h
noncomputable def Ls_masks_Nth (n : Nat) : List Sub := [subE 0 an_masks_Nth_l0 un_masks_Nth_l0 (fun x => iterL (masks_Nth_l0 n) n x) outK_masks_Nth_l0]
noncomputable def sac_masks_Nth_l0 : AC := getS (subs (acOf Try.f50)) 0
noncomputable def ac_masks_Nth_l0 : AC := AC.body sac_masks_Nth_l0
theorem subs_masks_Nth_l0 (n : Nat) : SubOK Try.prog 52 (Ls_masks_Nth n) ac_masks_Nth_l0 := SubOK_of _ (by
  have e : subs ac_masks_Nth_l0 = [] := by kernel_rfl
  rw [e]; intro p hp; cases hp)
theorem body_masks_Nth_l0 (n : Nat) : ∀ x, run Try.prog (Es_masks_Nth n) (Ls_masks_Nth n) 52 ac_masks_Nth_l0 (emb_masks_Nth_l0 x) (roundK an_masks_Nth_l0 un_masks_Nth_l0 ax_masks_Nth_l0 ux_masks_Nth_l0) = masks_Nth_l0 n x := fun _ => by kernel_rfl
theorem sub1_masks_Nth_l0 (n : Nat) : ∀ (α : Type) (s : St) (k : Ex → St → Option α) (z : α), (subE 0 an_masks_Nth_l0 un_masks_Nth_l0 (fun x => iterL (masks_Nth_l0 n) n x) outK_masks_Nth_l0).e α s k = some z → SemC Try.prog 52 (sac_masks_Nth_l0).code s fun ex s' => k ex s' = some z := by
  intro α s k z h
  have e : sac_masks_Nth_l0 = .loop ac_masks_Nth_l0 := by kernel_rfl
  rw [e]
  exact subE_ok (m := 0) (f := fun x => iterL (masks_Nth_l0 n) n x) (out := out_masks_Nth_l0) outK_ok_masks_Nth_l0 un_ok_masks_Nth_l0 (fun x y hy => loop_ok (Es_ok_masks_Nth n) (subs_masks_Nth_l0 n) un_ok_masks_Nth_l0 ux_ok_masks_Nth_l0 (body_masks_Nth_l0 n) n x y hy) h
theorem sub_masks_Nth_l0 (n : Nat) : SubSt Try.prog 52 (Ls_masks_Nth n) 0 sac_masks_Nth_l0 := fun α s k z => sub1_masks_Nth_l0 n α s k z
theorem subs_masks_Nth (n : Nat) : SubOK Try.prog 52 (Ls_masks_Nth n) (acOf Try.f50) := SubOK_of _ (by
  have e : subs (acOf Try.f50) = [(0, sac_masks_Nth_l0)] := by kernel_rfl
  rw [e]; intro p hp
  simp only [List.mem_cons, List.not_mem_nil, or_false] at hp
  · rw [hp]; exact sub_masks_Nth_l0 n
  )
theorem cert_masks_Nth (n : Nat) (a0 : List UInt8) (a1 : Int) : run Try.prog (Es_masks_Nth n) (Ls_masks_Nth n) Try.f50.ntmps (acOf Try.f50) ⟨argsT [.s a0, .i .i64 a1] 0, [], 0, 0, 0, 0⟩ (finK Try.prog Try.f50.results.toList (retX unr_masks_Nth)) = masks_Nth n a0 a1 := by kernel_rfl
theorem pure_masks_Nth (n : Nat) : ∀ a r, masks_Nth n a.1 a.2 = some r → PureOK Try.prog 50 (arg_masks_Nth a) (enc_masks_Nth r) := fun a r h => pureX_ok unr_ok_masks_Nth (Es_ok_masks_Nth n) Try.func50 rfl (acOf_code _) (subs_masks_Nth n) rfl ((cert_masks_Nth n a.1 a.2).trans h)
theorem ok_masks_Nth (n : Nat) : EntOK Try.prog (e_masks_Nth n) := pureE_ok Try.call50 una_ok_masks_Nth (fun _ => rfl) (pure_masks_Nth n)

/-! circa/circalaw03.bad -/
noncomputable def arg_circalaw03_bad (a : Int × Int × Int) : List V := [.i .i64 a.1, .i .i64 a.2.1, .i .i64 a.2.2]
noncomputable def una_circalaw03_bad (l : List V) : Option (Int × Int × Int) := match l with
  | [.i .i64 a0, .i .i64 a1, .i .i64 a2] => some (a0, a1, a2)
  | _ => none
theorem una_ok_circalaw03_bad : ∀ l a, una_circalaw03_bad l = some a → l = arg_circalaw03_bad a := by
  intro l a h
  unfold una_circalaw03_bad at h
  split at h
  · cases h; rfl
  · cases h
noncomputable def enc_circalaw03_bad (r : Bool) : V := .b r
noncomputable def unr_circalaw03_bad (v : V) : Option (Bool) := match v with
  | .b r0 => some r0
  | _ => none
theorem unr_ok_circalaw03_bad : ∀ v r, unr_circalaw03_bad v = some r → v = enc_circalaw03_bad r := by
  intro v r h
  unfold unr_circalaw03_bad at h
  split at h
  · cases h; rfl
  · cases h
noncomputable def e_circalaw03_bad (n : Nat) : Ent := pureE 51 una_circalaw03_bad (fun a => circalaw03_bad n a.1 a.2.1 a.2.2) enc_circalaw03_bad
noncomputable def t_circalaw03_bad (l : List V) (_ : List (Nat × Blk)) : Bool := isS (una_circalaw03_bad l)
noncomputable def Es_circalaw03_bad (_n : Nat) : List Ent := []
theorem Es_ok_circalaw03_bad (n : Nat) : ∀ x ∈ Es_circalaw03_bad n, EntOK Try.prog x := by
  intro x hx
  simp [Es_circalaw03_bad] at hx
noncomputable def Ls_circalaw03_bad (_n : Nat) : List Sub := []
theorem subs_circalaw03_bad (n : Nat) : SubOK Try.prog 14 (Ls_circalaw03_bad n) (acOf Try.f51) := SubOK_of _ (by
  have e : subs (acOf Try.f51) = [] := by kernel_rfl
  rw [e]; intro p hp; cases hp)
theorem cert_circalaw03_bad (n : Nat) (a0 : Int) (a1 : Int) (a2 : Int) : run Try.prog (Es_circalaw03_bad n) (Ls_circalaw03_bad n) Try.f51.ntmps (acOf Try.f51) ⟨argsT [.i .i64 a0, .i .i64 a1, .i .i64 a2] 0, [], 0, 0, 0, 0⟩ (finK Try.prog Try.f51.results.toList (retX unr_circalaw03_bad)) = circalaw03_bad n a0 a1 a2 := by kernel_rfl
theorem pure_circalaw03_bad (n : Nat) : ∀ a r, circalaw03_bad n a.1 a.2.1 a.2.2 = some r → PureOK Try.prog 51 (arg_circalaw03_bad a) (enc_circalaw03_bad r) := fun a r h => pureX_ok unr_ok_circalaw03_bad (Es_ok_circalaw03_bad n) Try.func51 rfl (acOf_code _) (subs_circalaw03_bad n) rfl ((cert_circalaw03_bad n a.1 a.2.1 a.2.2).trans h)
theorem ok_circalaw03_bad (n : Nat) : EntOK Try.prog (e_circalaw03_bad n) := pureE_ok Try.call51 una_ok_circalaw03_bad (fun _ => rfl) (pure_circalaw03_bad n)

/-! circa/masks.within -/
noncomputable def arg_masks_within (a : List UInt8 × Int) : List V := [.s a.1, .i .i64 a.2]
noncomputable def una_masks_within (l : List V) : Option (List UInt8 × Int) := match l with
  | [.s a0, .i .i64 a1] => some (a0, a1)
  | _ => none
theorem una_ok_masks_within : ∀ l a, una_masks_within l = some a → l = arg_masks_within a := by
  intro l a h
  unfold una_masks_within at h
  split at h
  · cases h; rfl
  · cases h
noncomputable def enc_masks_within (r : Bool) : V := .b r
noncomputable def unr_masks_within (v : V) : Option (Bool) := match v with
  | .b r0 => some r0
  | _ => none
theorem unr_ok_masks_within : ∀ v r, unr_masks_within v = some r → v = enc_masks_within r := by
  intro v r h
  unfold unr_masks_within at h
  split at h
  · cases h; rfl
  · cases h
noncomputable def e_masks_within (n : Nat) : Ent := pureE 89 una_masks_within (fun a => masks_within n a.1 a.2) enc_masks_within
noncomputable def t_masks_within (l : List V) (_ : List (Nat × Blk)) : Bool := isS (una_masks_within l)
noncomputable def Es_masks_within (n : Nat) : List Ent := [e_masks_power n]
theorem Es_ok_masks_within (n : Nat) : ∀ x ∈ Es_masks_within n, EntOK Try.prog x := by
  intro x hx
  simp only [Es_masks_within, List.mem_cons, List.not_mem_nil, or_false] at hx
  · rw [hx]; exact ok_masks_power n
noncomputable def Ls_masks_within (_n : Nat) : List Sub := []
theorem subs_masks_within (n : Nat) : SubOK Try.prog 14 (Ls_masks_within n) (acOf Try.f89) := SubOK_of _ (by
  have e : subs (acOf Try.f89) = [] := by kernel_rfl
  rw [e]; intro p hp; cases hp)
theorem cert_masks_within (n : Nat) (a0 : List UInt8) (a1 : Int) : run Try.prog (Es_masks_within n) (Ls_masks_within n) Try.f89.ntmps (acOf Try.f89) ⟨argsT [.s a0, .i .i64 a1] 0, [], 0, 0, 0, 0⟩ (finK Try.prog Try.f89.results.toList (retX unr_masks_within)) = masks_within n a0 a1 := by kernel_rfl
theorem pure_masks_within (n : Nat) : ∀ a r, masks_within n a.1 a.2 = some r → PureOK Try.prog 89 (arg_masks_within a) (enc_masks_within r) := fun a r h => pureX_ok unr_ok_masks_within (Es_ok_masks_within n) Try.func89 rfl (acOf_code _) (subs_masks_within n) rfl ((cert_masks_within n a.1 a.2).trans h)
theorem ok_masks_within (n : Nat) : EntOK Try.prog (e_masks_within n) := pureE_ok Try.call89 una_ok_masks_within (fun _ => rfl) (pure_masks_within n)

/-! circa/masks.split -/
noncomputable def arg_masks_split (a : List UInt8 × Int) : List V := [.s a.1, .i .i64 a.2]
noncomputable def una_masks_split (l : List V) : Option (List UInt8 × Int) := match l with
  | [.s a0, .i .i64 a1] => some (a0, a1)
  | _ => none
theorem una_ok_masks_split : ∀ l a, una_masks_split l = some a → l = arg_masks_split a := by
  intro l a h
  unfold una_masks_split at h
  split at h
  · cases h; rfl
  · cases h
noncomputable def enc_masks_split (r : List Int) : V := .ai .u8 18 r
noncomputable def unr_masks_split (v : V) : Option (List Int) := match v with
  | .ai .u8 18 r0 => some r0
  | _ => none
theorem unr_ok_masks_split : ∀ v r, unr_masks_split v = some r → v = enc_masks_split r := by
  intro v r h
  unfold unr_masks_split at h
  split at h
  · cases h; rfl
  · cases h
noncomputable def e_masks_split (n : Nat) : Ent := pureE 88 una_masks_split (fun a => masks_split n a.1 a.2) enc_masks_split
noncomputable def t_masks_split (l : List V) (_ : List (Nat × Blk)) : Bool := isS (una_masks_split l)
noncomputable def Es_masks_split (_n : Nat) : List Ent := []
theorem Es_ok_masks_split (n : Nat) : ∀ x ∈ Es_masks_split n, EntOK Try.prog x := by
  intro x hx
  simp [Es_masks_split] at hx
noncomputable def an_masks_split_l0 : Ann := ⟨[1, 4, 5], [0], 1, []⟩
noncomputable def emb_masks_split_l0 (x : Int × Int × List Int) : St := ⟨[(1, some (.i .i64 x.1)), (4, some (.p 0 0)), (5, some (.i .i64 x.2.1))], [(0, .ints .u8 18 x.2.2)], 1, 0, 0, 0⟩
noncomputable def un_masks_split_l0 (s : St) : Option (Int × Int × List Int) := match s with
  | ⟨[(1, some (.i .i64 x0)), (4, some (.p 0 0)), (5, some (.i .i64 x1))], [(0, .ints .u8 18 x2)], 1, 0, 0, 0⟩ => some (x0, x1, x2)
  | _ => none
theorem un_ok_masks_split_l0 : ∀ s x, un_masks_split_l0 s = some x → s = emb_masks_split_l0 x := by
  intro s x h
  unfold un_masks_split_l0 at h
  split at h
  · cases h; rfl
  · cases h
noncomputable def ax_masks_split_l0 : Ex → Ann := fun ex => match ex with
  | .exit 0 => ⟨[4], [0], 1, []⟩
  | _ => ⟨[], [], 0, []⟩
noncomputable def out_masks_split_l0 (y : List Int) : Ex × St := (.exit 0, ⟨[(4, some (.p 0 0))], [(0, .ints .u8 18 y)], 1, 0, 0, 0⟩)
noncomputable def outK_masks_split_l0 (α : Type) (y : List Int) (k : Ex → St → Option α) : Option α := (k (.exit 0) ⟨[(4, some (.p 0 0))], [(0, .ints .u8 18 y)], 1, 0, 0, 0⟩)
theorem outK_ok_masks_split_l0 : ∀ α y k, outK_masks_split_l0 α y k = k (out_masks_split_l0 y).1 (out_masks_split_l0 y).2 := by
  intro α y k
  rfl
noncomputable def ux_masks_split_l0 (ex : Ex) (s : St) : Option (List Int) := match ex, s with
  | .exit 0, ⟨[(4, some (.p 0 0))], [(0, .ints .u8 18 y0)], 1, 0, 0, 0⟩ => some y0
  | _, _ => none
theorem ux_ok_masks_split_l0 : ∀ ex s y, ux_masks_split_l0 ex s = some y → (ex, s) = out_masks_split_l0 y := by
  intro ex s y h
  unfold ux_masks_split_l0 at h
  split at h
  · cases h; rfl
  · cases h
noncomputable def Ls_masks_split (n : Nat) : List Sub := [subE 0 an_masks_split_l0 un_masks_split_l0 (fun x => iterL (masks_split_l0 n) n x) outK_masks_split_l0]
noncomputable def sac_masks_split_l0 : AC := getS (subs (acOf Try.f88)) 0
noncomputable def ac_masks_split_l0 : AC := AC.body sac_masks_split_l0
theorem subs_masks_split_l0 (n : Nat) : SubOK Try.prog 22 (Ls_masks_split n) ac_masks_split_l0 := SubOK_of _ (by
  have e : subs ac_masks_split_l0 = [] := by kernel_rfl
  rw [e]; intro p hp; cases hp)
theorem body_masks_split_l0 (n : Nat) : ∀ x, run Try.prog (Es_masks_split n) (Ls_masks_split n) 22 ac_masks_split_l0 (emb_masks_split_l0 x) (roundK an_masks_split_l0 un_masks_split_l0 ax_masks_split_l0 ux_masks_split_l0) = masks_split_l0 n x := fun _ => by kernel_rfl
theorem sub1_masks_split_l0 (n : Nat) : ∀ (α : Type) (s : St) (k : Ex → St → Option α) (z : α), (subE 0 an_masks_split_l0 un_masks_split_l0 (fun x => iterL (masks_split_l0 n) n x) outK_masks_split_l0).e α s k = some z → SemC Try.prog 22 (sac_masks_split_l0).code s fun ex s' => k ex s' = some z := by
  intro α s k z h
  have e : sac_masks_split_l0 = .loop ac_masks_split_l0 := by kernel_rfl
  rw [e]
  exact subE_ok (m := 0) (f := fun x => iterL (masks_split_l0 n) n x) (out := out_masks_split_l0) outK_ok_masks_split_l0 un_ok_masks_split_l0 (fun x y hy => loop_ok (Es_ok_masks_split n) (subs_masks_split_l0 n) un_ok_masks_split_l0 ux_ok_masks_split_l0 (body_masks_split_l0 n) n x y hy) h
theorem sub_masks_split_l0 (n : Nat) : SubSt Try.prog 22 (Ls_masks_split n) 0 sac_masks_split_l0 := fun α s k z => sub1_masks_split_l0 n α s k z
theorem subs_masks_split (n : Nat) : SubOK Try.prog 22 (Ls_masks_split n) (acOf Try.f88) := SubOK_of _ (by
  have e : subs (acOf Try.f88) = [(0, sac_masks_split_l0)] := by kernel_rfl
  rw [e]; intro p hp
  simp only [List.mem_cons, List.not_mem_nil, or_false] at hp
  · rw [hp]; exact sub_masks_split_l0 n
  )
theorem cert_masks_split (n : Nat) (a0 : List UInt8) (a1 : Int) : run Try.prog (Es_masks_split n) (Ls_masks_split n) Try.f88.ntmps (acOf Try.f88) ⟨argsT [.s a0, .i .i64 a1] 0, [], 0, 0, 0, 0⟩ (finK Try.prog Try.f88.results.toList (retX unr_masks_split)) = masks_split n a0 a1 := by kernel_rfl
theorem pure_masks_split (n : Nat) : ∀ a r, masks_split n a.1 a.2 = some r → PureOK Try.prog 88 (arg_masks_split a) (enc_masks_split r) := fun a r h => pureX_ok unr_ok_masks_split (Es_ok_masks_split n) Try.func88 rfl (acOf_code _) (subs_masks_split n) rfl ((cert_masks_split n a.1 a.2).trans h)
theorem ok_masks_split (n : Nat) : EntOK Try.prog (e_masks_split n) := pureE_ok Try.call88 una_ok_masks_split (fun _ => rfl) (pure_masks_split n)

/-! circa/masks.Has -/
noncomputable def arg_masks_Has (a : List UInt8 × Int) : List V := [.s a.1, .i .i64 a.2]
noncomputable def una_masks_Has (l : List V) : Option (List UInt8 × Int) := match l with
  | [.s a0, .i .i64 a1] => some (a0, a1)
  | _ => none
theorem una_ok_masks_Has : ∀ l a, una_masks_Has l = some a → l = arg_masks_Has a := by
  intro l a h
  unfold una_masks_Has at h
  split at h
  · cases h; rfl
  · cases h
noncomputable def enc_masks_Has (r : Bool) : V := .b r
noncomputable def unr_masks_Has (v : V) : Option (Bool) := match v with
  | .b r0 => some r0
  | _ => none
theorem unr_ok_masks_Has : ∀ v r, unr_masks_Has v = some r → v = enc_masks_Has r := by
  intro v r h
  unfold unr_masks_Has at h
  split at h
  · cases h; rfl
  · cases h
noncomputable def e_masks_Has (n : Nat) : Ent := pureE 53 una_masks_Has (fun a => masks_Has n a.1 a.2) enc_masks_Has
noncomputable def t_masks_Has (l : List V) (_ : List (Nat × Blk)) : Bool := isS (una_masks_Has l)
noncomputable def Es_masks_Has (n : Nat) : List Ent := [e_masks_Check n, e_masks_within n, e_masks_split n]
theorem Es_ok_masks_Has (n : Nat) : ∀ x ∈ Es_masks_Has n, EntOK Try.prog x := by
  intro x hx
  simp only [Es_masks_Has, List.mem_cons, List.not_mem_nil, or_false] at hx
  rcases hx with hx | hx | hx
  · rw [hx]; exact ok_masks_Check n
  · rw [hx]; exact ok_masks_within n
  · rw [hx]; exact ok_masks_split n
noncomputable def an_masks_Has_l0 : Ann := ⟨[5, 21], [0, 1], 2, []⟩
noncomputable def emb_masks_Has_l0 (x : List Int × List UInt8 × Nat) : St := ⟨[(5, some (.p 0 0)), (21, some (.p 1 0))], [(0, .ints .u8 18 x.1), (1, .iter x.2.1 x.2.2)], 2, 0, 0, 0⟩
noncomputable def un_masks_Has_l0 (s : St) : Option (List Int × List UInt8 × Nat) := match s with
  | ⟨[(5, some (.p 0 0)), (21, some (.p 1 0))], [(0, .ints .u8 18 x0), (1, .iter x1 x2)], 2, 0, 0, 0⟩ => some (x0, x1, x2)
  | _ => none
theorem un_ok_masks_Has_l0 : ∀ s x, un_masks_Has_l0 s = some x → s = emb_masks_Has_l0 x := by
  intro s x h
  unfold un_masks_Has_l0 at h
  split at h
  · cases h; rfl
  · cases h
noncomputable def ax_masks_Has_l0 : Ex → Ann := fun ex => match ex with
  | .ret => ⟨[4], [], 2, []⟩
  | .exit 0 => ⟨[], [], 2, []⟩
  | _ => ⟨[], [], 0, []⟩
noncomputable def out_masks_Has_l0 (y : Bool ⊕ Unit) : Ex × St := (Sum.casesOn (motive := fun _ => Ex × St) y (fun a0 => (.ret, ⟨[(4, some (.b a0))], [], 2, 0, 0, 0⟩)) (fun b0 => (.exit 0, ⟨[], [], 2, 0, 0, 0⟩)))
noncomputable def outK_masks_Has_l0 (α : Type) (y : Bool ⊕ Unit) (k : Ex → St → Option α) : Option α := (Sum.casesOn (motive := fun _ => Option α) y (fun a0 => (k (.ret) ⟨[(4, some (.b a0))], [], 2, 0, 0, 0⟩)) (fun b0 => (k (.exit 0) ⟨[], [], 2, 0, 0, 0⟩)))
theorem outK_ok_masks_Has_l0 : ∀ α y k, outK_masks_Has_l0 α y k = k (out_masks_Has_l0 y).1 (out_masks_Has_l0 y).2 := by
  intro α y k
  rcases y with y | y <;> rfl
noncomputable def ux_masks_Has_l0 (ex : Ex) (s : St) : Option (Bool ⊕ Unit) := match ex, s with
  | .ret, ⟨[(4, some (.b y0))], [], 2, 0, 0, 0⟩ => some (.inl y0)
  | .exit 0, ⟨[], [], 2, 0, 0, 0⟩ => some (.inr ())
  | _, _ => none
theorem ux_ok_masks_Has_l0 : ∀ ex s y, ux_masks_Has_l0 ex s = some y → (ex, s) = out_masks_Has_l0 y := by
  intro ex s y h
  unfold ux_masks_Has_l0 at h
  split at h
  · cases h; rfl
  · cases h; rfl
  · cases h
noncomputable def Ls_masks_Has (n : Nat) : List Sub := [subE 0 an_masks_Has_l0 un_masks_Has_l0 (fun x => iterL (masks_Has_l0 n) n x) outK_masks_Has_l0]
noncomputable def sac_masks_Has_l0 : AC := getS (subs (acOf Try.f53)) 0
noncomputable def ac_masks_Has_l0 : AC := AC.body sac_masks_Has_l0
theorem subs_masks_Has_l0 (n : Nat) : SubOK Try.prog 36 (Ls_masks_Has n) ac_masks_Has_l0 := SubOK_of _ (by
  have e : subs ac_masks_Has_l0 = [] := by kernel_rfl
  rw [e]; intro p hp; cases hp)
theorem body_masks_Has_l0 (n : Nat) : ∀ x, run Try.prog (Es_masks_Has n) (Ls_masks_Has n) 36 ac_masks_Has_l0 (emb_masks_Has_l0 x) (roundK an_masks_Has_l0 un_masks_Has_l0 ax_masks_Has_l0 ux_masks_Has_l0) = masks_Has_l0 n x := fun _ => by kernel_rfl
theorem sub1_masks_Has_l0 (n : Nat) : ∀ (α : Type) (s : St) (k : Ex → St → Option α) (z : α), (subE 0 an_masks_Has_l0 un_masks_Has_l0 (fun x => iterL (masks_Has_l0 n) n x) outK_masks_Has_l0).e α s k = some z → SemC Try.prog 36 (sac_masks_Has_l0).code s fun ex s' => k ex s' = some z := by
  intro α s k z h
  have e : sac_masks_Has_l0 = .loop ac_masks_Has_l0 := by kernel_rfl
  rw [e]
  exact subE_ok (m := 0) (f := fun x => iterL (masks_Has_l0 n) n x) (out := out_masks_Has_l0) outK_ok_masks_Has_l0 un_ok_masks_Has_l0 (fun x y hy => loop_ok (Es_ok_masks_Has n) (subs_masks_Has_l0 n) un_ok_masks_Has_l0 ux_ok_masks_Has_l0 (body_masks_Has_l0 n) n x y hy) h
theorem sub_masks_Has_l0 (n : Nat) : SubSt Try.prog 36 (Ls_masks_Has n) 0 sac_masks_Has_l0 := fun α s k z => sub1_masks_Has_l0 n α s k z
theorem subs_masks_Has (n : Nat) : SubOK Try.prog 36 (Ls_masks_Has n) (acOf Try.f53) := SubOK_of _ (by
  have e : subs (acOf Try.f53) = [(0, sac_masks_Has_l0)] := by kernel_rfl
  rw [e]; intro p hp
  simp only [List.mem_cons, List.not_mem_nil, or_false] at hp
  · rw [hp]; exact sub_masks_Has_l0 n
  )
theorem cert_masks_Has (n : Nat) (a0 : List UInt8) (a1 : Int) : run Try.prog (Es_masks_Has n) (Ls_masks_Has n) Try.f53.ntmps (acOf Try.f53) ⟨argsT [.s a0, .i .i64 a1] 0, [], 0, 0, 0, 0⟩ (finK Try.prog Try.f53.results.toList (retX unr_masks_Has)) = masks_Has n a0 a1 := by kernel_rfl
theorem pure_masks_Has (n : Nat) : ∀ a r, masks_Has n a.1 a.2 = some r → PureOK Try.prog 53 (arg_masks_Has a) (enc_masks_Has r) := fun a r h => pureX_ok unr_ok_masks_Has (Es_ok_masks_Has n) Try.func53 rfl (acOf_code _) (subs_masks_Has n) rfl ((cert_masks_Has n a.1 a.2).trans h)
theorem ok_masks_Has (n : Nat) : EntOK Try.prog (e_masks_Has n) := pureE_ok Try.call53 una_ok_masks_Has (fun _ => rfl) (pure_masks_Has n)

/-! circa/masks.Index -/
noncomputable def arg_masks_Index (a : List UInt8 × Int) : List V := [.s a.1, .i .i64 a.2]
noncomputable def una_masks_Index (l : List V) : Option (List UInt8 × Int) := match l with
  | [.s a0, .i .i64 a1] => some (a0, a1)
  | _ => none
theorem una_ok_masks_Index : ∀ l a, una_masks_Index l = some a → l = arg_masks_Index a := by
  intro l a h
  unfold una_masks_Index at h
  split at h
  · cases h; rfl
  · cases h
noncomputable def enc_masks_Index (r : Int × Int) : V := .tp [.i .i64 r.1, .i .i64 r.2]
noncomputable def unr_masks_Index (v : V) : Option (Int × Int) := match v with
  | .tp [.i .i64 r0, .i .i64 r1] => some (r0, r1)
  | _ => none
theorem unr_ok_masks_Index : ∀ v r, unr_masks_Index v = some r → v = enc_masks_Index r := by
  intro v r h
  unfold unr_masks_Index at h
  split at h
  · cases h; rfl
  · cases h
noncomputable def e_masks_Index (n : Nat) : Ent := pureE 52 una_masks_Index (fun a => masks_Index n a.1 a.2) enc_masks_Index
noncomputable def t_masks_Index (l : List V) (_ : List (Nat × Blk)) : Bool := isS (una_masks_Index l)
noncomputable def Es_masks_Index (n : Nat) : List Ent := [e_masks_Check n, e_masks_Has n, e_masks_split n]
theorem Es_ok_masks_Index (n : Nat) : ∀ x ∈ Es_masks_Index n, EntOK Try.prog x := by
  intro x hx
  simp only [Es_masks_Index, List.mem_cons, List.not_mem_nil, or_false] at hx
  rcases hx with hx | hx | hx
  · rw [hx]; exact ok_masks_Check n
  · rw [hx]; exact ok_masks_Has n
  · rw [hx]; exact ok_masks_split n
noncomputable def an_masks_Index_l0 : Ann := ⟨[7, 8, 24], [0, 1], 2, []⟩
noncomputable def emb_masks_Index_l0 (x : Int × List Int × List UInt8 × Nat) : St := ⟨[(7, some (.p 0 0)), (8, some (.i .i64 x.1)), (24, some (.p 1 0))], [(0, .ints .u8 18 x.2.1), (1, .iter x.2.2.1 x.2.2.2)], 2, 0, 0, 0⟩
noncomputable def un_masks_Index_l0 (s : St) : Option (Int × List Int × List UInt8 × Nat) := match s with
  | ⟨[(7, some (.p 0 0)), (8, some (.i .i64 x0)), (24, some (.p 1 0))], [(0, .ints .u8 18 x1), (1, .iter x2 x3)], 2, 0, 0, 0⟩ => some (x0, x1, x2, x3)
  | _ => none
theorem un_ok_masks_Index_l0 : ∀ s x, un_masks_Index_l0 s = some x → s = emb_masks_Index_l0 x := by
  intro s x h
  unfold un_masks_Index_l0 at h
  split at h
  · cases h; rfl
  · cases h
noncomputable def ax_masks_Index_l0 : Ex → Ann := fun ex => match ex with
  | .exit 0 => ⟨[8], [], 2, []⟩
  | _ => ⟨[], [], 0, []⟩
noncomputable def out_masks_Index_l0 (y : Int) : Ex × St := (.exit 0, ⟨[(8, some (.i .i64 y))], [], 2, 0, 0, 0⟩)
noncomputable def outK_masks_Index_l0 (α : Type) (y : Int) (k : Ex → St → Option α) : Option α := (k (.exit 0) ⟨[(8, some (.i .i64 y))], [], 2, 0, 0, 0⟩)
theorem outK_ok_masks_Index_l0 : ∀ α y k, outK_masks_Index_l0 α y k = k (out_masks_Index_l0 y).1 (out_masks_Index_l0 y).2 := by
  intro α y k
  rfl
noncomputable def ux_masks_Index_l0 (ex : Ex) (s : St) : Option (Int) := match ex, s with
  | .exit 0, ⟨[(8, some (.i .i64 y0))], [], 2, 0, 0, 0⟩ => some y0
  | _, _ => none
theorem ux_ok_masks_Index_l0 : ∀ ex s y, ux_masks_Index_l0 ex s = some y → (ex, s) = out_masks_Index_l0 y := by
  intro ex s y h
  unfold ux_masks_Index_l0 at h
  split at h
  · cases h; rfl
  · cases h
noncomputable def Ls_masks_Index (n : Nat) : List Sub := [subE 0 an_masks_Index_l0 un_masks_Index_l0 (fun x => iterL (masks_Index_l0 n) n x) outK_masks_Index_l0]
noncomputable def sac_masks_Index_l0 : AC := getS (subs (acOf Try.f52)) 0
noncomputable def ac_masks_Index_l0 : AC := AC.body sac_masks_Index_l0
theorem subs_masks_Index_l0 (n : Nat) : SubOK Try.prog 40 (Ls_masks_Index n) ac_masks_Index_l0 := SubOK_of _ (by
  have e : subs ac_masks_Index_l0 = [] := by kernel_rfl
  rw [e]; intro p hp; cases hp)
theorem body_masks_Index_l0 (n : Nat) : ∀ x, run Try.prog (Es_masks_Index n) (Ls_masks_Index n) 40 ac_masks_Index_l0 (emb_masks_Index_l0 x) (roundK an_masks_Index_l0 un_masks_Index_l0 ax_masks_Index_l0 ux_masks_Index_l0) = masks_Index_l0 n x := fun _ => by kernel_rfl
theorem sub1_masks_Index_l0 (n : Nat) : ∀ (α : Type) (s : St) (k : Ex → St → Option α) (z : α), (subE 0 an_masks_Index_l0 un_masks_Index_l0 (fun x => iterL (masks_Index_l0 n) n x) outK_masks_Index_l0).e α s k = some z → SemC Try.prog 40 (sac_masks_Index_l0).code s fun ex s' => k ex s' = some z := by
  intro α s k z h
  have e : sac_masks_Index_l0 = .loop ac_masks_Index_l0 := by kernel_rfl
  rw [e]
  exact subE_ok (m := 0) (f := fun x => iterL (masks_Index_l0 n) n x) (out := out_masks_Index_l0) outK_ok_masks_Index_l0 un_ok_masks_Index_l0 (fun x y hy => loop_ok (Es_ok_masks_Index n) (subs_masks_Index_l0 n) un_ok_masks_Index_l0 ux_ok_masks_Index_l0 (body_masks_Index_l0 n) n x y hy) h
theorem sub_masks_Index_l0 (n : Nat) : SubSt Try.prog 40 (Ls_masks_Index n) 0 sac_masks_Index_l0 := fun α s k z => sub1_masks_Index_l0 n α s k z
theorem subs_masks_Index (n : Nat) : SubOK Try.prog 40 (Ls_masks_Index n) (acOf Try.f52) := SubOK_of _ (by
  have e : subs (acOf Try.f52) = [(0, sac_masks_Index_l0)] := by kernel_rfl
  rw [e]; intro p hp
  simp only [List.mem_cons, List.not_mem_nil, or_false] at hp
  · rw [hp]; exact sub_masks_Index_l0 n
  )
theorem cert_masks_Index (n : Nat) (a0 : List UInt8) (a1 : Int) : run Try.prog (Es_masks_Index n) (Ls_masks_Index n) Try.f52.ntmps (acOf Try.f52) ⟨argsT [.s a0, .i .i64 a1] 0, [], 0, 0, 0, 0⟩ (finK Try.prog Try.f52.results.toList (retX unr_masks_Index)) = masks_Index n a0 a1 := by kernel_rfl
theorem pure_masks_Index (n : Nat) : ∀ a r, masks_Index n a.1 a.2 = some r → PureOK Try.prog 52 (arg_masks_Index a) (enc_masks_Index r) := fun a r h => pureX_ok unr_ok_masks_Index (Es_ok_masks_Index n) Try.func52 rfl (acOf_code _) (subs_masks_Index n) rfl ((cert_masks_Index n a.1 a.2).trans h)
theorem ok_masks_Index (n : Nat) : EntOK Try.prog (e_masks_Index n) := pureE_ok Try.call52 una_ok_masks_Index (fun _ => rfl) (pure_masks_Index n)

/-! circa/circaref03.Has -/
noncomputable def arg_circaref03_Has (a : List UInt8 × Int) : List V := [.s a.1, .i .i64 a.2]
noncomputable def una_circaref03_Has (l : List V) : Option (List UInt8 × Int) := match l with
  | [.s a0, .i .i64 a1] => some (a0, a1)
  | _ => none
theorem una_ok_circaref03_Has : ∀ l a, una_circaref03_Has l = some a → l = arg_circaref03_Has a := by
  intro l a h
  unfold una_circaref03_Has at h
  split at h
  · cases h; rfl
  · cases h
noncomputable def enc_circaref03_Has (r : Bool) : V := .b r
noncomputable def unr_circaref03_Has (v : V) : Option (Bool) := match v with
  | .b r0 => some r0
  | _ => none
theorem unr_ok_circaref03_Has : ∀ v r, unr_circaref03_Has v = some r → v = enc_circaref03_Has r := by
  intro v r h
  unfold unr_circaref03_Has at h
  split at h
  · cases h; rfl
  · cases h
noncomputable def e_circaref03_Has (n : Nat) : Ent := pureE 54 una_circaref03_Has (fun a => circaref03_Has n a.1 a.2) enc_circaref03_Has
noncomputable def t_circaref03_Has (l : List V) (_ : List (Nat × Blk)) : Bool := isS (una_circaref03_Has l)
noncomputable def Es_circaref03_Has (_n : Nat) : List Ent := []
theorem Es_ok_circaref03_Has (n : Nat) : ∀ x ∈ Es_circaref03_Has n, EntOK Try.prog x := by
  intro x hx
  simp [Es_circaref03_Has] at hx
noncomputable def an_circaref03_Has_l0 : Ann := ⟨[0, 1, 5], [], 0, []⟩
noncomputable def emb_circaref03_Has_l0 (x : List UInt8 × Int × Int) : St := ⟨[(0, some (.s x.1)), (1, some (.i .i64 x.2.1)), (5, some (.i .i64 x.2.2))], [], 0, 0, 0, 0⟩
noncomputable def un_circaref03_Has_l0 (s : St) : Option (List UInt8 × Int × Int) := match s with
  | ⟨[(0, some (.s x0)), (1, some (.i .i64 x1)), (5, some (.i .i64 x2))], [], 0, 0, 0, 0⟩ => some (x0, x1, x2)
  | _ => none
theorem un_ok_circaref03_Has_l0 : ∀ s x, un_circaref03_Has_l0 s = some x → s = emb_circaref03_Has_l0 x := by
  intro s x h
  unfold un_circaref03_Has_l0 at h
  split at h
  · cases h; rfl
  · cases h
noncomputable def ax_circaref03_Has_l0 : Ex → Ann := fun ex => match ex with
  | .ret => ⟨[4], [], 0, []⟩
  | .exit 0 => ⟨[1], [], 0, []⟩
  | _ => ⟨[], [], 0, []⟩
noncomputable def out_circaref03_Has_l0 (y : Bool ⊕ Int) : Ex × St := (Sum.casesOn (motive := fun _ => Ex × St) y (fun a0 => (.ret, ⟨[(4, some (.b a0))], [], 0, 0, 0, 0⟩)) (fun b0 => (.exit 0, ⟨[(1, some (.i .i64 b0))], [], 0, 0, 0, 0⟩)))
noncomputable def outK_circaref03_Has_l0 (α : Type) (y : Bool ⊕ Int) (k : Ex → St → Option α) : Option α := (Sum.casesOn (motive := fun _ => Option α) y (fun a0 => (k (.ret) ⟨[(4, some (.b a0))], [], 0, 0, 0, 0⟩)) (fun b0 => (k (.exit 0) ⟨[(1, some (.i .i64 b0))], [], 0, 0, 0, 0⟩)))
theorem outK_ok_circaref03_Has_l0 : ∀ α y k, outK_circaref03_Has_l0 α y k = k (out_circaref03_Has_l0 y).1 (out_circaref03_Has_l0 y).2 := by
  intro α y k
  rcases y with y | y <;> rfl
noncomputable def ux_circaref03_Has_l0 (ex : Ex) (s : St) : Option (Bool ⊕ Int) := match ex, s with
  | .ret, ⟨[(4, some (.b y0))], [], 0, 0, 0, 0⟩ => some (.inl y0)
  | .exit 0, ⟨[(1, some (.i .i64 y0))], [], 0, 0, 0, 0⟩ => some (.inr y0)
  | _, _ => none
theorem ux_ok_circaref03_Has_l0 : ∀ ex s y, ux_circaref03_Has_l0 ex s = some y → (ex, s) = out_circaref03_Has_l0 y := by
  intro ex s y h
  unfold ux_circaref03_Has_l0 at h
  split at h
  · cases h; rfl
  · cases h; rfl
  · cases h
noncomputable def Ls_circaref03_Has (n : Nat) : List Sub := [subE 0 an_circaref03_Has_l0 un_circaref03_Has_l0 (fun x => iterL (circaref03_Has_l0 n) n x) outK_circaref03_Has_l0]
noncomputable def sac_circaref03_Has_l0 : AC := getS (subs (acOf Try.f54)) 0
noncomputable def ac_circaref03_Has_l0 : AC := AC.body sac_circaref03_Has_l0
theorem subs_circaref03_Has_l0 (n : Nat) : SubOK Try.prog 33 (Ls_circaref03_Has n) ac_circaref03_Has_l0 := SubOK_of _ (by
  have e : subs ac_circaref03_Has_l0 = [] := by kernel_rfl
  rw [e]; intro p hp; cases hp)
theorem body_circaref03_Has_l0 (n : Nat) : ∀ x, run Try.prog (Es_circaref03_Has n) (Ls_circaref03_Has n) 33 ac_circaref03_Has_l0 (emb_circaref03_Has_l0 x) (roundK an_circaref03_Has_l0 un_circaref03_Has_l0 ax_circaref03_Has_l0 ux_circaref03_Has_l0) = circaref03_Has_l0 n x := fun _ => by kernel_rfl
theorem sub1_circaref03_Has_l0 (n : Nat) : ∀ (α : Type) (s : St) (k : Ex → St → Option α) (z : α), (subE 0 an_circaref03_Has_l0 un_circaref03_Has_l0 (fun x => iterL (circaref03_Has_l0 n) n x) outK_circaref03_Has_l0).e α s k = some z → SemC Try.prog 33 (sac_circaref03_Has_l0).code s fun ex s' => k ex s' = some z := by
  intro α s k z h
  have e : sac_circaref03_Has_l0 = .loop ac_circaref03_Has_l0 := by kernel_rfl
  rw [e]
  exact subE_ok (m := 0) (f := fun x => iterL (circaref03_Has_l0 n) n x) (out := out_circaref03_Has_l0) outK_ok_circaref03_Has_l0 un_ok_circaref03_Has_l0 (fun x y hy => loop_ok (Es_ok_circaref03_Has n) (subs_circaref03_Has_l0 n) un_ok_circaref03_Has_l0 ux_ok_circaref03_Has_l0 (body_circaref03_Has_l0 n) n x y hy) h
theorem sub_circaref03_Has_l0 (n : Nat) : SubSt Try.prog 33 (Ls_circaref03_Has n) 0 sac_circaref03_Has_l0 := fun α s k z => sub1_circaref03_Has_l0 n α s k z
theorem subs_circaref03_Has (n : Nat) : SubOK Try.prog 33 (Ls_circaref03_Has n) (acOf Try.f54) := SubOK_of _ (by
  have e : subs (acOf Try.f54) = [(0, sac_circaref03_Has_l0)] := by kernel_rfl
  rw [e]; intro p hp
  simp only [List.mem_cons, List.not_mem_nil, or_false] at hp
  · rw [hp]; exact sub_circaref03_Has_l0 n
  )
theorem cert_circaref03_Has (n : Nat) (a0 : List UInt8) (a1 : Int) : run Try.prog (Es_circaref03_Has n) (Ls_circaref03_Has n) Try.f54.ntmps (acOf Try.f54) ⟨argsT [.s a0, .i .i64 a1] 0, [], 0, 0, 0, 0⟩ (finK Try.prog Try.f54.results.toList (retX unr_circaref03_Has)) = circaref03_Has n a0 a1 := by kernel_rfl
theorem pure_circaref03_Has (n : Nat) : ∀ a r, circaref03_Has n a.1 a.2 = some r → PureOK Try.prog 54 (arg_circaref03_Has a) (enc_circaref03_Has r) := fun a r h => pureX_ok unr_ok_circaref03_Has (Es_ok_circaref03_Has n) Try.func54 rfl (acOf_code _) (subs_circaref03_Has n) rfl ((cert_circaref03_Has n a.1 a.2).trans h)
theorem ok_circaref03_Has (n : Nat) : EntOK Try.prog (e_circaref03_Has n) := pureE_ok Try.call54 una_ok_circaref03_Has (fun _ => rfl) (pure_circaref03_Has n)

/-! circa/circaref03.Below -/
noncomputable def arg_circaref03_Below (a : List UInt8 × Int) : List V := [.s a.1, .i .i64 a.2]
noncomputable def una_circaref03_Below (l : List V) : Option (List UInt8 × Int) := match l with
  | [.s a0, .i .i64 a1] => some (a0, a1)
  | _ => none
theorem una_ok_circaref03_Below : ∀ l a, una_circaref03_Below l = some a → l = arg_circaref03_Below a := by
  intro l a h
  unfold una_circaref03_Below at h
  split at h
  · cases h; rfl
  · cases h
noncomputable def enc_circaref03_Below (r : Int) : V := .i .i64 r
noncomputable def unr_circaref03_Below (v : V) : Option (Int) := match v with
  | .i .i64 r0 => some r0
  | _ => none
theorem unr_ok_circaref03_Below : ∀ v r, unr_circaref03_Below v = some r → v = enc_circaref03_Below r := by
  intro v r h
  unfold unr_circaref03_Below at h
  split at h
  · cases h; rfl
  · cases h
noncomputable def e_circaref03_Below (n : Nat) : Ent := pureE 56 una_circaref03_Below (fun a => circaref03_Below n a.1 a.2) enc_circaref03_Below
noncomputable def t_circaref03_Below (l : List V) (_ : List (Nat × Blk)) : Bool := isS (una_circaref03_Below l)
noncomputable def Es_circaref03_Below (n : Nat) : List Ent := [e_circaref03_Count n, e_circaref03_Nth n]
theorem Es_ok_circaref03_Below (n : Nat) : ∀ x ∈ Es_circaref03_Below n, EntOK Try.prog x := by
  intro x hx
  simp only [Es_circaref03_Below, List.mem_cons, List.not_mem_nil, or_false] at hx
  rcases hx with hx | hx
  · rw [hx]; exact ok_circaref03_Count n
  · rw [hx]; exact ok_circaref03_Nth n
noncomputable def an_circaref03_Below_l0 : Ann := ⟨[0, 1, 5, 6], [], 0, []⟩
noncomputable def emb_circaref03_Below_l0 (x : List UInt8 × Int × Int × Int) : St := ⟨[(0, some (.s x.1)), (1, some (.i .i64 x.2.1)), (5, some (.i .i64 x.2.2.1)), (6, some (.i .i64 x.2.2.2))], [], 0, 0, 0, 0⟩
noncomputable def un_circaref03_Below_l0 (s : St) : Option (List UInt8 × Int × Int × Int) := match s with
  | ⟨[(0, some (.s x0)), (1, some (.i .i64 x1)), (5, some (.i .i64 x2)), (6, some (.i .i64 x3))], [], 0, 0, 0, 0⟩ => some (x0, x1, x2, x3)
  | _ => none
theorem un_ok_circaref03_Below_l0 : ∀ s x, un_circaref03_Below_l0 s = some x → s = emb_circaref03_Below_l0 x := by
  intro s x h
  unfold un_circaref03_Below_l0 at h
  split at h
  · cases h; rfl
  · cases h
noncomputable def ax_circaref03_Below_l0 : Ex → Ann := fun ex => match ex with
  | .exit 0 => ⟨[5], [], 0, []⟩
  | _ => ⟨[], [], 0, []⟩
noncomputable def out_circaref03_Below_l0 (y : Int) : Ex × St := (.exit 0, ⟨[(5, some (.i .i64 y))], [], 0, 0, 0, 0⟩)
noncomputable def outK_circaref03_Below_l0 (α : Type) (y : Int) (k : Ex → St → Option α) : Option α := (k (.exit 0) ⟨[(5, some (.i .i64 y))], [], 0, 0, 0, 0⟩)
theorem outK_ok_circaref03_Below_l0 : ∀ α y k, outK_circaref03_Below_l0 α y k = k (out_circaref03_Below_l0 y).1 (out_circaref03_Below_l0 y).2 := by
  intro α y k
  rfl
noncomputable def ux_circaref03_Below_l0 (ex : Ex) (s : St) : Option (Int) := match ex, s with
  | .exit 0, ⟨[(5, some (.i .i64 y0))], [], 0, 0, 0, 0⟩ => some y0
  | _, _ => none
theorem ux_ok_circaref03_Below_l0 : ∀ ex s y, ux_circaref03_Below_l0 ex s = some y → (ex, s) = out_circaref03_Below_l0 y := by
  intro ex s y h
  unfold ux_circaref03_Below_l0 at h
  split at h
  · cases h; rfl
  · cases h
noncomputable def Ls_circaref03_Below (n : Nat) : List Sub := [subE 0 an_circaref03_Below_l0 un_circaref03_Below_l0 (fun x => iterL (circaref03_Below_l0 n) n x) outK_circaref03_Below_l0]
noncomputable def sac_circaref03_Below_l0 : AC := getS (subs (acOf Try.f56)) 0
noncomputable def ac_circaref03_Below_l0 : AC := AC.body sac_circaref03_Below_l0
theorem subs_circaref03_Below_l0 (n : Nat) : SubOK Try.prog 28 (Ls_circaref03_Below n) ac_circaref03_Below_l0 := SubOK_of _ (by
  have e : subs ac_circaref03_Below_l0 = [] := by kernel_rfl
  rw [e]; intro p hp; cases hp)
theorem body_circaref03_Below_l0 (n : Nat) : ∀ x, run Try.prog (Es_circaref03_Below n) (Ls_circaref03_Below n) 28 ac_circaref03_Below_l0 (emb_circaref03_Below_l0 x) (roundK an_circaref03_Below_l0 un_circaref03_Below_l0 ax_circaref03_Below_l0 ux_circaref03_Below_l0) = circaref03_Below_l0 n x := fun _ => by kernel_rfl
theorem sub1_circaref03_Below_l0 (n : Nat) : ∀ (α : Type) (s : St) (k : Ex → St → Option α) (z : α), (subE 0 an_circaref03_Below_l0 un_circaref03_Below_l0 (fun x => iterL (circaref03_Below_l0 n) n x) outK_circaref03_Below_l0).e α s k = some z → SemC Try.prog 28 (sac_circaref03_Below_l0).code s fun ex s' => k ex s' = some z := by
  intro α s k z h
  have e : sac_circaref03_Below_l0 = .loop ac_circaref03_Below_l0 := by kernel_rfl
  rw [e]
  exact subE_ok (m := 0) (f := fun x => iterL (circaref03_Below_l0 n) n x) (out := out_circaref03_Below_l0) outK_ok_circaref03_Below_l0 un_ok_circaref03_Below_l0 (fun x y hy => loop_ok (Es_ok_circaref03_Below n) (subs_circaref03_Below_l0 n) un_ok_circaref03_Below_l0 ux_ok_circaref03_Below_l0 (body_circaref03_Below_l0 n) n x y hy) h
theorem sub_circaref03_Below_l0 (n : Nat) : SubSt Try.prog 28 (Ls_circaref03_Below n) 0 sac_circaref03_Below_l0 := fun α s k z => sub1_circaref03_Below_l0 n α s k z
theorem subs_circaref03_Below (n : Nat) : SubOK Try.prog 28 (Ls_circaref03_Below n) (acOf Try.f56) := SubOK_of _ (by
  have e : subs (acOf Try.f56) = [(0, sac_circaref03_Below_l0)] := by kernel_rfl
  rw [e]; intro p hp
  simp only [List.mem_cons, List.not_mem_nil, or_false] at hp
  · rw [hp]; exact sub_circaref03_Below_l0 n
  )
theorem cert_circaref03_Below (n : Nat) (a0 : List UInt8) (a1 : Int) : run Try.prog (Es_circaref03_Below n) (Ls_circaref03_Below n) Try.f56.ntmps (acOf Try.f56) ⟨argsT [.s a0, .i .i64 a1] 0, [], 0, 0, 0, 0⟩ (finK Try.prog Try.f56.results.toList (retX unr_circaref03_Below)) = circaref03_Below n a0 a1 := by kernel_rfl
theorem pure_circaref03_Below (n : Nat) : ∀ a r, circaref03_Below n a.1 a.2 = some r → PureOK Try.prog 56 (arg_circaref03_Below a) (enc_circaref03_Below r) := fun a r h => pureX_ok unr_ok_circaref03_Below (Es_ok_circaref03_Below n) Try.func56 rfl (acOf_code _) (subs_circaref03_Below n) rfl ((cert_circaref03_Below n a.1 a.2).trans h)
theorem ok_circaref03_Below (n : Nat) : EntOK Try.prog (e_circaref03_Below n) := pureE_ok Try.call56 una_ok_circaref03_Below (fun _ => rfl) (pure_circaref03_Below n)

/-! circa/circalaw03.gives -/
noncomputable def arg_circalaw03_gives (a : Int × Int × Int × Bool × Int) : List V := [.i .i64 a.1, .i .i64 a.2.1, .i .i64 a.2.2.1, .b a.2.2.2.1, .i .i64 a.2.2.2.2]
noncomputable def una_circalaw03_gives (l : List V) : Option (Int × Int × Int × Bool × Int) := match l with
  | [.i .i64 a0, .i .i64 a1, .i .i64 a2, .b a3, .i .i64 a4] => some (a0, a1, a2, a3, a4)
  | _ => none
theorem una_ok_circalaw03_gives : ∀ l a, una_circalaw03_gives l = some a → l = arg_circalaw03_gives a := by
  intro l a h
  unfold una_circalaw03_gives at h
  split at h
  · cases h; rfl
  · cases h
noncomputable def enc_circalaw03_gives (r : Bool) : V := .b r
noncomputable def unr_circalaw03_gives (v : V) : Option (Bool) := match v with
  | .b r0 => some r0
  | _ => none
theorem unr_ok_circalaw03_gives : ∀ v r, unr_circalaw03_gives v = some r → v = enc_circalaw03_gives r := by
  intro v r h
  unfold unr_circalaw03_gives at h
  split at h
  · cases h; rfl
  · cases h
noncomputable def e_circalaw03_gives (n : Nat) : Ent := pureE 55 una_circalaw03_gives (fun a => circalaw03_gives n a.1 a.2.1 a.2.2.1 a.2.2.2.1 a.2.2.2.2) enc_circalaw03_gives
noncomputable def t_circalaw03_gives (l : List V) (_ : List (Nat × Blk)) : Bool := isS (una_circalaw03_gives l)
noncomputable def Es_circalaw03_gives (_n : Nat) : List Ent := []
theorem Es_ok_circalaw03_gives (n : Nat) : ∀ x ∈ Es_circalaw03_gives n, EntOK Try.prog x := by
  intro x hx
  simp [Es_circalaw03_gives] at hx
noncomputable def Ls_circalaw03_gives (_n : Nat) : List Sub := []
theorem subs_circalaw03_gives (n : Nat) : SubOK Try.prog 27 (Ls_circalaw03_gives n) (acOf Try.f55) := SubOK_of _ (by
  have e : subs (acOf Try.f55) = [] := by kernel_rfl
  rw [e]; intro p hp; cases hp)
theorem cert_circalaw03_gives (n : Nat) (a0 : Int) (a1 : Int) (a2 : Int) (a3 : Bool) (a4 : Int) : run Try.prog (Es_circalaw03_gives n) (Ls_circalaw03_gives n) Try.f55.ntmps (acOf Try.f55) ⟨argsT [.i .i64 a0, .i .i64 a1, .i .i64 a2, .b a3, .i .i64 a4] 0, [], 0, 0, 0, 0⟩ (finK Try.prog Try.f55.results.toList (retX unr_circalaw03_gives)) = circalaw03_gives n a0 a1 a2 a3 a4 := by kernel_rfl
theorem pure_circalaw03_gives (n : Nat) : ∀ a r, circalaw03_gives n a.1 a.2.1 a.2.2.1 a.2.2.2.1 a.2.2.2.2 = some r → PureOK Try.prog 55 (arg_circalaw03_gives a) (enc_circalaw03_gives r) := fun a r h => pureX_ok unr_ok_circalaw03_gives (Es_ok_circalaw03_gives n) Try.func55 rfl (acOf_code _) (subs_circalaw03_gives n) rfl ((cert_circalaw03_gives n a.1 a.2.1 a.2.2.1 a.2.2.2.1 a.2.2.2.2).trans h)
theorem ok_circalaw03_gives (n : Nat) : EntOK Try.prog (e_circalaw03_gives n) := pureE_ok Try.call55 una_ok_circalaw03_gives (fun _ => rfl) (pure_circalaw03_gives n)

/-! circa/masks.beyond -/
noncomputable def arg_masks_beyond (a : List UInt8 × Int × Bool) : List V := [.s a.1, .i .i64 a.2.1, .b a.2.2]
noncomputable def una_masks_beyond (l : List V) : Option (List UInt8 × Int × Bool) := match l with
  | [.s a0, .i .i64 a1, .b a2] => some (a0, a1, a2)
  | _ => none
theorem una_ok_masks_beyond : ∀ l a, una_masks_beyond l = some a → l = arg_masks_beyond a := by
  intro l a h
  unfold una_masks_beyond at h
  split at h
  · cases h; rfl
  · cases h
noncomputable def enc_masks_beyond (r : Int × Int) : V := .tp [.i .i64 r.1, .i .i64 r.2]
noncomputable def unr_masks_beyond (v : V) : Option (Int × Int) := match v with
  | .tp [.i .i64 r0, .i .i64 r1] => some (r0, r1)
  | _ => none
theorem unr_ok_masks_beyond : ∀ v r, unr_masks_beyond v = some r → v = enc_masks_beyond r := by
  intro v r h
  unfold unr_masks_beyond at h
  split at h
  · cases h; rfl
  · cases h
noncomputable def e_masks_beyond (n : Nat) : Ent := pureE 90 una_masks_beyond (fun a => masks_beyond n a.1 a.2.1 a.2.2) enc_masks_beyond
noncomputable def t_masks_beyond (l : List V) (_ : List (Nat × Blk)) : Bool := isS (una_masks_beyond l)
noncomputable def Es_masks_beyond (n : Nat) : List Ent := [e_masks_split n, e_masks_value n]
theorem Es_ok_masks_beyond (n : Nat) : ∀ x ∈ Es_masks_beyond n, EntOK Try.prog x := by
  intro x hx
  simp only [Es_masks_beyond, List.mem_cons, List.not_mem_nil, or_false] at hx
  rcases hx with hx | hx
  · rw [hx]; exact ok_masks_split n
  · rw [hx]; exact ok_masks_value n
noncomputable def an_masks_beyond_l0 : Ann := ⟨[0, 1, 2, 8, 9, 10, 11, 12], [0, 1], 2, []⟩
noncomputable def emb_masks_beyond_l0 (x : List UInt8 × Int × Bool × Int × Int × Int × List Int × List Int) : St := ⟨[(0, some (.s x.1)), (1, some (.i .i64 x.2.1)), (2, some (.b x.2.2.1)), (8, some (.i .u8 x.2.2.2.1)), (9, some (.i .u8 x.2.2.2.2.1)), (10, some (.p 0 0)), (11, some (.p 1 0)), (12, some (.i .i64 x.2.2.2.2.2.1))], [(0, .ints .u8 18 x.2.2.2.2.2.2.1), (1, .ints .u8 18 x.2.2.2.2.2.2.2)], 2, 0, 0, 0⟩
noncomputable def un_masks_beyond_l0 (s : St) : Option (List UInt8 × Int × Bool × Int × Int × Int × List Int × List Int) := match s with
  | ⟨[(0, some (.s x0)), (1, some (.i .i64 x1)), (2, some (.b x2)), (8, some (.i .u8 x3)), (9, some (.i .u8 x4)), (10, some (.p 0 0)), (11, some (.p 1 0)), (12, some (.i .i64 x5))], [(0, .ints .u8 18 x6), (1, .ints .u8 18 x7)], 2, 0, 0, 0⟩ => some (x0, x1, x2, x3, x4, x5, x6, x7)
  | _ => none
theorem un_ok_masks_beyond_l0 : ∀ s x, un_masks_beyond_l0 s = some x → s = emb_masks_beyond_l0 x := by
  intro s x h
  unfold un_masks_beyond_l0 at h
  split at h
  · cases h; rfl
  · cases h
noncomputable def ax_masks_beyond_l0 : Ex → Ann := fun ex => match ex with
  | .exit 0 => ⟨[0, 1, 2, 8, 9, 10, 11, 12], [0, 1], 2, []⟩
  | _ => ⟨[], [], 0, []⟩
noncomputable def out_masks_beyond_l0 (y : (List UInt8 × Int × Bool × Int × Int × Int × List Int × List Int)) : Ex × St := (.exit 0, ⟨[(0, some (.s y.1)), (1, some (.i .i64 y.2.1)), (2, some (.b y.2.2.1)), (8, some (.i .u8 y.2.2.2.1)), (9, some (.i .u8 y.2.2.2.2.1)), (10, some (.p 0 0)), (11, some (.p 1 0)), (12, some (.i .i64 y.2.2.2.2.2.1))], [(0, .ints .u8 18 y.2.2.2.2.2.2.1), (1, .ints .u8 18 y.2.2.2.2.2.2.2)], 2, 0, 0, 0⟩)
noncomputable def outK_masks_beyond_l0 (α : Type) (y : (List UInt8 × Int × Bool × Int × Int × Int × List Int × List Int)) (k : Ex → St → Option α) : Option α := (k (.exit 0) ⟨[(0, some (.s y.1)), (1, some (.i .i64 y.2.1)), (2, some (.b y.2.2.1)), (8, some (.i .u8 y.2.2.2.1)), (9, some (.i .u8 y.2.2.2.2.1)), (10, some (.p 0 0)), (11, some (.p 1 0)), (12, some (.i .i64 y.2.2.2.2.2.1))], [(0, .ints .u8 18 y.2.2.2.2.2.2.1), (1, .ints .u8 18 y.2.2.2.2.2.2.2)], 2, 0, 0, 0⟩)
theorem outK_ok_masks_beyond_l0 : ∀ α y k, outK_masks_beyond_l0 α y k = k (out_masks_beyond_l0 y).1 (out_masks_beyond_l0 y).2 := by
  intro α y k
  rfl
noncomputable def ux_masks_beyond_l0 (ex : Ex) (s : St) : Option ((List UInt8 × Int × Bool × Int × Int × Int × List Int × List Int)) := match ex, s with
  | .exit 0, ⟨[(0, some (.s y0)), (1, some (.i .i64 y1)), (2, some (.b y2)), (8, some (.i .u8 y3)), (9, some (.i .u8 y4)), (10, some (.p 0 0)), (11, some (.p 1 0)), (12, some (.i .i64 y5))], [(0, .ints .u8 18 y6), (1, .ints .u8 18 y7)], 2, 0, 0, 0⟩ => some (y0, y1, y2, y3, y4, y5, y6, y7)
  | _, _ => none
theorem ux_ok_masks_beyond_l0 : ∀ ex s y, ux_masks_beyond_l0 ex s = some y → (ex, s) = out_masks_beyond_l0 y := by
  intro ex s y h
  unfold ux_masks_beyond_l0 at h
  split at h
  · cases h; rfl
  · cases h
noncomputable def an_masks_beyond_l1 : Ann := ⟨[0, 2, 8, 9, 10, 11, 12], [0, 1], 74, []⟩
noncomputable def emb_masks_beyond_l1 (x : List UInt8 × Bool × Int × Int × Int × List Int × List Int) : St := ⟨[(0, some (.s x.1)), (2, some (.b x.2.1)), (8, some (.i .u8 x.2.2.1)), (9, some (.i .u8 x.2.2.2.1)), (10, some (.p 0 0)), (11, some (.p 1 0)), (12, some (.i .i64 x.2.2.2.2.1))], [(0, .ints .u8 18 x.2.2.2.2.2.1), (1, .ints .u8 18 x.2.2.2.2.2.2)], 74, 0, 0, 0⟩
noncomputable def un_masks_beyond_l1 (s : St) : Option (List UInt8 × Bool × Int × Int × Int × List Int × List Int) := match s with
  | ⟨[(0, some (.s x0)), (2, some (.b x1)), (8, some (.i .u8 x2)), (9, some (.i .u8 x3)), (10, some (.p 0 0)), (11, some (.p 1 0)), (12, some (.i .i64 x4))], [(0, .ints .u8 18 x5), (1, .ints .u8 18 x6)], 74, 0, 0, 0⟩ => some (x0, x1, x2, x3, x4, x5, x6)
  | _ => none
theorem un_ok_masks_beyond_l1 : ∀ s x, un_masks_beyond_l1 s = some x → s = emb_masks_beyond_l1 x := by
  intro s x h
  unfold un_masks_beyond_l1 at h
  split at h
  · cases h; rfl
  · cases h
noncomputable def ax_masks_beyond_l1 : Ex → Ann := fun ex => match ex with
  | .ret => ⟨[6, 7], [], 74, []⟩
  | .exit 2 => ⟨[0, 2, 8, 11, 12], [1], 74, []⟩
  | _ => ⟨[], [], 0, []⟩
noncomputable def out_masks_beyond_l1 (y : (Int × Int) ⊕ (List UInt8 × Bool × Int × Int × List Int)) : Ex × St := (Sum.casesOn (motive := fun _ => Ex × St) y (fun a0 => (.ret, ⟨[(6, some (.i .i64 a0.1)), (7, some (.i .i64 a0.2))], [], 74, 0, 0, 0⟩)) (fun b0 => (.exit 2, ⟨[(0, some (.s b0.1)), (2, some (.b b0.2.1)), (8, some (.i .u8 b0.2.2.1)), (11, some (.p 1 0)), (12, some (.i .i64 b0.2.2.2.1))], [(1, .ints .u8 18 b0.2.2.2.2)], 74, 0, 0, 0⟩)))
noncomputable def outK_masks_beyond_l1 (α : Type) (y : (Int × Int) ⊕ (List UInt8 × Bool × Int × Int × List Int)) (k : Ex → St → Option α) : Option α := (Sum.casesOn (motive := fun _ => Option α) y (fun a0 => (k (.ret) ⟨[(6, some (.i .i64 a0.1)), (7, some (.i .i64 a0.2))], [], 74, 0, 0, 0⟩)) (fun b0 => (k (.exit 2) ⟨[(0, some (.s b0.1)), (2, some (.b b0.2.1)), (8, some (.i .u8 b0.2.2.1)), (11, some (.p 1 0)), (12, some (.i .i64 b0.2.2.2.1))], [(1, .ints .u8 18 b0.2.2.2.2)], 74, 0, 0, 0⟩)))
theorem outK_ok_masks_beyond_l1 : ∀ α y k, outK_masks_beyond_l1 α y k = k (out_masks_beyond_l1 y).1 (out_masks_beyond_l1 y).2 := by
  intro α y k
  rcases y with y | y <;> rfl
noncomputable def ux_masks_beyond_l1 (ex : Ex) (s : St) : Option ((Int × Int) ⊕ (List UInt8 × Bool × Int × Int × List Int)) := match ex, s with
  | .ret, ⟨[(6, some (.i .i64 y0)), (7, some (.i .i64 y1))], [], 74, 0, 0, 0⟩ => some (.inl (y0, y1))
  | .exit 2, ⟨[(0, some (.s y0)), (2, some (.b y1)), (8, some (.i .u8 y2)), (11, some (.p 1 0)), (12, some (.i .i64 y3))], [(1, .ints .u8 18 y4)], 74, 0, 0, 0⟩ => some (.inr (y0, y1, y2, y3, y4))
  | _, _ => none
theorem ux_ok_masks_beyond_l1 : ∀ ex s y, ux_masks_beyond_l1 ex s = some y → (ex, s) = out_masks_beyond_l1 y := by
  intro ex s y h
  unfold ux_masks_beyond_l1 at h
  split at h
  · cases h; rfl
  · cases h; rfl
  · cases h
noncomputable def an_masks_beyond_l2 : Ann := ⟨[0, 8, 11, 12], [1], 74, []⟩
noncomputable def emb_masks_beyond_l2 (x : List UInt8 × Int × Int × List Int) : St := ⟨[(0, some (.s x.1)), (8, some (.i .u8 x.2.1)), (11, some (.p 1 0)), (12, some (.i .i64 x.2.2.1))], [(1, .ints .u8 18 x.2.2.2)], 74, 0, 0, 0⟩
noncomputable def un_masks_beyond_l2 (s : St) : Option (List UInt8 × Int × Int × List Int) := match s with
  | ⟨[(0, some (.s x0)), (8, some (.i .u8 x1)), (11, some (.p 1 0)), (12, some (.i .i64 x2))], [(1, .ints .u8 18 x3)], 74, 0, 0, 0⟩ => some (x0, x1, x2, x3)
  | _ => none
theorem un_ok_masks_beyond_l2 : ∀ s x, un_masks_beyond_l2 s = some x → s = emb_masks_beyond_l2 x := by
  intro s x h
  unfold un_masks_beyond_l2 at h
  split at h
  · cases h; rfl
  · cases h
noncomputable def ax_masks_beyond_l2 : Ex → Ann := fun ex => match ex with
  | .exit 5 => ⟨[0, 11], [1], 74, []⟩
  | _ => ⟨[], [], 0, []⟩
noncomputable def out_masks_beyond_l2 (y : (List UInt8 × List Int)) : Ex × St := (.exit 5, ⟨[(0, some (.s y.1)), (11, some (.p 1 0))], [(1, .ints .u8 18 y.2)], 74, 0, 0, 0⟩)
noncomputable def outK_masks_beyond_l2 (α : Type) (y : (List UInt8 × List Int)) (k : Ex → St → Option α) : Option α := (k (.exit 5) ⟨[(0, some (.s y.1)), (11, some (.p 1 0))], [(1, .ints .u8 18 y.2)], 74, 0, 0, 0⟩)
theorem outK_ok_masks_beyond_l2 : ∀ α y k, outK_masks_beyond_l2 α y k = k (out_masks_beyond_l2 y).1 (out_masks_beyond_l2 y).2 := by
  intro α y k
  rfl
noncomputable def ux_masks_beyond_l2 (ex : Ex) (s : St) : Option ((List UInt8 × List Int)) := match ex, s with
  | .exit 5, ⟨[(0, some (.s y0)), (11, some (.p 1 0))], [(1, .ints .u8 18 y1)], 74, 0, 0, 0⟩ => some (y0, y1)
  | _, _ => none
theorem ux_ok_masks_beyond_l2 : ∀ ex s y, ux_masks_beyond_l2 ex s = some y → (ex, s) = out_masks_beyond_l2 y := by
  intro ex s y h
  unfold ux_masks_beyond_l2 at h
  split at h
  · cases h; rfl
  · cases h
noncomputable def Ls_masks_beyond (n : Nat) : List Sub := [subE 0 an_masks_beyond_l0 un_masks_beyond_l0 (fun x => iterL (masks_beyond_l0 n) n x) outK_masks_beyond_l0, subE 1 an_masks_beyond_l1 un_masks_beyond_l1 (fun x => iterL (masks_beyond_l1 n) n x) outK_masks_beyond_l1, subE 2 an_masks_beyond_l2 un_masks_beyond_l2 (fun x => iterL (masks_beyond_l2 n) n x) outK_masks_beyond_l2]
noncomputable def sac_masks_beyond_l0 : AC := getS (subs (acOf Try.f90)) 0
noncomputable def ac_masks_beyond_l0 : AC := AC.body sac_masks_beyond_l0
theorem subs_masks_beyond_l0 (n : Nat) : SubOK Try.prog 107 (Ls_masks_beyond n) ac_masks_beyond_l0 := SubOK_of _ (by
  have e : subs ac_masks_beyond_l0 = [] := by kernel_rfl
  rw [e]; intro p hp; cases hp)
theorem body_masks_beyond_l0 (n : Nat) : ∀ x, run Try.prog (Es_masks_beyond n) (Ls_masks_beyond n) 107 ac_masks_beyond_l0 (emb_masks_beyond_l0 x) (roundK an_masks_beyond_l0 un_masks_beyond_l0 ax_masks_beyond_l0 ux_masks_beyond_l0) = masks_beyond_l0 n x := fun _ => by kernel_rfl
theorem sub1_masks_beyond_l0 (n : Nat) : ∀ (α : Type) (s : St) (k : Ex → St → Option α) (z : α), (subE 0 an_masks_beyond_l0 un_masks_beyond_l0 (fun x => iterL (masks_beyond_l0 n) n x) outK_masks_beyond_l0).e α s k = some z → SemC Try.prog 107 (sac_masks_beyond_l0).code s fun ex s' => k ex s' = some z := by
  intro α s k z h
  have e : sac_masks_beyond_l0 = .loop ac_masks_beyond_l0 := by kernel_rfl
  rw [e]
  exact subE_ok (m := 0) (f := fun x => iterL (masks_beyond_l0 n) n x) (out := out_masks_beyond_l0) outK_ok_masks_beyond_l0 un_ok_masks_beyond_l0 (fun x y hy => loop_ok (Es_ok_masks_beyond n) (subs_masks_beyond_l0 n) un_ok_masks_beyond_l0 ux_ok_masks_beyond_l0 (body_masks_beyond_l0 n) n x y hy) h
theorem sub_masks_beyond_l0 (n : Nat) : SubSt Try.prog 107 (Ls_masks_beyond n) 0 sac_masks_beyond_l0 := fun α s k z => sub1_masks_beyond_l0 n α s k z
noncomputable def sac_masks_beyond_l1 : AC := getS (subs (acOf Try.f90)) 1
noncomputable def ac_masks_beyond_l1 : AC := AC.body sac_masks_beyond_l1
theorem subs_masks_beyond_l1 (n : Nat) : SubOK Try.prog 107 (Ls_masks_beyond n) ac_masks_beyond_l1 := SubOK_of _ (by
  have e : subs ac_masks_beyond_l1 = [] := by kernel_rfl
  rw [e]; intro p hp; cases hp)
theorem body_masks_beyond_l1 (n : Nat) : ∀ x, run Try.prog (Es_masks_beyond n) (Ls_masks_beyond n) 107 ac_masks_beyond_l1 (emb_masks_beyond_l1 x) (roundK an_masks_beyond_l1 un_masks_beyond_l1 ax_masks_beyond_l1 ux_masks_beyond_l1) = masks_beyond_l1 n x := fun _ => by kernel_rfl
theorem sub1_masks_beyond_l1 (n : Nat) : ∀ (α : Type) (s : St) (k : Ex → St → Option α) (z : α), (subE 1 an_masks_beyond_l1 un_masks_beyond_l1 (fun x => iterL (masks_beyond_l1 n) n x) outK_masks_beyond_l1).e α s k = some z → SemC Try.prog 107 (sac_masks_beyond_l1).code s fun ex s' => k ex s' = some z := by
  intro α s k z h
  have e : sac_masks_beyond_l1 = .loop ac_masks_beyond_l1 := by kernel_rfl
  rw [e]
  exact subE_ok (m := 1) (f := fun x => iterL (masks_beyond_l1 n) n x) (out := out_masks_beyond_l1) outK_ok_masks_beyond_l1 un_ok_masks_beyond_l1 (fun x y hy => loop_ok (Es_ok_masks_beyond n) (subs_masks_beyond_l1 n) un_ok_masks_beyond_l1 ux_ok_masks_beyond_l1 (body_masks_beyond_l1 n) n x y hy) h
theorem sub_masks_beyond_l1 (n : Nat) : SubSt Try.prog 107 (Ls_masks_beyond n) 1 sac_masks_beyond_l1 := fun α s k z => sub1_masks_beyond_l1 n α s k z
noncomputable def sac_masks_beyond_l2 : AC := getS (subs (acOf Try.f90)) 2
noncomputable def ac_masks_beyond_l2 : AC := AC.body sac_masks_beyond_l2
theorem subs_masks_beyond_l2 (n : Nat) : SubOK Try.prog 107 (Ls_masks_beyond n) ac_masks_beyond_l2 := SubOK_of _ (by
  have e : subs ac_masks_beyond_l2 = [] := by kernel_rfl
  rw [e]; intro p hp; cases hp)
theorem body_masks_beyond_l2 (n : Nat) : ∀ x, run Try.prog (Es_masks_beyond n) (Ls_masks_beyond n) 107 ac_masks_beyond_l2 (emb_masks_beyond_l2 x) (roundK an_masks_beyond_l2 un_masks_beyond_l2 ax_masks_beyond_l2 ux_masks_beyond_l2) = masks_beyond_l2 n x := fun _ => by kernel_rfl
theorem sub1_masks_beyond_l2 (n : Nat) : ∀ (α : Type) (s : St) (k : Ex → St → Option α) (z : α), (subE 2 an_masks_beyond_l2 un_masks_beyond_l2 (fun x => iterL (masks_beyond_l2 n) n x) outK_masks_beyond_l2).e α s k = some z → SemC Try.prog 107 (sac_masks_beyond_l2).code s fun ex s' => k ex s' = some z := by
  intro α s k z h
  have e : sac_masks_beyond_l2 = .loop ac_masks_beyond_l2 := by kernel_rfl
  rw [e]
  exact subE_ok (m := 2) (f := fun x => iterL (masks_beyond_l2 n) n x) (out := out_masks_beyond_l2) outK_ok_masks_beyond_l2 un_ok_masks_beyond_l2 (fun x y hy => loop_ok (Es_ok_masks_beyond n) (subs_masks_beyond_l2 n) un_ok_masks_beyond_l2 ux_ok_masks_beyond_l2 (body_masks_beyond_l2 n) n x y hy) h
theorem sub_masks_beyond_l2 (n : Nat) : SubSt Try.prog 107 (Ls_masks_beyond n) 2 sac_masks_beyond_l2 := fun α s k z => sub1_masks_beyond_l2 n α s k z
theorem subs_masks_beyond (n : Nat) : SubOK Try.prog 107 (Ls_masks_beyond n) (acOf Try.f90) := SubOK_of _ (by
  have e : subs (acOf Try.f90) = [(0, sac_masks_beyond_l0), (1, sac_masks_beyond_l1), (2, sac_masks_beyond_l2)] := by kernel_rfl
  rw [e]; intro p hp
  simp only [List.mem_cons, List.not_mem_nil, or_false] at hp
  rcases hp with hp | hp | hp
  · rw [hp]; exact sub_masks_beyond_l0 n
  · rw [hp]; exact sub_masks_beyond_l1 n
  · rw [hp]; exact sub_masks_beyond_l2 n
  )
theorem cert_masks_beyond (n : Nat) (a0 : List UInt8) (a1 : Int) (a2 : Bool) : run Try.prog (Es_masks_beyond n) (Ls_masks_beyond n) Try.f90.ntmps (acOf Try.f90) ⟨argsT [.s a0, .i .i64 a1, .b a2] 0, [], 0, 0, 0, 0⟩ (finK Try.prog Try.f90.results.toList (retX unr_masks_beyond)) = masks_beyond n a0 a1 a2 := by kernel_rfl
theorem pure_masks_beyond (n : Nat) : ∀ a r, masks_beyond n a.1 a.2.1 a.2.2 = some r → PureOK Try.prog 90 (arg_masks_beyond a) (enc_masks_beyond r) := fun a r h => pureX_ok unr_ok_masks_beyond (Es_ok_masks_beyond n) Try.func90 rfl (acOf_code _) (subs_masks_beyond n) rfl ((cert_masks_beyond n a.1 a.2.1 a.2.2).trans h)
theorem ok_masks_beyond (n : Nat) : EntOK Try.prog (e_masks_beyond n) := pureE_ok Try.call90 una_ok_masks_beyond (fun _ => rfl) (pure_masks_beyond n)

/-! circa/masks.Next -/
noncomputable def arg_masks_Next (a : List UInt8 × Int) : List V := [.s a.1, .i .i64 a.2]
noncomputable def una_masks_Next (l : List V) : Option (List UInt8 × Int) := match l with
  | [.s a0, .i .i64 a1] => some (a0, a1)
  | _ => none
theorem una_ok_masks_Next : ∀ l a, una_masks_Next l = some a → l = arg_masks_Next a := by
  intro l a h
  unfold una_masks_Next at h
  split at h
  · cases h; rfl
  · cases h
noncomputable def enc_masks_Next (r : Int × Int) : V := .tp [.i .i64 r.1, .i .i64 r.2]
noncomputable def unr_masks_Next (v : V) : Option (Int × Int) := match v with
  | .tp [.i .i64 r0, .i .i64 r1] => some (r0, r1)
  | _ => none
theorem unr_ok_masks_Next : ∀ v r, unr_masks_Next v = some r → v = enc_masks_Next r := by
  intro v r h
  unfold unr_masks_Next at h
  split at h
  · cases h; rfl
  · cases h
noncomputable def e_masks_Next (n : Nat) : Ent := pureE 58 una_masks_Next (fun a => masks_Next n a.1 a.2) enc_masks_Next
noncomputable def t_masks_Next (l : List V) (_ : List (Nat × Blk)) : Bool := isS (una_masks_Next l)
noncomputable def Es_masks_Next (n : Nat) : List Ent := [e_masks_Check n, e_masks_Least n, e_masks_within n, e_masks_beyond n]
theorem Es_ok_masks_Next (n : Nat) : ∀ x ∈ Es_masks_Next n, EntOK Try.prog x := by
  intro x hx
  simp only [Es_masks_Next, List.mem_cons, List.not_mem_nil, or_false] at hx
  rcases hx with hx | hx | hx | hx
  · rw [hx]; exact ok_masks_Check n
  · rw [hx]; exact ok_masks_Least n
  · rw [hx]; exact ok_masks_within n
  · rw [hx]; exact ok_masks_beyond n
noncomputable def Ls_masks_Next (_n : Nat) : List Sub := []
theorem subs_masks_Next (n : Nat) : SubOK Try.prog 30 (Ls_masks_Next n) (acOf Try.f58) := SubOK_of _ (by
  have e : subs (acOf Try.f58) = [] := by kernel_rfl
  rw [e]; intro p hp; cases hp)
theorem cert_masks_Next (n : Nat) (a0 : List UInt8) (a1 : Int) : run Try.prog (Es_masks_Next n) (Ls_masks_Next n) Try.f58.ntmps (acOf Try.f58) ⟨argsT [.s a0, .i .i64 a1] 0, [], 0, 0, 0, 0⟩ (finK Try.prog Try.f58.results.toList (retX unr_masks_Next)) = masks_Next n a0 a1 := by kernel_rfl
theorem pure_masks_Next (n : Nat) : ∀ a r, masks_Next n a.1 a.2 = some r → PureOK Try.prog 58 (arg_masks_Next a) (enc_masks_Next r) := fun a r h => pureX_ok unr_ok_masks_Next (Es_ok_masks_Next n) Try.func58 rfl (acOf_code _) (subs_masks_Next n) rfl ((cert_masks_Next n a.1 a.2).trans h)
theorem ok_masks_Next (n : Nat) : EntOK Try.prog (e_masks_Next n) := pureE_ok Try.call58 una_ok_masks_Next (fun _ => rfl) (pure_masks_Next n)

/-! circa/masks.Prev -/
noncomputable def arg_masks_Prev (a : List UInt8 × Int) : List V := [.s a.1, .i .i64 a.2]
noncomputable def una_masks_Prev (l : List V) : Option (List UInt8 × Int) := match l with
  | [.s a0, .i .i64 a1] => some (a0, a1)
  | _ => none
theorem una_ok_masks_Prev : ∀ l a, una_masks_Prev l = some a → l = arg_masks_Prev a := by
  intro l a h
  unfold una_masks_Prev at h
  split at h
  · cases h; rfl
  · cases h
noncomputable def enc_masks_Prev (r : Int × Int) : V := .tp [.i .i64 r.1, .i .i64 r.2]
noncomputable def unr_masks_Prev (v : V) : Option (Int × Int) := match v with
  | .tp [.i .i64 r0, .i .i64 r1] => some (r0, r1)
  | _ => none
theorem unr_ok_masks_Prev : ∀ v r, unr_masks_Prev v = some r → v = enc_masks_Prev r := by
  intro v r h
  unfold unr_masks_Prev at h
  split at h
  · cases h; rfl
  · cases h
noncomputable def e_masks_Prev (n : Nat) : Ent := pureE 59 una_masks_Prev (fun a => masks_Prev n a.1 a.2) enc_masks_Prev
noncomputable def t_masks_Prev (l : List V) (_ : List (Nat × Blk)) : Bool := isS (una_masks_Prev l)
noncomputable def Es_masks_Prev (n : Nat) : List Ent := [e_masks_Check n, e_masks_within n, e_masks_Greatest n, e_masks_beyond n]
theorem Es_ok_masks_Prev (n : Nat) : ∀ x ∈ Es_masks_Prev n, EntOK Try.prog x := by
  intro x hx
  simp only [Es_masks_Prev, List.mem_cons, List.not_mem_nil, or_false] at hx
  rcases hx with hx | hx | hx | hx
  · rw [hx]; exact ok_masks_Check n
  · rw [hx]; exact ok_masks_within n
  · rw [hx]; exact ok_masks_Greatest n
  · rw [hx]; exact ok_masks_beyond n
noncomputable def Ls_masks_Prev (_n : Nat) : List Sub := []
theorem subs_masks_Prev (n : Nat) : SubOK Try.prog 30 (Ls_masks_Prev n) (acOf Try.f59) := SubOK_of _ (by
  have e : subs (acOf Try.f59) = [] := by kernel_rfl
  rw [e]; intro p hp; cases hp)
theorem cert_masks_Prev (n : Nat) (a0 : List UInt8) (a1 : Int) : run Try.prog (Es_masks_Prev n) (Ls_masks_Prev n) Try.f59.ntmps (acOf Try.f59) ⟨argsT [.s a0, .i .i64 a1] 0, [], 0, 0, 0, 0⟩ (finK Try.prog Try.f59.results.toList (retX unr_masks_Prev)) = masks_Prev n a0 a1 := by kernel_rfl
theorem pure_masks_Prev (n : Nat) : ∀ a r, masks_Prev n a.1 a.2 = some r → PureOK Try.prog 59 (arg_masks_Prev a) (enc_masks_Prev r) := fun a r h => pureX_ok unr_ok_masks_Prev (Es_ok_masks_Prev n) Try.func59 rfl (acOf_code _) (subs_masks_Prev n) rfl ((cert_masks_Prev n a.1 a.2).trans h)
theorem ok_masks_Prev (n : Nat) : EntOK Try.prog (e_masks_Prev n) := pureE_ok Try.call59 una_ok_masks_Prev (fun _ => rfl) (pure_masks_Prev n)

/-! circa/masks.Common -/
noncomputable def arg_masks_Common (a : List UInt8 × List UInt8) : List V := [.s a.1, .s a.2]
noncomputable def una_masks_Common (l : List V) : Option (List UInt8 × List UInt8) := match l with
  | [.s a0, .s a1] => some (a0, a1)
  | _ => none
theorem una_ok_masks_Common : ∀ l a, una_masks_Common l = some a → l = arg_masks_Common a := by
  intro l a h
  unfold una_masks_Common at h
  split at h
  · cases h; rfl
  · cases h
noncomputable def enc_masks_Common (r : List UInt8 × Int) : V := .tp [.s r.1, .i .i64 r.2]
noncomputable def unr_masks_Common (v : V) : Option (List UInt8 × Int) := match v with
  | .tp [.s r0, .i .i64 r1] => some (r0, r1)
  | _ => none
theorem unr_ok_masks_Common : ∀ v r, unr_masks_Common v = some r → v = enc_masks_Common r := by
  intro v r h
  unfold unr_masks_Common at h
  split at h
  · cases h; rfl
  · cases h
noncomputable def e_masks_Common (n : Nat) : Ent := pureE 62 una_masks_Common (fun a => masks_Common n a.1 a.2) enc_masks_Common
noncomputable def t_masks_Common (l : List V) (_ : List (Nat × Blk)) : Bool := isS (una_masks_Common l)
noncomputable def Es_masks_Common (n : Nat) : List Ent := [e_masks_Check n]
theorem Es_ok_masks_Common (n : Nat) : ∀ x ∈ Es_masks_Common n, EntOK Try.prog x := by
  intro x hx
  simp only [Es_masks_Common, List.mem_cons, List.not_mem_nil, or_false] at hx
  · rw [hx]; exact ok_masks_Check n
noncomputable def an_masks_Common_l0 : Ann := ⟨[0, 1, 8, 26, 27], [0], 1, []⟩
noncomputable def emb_masks_Common_l0 (x : List UInt8 × List UInt8 × Int × Int × List Int) : St := ⟨[(0, some (.s x.1)), (1, some (.s x.2.1)), (8, some (.p 0 0)), (26, some (.i .i64 x.2.2.1)), (27, some (.i .i64 x.2.2.2.1))], [(0, .ints .u8 18 x.2.2.2.2)], 1, 0, 0, 0⟩
noncomputable def un_masks_Common_l0 (s : St) : Option (List UInt8 × List UInt8 × Int × Int × List Int) := match s with
  | ⟨[(0, some (.s x0)), (1, some (.s x1)), (8, some (.p 0 0)), (26, some (.i .i64 x2)), (27, some (.i .i64 x3))], [(0, .ints .u8 18 x4)], 1, 0, 0, 0⟩ => some (x0, x1, x2, x3, x4)
  | _ => none
theorem un_ok_masks_Common_l0 : ∀ s x, un_masks_Common_l0 s = some x → s = emb_masks_Common_l0 x := by
  intro s x h
  unfold un_masks_Common_l0 at h
  split at h
  · cases h; rfl
  · cases h
noncomputable def ax_masks_Common_l0 : Ex → Ann := fun ex => match ex with
  | .ret => ⟨[4, 5], [], 1, []⟩
  | .exit 0 => ⟨[0, 8], [0], 1, []⟩
  | _ => ⟨[], [], 0, []⟩
noncomputable def out_masks_Common_l0 (y : (List UInt8 × Int) ⊕ (List UInt8 × List Int)) : Ex × St := (Sum.casesOn (motive := fun _ => Ex × St) y (fun a0 => (.ret, ⟨[(4, some (.s a0.1)), (5, some (.i .i64 a0.2))], [], 1, 0, 0, 0⟩)) (fun b0 => (.exit 0, ⟨[(0, some (.s b0.1)), (8, some (.p 0 0))], [(0, .ints .u8 18 b0.2)], 1, 0, 0, 0⟩)))
noncomputable def outK_masks_Common_l0 (α : Type) (y : (List UInt8 × Int) ⊕ (List UInt8 × List Int)) (k : Ex → St → Option α) : Option α := (Sum.casesOn (motive := fun _ => Option α) y (fun a0 => (k (.ret) ⟨[(4, some (.s a0.1)), (5, some (.i .i64 a0.2))], [], 1, 0, 0, 0⟩)) (fun b0 => (k (.exit 0) ⟨[(0, some (.s b0.1)), (8, some (.p 0 0))], [(0, .ints .u8 18 b0.2)], 1, 0, 0, 0⟩)))
theorem outK_ok_masks_Common_l0 : ∀ α y k, outK_masks_Common_l0 α y k = k (out_masks_Common_l0 y).1 (out_masks_Common_l0 y).2 := by
  intro α y k
  rcases y with y | y <;> rfl
noncomputable def ux_masks_Common_l0 (ex : Ex) (s : St) : Option ((List UInt8 × Int) ⊕ (List UInt8 × List Int)) := match ex, s with
  | .ret, ⟨[(4, some (.s y0)), (5, some (.i .i64 y1))], [], 1, 0, 0, 0⟩ => some (.inl (y0, y1))
  | .exit 0, ⟨[(0, some (.s y0)), (8, some (.p 0 0))], [(0, .ints .u8 18 y1)], 1, 0, 0, 0⟩ => some (.inr (y0, y1))
  | _, _ => none
theorem ux_ok_masks_Common_l0 : ∀ ex s y, ux_masks_Common_l0 ex s = some y → (ex, s) = out_masks_Common_l0 y := by
  intro ex s y h
  unfold ux_masks_Common_l0 at h
  split at h
  · cases h; rfl
  · cases h; rfl
  · cases h
noncomputable def Ls_masks_Common (n : Nat) : List Sub := [subE 0 an_masks_Common_l0 un_masks_Common_l0 (fun x => iterL (masks_Common_l0 n) n x) outK_masks_Common_l0]
noncomputable def sac_masks_Common_l0 : AC := getS (subs (acOf Try.f62)) 0
noncomputable def ac_masks_Common_l0 : AC := AC.body sac_masks_Common_l0
theorem subs_masks_Common_l0 (n : Nat) : SubOK Try.prog 62 (Ls_masks_Common n) ac_masks_Common_l0 := SubOK_of _ (by
  have e : subs ac_masks_Common_l0 = [] := by kernel_rfl
  rw [e]; intro p hp; cases hp)
theorem body_masks_Common_l0 (n : Nat) : ∀ x, run Try.prog (Es_masks_Common n) (Ls_masks_Common n) 62 ac_masks_Common_l0 (emb_masks_Common_l0 x) (roundK an_masks_Common_l0 un_masks_Common_l0 ax_masks_Common_l0 ux_masks_Common_l0) = masks_Common_l0 n x := fun _ => by kernel_rfl
theorem sub1_masks_Common_l0 (n : Nat) : ∀ (α : Type) (s : St) (k : Ex → St → Option α) (z : α), (subE 0 an_masks_Common_l0 un_masks_Common_l0 (fun x => iterL (masks_Common_l0 n) n x) outK_masks_Common_l0).e α s k = some z → SemC Try.prog 62 (sac_masks_Common_l0).code s fun ex s' => k ex s' = some z := by
  intro α s k z h
  have e : sac_masks_Common_l0 = .loop ac_masks_Common_l0 := by kernel_rfl
  rw [e]
  exact subE_ok (m := 0) (f := fun x => iterL (masks_Common_l0 n) n x) (out := out_masks_Common_l0) outK_ok_masks_Common_l0 un_ok_masks_Common_l0 (fun x y hy => loop_ok (Es_ok_masks_Common n) (subs_masks_Common_l0 n) un_ok_masks_Common_l0 ux_ok_masks_Common_l0 (body_masks_Common_l0 n) n x y hy) h
theorem sub_masks_Common_l0 (n : Nat) : SubSt Try.prog 62 (Ls_masks_Common n) 0 sac_masks_Common_l0 := fun α s k z => sub1_masks_Common_l0 n α s k z
theorem subs_masks_Common (n : Nat) : SubOK Try.prog 62 (Ls_masks_Common n) (acOf Try.f62) := SubOK_of _ (by
  have e : subs (acOf Try.f62) = [(0, sac_masks_Common_l0)] := by kernel_rfl
  rw [e]; intro p hp
  simp only [List.mem_cons, List.not_mem_nil, or_false] at hp
  · rw [hp]; exact sub_masks_Common_l0 n
  )
theorem cert_masks_Common (n : Nat) (a0 : List UInt8) (a1 : List UInt8) : run Try.prog (Es_masks_Common n) (Ls_masks_Common n) Try.f62.ntmps (acOf Try.f62) ⟨argsT [.s a0, .s a1] 0, [], 0, 0, 0, 0⟩ (finK Try.prog Try.f62.results.toList (retX unr_masks_Common)) = masks_Common n a0 a1 := by kernel_rfl
theorem pure_masks_Common (n : Nat) : ∀ a r, masks_Common n a.1 a.2 = some r → PureOK Try.prog 62 (arg_masks_Common a) (enc_masks_Common r) := fun a r h => pureX_ok unr_ok_masks_Common (Es_ok_masks_Common n) Try.func62 rfl (acOf_code _) (subs_masks_Common n) rfl ((cert_masks_Common n a.1 a.2).trans h)
theorem ok_masks_Common (n : Nat) : EntOK Try.prog (e_masks_Common n) := pureE_ok Try.call62 una_ok_masks_Common (fun _ => rfl) (pure_masks_Common n)

/-! circa/circalaw03.lives -/
noncomputable def arg_circalaw03_lives (_a : Unit) : List V := []
noncomputable def una_circalaw03_lives (l : List V) : Option (Unit) := match l with
  | [] => some ()
  | _ => none
theorem una_ok_circalaw03_lives : ∀ l a, una_circalaw03_lives l = some a → l = arg_circalaw03_lives a := by
  intro l a h
  unfold una_circalaw03_lives at h
  split at h
  · cases h; rfl
  · cases h
noncomputable def enc_circalaw03_lives (r : Bool) : V := .b r
noncomputable def unr_circalaw03_lives (v : V) : Option (Bool) := match v with
  | .b r0 => some r0
  | _ => none
theorem unr_ok_circalaw03_lives : ∀ v r, unr_circalaw03_lives v = some r → v = enc_circalaw03_lives r := by
  intro v r h
  unfold unr_circalaw03_lives at h
  split at h
  · cases h; rfl
  · cases h
noncomputable def e_circalaw03_lives (n : Nat) : Ent := pureE 57 una_circalaw03_lives (fun _a => circalaw03_lives n) enc_circalaw03_lives
noncomputable def t_circalaw03_lives (l : List V) (_ : List (Nat × Blk)) : Bool := isS (una_circalaw03_lives l)
noncomputable def Es_circalaw03_lives (n : Nat) : List Ent := [e_masks_Count n, e_masks_Least n, e_masks_Greatest n, e_circalaw03_num n, e_masks_Has n, e_masks_Next n, e_masks_Prev n, e_circalaw03_bad n, e_masks_Nth n, e_masks_Index n, e_masks_Common n, e_masks_Check n]
theorem Es_ok_circalaw03_lives (n : Nat) : ∀ x ∈ Es_circalaw03_lives n, EntOK Try.prog x := by
  intro x hx
  simp only [Es_circalaw03_lives, List.mem_cons, List.not_mem_nil, or_false] at hx
  rcases hx with hx | hx | hx | hx | hx | hx | hx | hx | hx | hx | hx | hx
  · rw [hx]; exact ok_masks_Count n
  · rw [hx]; exact ok_masks_Least n
  · rw [hx]; exact ok_masks_Greatest n
  · rw [hx]; exact ok_circalaw03_num n
  · rw [hx]; exact ok_masks_Has n
  · rw [hx]; exact ok_masks_Next n
  · rw [hx]; exact ok_masks_Prev n
  · rw [hx]; exact ok_circalaw03_bad n
  · rw [hx]; exact ok_masks_Nth n
  · rw [hx]; exact ok_masks_Index n
  · rw [hx]; exact ok_masks_Common n
  · rw [hx]; exact ok_masks_Check n
noncomputable def Ls_circalaw03_lives (_n : Nat) : List Sub := []
theorem subs_circalaw03_lives (n : Nat) : SubOK Try.prog 166 (Ls_circalaw03_lives n) (acOf Try.f57) := SubOK_of _ (by
  have e : subs (acOf Try.f57) = [] := by kernel_rfl
  rw [e]; intro p hp; cases hp)
theorem cert_circalaw03_lives (n : Nat) : run Try.prog (Es_circalaw03_lives n) (Ls_circalaw03_lives n) Try.f57.ntmps (acOf Try.f57) ⟨argsT [] 0, [], 0, 0, 0, 0⟩ (finK Try.prog Try.f57.results.toList (retX unr_circalaw03_lives)) = circalaw03_lives n := by kernel_rfl
theorem pure_circalaw03_lives (n : Nat) : ∀ a r, circalaw03_lives n = some r → PureOK Try.prog 57 (arg_circalaw03_lives a) (enc_circalaw03_lives r) := fun a r h => pureX_ok unr_ok_circalaw03_lives (Es_ok_circalaw03_lives n) Try.func57 rfl (acOf_code _) (subs_circalaw03_lives n) rfl ((cert_circalaw03_lives n).trans h)
theorem ok_circalaw03_lives (n : Nat) : EntOK Try.prog (e_circalaw03_lives n) := pureE_ok Try.call57 una_ok_circalaw03_lives (fun _ => rfl) (pure_circalaw03_lives n)

/-! circa/circalaw03.MasksNumbers -/
noncomputable def arg_circalaw03_MasksNumbers (a : Int × Int × List (Int)) : List V := [.ag [.ws 0], .i .i64 a.1, .i .i64 a.2.1]
noncomputable def H0_circalaw03_MasksNumbers (a : Int × Int × List (Int)) : List (Nat × Blk) := [(0, .rows [.i .u8] a.2.2)]
noncomputable def una_circalaw03_MasksNumbers (l : List V) (H : List (Nat × Blk)) : Option ((Int × Int × List (Int)) × List Nat) := match l with
  | [.ag [.ws b0], .i .i64 a0, .i .i64 a1] => (match Abs.look H b0 with
    | some (.rows [.i .u8] a2) => (cond (Abs.distinct [b0] && true) (some ((a0, a1, a2), [b0])) none)
    | _ => none)
  | _ => none
theorem una_ok_circalaw03_MasksNumbers : ∀ l H a ρ, una_circalaw03_MasksNumbers l H = some (a, ρ) → ρ.length = 1 ∧ ρ.Nodup ∧ l = V.rens ρ (arg_circalaw03_MasksNumbers a) ∧ ∀ b blk, Abs.look (H0_circalaw03_MasksNumbers a) b = some blk → Abs.look H (getN ρ b) = some (blk.ren ρ) := by
  intro l H a ρ h
  unfold una_circalaw03_MasksNumbers at h
  split at h
  · split at h
    · rename_i e0
      obtain ⟨hd, h⟩ := cond_some h
      simp only [Bool.and_eq_true] at hd
      obtain ⟨hd, _⟩ := hd
      cases h
      exact ⟨rfl, distinct_ok hd, rfl, eachH_look ⟨e0, trivial⟩⟩
    · cases h
  · cases h
noncomputable def out_circalaw03_MasksNumbers (r : Bool) : FOut := (⟨false, .b r, [], []⟩ : FOut)
noncomputable def outK_circalaw03_MasksNumbers (α : Type) (r : Bool) (k : FOut → Option α) : Option α := (k ⟨false, .b r, [], []⟩)
theorem outK_ok_circalaw03_MasksNumbers : ∀ α r k, outK_circalaw03_MasksNumbers α r k = k (out_circalaw03_MasksNumbers r) := by
  intro α r k
  rfl
noncomputable def unr_circalaw03_MasksNumbers (pan : Bool) (v : V) (H : List (Nat × Blk)) (nw : List Nat) : Option (Bool) := match pan, v, H, nw with
  | false, .b r0, [], [] => some r0
  | _, _, _, _ => none
theorem unr_ok_circalaw03_MasksNumbers : ∀ pan v H nw r, unr_circalaw03_MasksNumbers pan v H nw = some r → (out_circalaw03_MasksNumbers r).pan = pan ∧ (out_circalaw03_MasksNumbers r).news = nw ∧ v = V.ren (upTo 0 1 ++ (out_circalaw03_MasksNumbers r).news) (out_circalaw03_MasksNumbers r).val ∧ H = renH (upTo 0 1 ++ (out_circalaw03_MasksNumbers r).news) (out_circalaw03_MasksNumbers r).H := by
  intro pan v H nw r h
  unfold unr_circalaw03_MasksNumbers at h
  split at h
  · cases h; exact ⟨rfl, rfl, rfl, rfl⟩
  · cases h
theorem hv_circalaw03_MasksNumbers : ∀ r, V.lt (1 + (out_circalaw03_MasksNumbers r).news.length) (out_circalaw03_MasksNumbers r).val = true := fun r => (by rfl)
theorem hc_circalaw03_MasksNumbers : ∀ r, chkH (1 + (out_circalaw03_MasksNumbers r).news.length) (out_circalaw03_MasksNumbers r).H = true := fun r => (by rfl)
theorem hk_circalaw03_MasksNumbers : ∀ r, hasKeys (out_circalaw03_MasksNumbers r).H 1 (0 + (out_circalaw03_MasksNumbers r).news.length) = true := fun r => (by rfl)
noncomputable def e_circalaw03_MasksNumbers (n : Nat) : Ent := funE 10 1 una_circalaw03_MasksNumbers (fun a => circalaw03_MasksNumbers n a.1 a.2.1 a.2.2) outK_circalaw03_MasksNumbers
noncomputable def t_circalaw03_MasksNumbers (l : List V) (H : List (Nat × Blk)) : Bool := isS (una_circalaw03_MasksNumbers l H)
noncomputable def Es_circalaw03_MasksNumbers (n : Nat) : List Ent := [e_circalaw03_M_Of n, e_masks_Count n, e_masks_Least n, e_masks_Greatest n, e_circaref03_Count n, e_circalaw03_num n, e_circaref03_Nth n, e_masks_Check n, e_masks_Nth n, e_circalaw03_bad n, e_masks_Index n, e_masks_Has n, e_circaref03_Has n, e_circaref03_Below n, e_circalaw03_gives n, e_circalaw03_lives n]
theorem Es_ok_circalaw03_MasksNumbers (n : Nat) : ∀ x ∈ Es_circalaw03_MasksNumbers n, EntOK Try.prog x := by
  intro x hx
  simp only [Es_circalaw03_MasksNumbers, List.mem_cons, List.not_mem_nil, or_false] at hx
  rcases hx with hx | hx | hx | hx | hx | hx | hx | hx | hx | hx | hx | hx | hx | hx | hx | hx
  · rw [hx]; exact ok_circalaw03_M_Of n
  · rw [hx]; exact ok_masks_Count n
  · rw [hx]; exact ok_masks_Least n
  · rw [hx]; exact ok_masks_Greatest n
  · rw [hx]; exact ok_circaref03_Count n
  · rw [hx]; exact ok_circalaw03_num n
  · rw [hx]; exact ok_circaref03_Nth n
  · rw [hx]; exact ok_masks_Check n
  · rw [hx]; exact ok_masks_Nth n
  · rw [hx]; exact ok_circalaw03_bad n
  · rw [hx]; exact ok_masks_Index n
  · rw [hx]; exact ok_masks_Has n
  · rw [hx]; exact ok_circaref03_Has n
  · rw [hx]; exact ok_circaref03_Below n
  · rw [hx]; exact ok_circalaw03_gives n
  · rw [hx]; exact ok_circalaw03_lives n
noncomputable def Ls_circalaw03_MasksNumbers (_n : Nat) : List Sub := []
theorem subs_circalaw03_MasksNumbers (n : Nat) : SubOK Try.prog 147 (Ls_circalaw03_MasksNumbers n) (acOf Try.f10) := SubOK_of _ (by
  have e : subs (acOf Try.f10) = [] := by kernel_rfl
  rw [e]; intro p hp; cases hp)
theorem cert_circalaw03_MasksNumbers (n : Nat) (a0 : Int) (a1 : Int) (a2 : List (Int)) : run Try.prog (Es_circalaw03_MasksNumbers n) (Ls_circalaw03_MasksNumbers n) Try.f10.ntmps (acOf Try.f10) ⟨argsT [.ag [.ws 0], .i .i64 a0, .i .i64 a1] 0, [(0, .rows [.i .u8] a2)], 1, 1, 1, 1⟩ (finK Try.prog Try.f10.results.toList (funX [] 1 1 1 unr_circalaw03_MasksNumbers)) = circalaw03_MasksNumbers n a0 a1 a2 := by kernel_rfl
theorem fun_circalaw03_MasksNumbers (n : Nat) : ∀ a r, circalaw03_MasksNumbers n a.1 a.2.1 a.2.2 = some r → FunOK Try.prog 10 (arg_circalaw03_MasksNumbers a) (H0_circalaw03_MasksNumbers a) 1 1 1 (out_circalaw03_MasksNumbers r) := fun a r h => funX_ok (ws := []) unr_ok_circalaw03_MasksNumbers hv_circalaw03_MasksNumbers (fun r b blk hl => (chkH_look (hc_circalaw03_MasksNumbers r) b blk hl).2) (fun r => chkH_keys (hc_circalaw03_MasksNumbers r)) (by decide) (Es_ok_circalaw03_MasksNumbers n) Try.func10 rfl (acOf_code _) (subs_circalaw03_MasksNumbers n) rfl rfl ((cert_circalaw03_MasksNumbers n a.1 a.2.1 a.2.2).trans h)
theorem ok_circalaw03_MasksNumbers (n : Nat) : EntOK Try.prog (e_circalaw03_MasksNumbers n) := funE_ok (m := 1) (ro := 1) (rb := 1) (out := out_circalaw03_MasksNumbers) (arg := arg_circalaw03_MasksNumbers) (H0 := H0_circalaw03_MasksNumbers) Try.call10 (by decide) (by decide) outK_ok_circalaw03_MasksNumbers una_ok_circalaw03_MasksNumbers (fun _ => rfl) (fun a => chkH_look (m := 1) (H := H0_circalaw03_MasksNumbers a) rfl) (fun _ => rfl) (fun r => chkH_keys (hc_circalaw03_MasksNumbers r)) (fun r b blk h => (chkH_look (hc_circalaw03_MasksNumbers r) b blk h).2) (fun r b h1 h2 => hasKeys_ok (hk_circalaw03_MasksNumbers r) b h1 (by omega)) hv_circalaw03_MasksNumbers (fun_circalaw03_MasksNumbers n)

/-! circa/circaref03.Next -/
noncomputable def arg_circaref03_Next (a : List UInt8 × Int) : List V := [.s a.1, .i .i64 a.2]
noncomputable def una_circaref03_Next (l : List V) : Option (List UInt8 × Int) := match l with
  | [.s a0, .i .i64 a1] => some (a0, a1)
  | _ => none
theorem una_ok_circaref03_Next : ∀ l a, una_circaref03_Next l = some a → l = arg_circaref03_Next a := by
  intro l a h
  unfold una_circaref03_Next at h
  split at h
  · cases h; rfl
  · cases h
noncomputable def enc_circaref03_Next (r : Int × Bool) : V := .tp [.i .i64 r.1, .b r.2]
noncomputable def unr_circaref03_Next (v : V) : Option (Int × Bool) := match v with
  | .tp [.i .i64 r0, .b r1] => some (r0, r1)
  | _ => none
theorem unr_ok_circaref03_Next : ∀ v r, unr_circaref03_Next v = some r → v = enc_circaref03_Next r := by
  intro v r h
  unfold unr_circaref03_Next at h
  split at h
  · cases h; rfl
  · cases h
noncomputable def e_circaref03_Next (n : Nat) : Ent := pureE 60 una_circaref03_Next (fun a => circaref03_Next n a.1 a.2) enc_circaref03_Next
noncomputable def t_circaref03_Next (l : List V) (_ : List (Nat × Blk)) : Bool := isS (una_circaref03_Next l)
noncomputable def Es_circaref03_Next (n : Nat) : List Ent := [e_circaref03_Below n, e_circaref03_Count n, e_circaref03_Nth n]
theorem Es_ok_circaref03_Next (n : Nat) : ∀ x ∈ Es_circaref03_Next n, EntOK Try.prog x := by
  intro x hx
  simp only [Es_circaref03_Next, List.mem_cons, List.not_mem_nil, or_false] at hx
  rcases hx with hx | hx | hx
  · rw [hx]; exact ok_circaref03_Below n
  · rw [hx]; exact ok_circaref03_Count n
  · rw [hx]; exact ok_circaref03_Nth n
noncomputable def Ls_circaref03_Next (_n : Nat) : List Sub := []
theorem subs_circaref03_Next (n : Nat) : SubOK Try.prog 17 (Ls_circaref03_Next n) (acOf Try.f60) := SubOK_of _ (by
  have e : subs (acOf Try.f60) = [] := by kernel_rfl
  rw [e]; intro p hp; cases hp)
theorem cert_circaref03_Next (n : Nat) (a0 : List UInt8) (a1 : Int) : run Try.prog (Es_circaref03_Next n) (Ls_circaref03_Next n) Try.f60.ntmps (acOf Try.f60) ⟨argsT [.s a0, .i .i64 a1] 0, [], 0, 0, 0, 0⟩ (finK Try.prog Try.f60.results.toList (retX unr_circaref03_Next)) = circaref03_Next n a0 a1 := by kernel_rfl
theorem pure_circaref03_Next (n : Nat) : ∀ a r, circaref03_Next n a.1 a.2 = some r → PureOK Try.prog 60 (arg_circaref03_Next a) (enc_circaref03_Next r) := fun a r h => pureX_ok unr_ok_circaref03_Next (Es_ok_circaref03_Next n) Try.func60 rfl (acOf_code _) (subs_circaref03_Next n) rfl ((cert_circaref03_Next n a.1 a.2).trans h)
theorem ok_circaref03_Next (n : Nat) : EntOK Try.prog (e_circaref03_Next n) := pureE_ok Try.call60 una_ok_circaref03_Next (fun _ => rfl) (pure_circaref03_Next n)

/-! circa/circaref03.Prev -/
noncomputable def arg_circaref03_Prev (a : List UInt8 × Int) : List V := [.s a.1, .i .i64 a.2]
noncomputable def una_circaref03_Prev (l : List V) : Option (List UInt8 × Int) := match l with
  | [.s a0, .i .i64 a1] => some (a0, a1)
  | _ => none
theorem una_ok_circaref03_Prev : ∀ l a, una_circaref03_Prev l = some a → l = arg_circaref03_Prev a := by
  intro l a h
  unfold una_circaref03_Prev at h
  split at h
  · cases h; rfl
  · cases h
noncomputable def enc_circaref03_Prev (r : Int × Bool) : V := .tp [.i .i64 r.1, .b r.2]
noncomputable def unr_circaref03_Prev (v : V) : Option (Int × Bool) := match v with
  | .tp [.i .i64 r0, .b r1] => some (r0, r1)
  | _ => none
theorem unr_ok_circaref03_Prev : ∀ v r, unr_circaref03_Prev v = some r → v = enc_circaref03_Prev r := by
  intro v r h
  unfold unr_circaref03_Prev at h
  split at h
  · cases h; rfl
  · cases h
noncomputable def e_circaref03_Prev (n : Nat) : Ent := pureE 61 una_circaref03_Prev (fun a => circaref03_Prev n a.1 a.2) enc_circaref03_Prev
noncomputable def t_circaref03_Prev (l : List V) (_ : List (Nat × Blk)) : Bool := isS (una_circaref03_Prev l)
noncomputable def Es_circaref03_Prev (n : Nat) : List Ent := [e_circaref03_Below n, e_circaref03_Count n, e_circaref03_Nth n]
theorem Es_ok_circaref03_Prev (n : Nat) : ∀ x ∈ Es_circaref03_Prev n, EntOK Try.prog x := by
  intro x hx
  simp only [Es_circaref03_Prev, List.mem_cons, List.not_mem_nil, or_false] at hx
  rcases hx with hx | hx | hx
  · rw [hx]; exact ok_circaref03_Below n
  · rw [hx]; exact ok_circaref03_Count n
  · rw [hx]; exact ok_circaref03_Nth n
noncomputable def Ls_circaref03_Prev (_n : Nat) : List Sub := []
theorem subs_circaref03_Prev (n : Nat) : SubOK Try.prog 28 (Ls_circaref03_Prev n) (acOf Try.f61) := SubOK_of _ (by
  have e : subs (acOf Try.f61) = [] := by kernel_rfl
  rw [e]; intro p hp; cases hp)
theorem cert_circaref03_Prev (n : Nat) (a0 : List UInt8) (a1 : Int) : run Try.prog (Es_circaref03_Prev n) (Ls_circaref03_Prev n) Try.f61.ntmps (acOf Try.f61) ⟨argsT [.s a0, .i .i64 a1] 0, [], 0, 0, 0, 0⟩ (finK Try.prog Try.f61.results.toList (retX unr_circaref03_Prev)) = circaref03_Prev n a0 a1 := by kernel_rfl
theorem pure_circaref03_Prev (n : Nat) : ∀ a r, circaref03_Prev n a.1 a.2 = some r → PureOK Try.prog 61 (arg_circaref03_Prev a) (enc_circaref03_Prev r) := fun a r h => pureX_ok unr_ok_circaref03_Prev (Es_ok_circaref03_Prev n) Try.func61 rfl (acOf_code _) (subs_circaref03_Prev n) rfl ((cert_circaref03_Prev n a.1 a.2).trans h)
theorem ok_circaref03_Prev (n : Nat) : EntOK Try.prog (e_circaref03_Prev n) := pureE_ok Try.call61 una_ok_circaref03_Prev (fun _ => rfl) (pure_circaref03_Prev n)

/-! circa/circalaw03.MasksNext -/
noncomputable def arg_circalaw03_MasksNext (a : Int × Int × List (Int)) : List V := [.ag [.ws 0], .i .i64 a.1, .i .i64 a.2.1]
noncomputable def H0_circalaw03_MasksNext (a : Int × Int × List (Int)) : List (Nat × Blk) := [(0, .rows [.i .u8] a.2.2)]
noncomputable def una_circalaw03_MasksNext (l : List V) (H : List (Nat × Blk)) : Option ((Int × Int × List (Int)) × List Nat) := match l with
  | [.ag [.ws b0], .i .i64 a0, .i .i64 a1] => (match Abs.look H b0 with
    | some (.rows [.i .u8] a2) => (cond (Abs.distinct [b0] && true) (some ((a0, a1, a2), [b0])) none)
    | _ => none)
  | _ => none
theorem una_ok_circalaw03_MasksNext : ∀ l H a ρ, una_circalaw03_MasksNext l H = some (a, ρ) → ρ.length = 1 ∧ ρ.Nodup ∧ l = V.rens ρ (arg_circalaw03_MasksNext a) ∧ ∀ b blk, Abs.look (H0_circalaw03_MasksNext a) b = some blk → Abs.look H (getN ρ b) = some (blk.ren ρ) := by
  intro l H a ρ h
  unfold una_circalaw03_MasksNext at h
  split at h
  · split at h
    · rename_i e0
      obtain ⟨hd, h⟩ := cond_some h
      simp only [Bool.and_eq_true] at hd
      obtain ⟨hd, _⟩ := hd
      cases h
      exact ⟨rfl, distinct_ok hd, rfl, eachH_look ⟨e0, trivial⟩⟩
    · cases h
  · cases h
noncomputable def out_circalaw03_MasksNext (r : Bool) : FOut := (⟨false, .b r, [], []⟩ : FOut)
noncomputable def outK_circalaw03_MasksNext (α : Type) (r : Bool) (k : FOut → Option α) : Option α := (k ⟨false, .b r, [], []⟩)
theorem outK_ok_circalaw03_MasksNext : ∀ α r k, outK_circalaw03_MasksNext α r k = k (out_circalaw03_MasksNext r) := by
  intro α r k
  rfl
noncomputable def unr_circalaw03_MasksNext (pan : Bool) (v : V) (H : List (Nat × Blk)) (nw : List Nat) : Option (Bool) := match pan, v, H, nw with
  | false, .b r0, [], [] => some r0
  | _, _, _, _ => none
theorem unr_ok_circalaw03_MasksNext : ∀ pan v H nw r, unr_circalaw03_MasksNext pan v H nw = some r → (out_circalaw03_MasksNext r).pan = pan ∧ (out_circalaw03_MasksNext r).news = nw ∧ v = V.ren (upTo 0 1 ++ (out_circalaw03_MasksNext r).news) (out_circalaw03_MasksNext r).val ∧ H = renH (upTo 0 1 ++ (out_circalaw03_MasksNext r).news) (out_circalaw03_MasksNext r).H := by
  intro pan v H nw r h
  unfold unr_circalaw03_MasksNext at h
  split at h
  · cases h; exact ⟨rfl, rfl, rfl, rfl⟩
  · cases h
theorem hv_circalaw03_MasksNext : ∀ r, V.lt (1 + (out_circalaw03_MasksNext r).news.length) (out_circalaw03_MasksNext r).val = true := fun r => (by rfl)
theorem hc_circalaw03_MasksNext : ∀ r, chkH (1 + (out_circalaw03_MasksNext r).news.length) (out_circalaw03_MasksNext r).H = true := fun r => (by rfl)
theorem hk_circalaw03_MasksNext : ∀ r, hasKeys (out_circalaw03_MasksNext r).H 1 (0 + (out_circalaw03_MasksNext r).news.length) = true := fun r => (by rfl)
noncomputable def e_circalaw03_MasksNext (n : Nat) : Ent := funE 11 1 una_circalaw03_MasksNext (fun a => circalaw03_MasksNext n a.1 a.2.1 a.2.2) outK_circalaw03_MasksNext
noncomputable def t_circalaw03_MasksNext (l : List V) (H : List (Nat × Blk)) : Bool := isS (una_circalaw03_MasksNext l H)
noncomputable def Es_circalaw03_MasksNext (n : Nat) : List Ent := [e_circalaw03_M_Of n, e_masks_Next n, e_masks_Prev n, e_circaref03_Next n, e_circaref03_Prev n, e_circalaw03_gives n, e_masks_Has n, e_circalaw03_lives n]
theorem Es_ok_circalaw03_MasksNext (n : Nat) : ∀ x ∈ Es_circalaw03_MasksNext n, EntOK Try.prog x := by
  intro x hx
  simp only [Es_circalaw03_MasksNext, List.mem_cons, List.not_mem_nil, or_false] at hx
  rcases hx with hx | hx | hx | hx | hx | hx | hx | hx
  · rw [hx]; exact ok_circalaw03_M_Of n
  · rw [hx]; exact ok_masks_Next n
  · rw [hx]; exact ok_masks_Prev n
  · rw [hx]; exact ok_circaref03_Next n
  · rw [hx]; exact ok_circaref03_Prev n
  · rw [hx]; exact ok_circalaw03_gives n
  · rw [hx]; exact ok_masks_Has n
  · rw [hx]; exact ok_circalaw03_lives n
noncomputable def Ls_circalaw03_MasksNext (_n : Nat) : List Sub := []
theorem subs_circalaw03_MasksNext (n : Nat) : SubOK Try.prog 104 (Ls_circalaw03_MasksNext n) (acOf Try.f11) := SubOK_of _ (by
  have e : subs (acOf Try.f11) = [] := by kernel_rfl
  rw [e]; intro p hp; cases hp)
theorem cert_circalaw03_MasksNext (n : Nat) (a0 : Int) (a1 : Int) (a2 : List (Int)) : run Try.prog (Es_circalaw03_MasksNext n) (Ls_circalaw03_MasksNext n) Try.f11.ntmps (acOf Try.f11) ⟨argsT [.ag [.ws 0], .i .i64 a0, .i .i64 a1] 0, [(0, .rows [.i .u8] a2)], 1, 1, 1, 1⟩ (finK Try.prog Try.f11.results.toList (funX [] 1 1 1 unr_circalaw03_MasksNext)) = circalaw03_MasksNext n a0 a1 a2 := by kernel_rfl
theorem fun_circalaw03_MasksNext (n : Nat) : ∀ a r, circalaw03_MasksNext n a.1 a.2.1 a.2.2 = some r → FunOK Try.prog 11 (arg_circalaw03_MasksNext a) (H0_circalaw03_MasksNext a) 1 1 1 (out_circalaw03_MasksNext r) := fun a r h => funX_ok (ws := []) unr_ok_circalaw03_MasksNext hv_circalaw03_MasksNext (fun r b blk hl => (chkH_look (hc_circalaw03_MasksNext r) b blk hl).2) (fun r => chkH_keys (hc_circalaw03_MasksNext r)) (by decide) (Es_ok_circalaw03_MasksNext n) Try.func11 rfl (acOf_code _) (subs_circalaw03_MasksNext n) rfl rfl ((cert_circalaw03_MasksNext n a.1 a.2.1 a.2.2).trans h)
theorem ok_circalaw03_MasksNext (n : Nat) : EntOK Try.prog (e_circalaw03_MasksNext n) := funE_ok (m := 1) (ro := 1) (rb := 1) (out := out_circalaw03_MasksNext) (arg := arg_circalaw03_MasksNext) (H0 := H0_circalaw03_MasksNext) Try.call11 (by decide) (by decide) outK_ok_circalaw03_MasksNext una_ok_circalaw03_MasksNext (fun _ => rfl) (fun a => chkH_look (m := 1) (H := H0_circalaw03_MasksNext a) rfl) (fun _ => rfl) (fun r => chkH_keys (hc_circalaw03_MasksNext r)) (fun r b blk h => (chkH_look (hc_circalaw03_MasksNext r) b blk h).2) (fun r b h1 h2 => hasKeys_ok (hk_circalaw03_MasksNext r) b h1 (by omega)) hv_circalaw03_MasksNext (fun_circalaw03_MasksNext n)

/-! circa/circaref03.Common -/
noncomputable def arg_circaref03_Common (a : List UInt8 × List UInt8) : List V := [.s a.1, .s a.2]
noncomputable def una_circaref03_Common (l : List V) : Option (List UInt8 × List UInt8) := match l with
  | [.s a0, .s a1] => some (a0, a1)
  | _ => none
theorem una_ok_circaref03_Common : ∀ l a, una_circaref03_Common l = some a → l = arg_circaref03_Common a := by
  intro l a h
  unfold una_circaref03_Common at h
  split at h
  · cases h; rfl
  · cases h
noncomputable def enc_circaref03_Common (r : List UInt8 × Bool) : V := .tp [.s r.1, .b r.2]
noncomputable def unr_circaref03_Common (v : V) : Option (List UInt8 × Bool) := match v with
  | .tp [.s r0, .b r1] => some (r0, r1)
  | _ => none
theorem unr_ok_circaref03_Common : ∀ v r, unr_circaref03_Common v = some r → v = enc_circaref03_Common r := by
  intro v r h
  unfold unr_circaref03_Common at h
  split at h
  · cases h; rfl
  · cases h
noncomputable def e_circaref03_Common (n : Nat) : Ent := pureE 63 una_circaref03_Common (fun a => circaref03_Common n a.1 a.2) enc_circaref03_Common
noncomputable def t_circaref03_Common (l : List V) (_ : List (Nat × Blk)) : Bool := isS (una_circaref03_Common l)
noncomputable def Es_circaref03_Common (_n : Nat) : List Ent := []
theorem Es_ok_circaref03_Common (n : Nat) : ∀ x ∈ Es_circaref03_Common n, EntOK Try.prog x := by
  intro x hx
  simp [Es_circaref03_Common] at hx
noncomputable def an_circaref03_Common_l0 : Ann := ⟨[0, 1, 6, 7], [0], 1, [.nilT 6 0 [.i .u8]]⟩
noncomputable def emb_circaref03_Common_l0 (x : List UInt8 × List UInt8 × Int × List (Int)) : St := ⟨[(0, some (.s x.1)), (1, some (.s x.2.1)), (6, some (.ws 0)), (7, some (.i .i64 x.2.2.1))], [(0, .rows [.i .u8] x.2.2.2)], 1, 0, 0, 0⟩
noncomputable def un_circaref03_Common_l0 (s : St) : Option (List UInt8 × List UInt8 × Int × List (Int)) := match s with
  | ⟨[(0, some (.s x0)), (1, some (.s x1)), (6, some (.ws 0)), (7, some (.i .i64 x2))], [(0, .rows [.i .u8] x3)], 1, 0, 0, 0⟩ => some (x0, x1, x2, x3)
  | _ => none
theorem un_ok_circaref03_Common_l0 : ∀ s x, un_circaref03_Common_l0 s = some x → s = emb_circaref03_Common_l0 x := by
  intro s x h
  unfold un_circaref03_Common_l0 at h
  split at h
  · cases h; rfl
  · cases h
noncomputable def ax_circaref03_Common_l0 : Ex → Ann := fun ex => match ex with
  | .ret => ⟨[4, 5], [], 1, []⟩
  | .exit 0 => ⟨[6], [0], 1, []⟩
  | _ => ⟨[], [], 0, []⟩
noncomputable def out_circaref03_Common_l0 (y : (List UInt8 × Bool) ⊕ List (Int)) : Ex × St := (Sum.casesOn (motive := fun _ => Ex × St) y (fun a0 => (.ret, ⟨[(4, some (.s a0.1)), (5, some (.b a0.2))], [], 1, 0, 0, 0⟩)) (fun b0 => (.exit 0, ⟨[(6, some (.ws 0))], [(0, .rows [.i .u8] b0)], 1, 0, 0, 0⟩)))
noncomputable def outK_circaref03_Common_l0 (α : Type) (y : (List UInt8 × Bool) ⊕ List (Int)) (k : Ex → St → Option α) : Option α := (Sum.casesOn (motive := fun _ => Option α) y (fun a0 => (k (.ret) ⟨[(4, some (.s a0.1)), (5, some (.b a0.2))], [], 1, 0, 0, 0⟩)) (fun b0 => (k (.exit 0) ⟨[(6, some (.ws 0))], [(0, .rows [.i .u8] b0)], 1, 0, 0, 0⟩)))
theorem outK_ok_circaref03_Common_l0 : ∀ α y k, outK_circaref03_Common_l0 α y k = k (out_circaref03_Common_l0 y).1 (out_circaref03_Common_l0 y).2 := by
  intro α y k
  rcases y with y | y <;> rfl
noncomputable def ux_circaref03_Common_l0 (ex : Ex) (s : St) : Option ((List UInt8 × Bool) ⊕ List (Int)) := match ex, s with
  | .ret, ⟨[(4, some (.s y0)), (5, some (.b y1))], [], 1, 0, 0, 0⟩ => some (.inl (y0, y1))
  | .exit 0, ⟨[(6, some (.ws 0))], [(0, .rows [.i .u8] y0)], 1, 0, 0, 0⟩ => some (.inr y0)
  | _, _ => none
theorem ux_ok_circaref03_Common_l0 : ∀ ex s y, ux_circaref03_Common_l0 ex s = some y → (ex, s) = out_circaref03_Common_l0 y := by
  intro ex s y h
  unfold ux_circaref03_Common_l0 at h
  split at h
  · cases h; rfl
  · cases h; rfl
  · cases h
noncomputable def Ls_circaref03_Common (n : Nat) : List Sub := [subE 0 an_circaref03_Common_l0 un_circaref03_Common_l0 (fun x => iterL (circaref03_Common_l0 n) n x) outK_circaref03_Common_l0]
noncomputable def sac_circaref03_Common_l0 : AC := getS (subs (acOf Try.f63)) 0
noncomputable def ac_circaref03_Common_l0 : AC := AC.body sac_circaref03_Common_l0
theorem subs_circaref03_Common_l0 (n : Nat) : SubOK Try.prog 40 (Ls_circaref03_Common n) ac_circaref03_Common_l0 := SubOK_of _ (by
  have e : subs ac_circaref03_Common_l0 = [] := by kernel_rfl
  rw [e]; intro p hp; cases hp)
theorem body_circaref03_Common_l0 (n : Nat) : ∀ x, run Try.prog (Es_circaref03_Common n) (Ls_circaref03_Common n) 40 ac_circaref03_Common_l0 (emb_circaref03_Common_l0 x) (roundK an_circaref03_Common_l0 un_circaref03_Common_l0 ax_circaref03_Common_l0 ux_circaref03_Common_l0) = circaref03_Common_l0 n x := fun _ => by kernel_rfl
theorem sub1_circaref03_Common_l0 (n : Nat) : ∀ (α : Type) (s : St) (k : Ex → St → Option α) (z : α), (subE 0 an_circaref03_Common_l0 un_circaref03_Common_l0 (fun x => iterL (circaref03_Common_l0 n) n x) outK_circaref03_Common_l0).e α s k = some z → SemC Try.prog 40 (sac_circaref03_Common_l0).code s fun ex s' => k ex s' = some z := by
  intro α s k z h
  have e : sac_circaref03_Common_l0 = .loop ac_circaref03_Common_l0 := by kernel_rfl
  rw [e]
  exact subE_ok (m := 0) (f := fun x => iterL (circaref03_Common_l0 n) n x) (out := out_circaref03_Common_l0) outK_ok_circaref03_Common_l0 un_ok_circaref03_Common_l0 (fun x y hy => loop_ok (Es_ok_circaref03_Common n) (subs_circaref03_Common_l0 n) un_ok_circaref03_Common_l0 ux_ok_circaref03_Common_l0 (body_circaref03_Common_l0 n) n x y hy) h
theorem sub_circaref03_Common_l0 (n : Nat) : SubSt Try.prog 40 (Ls_circaref03_Common n) 0 sac_circaref03_Common_l0 := fun α s k z => sub1_circaref03_Common_l0 n α s k z
theorem subs_circaref03_Common (n : Nat) : SubOK Try.prog 40 (Ls_circaref03_Common n) (acOf Try.f63) := SubOK_of _ (by
  have e : subs (acOf Try.f63) = [(0, sac_circaref03_Common_l0)] := by kernel_rfl
  rw [e]; intro p hp
  simp only [List.mem_cons, List.not_mem_nil, or_false] at hp
  · rw [hp]; exact sub_circaref03_Common_l0 n
  )
theorem cert_circaref03_Common (n : Nat) (a0 : List UInt8) (a1 : List UInt8) : run Try.prog (Es_circaref03_Common n) (Ls_circaref03_Common n) Try.f63.ntmps (acOf Try.f63) ⟨argsT [.s a0, .s a1] 0, [], 0, 0, 0, 0⟩ (finK Try.prog Try.f63.results.toList (retX unr_circaref03_Common)) = circaref03_Common n a0 a1 := by kernel_rfl
theorem pure_circaref03_Common (n : Nat) : ∀ a r, circaref03_Common n a.1 a.2 = some r → PureOK Try.prog 63 (arg_circaref03_Common a) (enc_circaref03_Common r) := fun a r h => pureX_ok unr_ok_circaref03_Common (Es_ok_circaref03_Common n) Try.func63 rfl (acOf_code _) (subs_circaref03_Common n) rfl ((cert_circaref03_Common n a.1 a.2).trans h)
theorem ok_circaref03_Common (n : Nat) : EntOK Try.prog (e_circaref03_Common n) := pureE_ok Try.call63 una_ok_circaref03_Common (fun _ => rfl) (pure_circaref03_Common n)

/-! circa/circaref01.Of -/
noncomputable def arg_circaref01_Of (a : Int) : List V := [.i .i64 a]
noncomputable def H0_circaref01_Of (a : Int) : List (Nat × Blk) := []
noncomputable def una_circaref01_Of (l : List V) (H : List (Nat × Blk)) : Option ((Int) × List Nat) := match l with
  | [.i .i64 a0] => (cond (Abs.distinct [] && true) (some (a0, [])) none)
  | _ => none
theorem una_ok_circaref01_Of : ∀ l H a ρ, una_circaref01_Of l H = some (a, ρ) → ρ.length = 0 ∧ ρ.Nodup ∧ l = V.rens ρ (arg_circaref01_Of a) ∧ ∀ b blk, Abs.look (H0_circaref01_Of a) b = some blk → Abs.look H (getN ρ b) = some (blk.ren ρ) := by
  intro l H a ρ h
  unfold una_circaref01_Of at h
  split at h
  · obtain ⟨hd, h⟩ := cond_some h
    simp only [Bool.and_eq_true] at hd
    obtain ⟨hd, _⟩ := hd
    cases h
    exact ⟨rfl, distinct_ok hd, rfl, eachH_look trivial⟩
  · cases h
noncomputable def out_circaref01_Of (r : (Bool × List (Int))) : FOut := (⟨false, .ag [.b r.1, .ws 0], [(0, .rows [.i .u8] r.2)], [2]⟩ : FOut)
noncomputable def outK_circaref01_Of (α : Type) (r : (Bool × List (Int))) (k : FOut → Option α) : Option α := (k ⟨false, .ag [.b r.1, .ws 0], [(0, .rows [.i .u8] r.2)], [2]⟩)
theorem outK_ok_circaref01_Of : ∀ α r k, outK_circaref01_Of α r k = k (out_circaref01_Of r) := by
  intro α r k
  rfl
noncomputable def unr_circaref01_Of (pan : Bool) (v : V) (H : List (Nat × Blk)) (nw : List Nat) : Option ((Bool × List (Int))) := match pan, v, H, nw with
  | false, .ag [.b r0, .ws 2], [(2, .rows [.i .u8] r1)], [2] => some (r0, r1)
  | _, _, _, _ => none
theorem unr_ok_circaref01_Of : ∀ pan v H nw r, unr_circaref01_Of pan v H nw = some r → (out_circaref01_Of r).pan = pan ∧ (out_circaref01_Of r).news = nw ∧ v = V.ren (upTo 0 0 ++ (out_circaref01_Of r).news) (out_circaref01_Of r).val ∧ H = renH (upTo 0 0 ++ (out_circaref01_Of r).news) (out_circaref01_Of r).H := by
  intro pan v H nw r h
  unfold unr_circaref01_Of at h
  split at h
  · cases h; exact ⟨rfl, rfl, rfl, rfl⟩
  · cases h
theorem hv_circaref01_Of : ∀ r, V.lt (0 + (out_circaref01_Of r).news.length) (out_circaref01_Of r).val = true := fun r => (by rfl)
theorem hc_circaref01_Of : ∀ r, chkH (0 + (out_circaref01_Of r).news.length) (out_circaref01_Of r).H = true := fun r => (by rfl)
theorem hk_circaref01_Of : ∀ r, hasKeys (out_circaref01_Of r).H 0 (0 + (out_circaref01_Of r).news.length) = true := fun r => (by rfl)
noncomputable def e_circaref01_Of (n : Nat) : Ent := funE 65 0 una_circaref01_Of (fun a => circaref01_Of n a) outK_circaref01_Of
noncomputable def t_circaref01_Of (l : List V) (H : List (Nat × Blk)) : Bool := isS (una_circaref01_Of l H)
noncomputable def Es_circaref01_Of (_n : Nat) : List Ent := []
theorem Es_ok_circaref01_Of (n : Nat) : ∀ x ∈ Es_circaref01_Of n, EntOK Try.prog x := by
  intro x hx
  simp [Es_circaref01_Of] at hx
noncomputable def an_circaref01_Of_l0 : Ann := ⟨[0, 2, 3], [0, 1, 2], 3, [.nilH 1 1 2 [.i .u8]]⟩
noncomputable def emb_circaref01_Of_l0 (x : Int × Bool × Bool × List (Int)) : St := ⟨[(0, some (.i .i64 x.1)), (2, some (.p 0 0)), (3, some (.p 1 0))], [(0, .cells [.b x.2.1, .sn]), (1, .cells [.b x.2.2.1, .ws 2]), (2, .rows [.i .u8] x.2.2.2)], 3, 0, 0, 0⟩
noncomputable def un_circaref01_Of_l0 (s : St) : Option (Int × Bool × Bool × List (Int)) := match s with
  | ⟨[(0, some (.i .i64 x0)), (2, some (.p 0 0)), (3, some (.p 1 0))], [(0, .cells [.b x1, .sn]), (1, .cells [.b x2, .ws 2]), (2, .rows [.i .u8] x3)], 3, 0, 0, 0⟩ => some (x0, x1, x2, x3)
  | _ => none
theorem un_ok_circaref01_Of_l0 : ∀ s x, un_circaref01_Of_l0 s = some x → s = emb_circaref01_Of_l0 x := by
  intro s x h
  unfold un_circaref01_Of_l0 at h
  split at h
  · cases h; rfl
  · cases h
noncomputable def ax_circaref01_Of_l0 : Ex → Ann := fun ex => match ex with
  | .exit 0 => ⟨[2, 3], [0, 1, 2], 3, []⟩
  | _ => ⟨[], [], 0, []⟩
noncomputable def out_circaref01_Of_l0 (y : (Bool × Bool × List (Int))) : Ex × St := (.exit 0, ⟨[(2, some (.p 0 0)), (3, some (.p 1 0))], [(0, .cells [.b y.1, .sn]), (1, .cells [.b y.2.1, .ws 2]), (2, .rows [.i .u8] y.2.2)], 3, 0, 0, 0⟩)
noncomputable def outK_circaref01_Of_l0 (α : Type) (y : (Bool × Bool × List (Int))) (k : Ex → St → Option α) : Option α := (k (.exit 0) ⟨[(2, some (.p 0 0)), (3, some (.p 1 0))], [(0, .cells [.b y.1, .sn]), (1, .cells [.b y.2.1, .ws 2]), (2, .rows [.i .u8] y.2.2)], 3, 0, 0, 0⟩)
theorem outK_ok_circaref01_Of_l0 : ∀ α y k, outK_circaref01_Of_l0 α y k = k (out_circaref01_Of_l0 y).1 (out_circaref01_Of_l0 y).2 := by
  intro α y k
  rfl
noncomputable def ux_circaref01_Of_l0 (ex : Ex) (s : St) : Option ((Bool × Bool × List (Int))) := match ex, s with
  | .exit 0, ⟨[(2, some (.p 0 0)), (3, some (.p 1 0))], [(0, .cells [.b y0, .sn]), (1, .cells [.b y1, .ws 2]), (2, .rows [.i .u8] y2)], 3, 0, 0, 0⟩ => some (y0, y1, y2)
  | _, _ => none
theorem ux_ok_circaref01_Of_l0 : ∀ ex s y, ux_circaref01_Of_l0 ex s = some y → (ex, s) = out_circaref01_Of_l0 y := by
  intro ex s y h
  unfold ux_circaref01_Of_l0 at h
  split at h
  · cases h; rfl
  · cases h
noncomputable def Ls_circaref01_Of (n : Nat) : List Sub := [subE 0 an_circaref01_Of_l0 un_circaref01_Of_l0 (fun x => iterL (circaref01_Of_l0 n) n x) outK_circaref01_Of_l0]
noncomputable def sac_circaref01_Of_l0 : AC := getS (subs (acOf Try.f65)) 0
noncomputable def ac_circaref01_Of_l0 : AC := AC.body sac_circaref01_Of_l0
theorem subs_circaref01_Of_l0 (n : Nat) : SubOK Try.prog 26 (Ls_circaref01_Of n) ac_circaref01_Of_l0 := SubOK_of _ (by
  have e : subs ac_circaref01_Of_l0 = [] := by kernel_rfl
  rw [e]; intro p hp; cases hp)
theorem body_circaref01_Of_l0 (n : Nat) : ∀ x, run Try.prog (Es_circaref01_Of n) (Ls_circaref01_Of n) 26 ac_circaref01_Of_l0 (emb_circaref01_Of_l0 x) (roundK an_circaref01_Of_l0 un_circaref01_Of_l0 ax_circaref01_Of_l0 ux_circaref01_Of_l0) = circaref01_Of_l0 n x := fun _ => by kernel_rfl
theorem sub1_circaref01_Of_l0 (n : Nat) : ∀ (α : Type) (s : St) (k : Ex → St → Option α) (z : α), (subE 0 an_circaref01_Of_l0 un_circaref01_Of_l0 (fun x => iterL (circaref01_Of_l0 n) n x) outK_circaref01_Of_l0).e α s k = some z → SemC Try.prog 26 (sac_circaref01_Of_l0).code s fun ex s' => k ex s' = some z := by
  intro α s k z h
  have e : sac_circaref01_Of_l0 = .loop ac_circaref01_Of_l0 := by kernel_rfl
  rw [e]
  exact subE_ok (m := 0) (f := fun x => iterL (circaref01_Of_l0 n) n x) (out := out_circaref01_Of_l0) outK_ok_circaref01_Of_l0 un_ok_circaref01_Of_l0 (fun x y hy => loop_ok (Es_ok_circaref01_Of n) (subs_circaref01_Of_l0 n) un_ok_circaref01_Of_l0 ux_ok_circaref01_Of_l0 (body_circaref01_Of_l0 n) n x y hy) h
theorem sub_circaref01_Of_l0 (n : Nat) : SubSt Try.prog 26 (Ls_circaref01_Of n) 0 sac_circaref01_Of_l0 := fun α s k z => sub1_circaref01_Of_l0 n α s k z
theorem subs_circaref01_Of (n : Nat) : SubOK Try.prog 26 (Ls_circaref01_Of n) (acOf Try.f65) := SubOK_of _ (by
  have e : subs (acOf Try.f65) = [(0, sac_circaref01_Of_l0)] := by kernel_rfl
  rw [e]; intro p hp
  simp only [List.mem_cons, List.not_mem_nil, or_false] at hp
  · rw [hp]; exact sub_circaref01_Of_l0 n
  )
theorem cert_circaref01_Of (n : Nat) (a0 : Int) : run Try.prog (Es_circaref01_Of n) (Ls_circaref01_Of n) Try.f65.ntmps (acOf Try.f65) ⟨argsT [.i .i64 a0] 0, [], 0, 0, 0, 0⟩ (finK Try.prog Try.f65.results.toList (funX [] 0 0 0 unr_circaref01_Of)) = circaref01_Of n a0 := by kernel_rfl
theorem fun_circaref01_Of (n : Nat) : ∀ a r, circaref01_Of n a = some r → FunOK Try.prog 65 (arg_circaref01_Of a) (H0_circaref01_Of a) 0 0 0 (out_circaref01_Of r) := fun a r h => funX_ok (ws := []) unr_ok_circaref01_Of hv_circaref01_Of (fun r b blk hl => (chkH_look (hc_circaref01_Of r) b blk hl).2) (fun r => chkH_keys (hc_circaref01_Of r)) (by decide) (Es_ok_circaref01_Of n) Try.func65 rfl (acOf_code _) (subs_circaref01_Of n) rfl rfl ((cert_circaref01_Of n a).trans h)
theorem ok_circaref01_Of (n : Nat) : EntOK Try.prog (e_circaref01_Of n) := funE_ok (m := 0) (ro := 0) (rb := 0) (out := out_circaref01_Of) (arg := arg_circaref01_Of) (H0 := H0_circaref01_Of) Try.call65 (by decide) (by decide) outK_ok_circaref01_Of una_ok_circaref01_Of (fun _ => rfl) (fun a => chkH_look (m := 0) (H := H0_circaref01_Of a) rfl) (fun _ => rfl) (fun r => chkH_keys (hc_circaref01_Of r)) (fun r b blk h => (chkH_look (hc_circaref01_Of r) b blk h).2) (fun r b h1 h2 => hasKeys_ok (hk_circaref01_Of r) b h1 (by omega)) hv_circaref01_Of (fun_circaref01_Of n)

/-! circa/circaref01.Text -/
noncomputable def arg_circaref01_Text (a : Bool × List (Int)) : List V := [.ag [.b a.1, .ws 0]]
noncomputable def H0_circaref01_Text (a : Bool × List (Int)) : List (Nat × Blk) := [(0, .rows [.i .u8] a.2)]
noncomputable def una_circaref01_Text (l : List V) (H : List (Nat × Blk)) : Option ((Bool × List (Int)) × List Nat) := match l with
  | [.ag [.b a0, .ws b0]] => (match Abs.look H b0 with
    | some (.rows [.i .u8] a1) => (cond (Abs.distinct [b0] && true) (some ((a0, a1), [b0])) none)
    | _ => none)
  | _ => none
theorem una_ok_circaref01_Text : ∀ l H a ρ, una_circaref01_Text l H = some (a, ρ) → ρ.length = 1 ∧ ρ.Nodup ∧ l = V.rens ρ (arg_circaref01_Text a) ∧ ∀ b blk, Abs.look (H0_circaref01_Text a) b = some blk → Abs.look H (getN ρ b) = some (blk.ren ρ) := by
  intro l H a ρ h
  unfold una_circaref01_Text at h
  split at h
  · split at h
    · rename_i e0
      obtain ⟨hd, h⟩ := cond_some h
      simp only [Bool.and_eq_true] at hd
      obtain ⟨hd, _⟩ := hd
      cases h
      exact ⟨rfl, distinct_ok hd, rfl, eachH_look ⟨e0, trivial⟩⟩
    · cases h
  · cases h
noncomputable def out_circaref01_Text (r : List UInt8) : FOut := (⟨false, .s r, [], []⟩ : FOut)
noncomputable def outK_circaref01_Text (α : Type) (r : List UInt8) (k : FOut → Option α) : Option α := (k ⟨false, .s r, [], []⟩)
theorem outK_ok_circaref01_Text : ∀ α r k, outK_circaref01_Text α r k = k (out_circaref01_Text r) := by
  intro α r k
  rfl
noncomputable def unr_circaref01_Text (pan : Bool) (v : V) (H : List (Nat × Blk)) (nw : List Nat) : Option (List UInt8) := match pan, v, H, nw with
  | false, .s r0, [], [] => some r0
  | _, _, _, _ => none
theorem unr_ok_circaref01_Text : ∀ pan v H nw r, unr_circaref01_Text pan v H nw = some r → (out_circaref01_Text r).pan = pan ∧ (out_circaref01_Text r).news = nw ∧ v = V.ren (upTo 0 1 ++ (out_circaref01_Text r).news) (out_circaref01_Text r).val ∧ H = renH (upTo 0 1 ++ (out_circaref01_Text r).news) (out_circaref01_Text r).H := by
  intro pan v H nw r h
  unfold unr_circaref01_Text at h
  split at h
  · cases h; exact ⟨rfl, rfl, rfl, rfl⟩
  · cases h
theorem hv_circaref01_Text : ∀ r, V.lt (1 + (out_circaref01_Text r).news.length) (out_circaref01_Text r).val = true := fun r => (by rfl)
theorem hc_circaref01_Text : ∀ r, chkH (1 + (out_circaref01_Text r).news.length) (out_circaref01_Text r).H = true := fun r => (by rfl)
theorem hk_circaref01_Text : ∀ r, hasKeys (out_circaref01_Text r).H 1 (0 + (out_circaref01_Text r).news.length) = true := fun r => (by rfl)
noncomputable def e_circaref01_Text (n : Nat) : Ent := funE 64 1 una_circaref01_Text (fun a => circaref01_Text n a.1 a.2) outK_circaref01_Text
noncomputable def t_circaref01_Text (l : List V) (H : List (Nat × Blk)) : Bool := isS (una_circaref01_Text l H)
noncomputable def Es_circaref01_Text (_n : Nat) : List Ent := []
theorem Es_ok_circaref01_Text (n : Nat) : ∀ x ∈ Es_circaref01_Text n, EntOK Try.prog x := by
  intro x hx
  simp [Es_circaref01_Text] at hx
noncomputable def an_circaref01_Text_l0 : Ann := ⟨[1, 3, 4], [0, 1, 3], 4, []⟩
noncomputable def emb_circaref01_Text_l0 (x : Int × List (Int) × Bool × List (Int)) : St := ⟨[(1, some (.p 1 0)), (3, some (.ws 3)), (4, some (.i .i64 x.1))], [(0, .rows [.i .u8] x.2.1), (1, .cells [.b x.2.2.1, .ws 0]), (3, .rows [.i .u8] x.2.2.2)], 4, 1, 1, 1⟩
noncomputable def un_circaref01_Text_l0 (s : St) : Option (Int × List (Int) × Bool × List (Int)) := match s with
  | ⟨[(1, some (.p 1 0)), (3, some (.ws 3)), (4, some (.i .i64 x0))], [(0, .rows [.i .u8] x1), (1, .cells [.b x2, .ws 0]), (3, .rows [.i .u8] x3)], 4, 1, 1, 1⟩ => some (x0, x1, x2, x3)
  | _ => none
theorem un_ok_circaref01_Text_l0 : ∀ s x, un_circaref01_Text_l0 s = some x → s = emb_circaref01_Text_l0 x := by
  intro s x h
  unfold un_circaref01_Text_l0 at h
  split at h
  · cases h; rfl
  · cases h
noncomputable def ax_circaref01_Text_l0 : Ex → Ann := fun ex => match ex with
  | .exit 0 => ⟨[3], [3], 4, []⟩
  | _ => ⟨[], [], 0, []⟩
noncomputable def out_circaref01_Text_l0 (y : List (Int)) : Ex × St := (.exit 0, ⟨[(3, some (.ws 3))], [(3, .rows [.i .u8] y)], 4, 1, 1, 1⟩)
noncomputable def outK_circaref01_Text_l0 (α : Type) (y : List (Int)) (k : Ex → St → Option α) : Option α := (k (.exit 0) ⟨[(3, some (.ws 3))], [(3, .rows [.i .u8] y)], 4, 1, 1, 1⟩)
theorem outK_ok_circaref01_Text_l0 : ∀ α y k, outK_circaref01_Text_l0 α y k = k (out_circaref01_Text_l0 y).1 (out_circaref01_Text_l0 y).2 := by
  intro α y k
  rfl
noncomputable def ux_circaref01_Text_l0 (ex : Ex) (s : St) : Option (List (Int)) := match ex, s with
  | .exit 0, ⟨[(3, some (.ws 3))], [(3, .rows [.i .u8] y0)], 4, 1, 1, 1⟩ => some y0
  | _, _ => none
theorem ux_ok_circaref01_Text_l0 : ∀ ex s y, ux_circaref01_Text_l0 ex s = some y → (ex, s) = out_circaref01_Text_l0 y := by
  intro ex s y h
  unfold ux_circaref01_Text_l0 at h
  split at h
  · cases h; rfl
  · cases h
noncomputable def an_circaref01_Text_l0a : Ann := ⟨[1, 3, 4], [0, 1, 2], 3, [.nilT 3 2 [.i .u8]]⟩
noncomputable def emb_circaref01_Text_l0a (x : Int × List (Int) × Bool × List (Int)) : St := ⟨[(1, some (.p 1 0)), (3, some (.ws 2)), (4, some (.i .i64 x.1))], [(0, .rows [.i .u8] x.2.1), (1, .cells [.b x.2.2.1, .ws 0]), (2, .rows [.i .u8] x.2.2.2)], 3, 1, 1, 1⟩
noncomputable def un_circaref01_Text_l0a (s : St) : Option (Int × List (Int) × Bool × List (Int)) := match s with
  | ⟨[(1, some (.p 1 0)), (3, some (.ws 2)), (4, some (.i .i64 x0))], [(0, .rows [.i .u8] x1), (1, .cells [.b x2, .ws 0]), (2, .rows [.i .u8] x3)], 3, 1, 1, 1⟩ => some (x0, x1, x2, x3)
  | _ => none
theorem un_ok_circaref01_Text_l0a : ∀ s x, un_circaref01_Text_l0a s = some x → s = emb_circaref01_Text_l0a x := by
  intro s x h
  unfold un_circaref01_Text_l0a at h
  split at h
  · cases h; rfl
  · cases h
noncomputable def ax_circaref01_Text_l0a : Ex → Ann := fun ex => match ex with
  | .exit 0 => ⟨[3], [2], 3, []⟩
  | _ => ⟨[], [], 0, []⟩
noncomputable def out_circaref01_Text_l0a (y : List (Int)) : Ex × St := (.exit 0, ⟨[(3, some (.ws 2))], [(2, .rows [.i .u8] y)], 3, 1, 1, 1⟩)
noncomputable def outK_circaref01_Text_l0a (α : Type) (y : List (Int)) (k : Ex → St → Option α) : Option α := (k (.exit 0) ⟨[(3, some (.ws 2))], [(2, .rows [.i .u8] y)], 3, 1, 1, 1⟩)
theorem outK_ok_circaref01_Text_l0a : ∀ α y k, outK_circaref01_Text_l0a α y k = k (out_circaref01_Text_l0a y).1 (out_circaref01_Text_l0a y).2 := by
  intro α y k
  rfl
noncomputable def ux_circaref01_Text_l0a (ex : Ex) (s : St) : Option (List (Int)) := match ex, s with
  | .exit 0, ⟨[(3, some (.ws 2))], [(2, .rows [.i .u8] y0)], 3, 1, 1, 1⟩ => some y0
  | _, _ => none
theorem ux_ok_circaref01_Text_l0a : ∀ ex s y, ux_circaref01_Text_l0a ex s = some y → (ex, s) = out_circaref01_Text_l0a y := by
  intro ex s y h
  unfold ux_circaref01_Text_l0a at h
  split at h
  · cases h; rfl
  · cases h
noncomputable def Ls_circaref01_Text (n : Nat) : List Sub := [altS (subE 0 an_circaref01_Text_l0 un_circaref01_Text_l0 (fun x => iterL (circaref01_Text_l0 n) n x) outK_circaref01_Text_l0) (readsS an_circaref01_Text_l0 un_circaref01_Text_l0) (subE 0 an_circaref01_Text_l0a un_circaref01_Text_l0a (fun x => iterL (circaref01_Text_l0a n) n x) outK_circaref01_Text_l0a)]
noncomputable def sac_circaref01_Text_l0 : AC := getS (subs (acOf Try.f64)) 0
noncomputable def ac_circaref01_Text_l0 : AC := AC.body sac_circaref01_Text_l0
theorem subs_circaref01_Text_l0 (n : Nat) : SubOK Try.prog 33 (Ls_circaref01_Text n) ac_circaref01_Text_l0 := SubOK_of _ (by
  have e : subs ac_circaref01_Text_l0 = [] := by kernel_rfl
  rw [e]; intro p hp; cases hp)
theorem body_circaref01_Text_l0 (n : Nat) : ∀ x, run Try.prog (Es_circaref01_Text n) (Ls_circaref01_Text n) 33 ac_circaref01_Text_l0 (emb_circaref01_Text_l0 x) (roundK an_circaref01_Text_l0 un_circaref01_Text_l0 ax_circaref01_Text_l0 ux_circaref01_Text_l0) = circaref01_Text_l0 n x := fun _ => by kernel_rfl
theorem sub1_circaref01_Text_l0 (n : Nat) : ∀ (α : Type) (s : St) (k : Ex → St → Option α) (z : α), (subE 0 an_circaref01_Text_l0 un_circaref01_Text_l0 (fun x => iterL (circaref01_Text_l0 n) n x) outK_circaref01_Text_l0).e α s k = some z → SemC Try.prog 33 (sac_circaref01_Text_l0).code s fun ex s' => k ex s' = some z := by
  intro α s k z h
  have e : sac_circaref01_Text_l0 = .loop ac_circaref01_Text_l0 := by kernel_rfl
  rw [e]
  exact subE_ok (m := 0) (f := fun x => iterL (circaref01_Text_l0 n) n x) (out := out_circaref01_Text_l0) outK_ok_circaref01_Text_l0 un_ok_circaref01_Text_l0 (fun x y hy => loop_ok (Es_ok_circaref01_Text n) (subs_circaref01_Text_l0 n) un_ok_circaref01_Text_l0 ux_ok_circaref01_Text_l0 (body_circaref01_Text_l0 n) n x y hy) h
theorem body_circaref01_Text_l0a (n : Nat) : ∀ x, run Try.prog (Es_circaref01_Text n) (Ls_circaref01_Text n) 33 ac_circaref01_Text_l0 (emb_circaref01_Text_l0a x) (roundK an_circaref01_Text_l0a un_circaref01_Text_l0a ax_circaref01_Text_l0a ux_circaref01_Text_l0a) = circaref01_Text_l0a n x := fun _ => by kernel_rfl
theorem sub1_circaref01_Text_l0a (n : Nat) : ∀ (α : Type) (s : St) (k : Ex → St → Option α) (z : α), (subE 0 an_circaref01_Text_l0a un_circaref01_Text_l0a (fun x => iterL (circaref01_Text_l0a n) n x) outK_circaref01_Text_l0a).e α s k = some z → SemC Try.prog 33 (sac_circaref01_Text_l0).code s fun ex s' => k ex s' = some z := by
  intro α s k z h
  have e : sac_circaref01_Text_l0 = .loop ac_circaref01_Text_l0 := by kernel_rfl
  rw [e]
  exact subE_ok (m := 0) (f := fun x => iterL (circaref01_Text_l0a n) n x) (out := out_circaref01_Text_l0a) outK_ok_circaref01_Text_l0a un_ok_circaref01_Text_l0a (fun x y hy => loop_ok (Es_ok_circaref01_Text n) (subs_circaref01_Text_l0 n) un_ok_circaref01_Text_l0a ux_ok_circaref01_Text_l0a (body_circaref01_Text_l0a n) n x y hy) h
theorem sub_circaref01_Text_l0 (n : Nat) : SubSt Try.prog 33 (Ls_circaref01_Text n) 0 sac_circaref01_Text_l0 := fun α s k z => altS_ok (sub1_circaref01_Text_l0 n α s k z) (sub1_circaref01_Text_l0a n α s k z)
theorem subs_circaref01_Text (n : Nat) : SubOK Try.prog 33 (Ls_circaref01_Text n) (acOf Try.f64) := SubOK_of _ (by
  have e : subs (acOf Try.f64) = [(0, sac_circaref01_Text_l0)] := by kernel_rfl
  rw [e]; intro p hp
  simp only [List.mem_cons, List.not_mem_nil, or_false] at hp
  · rw [hp]; exact sub_circaref01_Text_l0 n
  )
theorem cert_circaref01_Text (n : Nat) (a0 : Bool) (a1 : List (Int)) : run Try.prog (Es_circaref01_Text n) (Ls_circaref01_Text n) Try.f64.ntmps (acOf Try.f64) ⟨argsT [.ag [.b a0, .ws 0]] 0, [(0, .rows [.i .u8] a1)], 1, 1, 1, 1⟩ (finK Try.prog Try.f64.results.toList (funX [] 1 1 1 unr_circaref01_Text)) = circaref01_Text n a0 a1 := by kernel_rfl
theorem fun_circaref01_Text (n : Nat) : ∀ a r, circaref01_Text n a.1 a.2 = some r → FunOK Try.prog 64 (arg_circaref01_Text a) (H0_circaref01_Text a) 1 1 1 (out_circaref01_Text r) := fun a r h => funX_ok (ws := []) unr_ok_circaref01_Text hv_circaref01_Text (fun r b blk hl => (chkH_look (hc_circaref01_Text r) b blk hl).2) (fun r => chkH_keys (hc_circaref01_Text r)) (by decide) (Es_ok_circaref01_Text n) Try.func64 rfl (acOf_code _) (subs_circaref01_Text n) rfl rfl ((cert_circaref01_Text n a.1 a.2).trans h)
theorem ok_circaref01_Text (n : Nat) : EntOK Try.prog (e_circaref01_Text n) := funE_ok (m := 1) (ro := 1) (rb := 1) (out := out_circaref01_Text) (arg := arg_circaref01_Text) (H0 := H0_circaref01_Text) Try.call64 (by decide) (by decide) outK_ok_circaref01_Text una_ok_circaref01_Text (fun _ => rfl) (fun a => chkH_look (m := 1) (H := H0_circaref01_Text a) rfl) (fun _ => rfl) (fun r => chkH_keys (hc_circaref01_Text r)) (fun r b blk h => (chkH_look (hc_circaref01_Text r) b blk h).2) (fun r b h1 h2 => hasKeys_ok (hk_circaref01_Text r) b h1 (by omega)) hv_circaref01_Text (fun_circaref01_Text n)

/-! circa/circalaw03.MasksCommon -/
noncomputable def arg_circalaw03_MasksCommon (a : Int × List (Int) × List (Int)) : List V := [.ag [.ws 0], .ag [.ws 1], .i .i64 a.1]
noncomputable def H0_circalaw03_MasksCommon (a : Int × List (Int) × List (Int)) : List (Nat × Blk) := [(0, .rows [.i .u8] a.2.1), (1, .rows [.i .u8] a.2.2)]
noncomputable def una_circalaw03_MasksCommon (l : List V) (H : List (Nat × Blk)) : Option ((Int × List (Int) × List (Int)) × List Nat) := match l with
  | [.ag [.ws b0], .ag [.ws b1], .i .i64 a0] => (match Abs.look H b0 with
    | some (.rows [.i .u8] a1) => (match Abs.look H b1 with
    | some (.rows [.i .u8] a2) => (cond (Abs.distinct [b0, b1] && true) (some ((a0, a1, a2), [b0, b1])) none)
    | _ => none)
    | _ => none)
  | _ => none
theorem una_ok_circalaw03_MasksCommon : ∀ l H a ρ, una_circalaw03_MasksCommon l H = some (a, ρ) → ρ.length = 2 ∧ ρ.Nodup ∧ l = V.rens ρ (arg_circalaw03_MasksCommon a) ∧ ∀ b blk, Abs.look (H0_circalaw03_MasksCommon a) b = some blk → Abs.look H (getN ρ b) = some (blk.ren ρ) := by
  intro l H a ρ h
  unfold una_circalaw03_MasksCommon at h
  split at h
  · split at h
    · rename_i e0
      split at h
      · rename_i e1
        obtain ⟨hd, h⟩ := cond_some h
        simp only [Bool.and_eq_true] at hd
        obtain ⟨hd, _⟩ := hd
        cases h
        exact ⟨rfl, distinct_ok hd, rfl, eachH_look ⟨e0, e1, trivial⟩⟩
      · cases h
    · cases h
  · cases h
noncomputable def out_circalaw03_MasksCommon (r : Bool) : FOut := (⟨false, .b r, [], []⟩ : FOut)
noncomputable def outK_circalaw03_MasksCommon (α : Type) (r : Bool) (k : FOut → Option α) : Option α := (k ⟨false, .b r, [], []⟩)
theorem outK_ok_circalaw03_MasksCommon : ∀ α r k, outK_circalaw03_MasksCommon α r k = k (out_circalaw03_MasksCommon r) := by
  intro α r k
  rfl
noncomputable def unr_circalaw03_MasksCommon (pan : Bool) (v : V) (H : List (Nat × Blk)) (nw : List Nat) : Option (Bool) := match pan, v, H, nw with
  | false, .b r0, [], [] => some r0
  | _, _, _, _ => none
theorem unr_ok_circalaw03_MasksCommon : ∀ pan v H nw r, unr_circalaw03_MasksCommon pan v H nw = some r → (out_circalaw03_MasksCommon r).pan = pan ∧ (out_circalaw03_MasksCommon r).news = nw ∧ v = V.ren (upTo 0 2 ++ (out_circalaw03_MasksCommon r).news) (out_circalaw03_MasksCommon r).val ∧ H = renH (upTo 0 2 ++ (out_circalaw03_MasksCommon r).news) (out_circalaw03_MasksCommon r).H := by
  intro pan v H nw r h
  unfold unr_circalaw03_MasksCommon at h
  split at h
  · cases h; exact ⟨rfl, rfl, rfl, rfl⟩
  · cases h
theorem hv_circalaw03_MasksCommon : ∀ r, V.lt (2 + (out_circalaw03_MasksCommon r).news.length) (out_circalaw03_MasksCommon r).val = true := fun r => (by rfl)
theorem hc_circalaw03_MasksCommon : ∀ r, chkH (2 + (out_circalaw03_MasksCommon r).news.length) (out_circalaw03_MasksCommon r).H = true := fun r => (by rfl)
theorem hk_circalaw03_MasksCommon : ∀ r, hasKeys (out_circalaw03_MasksCommon r).H 2 (0 + (out_circalaw03_MasksCommon r).news.length) = true := fun r => (by rfl)
noncomputable def e_circalaw03_MasksCommon (n : Nat) : Ent := funE 12 2 una_circalaw03_MasksCommon (fun a => circalaw03_MasksCommon n a.1 a.2.1 a.2.2) outK_circalaw03_MasksCommon
noncomputable def t_circalaw03_MasksCommon (l : List V) (H : List (Nat × Blk)) : Bool := isS (una_circalaw03_MasksCommon l H)
noncomputable def Es_circalaw03_MasksCommon (n : Nat) : List Ent := [e_circalaw03_M_Of n, e_masks_Common n, e_circalaw03_lives n, e_circaref03_Common n, e_masks_Has n, e_circaref01_Of n, e_circaref01_Text n]
theorem Es_ok_circalaw03_MasksCommon (n : Nat) : ∀ x ∈ Es_circalaw03_MasksCommon n, EntOK Try.prog x := by
  intro x hx
  simp only [Es_circalaw03_MasksCommon, List.mem_cons, List.not_mem_nil, or_false] at hx
  rcases hx with hx | hx | hx | hx | hx | hx | hx
  · rw [hx]; exact ok_circalaw03_M_Of n
  · rw [hx]; exact ok_masks_Common n
  · rw [hx]; exact ok_circalaw03_lives n
  · rw [hx]; exact ok_circaref03_Common n
  · rw [hx]; exact ok_masks_Has n
  · rw [hx]; exact ok_circaref01_Of n
  · rw [hx]; exact ok_circaref01_Text n
noncomputable def an_circalaw03_MasksCommon_l0 : Ann := ⟨[2, 7, 15], [], 53, []⟩
noncomputable def emb_circalaw03_MasksCommon_l0 (x : Int × List UInt8 × List UInt8) : St := ⟨[(2, some (.i .i64 x.1)), (7, some (.s x.2.1)), (15, some (.s x.2.2))], [], 53, 2, 2, 2⟩
noncomputable def un_circalaw03_MasksCommon_l0 (s : St) : Option (Int × List UInt8 × List UInt8) := match s with
  | ⟨[(2, some (.i .i64 x0)), (7, some (.s x1)), (15, some (.s x2))], [], 53, 2, 2, 2⟩ => some (x0, x1, x2)
  | _ => none
theorem un_ok_circalaw03_MasksCommon_l0 : ∀ s x, un_circalaw03_MasksCommon_l0 s = some x → s = emb_circalaw03_MasksCommon_l0 x := by
  intro s x h
  unfold un_circalaw03_MasksCommon_l0 at h
  split at h
  · cases h; rfl
  · cases h
noncomputable def ax_circalaw03_MasksCommon_l0 : Ex → Ann := fun ex => match ex with
  | .exit 0 => ⟨[2, 7, 15], [], 53, []⟩
  | _ => ⟨[], [], 0, []⟩
noncomputable def out_circalaw03_MasksCommon_l0 (y : (Int × List UInt8 × List UInt8)) : Ex × St := (.exit 0, ⟨[(2, some (.i .i64 y.1)), (7, some (.s y.2.1)), (15, some (.s y.2.2))], [], 53, 2, 2, 2⟩)
noncomputable def outK_circalaw03_MasksCommon_l0 (α : Type) (y : (Int × List UInt8 × List UInt8)) (k : Ex → St → Option α) : Option α := (k (.exit 0) ⟨[(2, some (.i .i64 y.1)), (7, some (.s y.2.1)), (15, some (.s y.2.2))], [], 53, 2, 2, 2⟩)
theorem outK_ok_circalaw03_MasksCommon_l0 : ∀ α y k, outK_circalaw03_MasksCommon_l0 α y k = k (out_circalaw03_MasksCommon_l0 y).1 (out_circalaw03_MasksCommon_l0 y).2 := by
  intro α y k
  rfl
noncomputable def ux_circalaw03_MasksCommon_l0 (ex : Ex) (s : St) : Option ((Int × List UInt8 × List UInt8)) := match ex, s with
  | .exit 0, ⟨[(2, some (.i .i64 y0)), (7, some (.s y1)), (15, some (.s y2))], [], 53, 2, 2, 2⟩ => some (y0, y1, y2)
  | _, _ => none
theorem ux_ok_circalaw03_MasksCommon_l0 : ∀ ex s y, ux_circalaw03_MasksCommon_l0 ex s = some y → (ex, s) = out_circalaw03_MasksCommon_l0 y := by
  intro ex s y h
  unfold ux_circalaw03_MasksCommon_l0 at h
  split at h
  · cases h; rfl
  · cases h
noncomputable def Ls_circalaw03_MasksCommon (n : Nat) : List Sub := [subE 0 an_circalaw03_MasksCommon_l0 un_circalaw03_MasksCommon_l0 (fun x => iterL (circalaw03_MasksCommon_l0 n) n x) outK_circalaw03_MasksCommon_l0]
noncomputable def sac_circalaw03_MasksCommon_l0 : AC := getS (subs (acOf Try.f12)) 0
noncomputable def ac_circalaw03_MasksCommon_l0 : AC := AC.body sac_circalaw03_MasksCommon_l0
theorem subs_circalaw03_MasksCommon_l0 (n : Nat) : SubOK Try.prog 145 (Ls_circalaw03_MasksCommon n) ac_circalaw03_MasksCommon_l0 := SubOK_of _ (by
  have e : subs ac_circalaw03_MasksCommon_l0 = [] := by kernel_rfl
  rw [e]; intro p hp; cases hp)
theorem body_circalaw03_MasksCommon_l0 (n : Nat) : ∀ x, run Try.prog (Es_circalaw03_MasksCommon n) (Ls_circalaw03_MasksCommon n) 145 ac_circalaw03_MasksCommon_l0 (emb_circalaw03_MasksCommon_l0 x) (roundK an_circalaw03_MasksCommon_l0 un_circalaw03_MasksCommon_l0 ax_circalaw03_MasksCommon_l0 ux_circalaw03_MasksCommon_l0) = circalaw03_MasksCommon_l0 n x := fun _ => by kernel_rfl
theorem sub1_circalaw03_MasksCommon_l0 (n : Nat) : ∀ (α : Type) (s : St) (k : Ex → St → Option α) (z : α), (subE 0 an_circalaw03_MasksCommon_l0 un_circalaw03_MasksCommon_l0 (fun x => iterL (circalaw03_MasksCommon_l0 n) n x) outK_circalaw03_MasksCommon_l0).e α s k = some z → SemC Try.prog 145 (sac_circalaw03_MasksCommon_l0).code s fun ex s' => k ex s' = some z := by
  intro α s k z h
  have e : sac_circalaw03_MasksCommon_l0 = .loop ac_circalaw03_MasksCommon_l0 := by kernel_rfl
  rw [e]
  exact subE_ok (m := 0) (f := fun x => iterL (circalaw03_MasksCommon_l0 n) n x) (out := out_circalaw03_MasksCommon_l0) outK_ok_circalaw03_MasksCommon_l0 un_ok_circalaw03_MasksCommon_l0 (fun x y hy => loop_ok (Es_ok_circalaw03_MasksCommon n) (subs_circalaw03_MasksCommon_l0 n) un_ok_circalaw03_MasksCommon_l0 ux_ok_circalaw03_MasksCommon_l0 (body_circalaw03_MasksCommon_l0 n) n x y hy) h
theorem sub_circalaw03_MasksCommon_l0 (n : Nat) : SubSt Try.prog 145 (Ls_circalaw03_MasksCommon n) 0 sac_circalaw03_MasksCommon_l0 := fun α s k z => sub1_circalaw03_MasksCommon_l0 n α s k z
theorem subs_circalaw03_MasksCommon (n : Nat) : SubOK Try.prog 145 (Ls_circalaw03_MasksCommon n) (acOf Try.f12) := SubOK_of _ (by
  have e : subs (acOf Try.f12) = [(0, sac_circalaw03_MasksCommon_l0)] := by kernel_rfl
  rw [e]; intro p hp
  simp only [List.mem_cons, List.not_mem_nil, or_false] at hp
  · rw [hp]; exact sub_circalaw03_MasksCommon_l0 n
  )
theorem cert_circalaw03_MasksCommon (n : Nat) (a0 : Int) (a1 : List (Int)) (a2 : List (Int)) : run Try.prog (Es_circalaw03_MasksCommon n) (Ls_circalaw03_MasksCommon n) Try.f12.ntmps (acOf Try.f12) ⟨argsT [.ag [.ws 0], .ag [.ws 1], .i .i64 a0] 0, [(0, .rows [.i .u8] a1), (1, .rows [.i .u8] a2)], 2, 2, 2, 2⟩ (finK Try.prog Try.f12.results.toList (funX [] 2 2 2 unr_circalaw03_MasksCommon)) = circalaw03_MasksCommon n a0 a1 a2 := by kernel_rfl
theorem fun_circalaw03_MasksCommon (n : Nat) : ∀ a r, circalaw03_MasksCommon n a.1 a.2.1 a.2.2 = some r → FunOK Try.prog 12 (arg_circalaw03_MasksCommon a) (H0_circalaw03_MasksCommon a) 2 2 2 (out_circalaw03_MasksCommon r) := fun a r h => funX_ok (ws := []) unr_ok_circalaw03_MasksCommon hv_circalaw03_MasksCommon (fun r b blk hl => (chkH_look (hc_circalaw03_MasksCommon r) b blk hl).2) (fun r => chkH_keys (hc_circalaw03_MasksCommon r)) (by decide) (Es_ok_circalaw03_MasksCommon n) Try.func12 rfl (acOf_code _) (subs_circalaw03_MasksCommon n) rfl rfl ((cert_circalaw03_MasksCommon n a.1 a.2.1 a.2.2).trans h)
theorem ok_circalaw03_MasksCommon (n : Nat) : EntOK Try.prog (e_circalaw03_MasksCommon n) := funE_ok (m := 2) (ro := 2) (rb := 2) (out := out_circalaw03_MasksCommon) (arg := arg_circalaw03_MasksCommon) (H0 := H0_circalaw03_MasksCommon) Try.call12 (by decide) (by decide) outK_ok_circalaw03_MasksCommon una_ok_circalaw03_MasksCommon (fun _ => rfl) (fun a => chkH_look (m := 2) (H := H0_circalaw03_MasksCommon a) rfl) (fun _ => rfl) (fun r => chkH_keys (hc_circalaw03_MasksCommon r)) (fun r b blk h => (chkH_look (hc_circalaw03_MasksCommon r) b blk h).2) (fun r b h1 h2 => hasKeys_ok (hk_circalaw03_MasksCommon r) b h1 (by omega)) hv_circalaw03_MasksCommon (fun_circalaw03_MasksCommon n)

/-! circa/circaref03.Check -/
noncomputable def arg_circaref03_Check (a : List UInt8) : List V := [.s a]
noncomputable def una_circaref03_Check (l : List V) : Option (List UInt8) := match l with
  | [.s a0] => some a0
  | _ => none
theorem una_ok_circaref03_Check : ∀ l a, una_circaref03_Check l = some a → l = arg_circaref03_Check a := by
  intro l a h
  unfold una_circaref03_Check at h
  split at h
  · cases h; rfl
  · cases h
noncomputable def enc_circaref03_Check (r : Int) : V := .i .i64 r
noncomputable def unr_circaref03_Check (v : V) : Option (Int) := match v with
  | .i .i64 r0 => some r0
  | _ => none
theorem unr_ok_circaref03_Check : ∀ v r, unr_circaref03_Check v = some r → v = enc_circaref03_Check r := by
  intro v r h
  unfold unr_circaref03_Check at h
  split at h
  · cases h; rfl
  · cases h
noncomputable def e_circaref03_Check (n : Nat) : Ent := pureE 66 una_circaref03_Check (fun a => circaref03_Check n a) enc_circaref03_Check
noncomputable def t_circaref03_Check (l : List V) (_ : List (Nat × Blk)) : Bool := isS (una_circaref03_Check l)
noncomputable def Es_circaref03_Check (_n : Nat) : List Ent := []
theorem Es_ok_circaref03_Check (n : Nat) : ∀ x ∈ Es_circaref03_Check n, EntOK Try.prog x := by
  intro x hx
  simp [Es_circaref03_Check] at hx
noncomputable def an_circaref03_Check_l0 : Ann := ⟨[0, 3], [], 0, []⟩
noncomputable def emb_circaref03_Check_l0 (x : List UInt8 × Int) : St := ⟨[(0, some (.s x.1)), (3, some (.i .i64 x.2))], [], 0, 0, 0, 0⟩
noncomputable def un_circaref03_Check_l0 (s : St) : Option (List UInt8 × Int) := match s with
  | ⟨[(0, some (.s x0)), (3, some (.i .i64 x1))], [], 0, 0, 0, 0⟩ => some (x0, x1)
  | _ => none
theorem un_ok_circaref03_Check_l0 : ∀ s x, un_circaref03_Check_l0 s = some x → s = emb_circaref03_Check_l0 x := by
  intro s x h
  unfold un_circaref03_Check_l0 at h
  split at h
  · cases h; rfl
  · cases h
noncomputable def ax_circaref03_Check_l0 : Ex → Ann := fun ex => match ex with
  | .ret => ⟨[2], [], 0, []⟩
  | .exit 0 => ⟨[0], [], 0, []⟩
  | _ => ⟨[], [], 0, []⟩
noncomputable def out_circaref03_Check_l0 (y : Int ⊕ List UInt8) : Ex × St := (Sum.casesOn (motive := fun _ => Ex × St) y (fun a0 => (.ret, ⟨[(2, some (.i .i64 a0))], [], 0, 0, 0, 0⟩)) (fun b0 => (.exit 0, ⟨[(0, some (.s b0))], [], 0, 0, 0, 0⟩)))
noncomputable def outK_circaref03_Check_l0 (α : Type) (y : Int ⊕ List UInt8) (k : Ex → St → Option α) : Option α := (Sum.casesOn (motive := fun _ => Option α) y (fun a0 => (k (.ret) ⟨[(2, some (.i .i64 a0))], [], 0, 0, 0, 0⟩)) (fun b0 => (k (.exit 0) ⟨[(0, some (.s b0))], [], 0, 0, 0, 0⟩)))
theorem outK_ok_circaref03_Check_l0 : ∀ α y k, outK_circaref03_Check_l0 α y k = k (out_circaref03_Check_l0 y).1 (out_circaref03_Check_l0 y).2 := by
  intro α y k
  rcases y with y | y <;> rfl
noncomputable def ux_circaref03_Check_l0 (ex : Ex) (s : St) : Option (Int ⊕ List UInt8) := match ex, s with
  | .ret, ⟨[(2, some (.i .i64 y0))], [], 0, 0, 0, 0⟩ => some (.inl y0)
  | .exit 0, ⟨[(0, some (.s y0))], [], 0, 0, 0, 0⟩ => some (.inr y0)
  | _, _ => none
theorem ux_ok_circaref03_Check_l0 : ∀ ex s y, ux_circaref03_Check_l0 ex s = some y → (ex, s) = out_circaref03_Check_l0 y := by
  intro ex s y h
  unfold ux_circaref03_Check_l0 at h
  split at h
  · cases h; rfl
  · cases h; rfl
  · cases h
noncomputable def Ls_circaref03_Check (n : Nat) : List Sub := [subE 0 an_circaref03_Check_l0 un_circaref03_Check_l0 (fun x => iterL (circaref03_Check_l0 n) n x) outK_circaref03_Check_l0]
noncomputable def sac_circaref03_Check_l0 : AC := getS (subs (acOf Try.f66)) 0
noncomputable def ac_circaref03_Check_l0 : AC := AC.body sac_circaref03_Check_l0
theorem subs_circaref03_Check_l0 (n : Nat) : SubOK Try.prog 32 (Ls_circaref03_Check n) ac_circaref03_Check_l0 := SubOK_of _ (by
  have e : subs ac_circaref03_Check_l0 = [] := by kernel_rfl
  rw [e]; intro p hp; cases hp)
theorem body_circaref03_Check_l0 (n : Nat) : ∀ x, run Try.prog (Es_circaref03_Check n) (Ls_circaref03_Check n) 32 ac_circaref03_Check_l0 (emb_circaref03_Check_l0 x) (roundK an_circaref03_Check_l0 un_circaref03_Check_l0 ax_circaref03_Check_l0 ux_circaref03_Check_l0) = circaref03_Check_l0 n x := fun _ => by kernel_rfl
theorem sub1_circaref03_Check_l0 (n : Nat) : ∀ (α : Type) (s : St) (k : Ex → St → Option α) (z : α), (subE 0 an_circaref03_Check_l0 un_circaref03_Check_l0 (fun x => iterL (circaref03_Check_l0 n) n x) outK_circaref03_Check_l0).e α s k = some z → SemC Try.prog 32 (sac_circaref03_Check_l0).code s fun ex s' => k ex s' = some z := by
  intro α s k z h
  have e : sac_circaref03_Check_l0 = .loop ac_circaref03_Check_l0 := by kernel_rfl
  rw [e]
  exact subE_ok (m := 0) (f := fun x => iterL (circaref03_Check_l0 n) n x) (out := out_circaref03_Check_l0) outK_ok_circaref03_Check_l0 un_ok_circaref03_Check_l0 (fun x y hy => loop_ok (Es_ok_circaref03_Check n) (subs_circaref03_Check_l0 n) un_ok_circaref03_Check_l0 ux_ok_circaref03_Check_l0 (body_circaref03_Check_l0 n) n x y hy) h
theorem sub_circaref03_Check_l0 (n : Nat) : SubSt Try.prog 32 (Ls_circaref03_Check n) 0 sac_circaref03_Check_l0 := fun α s k z => sub1_circaref03_Check_l0 n α s k z
theorem subs_circaref03_Check (n : Nat) : SubOK Try.prog 32 (Ls_circaref03_Check n) (acOf Try.f66) := SubOK_of _ (by
  have e : subs (acOf Try.f66) = [(0, sac_circaref03_Check_l0)] := by kernel_rfl
  rw [e]; intro p hp
  simp only [List.mem_cons, List.not_mem_nil, or_false] at hp
  · rw [hp]; exact sub_circaref03_Check_l0 n
  )
theorem cert_circaref03_Check (n : Nat) (a0 : List UInt8) : run Try.prog (Es_circaref03_Check n) (Ls_circaref03_Check n) Try.f66.ntmps (acOf Try.f66) ⟨argsT [.s a0] 0, [], 0, 0, 0, 0⟩ (finK Try.prog Try.f66.results.toList (retX unr_circaref03_Check)) = circaref03_Check n a0 := by kernel_rfl
theorem pure_circaref03_Check (n : Nat) : ∀ a r, circaref03_Check n a = some r → PureOK Try.prog 66 (arg_circaref03_Check a) (enc_circaref03_Check r) := fun a r h => pureX_ok unr_ok_circaref03_Check (Es_ok_circaref03_Check n) Try.func66 rfl (acOf_code _) (subs_circaref03_Check n) rfl ((cert_circaref03_Check n a).trans h)
theorem ok_circaref03_Check (n : Nat) : EntOK Try.prog (e_circaref03_Check n) := pureE_ok Try.call66 una_ok_circaref03_Check (fun _ => rfl) (pure_circaref03_Check n)

/-! circa/circalaw03.MasksErrors -/
noncomputable def arg_circalaw03_MasksErrors (a : List UInt8 × List UInt8 × Int) : List V := [.s a.1, .s a.2.1, .i .i64 a.2.2]
noncomputable def una_circalaw03_MasksErrors (l : List V) : Option (List UInt8 × List UInt8 × Int) := match l with
  | [.s a0, .s a1, .i .i64 a2] => some (a0, a1, a2)
  | _ => none
theorem una_ok_circalaw03_MasksErrors : ∀ l a, una_circalaw03_MasksErrors l = some a → l = arg_circalaw03_MasksErrors a := by
  intro l a h
  unfold una_circalaw03_MasksErrors at h
  split at h
  · cases h; rfl
  · cases h
noncomputable def enc_circalaw03_MasksErrors (r : Bool) : V := .b r
noncomputable def unr_circalaw03_MasksErrors (v : V) : Option (Bool) := match v with
  | .b r0 => some r0
  | _ => none
theorem unr_ok_circalaw03_MasksErrors : ∀ v r, unr_circalaw03_MasksErrors v = some r → v = enc_circalaw03_MasksErrors r := by
  intro v r h
  unfold unr_circalaw03_MasksErrors at h
  split at h
  · cases h; rfl
  · cases h
noncomputable def e_circalaw03_MasksErrors (n : Nat) : Ent := pureE 13 una_circalaw03_MasksErrors (fun a => circalaw03_MasksErrors n a.1 a.2.1 a.2.2) enc_circalaw03_MasksErrors
noncomputable def t_circalaw03_MasksErrors (l : List V) (_ : List (Nat × Blk)) : Bool := isS (una_circalaw03_MasksErrors l)
noncomputable def Es_circalaw03_MasksErrors (n : Nat) : List Ent := [e_circalaw03_lives n, e_circaref03_Check n, e_masks_Check n, e_masks_Common n, e_masks_Count n, e_masks_Least n, e_masks_Greatest n, e_masks_Next n, e_masks_Prev n, e_masks_Nth n, e_masks_Index n, e_circalaw03_bad n, e_masks_Has n]
theorem Es_ok_circalaw03_MasksErrors (n : Nat) : ∀ x ∈ Es_circalaw03_MasksErrors n, EntOK Try.prog x := by
  intro x hx
  simp only [Es_circalaw03_MasksErrors, List.mem_cons, List.not_mem_nil, or_false] at hx
  rcases hx with hx | hx | hx | hx | hx | hx | hx | hx | hx | hx | hx | hx | hx
  · rw [hx]; exact ok_circalaw03_lives n
  · rw [hx]; exact ok_circaref03_Check n
  · rw [hx]; exact ok_masks_Check n
  · rw [hx]; exact ok_masks_Common n
  · rw [hx]; exact ok_masks_Count n
  · rw [hx]; exact ok_masks_Least n
  · rw [hx]; exact ok_masks_Greatest n
  · rw [hx]; exact ok_masks_Next n
  · rw [hx]; exact ok_masks_Prev n
  · rw [hx]; exact ok_masks_Nth n
  · rw [hx]; exact ok_masks_Index n
  · rw [hx]; exact ok_circalaw03_bad n
  · rw [hx]; exact ok_masks_Has n
noncomputable def Ls_circalaw03_MasksErrors (_n : Nat) : List Sub := []
theorem subs_circalaw03_MasksErrors (n : Nat) : SubOK Try.prog 161 (Ls_circalaw03_MasksErrors n) (acOf Try.f13) := SubOK_of _ (by
  have e : subs (acOf Try.f13) = [] := by kernel_rfl
  rw [e]; intro p hp; cases hp)
theorem cert_circalaw03_MasksErrors (n : Nat) (a0 : List UInt8) (a1 : List UInt8) (a2 : Int) : run Try.prog (Es_circalaw03_MasksErrors n) (Ls_circalaw03_MasksErrors n) Try.f13.ntmps (acOf Try.f13) ⟨argsT [.s a0, .s a1, .i .i64 a2] 0, [], 0, 0, 0, 0⟩ (finK Try.prog Try.f13.results.toList (retX unr_circalaw03_MasksErrors)) = circalaw03_MasksErrors n a0 a1 a2 := by kernel_rfl
theorem pure_circalaw03_MasksErrors (n : Nat) : ∀ a r, circalaw03_MasksErrors n a.1 a.2.1 a.2.2 = some r → PureOK Try.prog 13 (arg_circalaw03_MasksErrors a) (enc_circalaw03_MasksErrors r) := fun a r h => pureX_ok unr_ok_circalaw03_MasksErrors (Es_ok_circalaw03_MasksErrors n) Try.func13 rfl (acOf_code _) (subs_circalaw03_MasksErrors n) rfl ((cert_circalaw03_MasksErrors n a.1 a.2.1 a.2.2).trans h)
theorem ok_circalaw03_MasksErrors (n : Nat) : EntOK Try.prog (e_circalaw03_MasksErrors n) := pureE_ok Try.call13 una_ok_circalaw03_MasksErrors (fun _ => rfl) (pure_circalaw03_MasksErrors n)

/-! circa/circalaw03.MasksKnown -/
noncomputable def arg_circalaw03_MasksKnown (_a : Unit) : List V := []
noncomputable def una_circalaw03_MasksKnown (l : List V) : Option (Unit) := match l with
  | [] => some ()
  | _ => none
theorem una_ok_circalaw03_MasksKnown : ∀ l a, una_circalaw03_MasksKnown l = some a → l = arg_circalaw03_MasksKnown a := by
  intro l a h
  unfold una_circalaw03_MasksKnown at h
  split at h
  · cases h; rfl
  · cases h
noncomputable def enc_circalaw03_MasksKnown (r : Bool) : V := .b r
noncomputable def unr_circalaw03_MasksKnown (v : V) : Option (Bool) := match v with
  | .b r0 => some r0
  | _ => none
theorem unr_ok_circalaw03_MasksKnown : ∀ v r, unr_circalaw03_MasksKnown v = some r → v = enc_circalaw03_MasksKnown r := by
  intro v r h
  unfold unr_circalaw03_MasksKnown at h
  split at h
  · cases h; rfl
  · cases h
noncomputable def e_circalaw03_MasksKnown (n : Nat) : Ent := pureE 14 una_circalaw03_MasksKnown (fun _a => circalaw03_MasksKnown n) enc_circalaw03_MasksKnown
noncomputable def t_circalaw03_MasksKnown (l : List V) (_ : List (Nat × Blk)) : Bool := isS (una_circalaw03_MasksKnown l)
noncomputable def Es_circalaw03_MasksKnown (n : Nat) : List Ent := [e_circaref03_Has n, e_masks_Has n, e_masks_Nth n, e_masks_Next n, e_circalaw03_num n, e_masks_Prev n, e_circalaw03_gives n, e_masks_Count n, e_masks_Greatest n, e_circalaw03_bad n, e_circalaw03_lives n]
theorem Es_ok_circalaw03_MasksKnown (n : Nat) : ∀ x ∈ Es_circalaw03_MasksKnown n, EntOK Try.prog x := by
  intro x hx
  simp only [Es_circalaw03_MasksKnown, List.mem_cons, List.not_mem_nil, or_false] at hx
  rcases hx with hx | hx | hx | hx | hx | hx | hx | hx | hx | hx | hx
  · rw [hx]; exact ok_circaref03_Has n
  · rw [hx]; exact ok_masks_Has n
  · rw [hx]; exact ok_masks_Nth n
  · rw [hx]; exact ok_masks_Next n
  · rw [hx]; exact ok_circalaw03_num n
  · rw [hx]; exact ok_masks_Prev n
  · rw [hx]; exact ok_circalaw03_gives n
  · rw [hx]; exact ok_masks_Count n
  · rw [hx]; exact ok_masks_Greatest n
  · rw [hx]; exact ok_circalaw03_bad n
  · rw [hx]; exact ok_circalaw03_lives n
noncomputable def an_circalaw03_MasksKnown_l1 : Ann := ⟨[1, 2, 3, 4, 5, 6], [0], 1, []⟩
noncomputable def emb_circalaw03_MasksKnown_l1 (x : Int × List UInt8 × Int × Int × Int × List (List UInt8)) : St := ⟨[(1, some (.ws 0)), (2, some (.i .i64 x.1)), (3, some (.s x.2.1)), (4, some (.i .i64 x.2.2.1)), (5, some (.i .i64 x.2.2.2.1)), (6, some (.i .i64 x.2.2.2.2.1))], [(0, .rows [.s] x.2.2.2.2.2)], 1, 0, 0, 0⟩
noncomputable def un_circalaw03_MasksKnown_l1 (s : St) : Option (Int × List UInt8 × Int × Int × Int × List (List UInt8)) := match s with
  | ⟨[(1, some (.ws 0)), (2, some (.i .i64 x0)), (3, some (.s x1)), (4, some (.i .i64 x2)), (5, some (.i .i64 x3)), (6, some (.i .i64 x4))], [(0, .rows [.s] x5)], 1, 0, 0, 0⟩ => some (x0, x1, x2, x3, x4, x5)
  | _ => none
theorem un_ok_circalaw03_MasksKnown_l1 : ∀ s x, un_circalaw03_MasksKnown_l1 s = some x → s = emb_circalaw03_MasksKnown_l1 x := by
  intro s x h
  unfold un_circalaw03_MasksKnown_l1 at h
  split at h
  · cases h; rfl
  · cases h
noncomputable def ax_circalaw03_MasksKnown_l1 : Ex → Ann := fun ex => match ex with
  | .ret => ⟨[0], [], 1, []⟩
  | .exit 2 => ⟨[1, 2, 3, 5], [0], 1, []⟩
  | _ => ⟨[], [], 0, []⟩
noncomputable def out_circalaw03_MasksKnown_l1 (y : Bool ⊕ (Int × List UInt8 × Int × List (List UInt8))) : Ex × St := (Sum.casesOn (motive := fun _ => Ex × St) y (fun a0 => (.ret, ⟨[(0, some (.b a0))], [], 1, 0, 0, 0⟩)) (fun b0 => (.exit 2, ⟨[(1, some (.ws 0)), (2, some (.i .i64 b0.1)), (3, some (.s b0.2.1)), (5, some (.i .i64 b0.2.2.1))], [(0, .rows [.s] b0.2.2.2)], 1, 0, 0, 0⟩)))
noncomputable def outK_circalaw03_MasksKnown_l1 (α : Type) (y : Bool ⊕ (Int × List UInt8 × Int × List (List UInt8))) (k : Ex → St → Option α) : Option α := (Sum.casesOn (motive := fun _ => Option α) y (fun a0 => (k (.ret) ⟨[(0, some (.b a0))], [], 1, 0, 0, 0⟩)) (fun b0 => (k (.exit 2) ⟨[(1, some (.ws 0)), (2, some (.i .i64 b0.1)), (3, some (.s b0.2.1)), (5, some (.i .i64 b0.2.2.1))], [(0, .rows [.s] b0.2.2.2)], 1, 0, 0, 0⟩)))
theorem outK_ok_circalaw03_MasksKnown_l1 : ∀ α y k, outK_circalaw03_MasksKnown_l1 α y k = k (out_circalaw03_MasksKnown_l1 y).1 (out_circalaw03_MasksKnown_l1 y).2 := by
  intro α y k
  rcases y with y | y <;> rfl
noncomputable def ux_circalaw03_MasksKnown_l1 (ex : Ex) (s : St) : Option (Bool ⊕ (Int × List UInt8 × Int × List (List UInt8))) := match ex, s with
  | .ret, ⟨[(0, some (.b y0))], [], 1, 0, 0, 0⟩ => some (.inl y0)
  | .exit 2, ⟨[(1, some (.ws 0)), (2, some (.i .i64 y0)), (3, some (.s y1)), (5, some (.i .i64 y2))], [(0, .rows [.s] y3)], 1, 0, 0, 0⟩ => some (.inr (y0, y1, y2, y3))
  | _, _ => none
theorem ux_ok_circalaw03_MasksKnown_l1 : ∀ ex s y, ux_circalaw03_MasksKnown_l1 ex s = some y → (ex, s) = out_circalaw03_MasksKnown_l1 y := by
  intro ex s y h
  unfold ux_circalaw03_MasksKnown_l1 at h
  split at h
  · cases h; rfl
  · cases h; rfl
  · cases h
noncomputable def an_circalaw03_MasksKnown_l0 : Ann := ⟨[1, 2], [0], 1, []⟩
noncomputable def emb_circalaw03_MasksKnown_l0 (x : Int × List (List UInt8)) : St := ⟨[(1, some (.ws 0)), (2, some (.i .i64 x.1))], [(0, .rows [.s] x.2)], 1, 0, 0, 0⟩
noncomputable def un_circalaw03_MasksKnown_l0 (s : St) : Option (Int × List (List UInt8)) := match s with
  | ⟨[(1, some (.ws 0)), (2, some (.i .i64 x0))], [(0, .rows [.s] x1)], 1, 0, 0, 0⟩ => some (x0, x1)
  | _ => none
theorem un_ok_circalaw03_MasksKnown_l0 : ∀ s x, un_circalaw03_MasksKnown_l0 s = some x → s = emb_circalaw03_MasksKnown_l0 x := by
  intro s x h
  unfold un_circalaw03_MasksKnown_l0 at h
  split at h
  · cases h; rfl
  · cases h
noncomputable def ax_circalaw03_MasksKnown_l0 : Ex → Ann := fun ex => match ex with
  | .ret => ⟨[0], [], 1, []⟩
  | .exit 0 => ⟨[], [], 1, []⟩
  | _ => ⟨[], [], 0, []⟩
noncomputable def out_circalaw03_MasksKnown_l0 (y : Bool ⊕ Unit) : Ex × St := (Sum.casesOn (motive := fun _ => Ex × St) y (fun a0 => (.ret, ⟨[(0, some (.b a0))], [], 1, 0, 0, 0⟩)) (fun b0 => (.exit 0, ⟨[], [], 1, 0, 0, 0⟩)))
noncomputable def outK_circalaw03_MasksKnown_l0 (α : Type) (y : Bool ⊕ Unit) (k : Ex → St → Option α) : Option α := (Sum.casesOn (motive := fun _ => Option α) y (fun a0 => (k (.ret) ⟨[(0, some (.b a0))], [], 1, 0, 0, 0⟩)) (fun b0 => (k (.exit 0) ⟨[], [], 1, 0, 0, 0⟩)))
theorem outK_ok_circalaw03_MasksKnown_l0 : ∀ α y k, outK_circalaw03_MasksKnown_l0 α y k = k (out_circalaw03_MasksKnown_l0 y).1 (out_circalaw03_MasksKnown_l0 y).2 := by
  intro α y k
  rcases y with y | y <;> rfl
noncomputable def ux_circalaw03_MasksKnown_l0 (ex : Ex) (s : St) : Option (Bool ⊕ Unit) := match ex, s with
  | .ret, ⟨[(0, some (.b y0))], [], 1, 0, 0, 0⟩ => some (.inl y0)
  | .exit 0, ⟨[], [], 1, 0, 0, 0⟩ => some (.inr ())
  | _, _ => none
theorem ux_ok_circalaw03_MasksKnown_l0 : ∀ ex s y, ux_circalaw03_MasksKnown_l0 ex s = some y → (ex, s) = out_circalaw03_MasksKnown_l0 y := by
  intro ex s y h
  unfold ux_circalaw03_MasksKnown_l0 at h
  split at h
  · cases h; rfl
  · cases h; rfl
  · cases h
noncomputable def Ls_circalaw03_MasksKnown (n : Nat) : List Sub := [subE 1 an_circalaw03_MasksKnown_l1 un_circalaw03_MasksKnown_l1 (fun x => iterL (circalaw03_MasksKnown_l1 n) n x) outK_circalaw03_MasksKnown_l1, subE 0 an_circalaw03_MasksKnown_l0 un_circalaw03_MasksKnown_l0 (fun x => iterL (circalaw03_MasksKnown_l0 n) n x) outK_circalaw03_MasksKnown_l0]
noncomputable def sac_circalaw03_MasksKnown_l0 : AC := getS (subs (acOf Try.f14)) 0
noncomputable def ac_circalaw03_MasksKnown_l0 : AC := AC.body sac_circalaw03_MasksKnown_l0
noncomputable def sac_circalaw03_MasksKnown_l1 : AC := getS (subs ac_circalaw03_MasksKnown_l0) 1
noncomputable def ac_circalaw03_MasksKnown_l1 : AC := AC.body sac_circalaw03_MasksKnown_l1
theorem subs_circalaw03_MasksKnown_l1 (n : Nat) : SubOK Try.prog 152 (Ls_circalaw03_MasksKnown n) ac_circalaw03_MasksKnown_l1 := SubOK_of _ (by
  have e : subs ac_circalaw03_MasksKnown_l1 = [] := by kernel_rfl
  rw [e]; intro p hp; cases hp)
theorem body_circalaw03_MasksKnown_l1 (n : Nat) : ∀ x, run Try.prog (Es_circalaw03_MasksKnown n) (Ls_circalaw03_MasksKnown n) 152 ac_circalaw03_MasksKnown_l1 (emb_circalaw03_MasksKnown_l1 x) (roundK an_circalaw03_MasksKnown_l1 un_circalaw03_MasksKnown_l1 ax_circalaw03_MasksKnown_l1 ux_circalaw03_MasksKnown_l1) = circalaw03_MasksKnown_l1 n x := fun _ => by kernel_rfl
theorem sub1_circalaw03_MasksKnown_l1 (n : Nat) : ∀ (α : Type) (s : St) (k : Ex → St → Option α) (z : α), (subE 1 an_circalaw03_MasksKnown_l1 un_circalaw03_MasksKnown_l1 (fun x => iterL (circalaw03_MasksKnown_l1 n) n x) outK_circalaw03_MasksKnown_l1).e α s k = some z → SemC Try.prog 152 (sac_circalaw03_MasksKnown_l1).code s fun ex s' => k ex s' = some z := by
  intro α s k z h
  have e : sac_circalaw03_MasksKnown_l1 = .loop ac_circalaw03_MasksKnown_l1 := by kernel_rfl
  rw [e]
  exact subE_ok (m := 1) (f := fun x => iterL (circalaw03_MasksKnown_l1 n) n x) (out := out_circalaw03_MasksKnown_l1) outK_ok_circalaw03_MasksKnown_l1 un_ok_circalaw03_MasksKnown_l1 (fun x y hy => loop_ok (Es_ok_circalaw03_MasksKnown n) (subs_circalaw03_MasksKnown_l1 n) un_ok_circalaw03_MasksKnown_l1 ux_ok_circalaw03_MasksKnown_l1 (body_circalaw03_MasksKnown_l1 n) n x y hy) h
theorem sub_circalaw03_MasksKnown_l1 (n : Nat) : SubSt Try.prog 152 (Ls_circalaw03_MasksKnown n) 1 sac_circalaw03_MasksKnown_l1 := fun α s k z => sub1_circalaw03_MasksKnown_l1 n α s k z
theorem subs_circalaw03_MasksKnown_l0 (n : Nat) : SubOK Try.prog 152 (Ls_circalaw03_MasksKnown n) ac_circalaw03_MasksKnown_l0 := SubOK_of _ (by
  have e : subs ac_circalaw03_MasksKnown_l0 = [(1, sac_circalaw03_MasksKnown_l1)] := by kernel_rfl
  rw [e]; intro p hp
  simp only [List.mem_cons, List.not_mem_nil, or_false] at hp
  · rw [hp]; exact sub_circalaw03_MasksKnown_l1 n
  )
theorem body_circalaw03_MasksKnown_l0 (n : Nat) : ∀ x, run Try.prog (Es_circalaw03_MasksKnown n) (Ls_circalaw03_MasksKnown n) 152 ac_circalaw03_MasksKnown_l0 (emb_circalaw03_MasksKnown_l0 x) (roundK an_circalaw03_MasksKnown_l0 un_circalaw03_MasksKnown_l0 ax_circalaw03_MasksKnown_l0 ux_circalaw03_MasksKnown_l0) = circalaw03_MasksKnown_l0 n x := fun _ => by kernel_rfl
theorem sub1_circalaw03_MasksKnown_l0 (n : Nat) : ∀ (α : Type) (s : St) (k : Ex → St → Option α) (z : α), (subE 0 an_circalaw03_MasksKnown_l0 un_circalaw03_MasksKnown_l0 (fun x => iterL (circalaw03_MasksKnown_l0 n) n x) outK_circalaw03_MasksKnown_l0).e α s k = some z → SemC Try.prog 152 (sac_circalaw03_MasksKnown_l0).code s fun ex s' => k ex s' = some z := by
  intro α s k z h
  have e : sac_circalaw03_MasksKnown_l0 = .loop ac_circalaw03_MasksKnown_l0 := by kernel_rfl
  rw [e]
  exact subE_ok (m := 0) (f := fun x => iterL (circalaw03_MasksKnown_l0 n) n x) (out := out_circalaw03_MasksKnown_l0) outK_ok_circalaw03_MasksKnown_l0 un_ok_circalaw03_MasksKnown_l0 (fun x y hy => loop_ok (Es_ok_circalaw03_MasksKnown n) (subs_circalaw03_MasksKnown_l0 n) un_ok_circalaw03_MasksKnown_l0 ux_ok_circalaw03_MasksKnown_l0 (body_circalaw03_MasksKnown_l0 n) n x y hy) h
theorem sub_circalaw03_MasksKnown_l0 (n : Nat) : SubSt Try.prog 152 (Ls_circalaw03_MasksKnown n) 0 sac_circalaw03_MasksKnown_l0 := fun α s k z => sub1_circalaw03_MasksKnown_l0 n α s k z
theorem subs_circalaw03_MasksKnown (n : Nat) : SubOK Try.prog 152 (Ls_circalaw03_MasksKnown n) (acOf Try.f14) := SubOK_of _ (by
  have e : subs (acOf Try.f14) = [(0, sac_circalaw03_MasksKnown_l0)] := by kernel_rfl
  rw [e]; intro p hp
  simp only [List.mem_cons, List.not_mem_nil, or_false] at hp
  · rw [hp]; exact sub_circalaw03_MasksKnown_l0 n
  )
theorem cert_circalaw03_MasksKnown (n : Nat) : run Try.prog (Es_circalaw03_MasksKnown n) (Ls_circalaw03_MasksKnown n) Try.f14.ntmps (acOf Try.f14) ⟨argsT [] 0, [], 0, 0, 0, 0⟩ (finK Try.prog Try.f14.results.toList (retX unr_circalaw03_MasksKnown)) = circalaw03_MasksKnown n := by kernel_rfl
theorem pure_circalaw03_MasksKnown (n : Nat) : ∀ a r, circalaw03_MasksKnown n = some r → PureOK Try.prog 14 (arg_circalaw03_MasksKnown a) (enc_circalaw03_MasksKnown r) := fun a r h => pureX_ok unr_ok_circalaw03_MasksKnown (Es_ok_circalaw03_MasksKnown n) Try.func14 rfl (acOf_code _) (subs_circalaw03_MasksKnown n) rfl ((cert_circalaw03_MasksKnown n).trans h)
theorem ok_circalaw03_MasksKnown (n : Nat) : EntOK Try.prog (e_circalaw03_MasksKnown n) := pureE_ok Try.call14 una_ok_circalaw03_MasksKnown (fun _ => rfl) (pure_circalaw03_MasksKnown n)

end Go.Sh
