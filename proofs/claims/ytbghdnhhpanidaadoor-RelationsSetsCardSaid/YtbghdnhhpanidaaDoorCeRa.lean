/- Each function of the program computes its plain function: the certificates.
   Conditions: none. Printed by the bench tool gen.py. -/
import Derived.Test.YtbghdnhhpanidaaDoorCeR
set_option linter.unusedVariables false
set_option linter.unusedSimpArgs false
set_option maxRecDepth 100000
namespace Go.Sh
open Go.Abs Go.Proofs

/-! circa/circaref31.Mirror -/
noncomputable def arg_circaref31_Mirror (a : Int) : List V := [.i .i64 a]
noncomputable def una_circaref31_Mirror (l : List V) : Option (Int) := match l with
  | [.i .i64 a0] => some a0
  | _ => none
theorem una_ok_circaref31_Mirror : ∀ l a, una_circaref31_Mirror l = some a → l = arg_circaref31_Mirror a := by
  intro l a h
  unfold una_circaref31_Mirror at h
  split at h
  · cases h; rfl
  · cases h
noncomputable def enc_circaref31_Mirror (r : Int) : V := .i .i64 r
noncomputable def unr_circaref31_Mirror (v : V) : Option (Int) := match v with
  | .i .i64 r0 => some r0
  | _ => none
theorem unr_ok_circaref31_Mirror : ∀ v r, unr_circaref31_Mirror v = some r → v = enc_circaref31_Mirror r := by
  intro v r h
  unfold unr_circaref31_Mirror at h
  split at h
  · cases h; rfl
  · cases h
noncomputable def e_circaref31_Mirror (n : Nat) : Ent := pureE 24 una_circaref31_Mirror (fun a => circaref31_Mirror n a) enc_circaref31_Mirror
noncomputable def t_circaref31_Mirror (l : List V) (_ : List (Nat × Blk)) : Bool := isS (una_circaref31_Mirror l)
noncomputable def Es_circaref31_Mirror (n : Nat) : List Ent := [e_circaref31_Of n]
theorem Es_ok_circaref31_Mirror (n : Nat) : ∀ x ∈ Es_circaref31_Mirror n, EntOK Tryd.prog x := by
  intro x hx
  simp only [Es_circaref31_Mirror, List.mem_cons, List.not_mem_nil, or_false] at hx
  · rw [hx]; exact ok_circaref31_Of n
noncomputable def an_circaref31_Mirror_l1 : Ann := ⟨[0, 3, 4], [], 0, []⟩
noncomputable def emb_circaref31_Mirror_l1 (x : Int × Int × Int) : St := ⟨[(0, some (.i .i64 x.1)), (3, some (.i .i64 x.2.1)), (4, some (.i .i64 x.2.2))], [], 0, 0, 0, 0⟩
noncomputable def un_circaref31_Mirror_l1 (s : St) : Option (Int × Int × Int) := match s with
  | ⟨[(0, some (.i .i64 x0)), (3, some (.i .i64 x1)), (4, some (.i .i64 x2))], [], 0, 0, 0, 0⟩ => some (x0, x1, x2)
  | _ => none
theorem un_ok_circaref31_Mirror_l1 : ∀ s x, un_circaref31_Mirror_l1 s = some x → s = emb_circaref31_Mirror_l1 x := by
  intro s x h
  unfold un_circaref31_Mirror_l1 at h
  split at h
  · cases h; rfl
  · cases h
noncomputable def ax_circaref31_Mirror_l1 : Ex → Ann := fun ex => match ex with
  | .ret => ⟨[2], [], 0, []⟩
  | .exit 2 => ⟨[0, 3], [], 0, []⟩
  | _ => ⟨[], [], 0, []⟩
noncomputable def out_circaref31_Mirror_l1 (y : Int ⊕ (Int × Int)) : Ex × St := (Sum.casesOn (motive := fun _ => Ex × St) y (fun a0 => (.ret, ⟨[(2, some (.i .i64 a0))], [], 0, 0, 0, 0⟩)) (fun b0 => (.exit 2, ⟨[(0, some (.i .i64 b0.1)), (3, some (.i .i64 b0.2))], [], 0, 0, 0, 0⟩)))
noncomputable def outK_circaref31_Mirror_l1 (α : Type) (y : Int ⊕ (Int × Int)) (k : Ex → St → Option α) : Option α := (Sum.casesOn (motive := fun _ => Option α) y (fun a0 => (k (.ret) ⟨[(2, some (.i .i64 a0))], [], 0, 0, 0, 0⟩)) (fun b0 => (k (.exit 2) ⟨[(0, some (.i .i64 b0.1)), (3, some (.i .i64 b0.2))], [], 0, 0, 0, 0⟩)))
theorem outK_ok_circaref31_Mirror_l1 : ∀ α y k, outK_circaref31_Mirror_l1 α y k = k (out_circaref31_Mirror_l1 y).1 (out_circaref31_Mirror_l1 y).2 := by
  intro α y k
  rcases y with y | y <;> rfl
noncomputable def ux_circaref31_Mirror_l1 (ex : Ex) (s : St) : Option (Int ⊕ (Int × Int)) := match ex, s with
  | .ret, ⟨[(2, some (.i .i64 y0))], [], 0, 0, 0, 0⟩ => some (.inl y0)
  | .exit 2, ⟨[(0, some (.i .i64 y0)), (3, some (.i .i64 y1))], [], 0, 0, 0, 0⟩ => some (.inr (y0, y1))
  | _, _ => none
theorem ux_ok_circaref31_Mirror_l1 : ∀ ex s y, ux_circaref31_Mirror_l1 ex s = some y → (ex, s) = out_circaref31_Mirror_l1 y := by
  intro ex s y h
  unfold ux_circaref31_Mirror_l1 at h
  split at h
  · cases h; rfl
  · cases h; rfl
  · cases h
noncomputable def an_circaref31_Mirror_l0 : Ann := ⟨[0, 3], [], 0, []⟩
noncomputable def emb_circaref31_Mirror_l0 (x : Int × Int) : St := ⟨[(0, some (.i .i64 x.1)), (3, some (.i .i64 x.2))], [], 0, 0, 0, 0⟩
noncomputable def un_circaref31_Mirror_l0 (s : St) : Option (Int × Int) := match s with
  | ⟨[(0, some (.i .i64 x0)), (3, some (.i .i64 x1))], [], 0, 0, 0, 0⟩ => some (x0, x1)
  | _ => none
theorem un_ok_circaref31_Mirror_l0 : ∀ s x, un_circaref31_Mirror_l0 s = some x → s = emb_circaref31_Mirror_l0 x := by
  intro s x h
  unfold un_circaref31_Mirror_l0 at h
  split at h
  · cases h; rfl
  · cases h
noncomputable def ax_circaref31_Mirror_l0 : Ex → Ann := fun ex => match ex with
  | .ret => ⟨[2], [], 0, []⟩
  | .exit 0 => ⟨[], [], 0, []⟩
  | _ => ⟨[], [], 0, []⟩
noncomputable def out_circaref31_Mirror_l0 (y : Int ⊕ Unit) : Ex × St := (Sum.casesOn (motive := fun _ => Ex × St) y (fun a0 => (.ret, ⟨[(2, some (.i .i64 a0))], [], 0, 0, 0, 0⟩)) (fun b0 => (.exit 0, ⟨[], [], 0, 0, 0, 0⟩)))
noncomputable def outK_circaref31_Mirror_l0 (α : Type) (y : Int ⊕ Unit) (k : Ex → St → Option α) : Option α := (Sum.casesOn (motive := fun _ => Option α) y (fun a0 => (k (.ret) ⟨[(2, some (.i .i64 a0))], [], 0, 0, 0, 0⟩)) (fun b0 => (k (.exit 0) ⟨[], [], 0, 0, 0, 0⟩)))
theorem outK_ok_circaref31_Mirror_l0 : ∀ α y k, outK_circaref31_Mirror_l0 α y k = k (out_circaref31_Mirror_l0 y).1 (out_circaref31_Mirror_l0 y).2 := by
  intro α y k
  rcases y with y | y <;> rfl
noncomputable def ux_circaref31_Mirror_l0 (ex : Ex) (s : St) : Option (Int ⊕ Unit) := match ex, s with
  | .ret, ⟨[(2, some (.i .i64 y0))], [], 0, 0, 0, 0⟩ => some (.inl y0)
  | .exit 0, ⟨[], [], 0, 0, 0, 0⟩ => some (.inr ())
  | _, _ => none
theorem ux_ok_circaref31_Mirror_l0 : ∀ ex s y, ux_circaref31_Mirror_l0 ex s = some y → (ex, s) = out_circaref31_Mirror_l0 y := by
  intro ex s y h
  unfold ux_circaref31_Mirror_l0 at h
  split at h
  · cases h; rfl
  · cases h; rfl
  · cases h
noncomputable def Ls_circaref31_Mirror (n : Nat) : List Sub := [subE 1 an_circaref31_Mirror_l1 un_circaref31_Mirror_l1 (fun x => iterL (circaref31_Mirror_l1 n) n x) outK_circaref31_Mirror_l1, subE 0 an_circaref31_Mirror_l0 un_circaref31_Mirror_l0 (fun x => iterL (circaref31_Mirror_l0 n) n x) outK_circaref31_Mirror_l0]
noncomputable def sac_circaref31_Mirror_l0 : AC := getS (subs (acOf Tryd.f24)) 0
noncomputable def ac_circaref31_Mirror_l0 : AC := AC.body sac_circaref31_Mirror_l0
noncomputable def sac_circaref31_Mirror_l1 : AC := getS (subs ac_circaref31_Mirror_l0) 1
noncomputable def ac_circaref31_Mirror_l1 : AC := AC.body sac_circaref31_Mirror_l1
theorem subs_circaref31_Mirror_l1 (n : Nat) : SubOK Tryd.prog 36 (Ls_circaref31_Mirror n) ac_circaref31_Mirror_l1 := SubOK_of _ (by
  have e : subs ac_circaref31_Mirror_l1 = [] := by kernel_rfl
  rw [e]; intro p hp; cases hp)
theorem body_circaref31_Mirror_l1 (n : Nat) : ∀ x, run Tryd.prog (Es_circaref31_Mirror n) (Ls_circaref31_Mirror n) 36 ac_circaref31_Mirror_l1 (emb_circaref31_Mirror_l1 x) (roundK an_circaref31_Mirror_l1 un_circaref31_Mirror_l1 ax_circaref31_Mirror_l1 ux_circaref31_Mirror_l1) = circaref31_Mirror_l1 n x := fun _ => by kernel_rfl
theorem sub1_circaref31_Mirror_l1 (n : Nat) : ∀ (α : Type) (s : St) (k : Ex → St → Option α) (z : α), (subE 1 an_circaref31_Mirror_l1 un_circaref31_Mirror_l1 (fun x => iterL (circaref31_Mirror_l1 n) n x) outK_circaref31_Mirror_l1).e α s k = some z → SemC Tryd.prog 36 (sac_circaref31_Mirror_l1).code s fun ex s' => k ex s' = some z := by
  intro α s k z h
  have e : sac_circaref31_Mirror_l1 = .loop ac_circaref31_Mirror_l1 := by kernel_rfl
  rw [e]
  exact subE_ok (m := 1) (f := fun x => iterL (circaref31_Mirror_l1 n) n x) (out := out_circaref31_Mirror_l1) outK_ok_circaref31_Mirror_l1 un_ok_circaref31_Mirror_l1 (fun x y hy => loop_ok (Es_ok_circaref31_Mirror n) (subs_circaref31_Mirror_l1 n) un_ok_circaref31_Mirror_l1 ux_ok_circaref31_Mirror_l1 (body_circaref31_Mirror_l1 n) n x y hy) h
theorem sub_circaref31_Mirror_l1 (n : Nat) : SubSt Tryd.prog 36 (Ls_circaref31_Mirror n) 1 sac_circaref31_Mirror_l1 := fun α s k z => sub1_circaref31_Mirror_l1 n α s k z
theorem subs_circaref31_Mirror_l0 (n : Nat) : SubOK Tryd.prog 36 (Ls_circaref31_Mirror n) ac_circaref31_Mirror_l0 := SubOK_of _ (by
  have e : subs ac_circaref31_Mirror_l0 = [(1, sac_circaref31_Mirror_l1)] := by kernel_rfl
  rw [e]; intro p hp
  simp only [List.mem_cons, List.not_mem_nil, or_false] at hp
  · rw [hp]; exact sub_circaref31_Mirror_l1 n
  )
theorem body_circaref31_Mirror_l0 (n : Nat) : ∀ x, run Tryd.prog (Es_circaref31_Mirror n) (Ls_circaref31_Mirror n) 36 ac_circaref31_Mirror_l0 (emb_circaref31_Mirror_l0 x) (roundK an_circaref31_Mirror_l0 un_circaref31_Mirror_l0 ax_circaref31_Mirror_l0 ux_circaref31_Mirror_l0) = circaref31_Mirror_l0 n x := fun _ => by kernel_rfl
theorem sub1_circaref31_Mirror_l0 (n : Nat) : ∀ (α : Type) (s : St) (k : Ex → St → Option α) (z : α), (subE 0 an_circaref31_Mirror_l0 un_circaref31_Mirror_l0 (fun x => iterL (circaref31_Mirror_l0 n) n x) outK_circaref31_Mirror_l0).e α s k = some z → SemC Tryd.prog 36 (sac_circaref31_Mirror_l0).code s fun ex s' => k ex s' = some z := by
  intro α s k z h
  have e : sac_circaref31_Mirror_l0 = .loop ac_circaref31_Mirror_l0 := by kernel_rfl
  rw [e]
  exact subE_ok (m := 0) (f := fun x => iterL (circaref31_Mirror_l0 n) n x) (out := out_circaref31_Mirror_l0) outK_ok_circaref31_Mirror_l0 un_ok_circaref31_Mirror_l0 (fun x y hy => loop_ok (Es_ok_circaref31_Mirror n) (subs_circaref31_Mirror_l0 n) un_ok_circaref31_Mirror_l0 ux_ok_circaref31_Mirror_l0 (body_circaref31_Mirror_l0 n) n x y hy) h
theorem sub_circaref31_Mirror_l0 (n : Nat) : SubSt Tryd.prog 36 (Ls_circaref31_Mirror n) 0 sac_circaref31_Mirror_l0 := fun α s k z => sub1_circaref31_Mirror_l0 n α s k z
theorem subs_circaref31_Mirror (n : Nat) : SubOK Tryd.prog 36 (Ls_circaref31_Mirror n) (acOf Tryd.f24) := SubOK_of _ (by
  have e : subs (acOf Tryd.f24) = [(0, sac_circaref31_Mirror_l0)] := by kernel_rfl
  rw [e]; intro p hp
  simp only [List.mem_cons, List.not_mem_nil, or_false] at hp
  · rw [hp]; exact sub_circaref31_Mirror_l0 n
  )
theorem cert_circaref31_Mirror (n : Nat) (a0 : Int) : run Tryd.prog (Es_circaref31_Mirror n) (Ls_circaref31_Mirror n) Tryd.f24.ntmps (acOf Tryd.f24) ⟨argsT [.i .i64 a0] 0, [], 0, 0, 0, 0⟩ (finK Tryd.prog Tryd.f24.results.toList (retX unr_circaref31_Mirror)) = circaref31_Mirror n a0 := by kernel_rfl
theorem pure_circaref31_Mirror (n : Nat) : ∀ a r, circaref31_Mirror n a = some r → PureOK Tryd.prog 24 (arg_circaref31_Mirror a) (enc_circaref31_Mirror r) := fun a r h => pureX_ok unr_ok_circaref31_Mirror (Es_ok_circaref31_Mirror n) Tryd.func24 rfl (acOf_code _) (subs_circaref31_Mirror n) rfl ((cert_circaref31_Mirror n a).trans h)
theorem ok_circaref31_Mirror (n : Nat) : EntOK Tryd.prog (e_circaref31_Mirror n) := pureE_ok Tryd.call24 una_ok_circaref31_Mirror (fun _ => rfl) (pure_circaref31_Mirror n)

/-! (circa/relations.Set).Count -/
noncomputable def arg_relations_Set_Count (a : Int) : List V := [.i .u16 a]
noncomputable def una_relations_Set_Count (l : List V) : Option (Int) := match l with
  | [.i .u16 a0] => some a0
  | _ => none
theorem una_ok_relations_Set_Count : ∀ l a, una_relations_Set_Count l = some a → l = arg_relations_Set_Count a := by
  intro l a h
  unfold una_relations_Set_Count at h
  split at h
  · cases h; rfl
  · cases h
noncomputable def enc_relations_Set_Count (r : Int) : V := .i .i64 r
noncomputable def unr_relations_Set_Count (v : V) : Option (Int) := match v with
  | .i .i64 r0 => some r0
  | _ => none
theorem unr_ok_relations_Set_Count : ∀ v r, unr_relations_Set_Count v = some r → v = enc_relations_Set_Count r := by
  intro v r h
  unfold unr_relations_Set_Count at h
  split at h
  · cases h; rfl
  · cases h
noncomputable def e_relations_Set_Count (n : Nat) : Ent := pureE 25 una_relations_Set_Count (fun a => relations_Set_Count n a) enc_relations_Set_Count
noncomputable def t_relations_Set_Count (l : List V) (_ : List (Nat × Blk)) : Bool := isS (una_relations_Set_Count l)
noncomputable def Es_relations_Set_Count (n : Nat) : List Ent := [e_relations_Set_List n]
theorem Es_ok_relations_Set_Count (n : Nat) : ∀ x ∈ Es_relations_Set_Count n, EntOK Tryd.prog x := by
  intro x hx
  simp only [Es_relations_Set_Count, List.mem_cons, List.not_mem_nil, or_false] at hx
  · rw [hx]; exact ok_relations_Set_List n
noncomputable def Ls_relations_Set_Count (_n : Nat) : List Sub := []
theorem subs_relations_Set_Count (n : Nat) : SubOK Tryd.prog 6 (Ls_relations_Set_Count n) (acOf Tryd.f25) := SubOK_of _ (by
  have e : subs (acOf Tryd.f25) = [] := by kernel_rfl
  rw [e]; intro p hp; cases hp)
theorem cert_relations_Set_Count (n : Nat) (a0 : Int) : run Tryd.prog (Es_relations_Set_Count n) (Ls_relations_Set_Count n) Tryd.f25.ntmps (acOf Tryd.f25) ⟨argsT [.i .u16 a0] 0, [], 0, 0, 0, 0⟩ (finK Tryd.prog Tryd.f25.results.toList (retX unr_relations_Set_Count)) = relations_Set_Count n a0 := by kernel_rfl
theorem pure_relations_Set_Count (n : Nat) : ∀ a r, relations_Set_Count n a = some r → PureOK Tryd.prog 25 (arg_relations_Set_Count a) (enc_relations_Set_Count r) := fun a r h => pureX_ok unr_ok_relations_Set_Count (Es_ok_relations_Set_Count n) Tryd.func25 rfl (acOf_code _) (subs_relations_Set_Count n) rfl ((cert_relations_Set_Count n a).trans h)
theorem ok_relations_Set_Count (n : Nat) : EntOK Tryd.prog (e_relations_Set_Count n) := pureE_ok Tryd.call25 una_ok_relations_Set_Count (fun _ => rfl) (pure_relations_Set_Count n)

/-! circa/circalaw31.RelationsNames -/
noncomputable def arg_circalaw31_RelationsNames (a : Int × Int) : List V := [.i .u8 a.1, .i .u8 a.2]
noncomputable def una_circalaw31_RelationsNames (l : List V) : Option (Int × Int) := match l with
  | [.i .u8 a0, .i .u8 a1] => some (a0, a1)
  | _ => none
theorem una_ok_circalaw31_RelationsNames : ∀ l a, una_circalaw31_RelationsNames l = some a → l = arg_circalaw31_RelationsNames a := by
  intro l a h
  unfold una_circalaw31_RelationsNames at h
  split at h
  · cases h; rfl
  · cases h
noncomputable def enc_circalaw31_RelationsNames (r : Bool) : V := .b r
noncomputable def unr_circalaw31_RelationsNames (v : V) : Option (Bool) := match v with
  | .b r0 => some r0
  | _ => none
theorem unr_ok_circalaw31_RelationsNames : ∀ v r, unr_circalaw31_RelationsNames v = some r → v = enc_circalaw31_RelationsNames r := by
  intro v r h
  unfold unr_circalaw31_RelationsNames at h
  split at h
  · cases h; rfl
  · cases h
noncomputable def e_circalaw31_RelationsNames (n : Nat) : Ent := pureE 6 una_circalaw31_RelationsNames (fun a => circalaw31_RelationsNames n a.1 a.2) enc_circalaw31_RelationsNames
noncomputable def t_circalaw31_RelationsNames (l : List V) (_ : List (Nat × Blk)) : Bool := isS (una_circalaw31_RelationsNames l)
noncomputable def Es_circalaw31_RelationsNames (n : Nat) : List Ent := [e_relations_Converse n, e_relations_Mirror n, e_relations_One n, e_relations_Compose n, e_relations_Name n, e_circaref31_Name n, e_circalaw31_lives n, e_circaref31_Mirror n, e_relations_Set_Has n, e_relations_Set_Count n]
theorem Es_ok_circalaw31_RelationsNames (n : Nat) : ∀ x ∈ Es_circalaw31_RelationsNames n, EntOK Tryd.prog x := by
  intro x hx
  simp only [Es_circalaw31_RelationsNames, List.mem_cons, List.not_mem_nil, or_false] at hx
  rcases hx with hx | hx | hx | hx | hx | hx | hx | hx | hx | hx
  · rw [hx]; exact ok_relations_Converse n
  · rw [hx]; exact ok_relations_Mirror n
  · rw [hx]; exact ok_relations_One n
  · rw [hx]; exact ok_relations_Compose n
  · rw [hx]; exact ok_relations_Name n
  · rw [hx]; exact ok_circaref31_Name n
  · rw [hx]; exact ok_circalaw31_lives n
  · rw [hx]; exact ok_circaref31_Mirror n
  · rw [hx]; exact ok_relations_Set_Has n
  · rw [hx]; exact ok_relations_Set_Count n
noncomputable def Ls_circalaw31_RelationsNames (_n : Nat) : List Sub := []
theorem subs_circalaw31_RelationsNames (n : Nat) : SubOK Tryd.prog 156 (Ls_circalaw31_RelationsNames n) (acOf Tryd.f6) := SubOK_of _ (by
  have e : subs (acOf Tryd.f6) = [] := by kernel_rfl
  rw [e]; intro p hp; cases hp)
theorem cert_circalaw31_RelationsNames (n : Nat) (a0 : Int) (a1 : Int) : run Tryd.prog (Es_circalaw31_RelationsNames n) (Ls_circalaw31_RelationsNames n) Tryd.f6.ntmps (acOf Tryd.f6) ⟨argsT [.i .u8 a0, .i .u8 a1] 0, [], 0, 0, 0, 0⟩ (finK Tryd.prog Tryd.f6.results.toList (retX unr_circalaw31_RelationsNames)) = circalaw31_RelationsNames n a0 a1 := by kernel_rfl
theorem pure_circalaw31_RelationsNames (n : Nat) : ∀ a r, circalaw31_RelationsNames n a.1 a.2 = some r → PureOK Tryd.prog 6 (arg_circalaw31_RelationsNames a) (enc_circalaw31_RelationsNames r) := fun a r h => pureX_ok unr_ok_circalaw31_RelationsNames (Es_ok_circalaw31_RelationsNames n) Tryd.func6 rfl (acOf_code _) (subs_circalaw31_RelationsNames n) rfl ((cert_circalaw31_RelationsNames n a.1 a.2).trans h)
theorem ok_circalaw31_RelationsNames (n : Nat) : EntOK Tryd.prog (e_circalaw31_RelationsNames n) := pureE_ok Tryd.call6 una_ok_circalaw31_RelationsNames (fun _ => rfl) (pure_circalaw31_RelationsNames n)

/-! (circa/relations.Set).each -/
noncomputable def arg_relations_Set_each (a : Int) : List V := [.i .u16 a, .fn 12 []]
noncomputable def una_relations_Set_each (l : List V) : Option (Int) := match l with
  | [.i .u16 a0, .fn 12 []] => some a0
  | _ => none
theorem una_ok_relations_Set_each : ∀ l a, una_relations_Set_each l = some a → l = arg_relations_Set_each a := by
  intro l a h
  unfold una_relations_Set_each at h
  split at h
  · cases h; rfl
  · cases h
noncomputable def enc_relations_Set_each (r : Int × Int) : V := .tp [.i .u16 r.1, .i .i64 r.2]
noncomputable def unr_relations_Set_each (v : V) : Option (Int × Int) := match v with
  | .tp [.i .u16 r0, .i .i64 r1] => some (r0, r1)
  | _ => none
theorem unr_ok_relations_Set_each : ∀ v r, unr_relations_Set_each v = some r → v = enc_relations_Set_each r := by
  intro v r h
  unfold unr_relations_Set_each at h
  split at h
  · cases h; rfl
  · cases h
noncomputable def e_relations_Set_each (n : Nat) : Ent := pureE 46 una_relations_Set_each (fun a => relations_Set_each n a) enc_relations_Set_each
noncomputable def t_relations_Set_each (l : List V) (_ : List (Nat × Blk)) : Bool := isS (una_relations_Set_each l)
noncomputable def Es_relations_Set_each (n : Nat) : List Ent := [e_relations_Set_right n, e_relations_Set_List n, e_relations_Converse n]
theorem Es_ok_relations_Set_each (n : Nat) : ∀ x ∈ Es_relations_Set_each n, EntOK Tryd.prog x := by
  intro x hx
  simp only [Es_relations_Set_each, List.mem_cons, List.not_mem_nil, or_false] at hx
  rcases hx with hx | hx | hx
  · rw [hx]; exact ok_relations_Set_right n
  · rw [hx]; exact ok_relations_Set_List n
  · rw [hx]; exact ok_relations_Converse n
noncomputable def an_relations_Set_each_l0 : Ann := ⟨[1, 6, 15, 16, 17], [0], 1, []⟩
noncomputable def emb_relations_Set_each_l0 (x : Int × Nat × Nat × Int × Int × List (Int)) : St := ⟨[(1, some (.fn 12 [])), (6, some (.i .u16 x.1)), (15, some (.rs 1 0 0 x.2.1 (some x.2.2.1))), (16, some (.i .i64 x.2.2.2.1)), (17, some (.i .i64 x.2.2.2.2.1))], [(0, .rows [.i .u8] x.2.2.2.2.2)], 1, 0, 0, 0⟩
noncomputable def un_relations_Set_each_l0 (s : St) : Option (Int × Nat × Nat × Int × Int × List (Int)) := match s with
  | ⟨[(1, some (.fn 12 [])), (6, some (.i .u16 x0)), (15, some (.rs 1 0 0 x1 (some x2))), (16, some (.i .i64 x3)), (17, some (.i .i64 x4))], [(0, .rows [.i .u8] x5)], 1, 0, 0, 0⟩ => some (x0, x1, x2, x3, x4, x5)
  | _ => none
theorem un_ok_relations_Set_each_l0 : ∀ s x, un_relations_Set_each_l0 s = some x → s = emb_relations_Set_each_l0 x := by
  intro s x h
  unfold un_relations_Set_each_l0 at h
  split at h
  · cases h; rfl
  · cases h
noncomputable def ax_relations_Set_each_l0 : Ex → Ann := fun ex => match ex with
  | .exit 0 => ⟨[6], [], 1, []⟩
  | _ => ⟨[], [], 0, []⟩
noncomputable def out_relations_Set_each_l0 (y : Int) : Ex × St := (.exit 0, ⟨[(6, some (.i .u16 y))], [], 1, 0, 0, 0⟩)
noncomputable def outK_relations_Set_each_l0 (α : Type) (y : Int) (k : Ex → St → Option α) : Option α := (k (.exit 0) ⟨[(6, some (.i .u16 y))], [], 1, 0, 0, 0⟩)
theorem outK_ok_relations_Set_each_l0 : ∀ α y k, outK_relations_Set_each_l0 α y k = k (out_relations_Set_each_l0 y).1 (out_relations_Set_each_l0 y).2 := by
  intro α y k
  rfl
noncomputable def ux_relations_Set_each_l0 (ex : Ex) (s : St) : Option (Int) := match ex, s with
  | .exit 0, ⟨[(6, some (.i .u16 y0))], [], 1, 0, 0, 0⟩ => some y0
  | _, _ => none
theorem ux_ok_relations_Set_each_l0 : ∀ ex s y, ux_relations_Set_each_l0 ex s = some y → (ex, s) = out_relations_Set_each_l0 y := by
  intro ex s y h
  unfold ux_relations_Set_each_l0 at h
  split at h
  · cases h; rfl
  · cases h
noncomputable def Ls_relations_Set_each (n : Nat) : List Sub := [subE 0 an_relations_Set_each_l0 un_relations_Set_each_l0 (fun x => iterL (relations_Set_each_l0 n) n x) outK_relations_Set_each_l0]
noncomputable def sac_relations_Set_each_l0 : AC := getS (subs (acOf Tryd.f46)) 0
noncomputable def ac_relations_Set_each_l0 : AC := AC.body sac_relations_Set_each_l0
theorem subs_relations_Set_each_l0 (n : Nat) : SubOK Tryd.prog 33 (Ls_relations_Set_each n) ac_relations_Set_each_l0 := SubOK_of _ (by
  have e : subs ac_relations_Set_each_l0 = [] := by kernel_rfl
  rw [e]; intro p hp; cases hp)
theorem body_relations_Set_each_l0 (n : Nat) : ∀ x, run Tryd.prog (Es_relations_Set_each n) (Ls_relations_Set_each n) 33 ac_relations_Set_each_l0 (emb_relations_Set_each_l0 x) (roundK an_relations_Set_each_l0 un_relations_Set_each_l0 ax_relations_Set_each_l0 ux_relations_Set_each_l0) = relations_Set_each_l0 n x := fun _ => by kernel_rfl
theorem sub1_relations_Set_each_l0 (n : Nat) : ∀ (α : Type) (s : St) (k : Ex → St → Option α) (z : α), (subE 0 an_relations_Set_each_l0 un_relations_Set_each_l0 (fun x => iterL (relations_Set_each_l0 n) n x) outK_relations_Set_each_l0).e α s k = some z → SemC Tryd.prog 33 (sac_relations_Set_each_l0).code s fun ex s' => k ex s' = some z := by
  intro α s k z h
  have e : sac_relations_Set_each_l0 = .loop ac_relations_Set_each_l0 := by kernel_rfl
  rw [e]
  exact subE_ok (m := 0) (f := fun x => iterL (relations_Set_each_l0 n) n x) (out := out_relations_Set_each_l0) outK_ok_relations_Set_each_l0 un_ok_relations_Set_each_l0 (fun x y hy => loop_ok (Es_ok_relations_Set_each n) (subs_relations_Set_each_l0 n) un_ok_relations_Set_each_l0 ux_ok_relations_Set_each_l0 (body_relations_Set_each_l0 n) n x y hy) h
theorem sub_relations_Set_each_l0 (n : Nat) : SubSt Tryd.prog 33 (Ls_relations_Set_each n) 0 sac_relations_Set_each_l0 := fun α s k z => sub1_relations_Set_each_l0 n α s k z
theorem subs_relations_Set_each (n : Nat) : SubOK Tryd.prog 33 (Ls_relations_Set_each n) (acOf Tryd.f46) := SubOK_of _ (by
  have e : subs (acOf Tryd.f46) = [(0, sac_relations_Set_each_l0)] := by kernel_rfl
  rw [e]; intro p hp
  simp only [List.mem_cons, List.not_mem_nil, or_false] at hp
  · rw [hp]; exact sub_relations_Set_each_l0 n
  )
theorem cert_relations_Set_each (n : Nat) (a0 : Int) : run Tryd.prog (Es_relations_Set_each n) (Ls_relations_Set_each n) Tryd.f46.ntmps (acOf Tryd.f46) ⟨argsT [.i .u16 a0, .fn 12 []] 0, [], 0, 0, 0, 0⟩ (finK Tryd.prog Tryd.f46.results.toList (retX unr_relations_Set_each)) = relations_Set_each n a0 := by kernel_rfl
theorem pure_relations_Set_each (n : Nat) : ∀ a r, relations_Set_each n a = some r → PureOK Tryd.prog 46 (arg_relations_Set_each a) (enc_relations_Set_each r) := fun a r h => pureX_ok unr_ok_relations_Set_each (Es_ok_relations_Set_each n) Tryd.func46 rfl (acOf_code _) (subs_relations_Set_each n) rfl ((cert_relations_Set_each n a).trans h)
theorem ok_relations_Set_each (n : Nat) : EntOK Tryd.prog (e_relations_Set_each n) := pureE_ok Tryd.call46 una_ok_relations_Set_each (fun _ => rfl) (pure_relations_Set_each n)

/-! (circa/relations.Set).Converse -/
noncomputable def arg_relations_Set_Converse (a : Int) : List V := [.i .u16 a]
noncomputable def una_relations_Set_Converse (l : List V) : Option (Int) := match l with
  | [.i .u16 a0] => some a0
  | _ => none
theorem una_ok_relations_Set_Converse : ∀ l a, una_relations_Set_Converse l = some a → l = arg_relations_Set_Converse a := by
  intro l a h
  unfold una_relations_Set_Converse at h
  split at h
  · cases h; rfl
  · cases h
noncomputable def enc_relations_Set_Converse (r : Int × Int) : V := .tp [.i .u16 r.1, .i .i64 r.2]
noncomputable def unr_relations_Set_Converse (v : V) : Option (Int × Int) := match v with
  | .tp [.i .u16 r0, .i .i64 r1] => some (r0, r1)
  | _ => none
theorem unr_ok_relations_Set_Converse : ∀ v r, unr_relations_Set_Converse v = some r → v = enc_relations_Set_Converse r := by
  intro v r h
  unfold unr_relations_Set_Converse at h
  split at h
  · cases h; rfl
  · cases h
noncomputable def e_relations_Set_Converse (n : Nat) : Ent := pureE 28 una_relations_Set_Converse (fun a => relations_Set_Converse n a) enc_relations_Set_Converse
noncomputable def t_relations_Set_Converse (l : List V) (_ : List (Nat × Blk)) : Bool := isS (una_relations_Set_Converse l)
noncomputable def Es_relations_Set_Converse (n : Nat) : List Ent := [e_relations_Set_each n]
theorem Es_ok_relations_Set_Converse (n : Nat) : ∀ x ∈ Es_relations_Set_Converse n, EntOK Tryd.prog x := by
  intro x hx
  simp only [Es_relations_Set_Converse, List.mem_cons, List.not_mem_nil, or_false] at hx
  · rw [hx]; exact ok_relations_Set_each n
noncomputable def Ls_relations_Set_Converse (_n : Nat) : List Sub := []
theorem subs_relations_Set_Converse (n : Nat) : SubOK Tryd.prog 8 (Ls_relations_Set_Converse n) (acOf Tryd.f28) := SubOK_of _ (by
  have e : subs (acOf Tryd.f28) = [] := by kernel_rfl
  rw [e]; intro p hp; cases hp)
theorem cert_relations_Set_Converse (n : Nat) (a0 : Int) : run Tryd.prog (Es_relations_Set_Converse n) (Ls_relations_Set_Converse n) Tryd.f28.ntmps (acOf Tryd.f28) ⟨argsT [.i .u16 a0] 0, [], 0, 0, 0, 0⟩ (finK Tryd.prog Tryd.f28.results.toList (retX unr_relations_Set_Converse)) = relations_Set_Converse n a0 := by kernel_rfl
theorem pure_relations_Set_Converse (n : Nat) : ∀ a r, relations_Set_Converse n a = some r → PureOK Tryd.prog 28 (arg_relations_Set_Converse a) (enc_relations_Set_Converse r) := fun a r h => pureX_ok unr_ok_relations_Set_Converse (Es_ok_relations_Set_Converse n) Tryd.func28 rfl (acOf_code _) (subs_relations_Set_Converse n) rfl ((cert_relations_Set_Converse n a).trans h)
theorem ok_relations_Set_Converse (n : Nat) : EntOK Tryd.prog (e_relations_Set_Converse n) := pureE_ok Tryd.call28 una_ok_relations_Set_Converse (fun _ => rfl) (pure_relations_Set_Converse n)

/-! (circa/relations.Set).each -/
noncomputable def arg_relations_Set_each_v2 (a : Int) : List V := [.i .u16 a, .fn 17 []]
noncomputable def una_relations_Set_each_v2 (l : List V) : Option (Int) := match l with
  | [.i .u16 a0, .fn 17 []] => some a0
  | _ => none
theorem una_ok_relations_Set_each_v2 : ∀ l a, una_relations_Set_each_v2 l = some a → l = arg_relations_Set_each_v2 a := by
  intro l a h
  unfold una_relations_Set_each_v2 at h
  split at h
  · cases h; rfl
  · cases h
noncomputable def enc_relations_Set_each_v2 (r : Int × Int) : V := .tp [.i .u16 r.1, .i .i64 r.2]
noncomputable def unr_relations_Set_each_v2 (v : V) : Option (Int × Int) := match v with
  | .tp [.i .u16 r0, .i .i64 r1] => some (r0, r1)
  | _ => none
theorem unr_ok_relations_Set_each_v2 : ∀ v r, unr_relations_Set_each_v2 v = some r → v = enc_relations_Set_each_v2 r := by
  intro v r h
  unfold unr_relations_Set_each_v2 at h
  split at h
  · cases h; rfl
  · cases h
noncomputable def e_relations_Set_each_v2 (n : Nat) : Ent := pureE 46 una_relations_Set_each_v2 (fun a => relations_Set_each_v2 n a) enc_relations_Set_each_v2
noncomputable def t_relations_Set_each_v2 (l : List V) (_ : List (Nat × Blk)) : Bool := isS (una_relations_Set_each_v2 l)
noncomputable def Es_relations_Set_each_v2 (n : Nat) : List Ent := [e_relations_Set_right n, e_relations_Set_List n, e_relations_Mirror n]
theorem Es_ok_relations_Set_each_v2 (n : Nat) : ∀ x ∈ Es_relations_Set_each_v2 n, EntOK Tryd.prog x := by
  intro x hx
  simp only [Es_relations_Set_each_v2, List.mem_cons, List.not_mem_nil, or_false] at hx
  rcases hx with hx | hx | hx
  · rw [hx]; exact ok_relations_Set_right n
  · rw [hx]; exact ok_relations_Set_List n
  · rw [hx]; exact ok_relations_Mirror n
noncomputable def an_relations_Set_each_v2_l0 : Ann := ⟨[1, 6, 15, 16, 17], [0], 1, []⟩
noncomputable def emb_relations_Set_each_v2_l0 (x : Int × Nat × Nat × Int × Int × List (Int)) : St := ⟨[(1, some (.fn 17 [])), (6, some (.i .u16 x.1)), (15, some (.rs 1 0 0 x.2.1 (some x.2.2.1))), (16, some (.i .i64 x.2.2.2.1)), (17, some (.i .i64 x.2.2.2.2.1))], [(0, .rows [.i .u8] x.2.2.2.2.2)], 1, 0, 0, 0⟩
noncomputable def un_relations_Set_each_v2_l0 (s : St) : Option (Int × Nat × Nat × Int × Int × List (Int)) := match s with
  | ⟨[(1, some (.fn 17 [])), (6, some (.i .u16 x0)), (15, some (.rs 1 0 0 x1 (some x2))), (16, some (.i .i64 x3)), (17, some (.i .i64 x4))], [(0, .rows [.i .u8] x5)], 1, 0, 0, 0⟩ => some (x0, x1, x2, x3, x4, x5)
  | _ => none
theorem un_ok_relations_Set_each_v2_l0 : ∀ s x, un_relations_Set_each_v2_l0 s = some x → s = emb_relations_Set_each_v2_l0 x := by
  intro s x h
  unfold un_relations_Set_each_v2_l0 at h
  split at h
  · cases h; rfl
  · cases h
noncomputable def ax_relations_Set_each_v2_l0 : Ex → Ann := fun ex => match ex with
  | .exit 0 => ⟨[6], [], 1, []⟩
  | _ => ⟨[], [], 0, []⟩
noncomputable def out_relations_Set_each_v2_l0 (y : Int) : Ex × St := (.exit 0, ⟨[(6, some (.i .u16 y))], [], 1, 0, 0, 0⟩)
noncomputable def outK_relations_Set_each_v2_l0 (α : Type) (y : Int) (k : Ex → St → Option α) : Option α := (k (.exit 0) ⟨[(6, some (.i .u16 y))], [], 1, 0, 0, 0⟩)
theorem outK_ok_relations_Set_each_v2_l0 : ∀ α y k, outK_relations_Set_each_v2_l0 α y k = k (out_relations_Set_each_v2_l0 y).1 (out_relations_Set_each_v2_l0 y).2 := by
  intro α y k
  rfl
noncomputable def ux_relations_Set_each_v2_l0 (ex : Ex) (s : St) : Option (Int) := match ex, s with
  | .exit 0, ⟨[(6, some (.i .u16 y0))], [], 1, 0, 0, 0⟩ => some y0
  | _, _ => none
theorem ux_ok_relations_Set_each_v2_l0 : ∀ ex s y, ux_relations_Set_each_v2_l0 ex s = some y → (ex, s) = out_relations_Set_each_v2_l0 y := by
  intro ex s y h
  unfold ux_relations_Set_each_v2_l0 at h
  split at h
  · cases h; rfl
  · cases h
noncomputable def Ls_relations_Set_each_v2 (n : Nat) : List Sub := [subE 0 an_relations_Set_each_v2_l0 un_relations_Set_each_v2_l0 (fun x => iterL (relations_Set_each_v2_l0 n) n x) outK_relations_Set_each_v2_l0]
noncomputable def sac_relations_Set_each_v2_l0 : AC := getS (subs (acOf Tryd.f46)) 0
noncomputable def ac_relations_Set_each_v2_l0 : AC := AC.body sac_relations_Set_each_v2_l0
theorem subs_relations_Set_each_v2_l0 (n : Nat) : SubOK Tryd.prog 33 (Ls_relations_Set_each_v2 n) ac_relations_Set_each_v2_l0 := SubOK_of _ (by
  have e : subs ac_relations_Set_each_v2_l0 = [] := by kernel_rfl
  rw [e]; intro p hp; cases hp)
theorem body_relations_Set_each_v2_l0 (n : Nat) : ∀ x, run Tryd.prog (Es_relations_Set_each_v2 n) (Ls_relations_Set_each_v2 n) 33 ac_relations_Set_each_v2_l0 (emb_relations_Set_each_v2_l0 x) (roundK an_relations_Set_each_v2_l0 un_relations_Set_each_v2_l0 ax_relations_Set_each_v2_l0 ux_relations_Set_each_v2_l0) = relations_Set_each_v2_l0 n x := fun _ => by kernel_rfl
theorem sub1_relations_Set_each_v2_l0 (n : Nat) : ∀ (α : Type) (s : St) (k : Ex → St → Option α) (z : α), (subE 0 an_relations_Set_each_v2_l0 un_relations_Set_each_v2_l0 (fun x => iterL (relations_Set_each_v2_l0 n) n x) outK_relations_Set_each_v2_l0).e α s k = some z → SemC Tryd.prog 33 (sac_relations_Set_each_v2_l0).code s fun ex s' => k ex s' = some z := by
  intro α s k z h
  have e : sac_relations_Set_each_v2_l0 = .loop ac_relations_Set_each_v2_l0 := by kernel_rfl
  rw [e]
  exact subE_ok (m := 0) (f := fun x => iterL (relations_Set_each_v2_l0 n) n x) (out := out_relations_Set_each_v2_l0) outK_ok_relations_Set_each_v2_l0 un_ok_relations_Set_each_v2_l0 (fun x y hy => loop_ok (Es_ok_relations_Set_each_v2 n) (subs_relations_Set_each_v2_l0 n) un_ok_relations_Set_each_v2_l0 ux_ok_relations_Set_each_v2_l0 (body_relations_Set_each_v2_l0 n) n x y hy) h
theorem sub_relations_Set_each_v2_l0 (n : Nat) : SubSt Tryd.prog 33 (Ls_relations_Set_each_v2 n) 0 sac_relations_Set_each_v2_l0 := fun α s k z => sub1_relations_Set_each_v2_l0 n α s k z
theorem subs_relations_Set_each_v2 (n : Nat) : SubOK Tryd.prog 33 (Ls_relations_Set_each_v2 n) (acOf Tryd.f46) := SubOK_of _ (by
  have e : subs (acOf Tryd.f46) = [(0, sac_relations_Set_each_v2_l0)] := by kernel_rfl
  rw [e]; intro p hp
  simp only [List.mem_cons, List.not_mem_nil, or_false] at hp
  · rw [hp]; exact sub_relations_Set_each_v2_l0 n
  )
theorem cert_relations_Set_each_v2 (n : Nat) (a0 : Int) : run Tryd.prog (Es_relations_Set_each_v2 n) (Ls_relations_Set_each_v2 n) Tryd.f46.ntmps (acOf Tryd.f46) ⟨argsT [.i .u16 a0, .fn 17 []] 0, [], 0, 0, 0, 0⟩ (finK Tryd.prog Tryd.f46.results.toList (retX unr_relations_Set_each_v2)) = relations_Set_each_v2 n a0 := by kernel_rfl
theorem pure_relations_Set_each_v2 (n : Nat) : ∀ a r, relations_Set_each_v2 n a = some r → PureOK Tryd.prog 46 (arg_relations_Set_each_v2 a) (enc_relations_Set_each_v2 r) := fun a r h => pureX_ok unr_ok_relations_Set_each_v2 (Es_ok_relations_Set_each_v2 n) Tryd.func46 rfl (acOf_code _) (subs_relations_Set_each_v2 n) rfl ((cert_relations_Set_each_v2 n a).trans h)
theorem ok_relations_Set_each_v2 (n : Nat) : EntOK Tryd.prog (e_relations_Set_each_v2 n) := pureE_ok Tryd.call46 una_ok_relations_Set_each_v2 (fun _ => rfl) (pure_relations_Set_each_v2 n)

/-! (circa/relations.Set).Mirror -/
noncomputable def arg_relations_Set_Mirror (a : Int) : List V := [.i .u16 a]
noncomputable def una_relations_Set_Mirror (l : List V) : Option (Int) := match l with
  | [.i .u16 a0] => some a0
  | _ => none
theorem una_ok_relations_Set_Mirror : ∀ l a, una_relations_Set_Mirror l = some a → l = arg_relations_Set_Mirror a := by
  intro l a h
  unfold una_relations_Set_Mirror at h
  split at h
  · cases h; rfl
  · cases h
noncomputable def enc_relations_Set_Mirror (r : Int × Int) : V := .tp [.i .u16 r.1, .i .i64 r.2]
noncomputable def unr_relations_Set_Mirror (v : V) : Option (Int × Int) := match v with
  | .tp [.i .u16 r0, .i .i64 r1] => some (r0, r1)
  | _ => none
theorem unr_ok_relations_Set_Mirror : ∀ v r, unr_relations_Set_Mirror v = some r → v = enc_relations_Set_Mirror r := by
  intro v r h
  unfold unr_relations_Set_Mirror at h
  split at h
  · cases h; rfl
  · cases h
noncomputable def e_relations_Set_Mirror (n : Nat) : Ent := pureE 29 una_relations_Set_Mirror (fun a => relations_Set_Mirror n a) enc_relations_Set_Mirror
noncomputable def t_relations_Set_Mirror (l : List V) (_ : List (Nat × Blk)) : Bool := isS (una_relations_Set_Mirror l)
noncomputable def Es_relations_Set_Mirror (n : Nat) : List Ent := [e_relations_Set_each_v2 n]
theorem Es_ok_relations_Set_Mirror (n : Nat) : ∀ x ∈ Es_relations_Set_Mirror n, EntOK Tryd.prog x := by
  intro x hx
  simp only [Es_relations_Set_Mirror, List.mem_cons, List.not_mem_nil, or_false] at hx
  · rw [hx]; exact ok_relations_Set_each_v2 n
noncomputable def Ls_relations_Set_Mirror (_n : Nat) : List Sub := []
theorem subs_relations_Set_Mirror (n : Nat) : SubOK Tryd.prog 8 (Ls_relations_Set_Mirror n) (acOf Tryd.f29) := SubOK_of _ (by
  have e : subs (acOf Tryd.f29) = [] := by kernel_rfl
  rw [e]; intro p hp; cases hp)
theorem cert_relations_Set_Mirror (n : Nat) (a0 : Int) : run Tryd.prog (Es_relations_Set_Mirror n) (Ls_relations_Set_Mirror n) Tryd.f29.ntmps (acOf Tryd.f29) ⟨argsT [.i .u16 a0] 0, [], 0, 0, 0, 0⟩ (finK Tryd.prog Tryd.f29.results.toList (retX unr_relations_Set_Mirror)) = relations_Set_Mirror n a0 := by kernel_rfl
theorem pure_relations_Set_Mirror (n : Nat) : ∀ a r, relations_Set_Mirror n a = some r → PureOK Tryd.prog 29 (arg_relations_Set_Mirror a) (enc_relations_Set_Mirror r) := fun a r h => pureX_ok unr_ok_relations_Set_Mirror (Es_ok_relations_Set_Mirror n) Tryd.func29 rfl (acOf_code _) (subs_relations_Set_Mirror n) rfl ((cert_relations_Set_Mirror n a).trans h)
theorem ok_relations_Set_Mirror (n : Nat) : EntOK Tryd.prog (e_relations_Set_Mirror n) := pureE_ok Tryd.call29 una_ok_relations_Set_Mirror (fun _ => rfl) (pure_relations_Set_Mirror n)

/-! (circa/relations.Set).Compose -/
noncomputable def arg_relations_Set_Compose (a : Int × Int) : List V := [.i .u16 a.1, .i .u16 a.2]
noncomputable def una_relations_Set_Compose (l : List V) : Option (Int × Int) := match l with
  | [.i .u16 a0, .i .u16 a1] => some (a0, a1)
  | _ => none
theorem una_ok_relations_Set_Compose : ∀ l a, una_relations_Set_Compose l = some a → l = arg_relations_Set_Compose a := by
  intro l a h
  unfold una_relations_Set_Compose at h
  split at h
  · cases h; rfl
  · cases h
noncomputable def enc_relations_Set_Compose (r : Int × Int) : V := .tp [.i .u16 r.1, .i .i64 r.2]
noncomputable def unr_relations_Set_Compose (v : V) : Option (Int × Int) := match v with
  | .tp [.i .u16 r0, .i .i64 r1] => some (r0, r1)
  | _ => none
theorem unr_ok_relations_Set_Compose : ∀ v r, unr_relations_Set_Compose v = some r → v = enc_relations_Set_Compose r := by
  intro v r h
  unfold unr_relations_Set_Compose at h
  split at h
  · cases h; rfl
  · cases h
noncomputable def e_relations_Set_Compose (n : Nat) : Ent := pureE 30 una_relations_Set_Compose (fun a => relations_Set_Compose n a.1 a.2) enc_relations_Set_Compose
noncomputable def t_relations_Set_Compose (l : List V) (_ : List (Nat × Blk)) : Bool := isS (una_relations_Set_Compose l)
noncomputable def Es_relations_Set_Compose (n : Nat) : List Ent := [e_relations_Set_right n, e_relations_Set_List n, e_relations_compose n]
theorem Es_ok_relations_Set_Compose (n : Nat) : ∀ x ∈ Es_relations_Set_Compose n, EntOK Tryd.prog x := by
  intro x hx
  simp only [Es_relations_Set_Compose, List.mem_cons, List.not_mem_nil, or_false] at hx
  rcases hx with hx | hx | hx
  · rw [hx]; exact ok_relations_Set_right n
  · rw [hx]; exact ok_relations_Set_List n
  · rw [hx]; exact ok_relations_compose n
noncomputable def an_relations_Set_Compose_l1 : Ann := ⟨[1, 6, 8, 20, 21, 22, 27, 28, 29], [0, 1], 2, []⟩
noncomputable def emb_relations_Set_Compose_l1 (x : Int × Int × Int × Nat × Nat × Int × Int × Nat × Nat × Int × Int × List (Int) × List (Int)) : St := ⟨[(1, some (.i .u16 x.1)), (6, some (.i .u16 x.2.1)), (8, some (.i .u8 x.2.2.1)), (20, some (.rs 1 0 0 x.2.2.2.1 (some x.2.2.2.2.1))), (21, some (.i .i64 x.2.2.2.2.2.1)), (22, some (.i .i64 x.2.2.2.2.2.2.1)), (27, some (.rs 1 1 0 x.2.2.2.2.2.2.2.1 (some x.2.2.2.2.2.2.2.2.1))), (28, some (.i .i64 x.2.2.2.2.2.2.2.2.2.1)), (29, some (.i .i64 x.2.2.2.2.2.2.2.2.2.2.1))], [(0, .rows [.i .u8] x.2.2.2.2.2.2.2.2.2.2.2.1), (1, .rows [.i .u8] x.2.2.2.2.2.2.2.2.2.2.2.2)], 2, 0, 0, 0⟩
noncomputable def un_relations_Set_Compose_l1 (s : St) : Option (Int × Int × Int × Nat × Nat × Int × Int × Nat × Nat × Int × Int × List (Int) × List (Int)) := match s with
  | ⟨[(1, some (.i .u16 x0)), (6, some (.i .u16 x1)), (8, some (.i .u8 x2)), (20, some (.rs 1 0 0 x3 (some x4))), (21, some (.i .i64 x5)), (22, some (.i .i64 x6)), (27, some (.rs 1 1 0 x7 (some x8))), (28, some (.i .i64 x9)), (29, some (.i .i64 x10))], [(0, .rows [.i .u8] x11), (1, .rows [.i .u8] x12)], 2, 0, 0, 0⟩ => some (x0, x1, x2, x3, x4, x5, x6, x7, x8, x9, x10, x11, x12)
  | _ => none
theorem un_ok_relations_Set_Compose_l1 : ∀ s x, un_relations_Set_Compose_l1 s = some x → s = emb_relations_Set_Compose_l1 x := by
  intro s x h
  unfold un_relations_Set_Compose_l1 at h
  split at h
  · cases h; rfl
  · cases h
noncomputable def ax_relations_Set_Compose_l1 : Ex → Ann := fun ex => match ex with
  | .exit 2 => ⟨[1, 6, 20, 21, 22], [0], 2, []⟩
  | _ => ⟨[], [], 0, []⟩
noncomputable def out_relations_Set_Compose_l1 (y : (Int × Int × Nat × Nat × Int × Int × List (Int))) : Ex × St := (.exit 2, ⟨[(1, some (.i .u16 y.1)), (6, some (.i .u16 y.2.1)), (20, some (.rs 1 0 0 y.2.2.1 (some y.2.2.2.1))), (21, some (.i .i64 y.2.2.2.2.1)), (22, some (.i .i64 y.2.2.2.2.2.1))], [(0, .rows [.i .u8] y.2.2.2.2.2.2)], 2, 0, 0, 0⟩)
noncomputable def outK_relations_Set_Compose_l1 (α : Type) (y : (Int × Int × Nat × Nat × Int × Int × List (Int))) (k : Ex → St → Option α) : Option α := (k (.exit 2) ⟨[(1, some (.i .u16 y.1)), (6, some (.i .u16 y.2.1)), (20, some (.rs 1 0 0 y.2.2.1 (some y.2.2.2.1))), (21, some (.i .i64 y.2.2.2.2.1)), (22, some (.i .i64 y.2.2.2.2.2.1))], [(0, .rows [.i .u8] y.2.2.2.2.2.2)], 2, 0, 0, 0⟩)
theorem outK_ok_relations_Set_Compose_l1 : ∀ α y k, outK_relations_Set_Compose_l1 α y k = k (out_relations_Set_Compose_l1 y).1 (out_relations_Set_Compose_l1 y).2 := by
  intro α y k
  rfl
noncomputable def ux_relations_Set_Compose_l1 (ex : Ex) (s : St) : Option ((Int × Int × Nat × Nat × Int × Int × List (Int))) := match ex, s with
  | .exit 2, ⟨[(1, some (.i .u16 y0)), (6, some (.i .u16 y1)), (20, some (.rs 1 0 0 y2 (some y3))), (21, some (.i .i64 y4)), (22, some (.i .i64 y5))], [(0, .rows [.i .u8] y6)], 2, 0, 0, 0⟩ => some (y0, y1, y2, y3, y4, y5, y6)
  | _, _ => none
theorem ux_ok_relations_Set_Compose_l1 : ∀ ex s y, ux_relations_Set_Compose_l1 ex s = some y → (ex, s) = out_relations_Set_Compose_l1 y := by
  intro ex s y h
  unfold ux_relations_Set_Compose_l1 at h
  split at h
  · cases h; rfl
  · cases h
noncomputable def an_relations_Set_Compose_l0 : Ann := ⟨[1, 6, 20, 21, 22], [0], 1, []⟩
noncomputable def emb_relations_Set_Compose_l0 (x : Int × Int × Nat × Nat × Int × Int × List (Int)) : St := ⟨[(1, some (.i .u16 x.1)), (6, some (.i .u16 x.2.1)), (20, some (.rs 1 0 0 x.2.2.1 (some x.2.2.2.1))), (21, some (.i .i64 x.2.2.2.2.1)), (22, some (.i .i64 x.2.2.2.2.2.1))], [(0, .rows [.i .u8] x.2.2.2.2.2.2)], 1, 0, 0, 0⟩
noncomputable def un_relations_Set_Compose_l0 (s : St) : Option (Int × Int × Nat × Nat × Int × Int × List (Int)) := match s with
  | ⟨[(1, some (.i .u16 x0)), (6, some (.i .u16 x1)), (20, some (.rs 1 0 0 x2 (some x3))), (21, some (.i .i64 x4)), (22, some (.i .i64 x5))], [(0, .rows [.i .u8] x6)], 1, 0, 0, 0⟩ => some (x0, x1, x2, x3, x4, x5, x6)
  | _ => none
theorem un_ok_relations_Set_Compose_l0 : ∀ s x, un_relations_Set_Compose_l0 s = some x → s = emb_relations_Set_Compose_l0 x := by
  intro s x h
  unfold un_relations_Set_Compose_l0 at h
  split at h
  · cases h; rfl
  · cases h
noncomputable def ax_relations_Set_Compose_l0 : Ex → Ann := fun ex => match ex with
  | .exit 0 => ⟨[6], [], 1, []⟩
  | _ => ⟨[], [], 0, []⟩
noncomputable def out_relations_Set_Compose_l0 (y : Int) : Ex × St := (.exit 0, ⟨[(6, some (.i .u16 y))], [], 1, 0, 0, 0⟩)
noncomputable def outK_relations_Set_Compose_l0 (α : Type) (y : Int) (k : Ex → St → Option α) : Option α := (k (.exit 0) ⟨[(6, some (.i .u16 y))], [], 1, 0, 0, 0⟩)
theorem outK_ok_relations_Set_Compose_l0 : ∀ α y k, outK_relations_Set_Compose_l0 α y k = k (out_relations_Set_Compose_l0 y).1 (out_relations_Set_Compose_l0 y).2 := by
  intro α y k
  rfl
noncomputable def ux_relations_Set_Compose_l0 (ex : Ex) (s : St) : Option (Int) := match ex, s with
  | .exit 0, ⟨[(6, some (.i .u16 y0))], [], 1, 0, 0, 0⟩ => some y0
  | _, _ => none
theorem ux_ok_relations_Set_Compose_l0 : ∀ ex s y, ux_relations_Set_Compose_l0 ex s = some y → (ex, s) = out_relations_Set_Compose_l0 y := by
  intro ex s y h
  unfold ux_relations_Set_Compose_l0 at h
  split at h
  · cases h; rfl
  · cases h
noncomputable def Ls_relations_Set_Compose (n : Nat) : List Sub := [subE 1 an_relations_Set_Compose_l1 un_relations_Set_Compose_l1 (fun x => iterL (relations_Set_Compose_l1 n) n x) outK_relations_Set_Compose_l1, subE 0 an_relations_Set_Compose_l0 un_relations_Set_Compose_l0 (fun x => iterL (relations_Set_Compose_l0 n) n x) outK_relations_Set_Compose_l0]
noncomputable def sac_relations_Set_Compose_l0 : AC := getS (subs (acOf Tryd.f30)) 0
noncomputable def ac_relations_Set_Compose_l0 : AC := AC.body sac_relations_Set_Compose_l0
noncomputable def sac_relations_Set_Compose_l1 : AC := getS (subs ac_relations_Set_Compose_l0) 1
noncomputable def ac_relations_Set_Compose_l1 : AC := AC.body sac_relations_Set_Compose_l1
theorem subs_relations_Set_Compose_l1 (n : Nat) : SubOK Tryd.prog 41 (Ls_relations_Set_Compose n) ac_relations_Set_Compose_l1 := SubOK_of _ (by
  have e : subs ac_relations_Set_Compose_l1 = [] := by kernel_rfl
  rw [e]; intro p hp; cases hp)
theorem body_relations_Set_Compose_l1 (n : Nat) : ∀ x, run Tryd.prog (Es_relations_Set_Compose n) (Ls_relations_Set_Compose n) 41 ac_relations_Set_Compose_l1 (emb_relations_Set_Compose_l1 x) (roundK an_relations_Set_Compose_l1 un_relations_Set_Compose_l1 ax_relations_Set_Compose_l1 ux_relations_Set_Compose_l1) = relations_Set_Compose_l1 n x := fun _ => by kernel_rfl
theorem sub1_relations_Set_Compose_l1 (n : Nat) : ∀ (α : Type) (s : St) (k : Ex → St → Option α) (z : α), (subE 1 an_relations_Set_Compose_l1 un_relations_Set_Compose_l1 (fun x => iterL (relations_Set_Compose_l1 n) n x) outK_relations_Set_Compose_l1).e α s k = some z → SemC Tryd.prog 41 (sac_relations_Set_Compose_l1).code s fun ex s' => k ex s' = some z := by
  intro α s k z h
  have e : sac_relations_Set_Compose_l1 = .loop ac_relations_Set_Compose_l1 := by kernel_rfl
  rw [e]
  exact subE_ok (m := 1) (f := fun x => iterL (relations_Set_Compose_l1 n) n x) (out := out_relations_Set_Compose_l1) outK_ok_relations_Set_Compose_l1 un_ok_relations_Set_Compose_l1 (fun x y hy => loop_ok (Es_ok_relations_Set_Compose n) (subs_relations_Set_Compose_l1 n) un_ok_relations_Set_Compose_l1 ux_ok_relations_Set_Compose_l1 (body_relations_Set_Compose_l1 n) n x y hy) h
theorem sub_relations_Set_Compose_l1 (n : Nat) : SubSt Tryd.prog 41 (Ls_relations_Set_Compose n) 1 sac_relations_Set_Compose_l1 := fun α s k z => sub1_relations_Set_Compose_l1 n α s k z
theorem subs_relations_Set_Compose_l0 (n : Nat) : SubOK Tryd.prog 41 (Ls_relations_Set_Compose n) ac_relations_Set_Compose_l0 := SubOK_of _ (by
  have e : subs ac_relations_Set_Compose_l0 = [(1, sac_relations_Set_Compose_l1)] := by kernel_rfl
  rw [e]; intro p hp
  simp only [List.mem_cons, List.not_mem_nil, or_false] at hp
  · rw [hp]; exact sub_relations_Set_Compose_l1 n
  )
theorem body_relations_Set_Compose_l0 (n : Nat) : ∀ x, run Tryd.prog (Es_relations_Set_Compose n) (Ls_relations_Set_Compose n) 41 ac_relations_Set_Compose_l0 (emb_relations_Set_Compose_l0 x) (roundK an_relations_Set_Compose_l0 un_relations_Set_Compose_l0 ax_relations_Set_Compose_l0 ux_relations_Set_Compose_l0) = relations_Set_Compose_l0 n x := fun _ => by kernel_rfl
theorem sub1_relations_Set_Compose_l0 (n : Nat) : ∀ (α : Type) (s : St) (k : Ex → St → Option α) (z : α), (subE 0 an_relations_Set_Compose_l0 un_relations_Set_Compose_l0 (fun x => iterL (relations_Set_Compose_l0 n) n x) outK_relations_Set_Compose_l0).e α s k = some z → SemC Tryd.prog 41 (sac_relations_Set_Compose_l0).code s fun ex s' => k ex s' = some z := by
  intro α s k z h
  have e : sac_relations_Set_Compose_l0 = .loop ac_relations_Set_Compose_l0 := by kernel_rfl
  rw [e]
  exact subE_ok (m := 0) (f := fun x => iterL (relations_Set_Compose_l0 n) n x) (out := out_relations_Set_Compose_l0) outK_ok_relations_Set_Compose_l0 un_ok_relations_Set_Compose_l0 (fun x y hy => loop_ok (Es_ok_relations_Set_Compose n) (subs_relations_Set_Compose_l0 n) un_ok_relations_Set_Compose_l0 ux_ok_relations_Set_Compose_l0 (body_relations_Set_Compose_l0 n) n x y hy) h
theorem sub_relations_Set_Compose_l0 (n : Nat) : SubSt Tryd.prog 41 (Ls_relations_Set_Compose n) 0 sac_relations_Set_Compose_l0 := fun α s k z => sub1_relations_Set_Compose_l0 n α s k z
theorem subs_relations_Set_Compose (n : Nat) : SubOK Tryd.prog 41 (Ls_relations_Set_Compose n) (acOf Tryd.f30) := SubOK_of _ (by
  have e : subs (acOf Tryd.f30) = [(0, sac_relations_Set_Compose_l0)] := by kernel_rfl
  rw [e]; intro p hp
  simp only [List.mem_cons, List.not_mem_nil, or_false] at hp
  · rw [hp]; exact sub_relations_Set_Compose_l0 n
  )
theorem cert_relations_Set_Compose (n : Nat) (a0 : Int) (a1 : Int) : run Tryd.prog (Es_relations_Set_Compose n) (Ls_relations_Set_Compose n) Tryd.f30.ntmps (acOf Tryd.f30) ⟨argsT [.i .u16 a0, .i .u16 a1] 0, [], 0, 0, 0, 0⟩ (finK Tryd.prog Tryd.f30.results.toList (retX unr_relations_Set_Compose)) = relations_Set_Compose n a0 a1 := by kernel_rfl
theorem pure_relations_Set_Compose (n : Nat) : ∀ a r, relations_Set_Compose n a.1 a.2 = some r → PureOK Tryd.prog 30 (arg_relations_Set_Compose a) (enc_relations_Set_Compose r) := fun a r h => pureX_ok unr_ok_relations_Set_Compose (Es_ok_relations_Set_Compose n) Tryd.func30 rfl (acOf_code _) (subs_relations_Set_Compose n) rfl ((cert_relations_Set_Compose n a.1 a.2).trans h)
theorem ok_relations_Set_Compose (n : Nat) : EntOK Tryd.prog (e_relations_Set_Compose n) := pureE_ok Tryd.call30 una_ok_relations_Set_Compose (fun _ => rfl) (pure_relations_Set_Compose n)

/-! circa/circalaw31.RelationsSets -/
noncomputable def arg_circalaw31_RelationsSets (a : Int × Int) : List V := [.i .u16 a.1, .i .u16 a.2]
noncomputable def una_circalaw31_RelationsSets (l : List V) : Option (Int × Int) := match l with
  | [.i .u16 a0, .i .u16 a1] => some (a0, a1)
  | _ => none
theorem una_ok_circalaw31_RelationsSets : ∀ l a, una_circalaw31_RelationsSets l = some a → l = arg_circalaw31_RelationsSets a := by
  intro l a h
  unfold una_circalaw31_RelationsSets at h
  split at h
  · cases h; rfl
  · cases h
noncomputable def enc_circalaw31_RelationsSets (r : Bool) : V := .b r
noncomputable def unr_circalaw31_RelationsSets (v : V) : Option (Bool) := match v with
  | .b r0 => some r0
  | _ => none
theorem unr_ok_circalaw31_RelationsSets : ∀ v r, unr_circalaw31_RelationsSets v = some r → v = enc_circalaw31_RelationsSets r := by
  intro v r h
  unfold unr_circalaw31_RelationsSets at h
  split at h
  · cases h; rfl
  · cases h
noncomputable def e_circalaw31_RelationsSets (n : Nat) : Ent := pureE 7 una_circalaw31_RelationsSets (fun a => circalaw31_RelationsSets n a.1 a.2) enc_circalaw31_RelationsSets
noncomputable def t_circalaw31_RelationsSets (l : List V) (_ : List (Nat × Blk)) : Bool := isS (una_circalaw31_RelationsSets l)
noncomputable def Es_circalaw31_RelationsSets (n : Nat) : List Ent := [e_relations_Set_List n, e_relations_Set_Has n, e_circaref31_Has n, e_relations_Set_Count n, e_relations_Set_Converse n, e_relations_Set_Mirror n, e_relations_Set_Compose n, e_circalaw31_lives n, e_relations_Compose n]
theorem Es_ok_circalaw31_RelationsSets (n : Nat) : ∀ x ∈ Es_circalaw31_RelationsSets n, EntOK Tryd.prog x := by
  intro x hx
  simp only [Es_circalaw31_RelationsSets, List.mem_cons, List.not_mem_nil, or_false] at hx
  rcases hx with hx | hx | hx | hx | hx | hx | hx | hx | hx
  · rw [hx]; exact ok_relations_Set_List n
  · rw [hx]; exact ok_relations_Set_Has n
  · rw [hx]; exact ok_circaref31_Has n
  · rw [hx]; exact ok_relations_Set_Count n
  · rw [hx]; exact ok_relations_Set_Converse n
  · rw [hx]; exact ok_relations_Set_Mirror n
  · rw [hx]; exact ok_relations_Set_Compose n
  · rw [hx]; exact ok_circalaw31_lives n
  · rw [hx]; exact ok_relations_Compose n
noncomputable def an_circalaw31_RelationsSets_l0 : Ann := ⟨[0, 1, 5, 6, 7, 8, 9], [0], 1, []⟩
noncomputable def emb_circalaw31_RelationsSets_l0 (x : Int × Int × Int × Int × Nat × Nat × Int × Int × List (Int)) : St := ⟨[(0, some (.i .u16 x.1)), (1, some (.i .u16 x.2.1)), (5, some (.i .u16 x.2.2.1)), (6, some (.i .u16 x.2.2.2.1)), (7, some (.rs 1 0 0 x.2.2.2.2.1 (some x.2.2.2.2.2.1))), (8, some (.i .i64 x.2.2.2.2.2.2.1)), (9, some (.i .i64 x.2.2.2.2.2.2.2.1))], [(0, .rows [.i .u8] x.2.2.2.2.2.2.2.2)], 1, 0, 0, 0⟩
noncomputable def un_circalaw31_RelationsSets_l0 (s : St) : Option (Int × Int × Int × Int × Nat × Nat × Int × Int × List (Int)) := match s with
  | ⟨[(0, some (.i .u16 x0)), (1, some (.i .u16 x1)), (5, some (.i .u16 x2)), (6, some (.i .u16 x3)), (7, some (.rs 1 0 0 x4 (some x5))), (8, some (.i .i64 x6)), (9, some (.i .i64 x7))], [(0, .rows [.i .u8] x8)], 1, 0, 0, 0⟩ => some (x0, x1, x2, x3, x4, x5, x6, x7, x8)
  | _ => none
theorem un_ok_circalaw31_RelationsSets_l0 : ∀ s x, un_circalaw31_RelationsSets_l0 s = some x → s = emb_circalaw31_RelationsSets_l0 x := by
  intro s x h
  unfold un_circalaw31_RelationsSets_l0 at h
  split at h
  · cases h; rfl
  · cases h
noncomputable def ax_circalaw31_RelationsSets_l0 : Ex → Ann := fun ex => match ex with
  | .ret => ⟨[4], [], 1, []⟩
  | .exit 0 => ⟨[0, 1, 5, 6, 7, 8], [0], 1, []⟩
  | _ => ⟨[], [], 0, []⟩
noncomputable def out_circalaw31_RelationsSets_l0 (y : Bool ⊕ (Int × Int × Int × Int × Nat × Nat × Int × List (Int))) : Ex × St := (Sum.casesOn (motive := fun _ => Ex × St) y (fun a0 => (.ret, ⟨[(4, some (.b a0))], [], 1, 0, 0, 0⟩)) (fun b0 => (.exit 0, ⟨[(0, some (.i .u16 b0.1)), (1, some (.i .u16 b0.2.1)), (5, some (.i .u16 b0.2.2.1)), (6, some (.i .u16 b0.2.2.2.1)), (7, some (.rs 1 0 0 b0.2.2.2.2.1 (some b0.2.2.2.2.2.1))), (8, some (.i .i64 b0.2.2.2.2.2.2.1))], [(0, .rows [.i .u8] b0.2.2.2.2.2.2.2)], 1, 0, 0, 0⟩)))
noncomputable def outK_circalaw31_RelationsSets_l0 (α : Type) (y : Bool ⊕ (Int × Int × Int × Int × Nat × Nat × Int × List (Int))) (k : Ex → St → Option α) : Option α := (Sum.casesOn (motive := fun _ => Option α) y (fun a0 => (k (.ret) ⟨[(4, some (.b a0))], [], 1, 0, 0, 0⟩)) (fun b0 => (k (.exit 0) ⟨[(0, some (.i .u16 b0.1)), (1, some (.i .u16 b0.2.1)), (5, some (.i .u16 b0.2.2.1)), (6, some (.i .u16 b0.2.2.2.1)), (7, some (.rs 1 0 0 b0.2.2.2.2.1 (some b0.2.2.2.2.2.1))), (8, some (.i .i64 b0.2.2.2.2.2.2.1))], [(0, .rows [.i .u8] b0.2.2.2.2.2.2.2)], 1, 0, 0, 0⟩)))
theorem outK_ok_circalaw31_RelationsSets_l0 : ∀ α y k, outK_circalaw31_RelationsSets_l0 α y k = k (out_circalaw31_RelationsSets_l0 y).1 (out_circalaw31_RelationsSets_l0 y).2 := by
  intro α y k
  rcases y with y | y <;> rfl
noncomputable def ux_circalaw31_RelationsSets_l0 (ex : Ex) (s : St) : Option (Bool ⊕ (Int × Int × Int × Int × Nat × Nat × Int × List (Int))) := match ex, s with
  | .ret, ⟨[(4, some (.b y0))], [], 1, 0, 0, 0⟩ => some (.inl y0)
  | .exit 0, ⟨[(0, some (.i .u16 y0)), (1, some (.i .u16 y1)), (5, some (.i .u16 y2)), (6, some (.i .u16 y3)), (7, some (.rs 1 0 0 y4 (some y5))), (8, some (.i .i64 y6))], [(0, .rows [.i .u8] y7)], 1, 0, 0, 0⟩ => some (.inr (y0, y1, y2, y3, y4, y5, y6, y7))
  | _, _ => none
theorem ux_ok_circalaw31_RelationsSets_l0 : ∀ ex s y, ux_circalaw31_RelationsSets_l0 ex s = some y → (ex, s) = out_circalaw31_RelationsSets_l0 y := by
  intro ex s y h
  unfold ux_circalaw31_RelationsSets_l0 at h
  split at h
  · cases h; rfl
  · cases h; rfl
  · cases h
noncomputable def an_circalaw31_RelationsSets_l2 : Ann := ⟨[5, 6, 10, 14, 15, 18, 19, 20], [], 1, []⟩
noncomputable def emb_circalaw31_RelationsSets_l2 (x : Int × Int × Int × Int × Int × Int × Int × Int) : St := ⟨[(5, some (.i .u16 x.1)), (6, some (.i .u16 x.2.1)), (10, some (.i .u16 x.2.2.1)), (14, some (.i .u16 x.2.2.2.1)), (15, some (.i .i64 x.2.2.2.2.1)), (18, some (.i .u16 x.2.2.2.2.2.1)), (19, some (.i .i64 x.2.2.2.2.2.2.1)), (20, some (.i .i64 x.2.2.2.2.2.2.2))], [], 1, 0, 0, 0⟩
noncomputable def un_circalaw31_RelationsSets_l2 (s : St) : Option (Int × Int × Int × Int × Int × Int × Int × Int) := match s with
  | ⟨[(5, some (.i .u16 x0)), (6, some (.i .u16 x1)), (10, some (.i .u16 x2)), (14, some (.i .u16 x3)), (15, some (.i .i64 x4)), (18, some (.i .u16 x5)), (19, some (.i .i64 x6)), (20, some (.i .i64 x7))], [], 1, 0, 0, 0⟩ => some (x0, x1, x2, x3, x4, x5, x6, x7)
  | _ => none
theorem un_ok_circalaw31_RelationsSets_l2 : ∀ s x, un_circalaw31_RelationsSets_l2 s = some x → s = emb_circalaw31_RelationsSets_l2 x := by
  intro s x h
  unfold un_circalaw31_RelationsSets_l2 at h
  split at h
  · cases h; rfl
  · cases h
noncomputable def ax_circalaw31_RelationsSets_l2 : Ex → Ann := fun ex => match ex with
  | .ret => ⟨[4], [], 1, []⟩
  | .exit 4 => ⟨[5, 6, 10, 14, 15, 18, 19], [], 1, []⟩
  | _ => ⟨[], [], 0, []⟩
noncomputable def out_circalaw31_RelationsSets_l2 (y : Bool ⊕ (Int × Int × Int × Int × Int × Int × Int)) : Ex × St := (Sum.casesOn (motive := fun _ => Ex × St) y (fun a0 => (.ret, ⟨[(4, some (.b a0))], [], 1, 0, 0, 0⟩)) (fun b0 => (.exit 4, ⟨[(5, some (.i .u16 b0.1)), (6, some (.i .u16 b0.2.1)), (10, some (.i .u16 b0.2.2.1)), (14, some (.i .u16 b0.2.2.2.1)), (15, some (.i .i64 b0.2.2.2.2.1)), (18, some (.i .u16 b0.2.2.2.2.2.1)), (19, some (.i .i64 b0.2.2.2.2.2.2))], [], 1, 0, 0, 0⟩)))
noncomputable def outK_circalaw31_RelationsSets_l2 (α : Type) (y : Bool ⊕ (Int × Int × Int × Int × Int × Int × Int)) (k : Ex → St → Option α) : Option α := (Sum.casesOn (motive := fun _ => Option α) y (fun a0 => (k (.ret) ⟨[(4, some (.b a0))], [], 1, 0, 0, 0⟩)) (fun b0 => (k (.exit 4) ⟨[(5, some (.i .u16 b0.1)), (6, some (.i .u16 b0.2.1)), (10, some (.i .u16 b0.2.2.1)), (14, some (.i .u16 b0.2.2.2.1)), (15, some (.i .i64 b0.2.2.2.2.1)), (18, some (.i .u16 b0.2.2.2.2.2.1)), (19, some (.i .i64 b0.2.2.2.2.2.2))], [], 1, 0, 0, 0⟩)))
theorem outK_ok_circalaw31_RelationsSets_l2 : ∀ α y k, outK_circalaw31_RelationsSets_l2 α y k = k (out_circalaw31_RelationsSets_l2 y).1 (out_circalaw31_RelationsSets_l2 y).2 := by
  intro α y k
  rcases y with y | y <;> rfl
noncomputable def ux_circalaw31_RelationsSets_l2 (ex : Ex) (s : St) : Option (Bool ⊕ (Int × Int × Int × Int × Int × Int × Int)) := match ex, s with
  | .ret, ⟨[(4, some (.b y0))], [], 1, 0, 0, 0⟩ => some (.inl y0)
  | .exit 4, ⟨[(5, some (.i .u16 y0)), (6, some (.i .u16 y1)), (10, some (.i .u16 y2)), (14, some (.i .u16 y3)), (15, some (.i .i64 y4)), (18, some (.i .u16 y5)), (19, some (.i .i64 y6))], [], 1, 0, 0, 0⟩ => some (.inr (y0, y1, y2, y3, y4, y5, y6))
  | _, _ => none
theorem ux_ok_circalaw31_RelationsSets_l2 : ∀ ex s y, ux_circalaw31_RelationsSets_l2 ex s = some y → (ex, s) = out_circalaw31_RelationsSets_l2 y := by
  intro ex s y h
  unfold ux_circalaw31_RelationsSets_l2 at h
  split at h
  · cases h; rfl
  · cases h; rfl
  · cases h
noncomputable def an_circalaw31_RelationsSets_l1 : Ann := ⟨[5, 6, 10, 14, 15, 18, 19], [], 1, []⟩
noncomputable def emb_circalaw31_RelationsSets_l1 (x : Int × Int × Int × Int × Int × Int × Int) : St := ⟨[(5, some (.i .u16 x.1)), (6, some (.i .u16 x.2.1)), (10, some (.i .u16 x.2.2.1)), (14, some (.i .u16 x.2.2.2.1)), (15, some (.i .i64 x.2.2.2.2.1)), (18, some (.i .u16 x.2.2.2.2.2.1)), (19, some (.i .i64 x.2.2.2.2.2.2))], [], 1, 0, 0, 0⟩
noncomputable def un_circalaw31_RelationsSets_l1 (s : St) : Option (Int × Int × Int × Int × Int × Int × Int) := match s with
  | ⟨[(5, some (.i .u16 x0)), (6, some (.i .u16 x1)), (10, some (.i .u16 x2)), (14, some (.i .u16 x3)), (15, some (.i .i64 x4)), (18, some (.i .u16 x5)), (19, some (.i .i64 x6))], [], 1, 0, 0, 0⟩ => some (x0, x1, x2, x3, x4, x5, x6)
  | _ => none
theorem un_ok_circalaw31_RelationsSets_l1 : ∀ s x, un_circalaw31_RelationsSets_l1 s = some x → s = emb_circalaw31_RelationsSets_l1 x := by
  intro s x h
  unfold un_circalaw31_RelationsSets_l1 at h
  split at h
  · cases h; rfl
  · cases h
noncomputable def ax_circalaw31_RelationsSets_l1 : Ex → Ann := fun ex => match ex with
  | .ret => ⟨[4], [], 1, []⟩
  | .exit 2 => ⟨[14, 15, 18], [], 1, []⟩
  | _ => ⟨[], [], 0, []⟩
noncomputable def out_circalaw31_RelationsSets_l1 (y : Bool ⊕ (Int × Int × Int)) : Ex × St := (Sum.casesOn (motive := fun _ => Ex × St) y (fun a0 => (.ret, ⟨[(4, some (.b a0))], [], 1, 0, 0, 0⟩)) (fun b0 => (.exit 2, ⟨[(14, some (.i .u16 b0.1)), (15, some (.i .i64 b0.2.1)), (18, some (.i .u16 b0.2.2))], [], 1, 0, 0, 0⟩)))
noncomputable def outK_circalaw31_RelationsSets_l1 (α : Type) (y : Bool ⊕ (Int × Int × Int)) (k : Ex → St → Option α) : Option α := (Sum.casesOn (motive := fun _ => Option α) y (fun a0 => (k (.ret) ⟨[(4, some (.b a0))], [], 1, 0, 0, 0⟩)) (fun b0 => (k (.exit 2) ⟨[(14, some (.i .u16 b0.1)), (15, some (.i .i64 b0.2.1)), (18, some (.i .u16 b0.2.2))], [], 1, 0, 0, 0⟩)))
theorem outK_ok_circalaw31_RelationsSets_l1 : ∀ α y k, outK_circalaw31_RelationsSets_l1 α y k = k (out_circalaw31_RelationsSets_l1 y).1 (out_circalaw31_RelationsSets_l1 y).2 := by
  intro α y k
  rcases y with y | y <;> rfl
noncomputable def ux_circalaw31_RelationsSets_l1 (ex : Ex) (s : St) : Option (Bool ⊕ (Int × Int × Int)) := match ex, s with
  | .ret, ⟨[(4, some (.b y0))], [], 1, 0, 0, 0⟩ => some (.inl y0)
  | .exit 2, ⟨[(14, some (.i .u16 y0)), (15, some (.i .i64 y1)), (18, some (.i .u16 y2))], [], 1, 0, 0, 0⟩ => some (.inr (y0, y1, y2))
  | _, _ => none
theorem ux_ok_circalaw31_RelationsSets_l1 : ∀ ex s y, ux_circalaw31_RelationsSets_l1 ex s = some y → (ex, s) = out_circalaw31_RelationsSets_l1 y := by
  intro ex s y h
  unfold ux_circalaw31_RelationsSets_l1 at h
  split at h
  · cases h; rfl
  · cases h; rfl
  · cases h
noncomputable def Ls_circalaw31_RelationsSets (n : Nat) : List Sub := [subE 0 an_circalaw31_RelationsSets_l0 un_circalaw31_RelationsSets_l0 (fun x => iterL (circalaw31_RelationsSets_l0 n) n x) outK_circalaw31_RelationsSets_l0, subE 2 an_circalaw31_RelationsSets_l2 un_circalaw31_RelationsSets_l2 (fun x => iterL (circalaw31_RelationsSets_l2 n) n x) outK_circalaw31_RelationsSets_l2, subE 1 an_circalaw31_RelationsSets_l1 un_circalaw31_RelationsSets_l1 (fun x => iterL (circalaw31_RelationsSets_l1 n) n x) outK_circalaw31_RelationsSets_l1]
noncomputable def sac_circalaw31_RelationsSets_l0 : AC := getS (subs (acOf Tryd.f7)) 0
noncomputable def ac_circalaw31_RelationsSets_l0 : AC := AC.body sac_circalaw31_RelationsSets_l0
theorem subs_circalaw31_RelationsSets_l0 (n : Nat) : SubOK Tryd.prog 216 (Ls_circalaw31_RelationsSets n) ac_circalaw31_RelationsSets_l0 := SubOK_of _ (by
  have e : subs ac_circalaw31_RelationsSets_l0 = [] := by kernel_rfl
  rw [e]; intro p hp; cases hp)
theorem body_circalaw31_RelationsSets_l0 (n : Nat) : ∀ x, run Tryd.prog (Es_circalaw31_RelationsSets n) (Ls_circalaw31_RelationsSets n) 216 ac_circalaw31_RelationsSets_l0 (emb_circalaw31_RelationsSets_l0 x) (roundK an_circalaw31_RelationsSets_l0 un_circalaw31_RelationsSets_l0 ax_circalaw31_RelationsSets_l0 ux_circalaw31_RelationsSets_l0) = circalaw31_RelationsSets_l0 n x := fun _ => by kernel_rfl
theorem sub1_circalaw31_RelationsSets_l0 (n : Nat) : ∀ (α : Type) (s : St) (k : Ex → St → Option α) (z : α), (subE 0 an_circalaw31_RelationsSets_l0 un_circalaw31_RelationsSets_l0 (fun x => iterL (circalaw31_RelationsSets_l0 n) n x) outK_circalaw31_RelationsSets_l0).e α s k = some z → SemC Tryd.prog 216 (sac_circalaw31_RelationsSets_l0).code s fun ex s' => k ex s' = some z := by
  intro α s k z h
  have e : sac_circalaw31_RelationsSets_l0 = .loop ac_circalaw31_RelationsSets_l0 := by kernel_rfl
  rw [e]
  exact subE_ok (m := 0) (f := fun x => iterL (circalaw31_RelationsSets_l0 n) n x) (out := out_circalaw31_RelationsSets_l0) outK_ok_circalaw31_RelationsSets_l0 un_ok_circalaw31_RelationsSets_l0 (fun x y hy => loop_ok (Es_ok_circalaw31_RelationsSets n) (subs_circalaw31_RelationsSets_l0 n) un_ok_circalaw31_RelationsSets_l0 ux_ok_circalaw31_RelationsSets_l0 (body_circalaw31_RelationsSets_l0 n) n x y hy) h
theorem sub_circalaw31_RelationsSets_l0 (n : Nat) : SubSt Tryd.prog 216 (Ls_circalaw31_RelationsSets n) 0 sac_circalaw31_RelationsSets_l0 := fun α s k z => sub1_circalaw31_RelationsSets_l0 n α s k z
noncomputable def sac_circalaw31_RelationsSets_l1 : AC := getS (subs (acOf Tryd.f7)) 1
noncomputable def ac_circalaw31_RelationsSets_l1 : AC := AC.body sac_circalaw31_RelationsSets_l1
noncomputable def sac_circalaw31_RelationsSets_l2 : AC := getS (subs ac_circalaw31_RelationsSets_l1) 2
noncomputable def ac_circalaw31_RelationsSets_l2 : AC := AC.body sac_circalaw31_RelationsSets_l2
theorem subs_circalaw31_RelationsSets_l2 (n : Nat) : SubOK Tryd.prog 216 (Ls_circalaw31_RelationsSets n) ac_circalaw31_RelationsSets_l2 := SubOK_of _ (by
  have e : subs ac_circalaw31_RelationsSets_l2 = [] := by kernel_rfl
  rw [e]; intro p hp; cases hp)
theorem body_circalaw31_RelationsSets_l2 (n : Nat) : ∀ x, run Tryd.prog (Es_circalaw31_RelationsSets n) (Ls_circalaw31_RelationsSets n) 216 ac_circalaw31_RelationsSets_l2 (emb_circalaw31_RelationsSets_l2 x) (roundK an_circalaw31_RelationsSets_l2 un_circalaw31_RelationsSets_l2 ax_circalaw31_RelationsSets_l2 ux_circalaw31_RelationsSets_l2) = circalaw31_RelationsSets_l2 n x := fun _ => by kernel_rfl
theorem sub1_circalaw31_RelationsSets_l2 (n : Nat) : ∀ (α : Type) (s : St) (k : Ex → St → Option α) (z : α), (subE 2 an_circalaw31_RelationsSets_l2 un_circalaw31_RelationsSets_l2 (fun x => iterL (circalaw31_RelationsSets_l2 n) n x) outK_circalaw31_RelationsSets_l2).e α s k = some z → SemC Tryd.prog 216 (sac_circalaw31_RelationsSets_l2).code s fun ex s' => k ex s' = some z := by
  intro α s k z h
  have e : sac_circalaw31_RelationsSets_l2 = .loop ac_circalaw31_RelationsSets_l2 := by kernel_rfl
  rw [e]
  exact subE_ok (m := 2) (f := fun x => iterL (circalaw31_RelationsSets_l2 n) n x) (out := out_circalaw31_RelationsSets_l2) outK_ok_circalaw31_RelationsSets_l2 un_ok_circalaw31_RelationsSets_l2 (fun x y hy => loop_ok (Es_ok_circalaw31_RelationsSets n) (subs_circalaw31_RelationsSets_l2 n) un_ok_circalaw31_RelationsSets_l2 ux_ok_circalaw31_RelationsSets_l2 (body_circalaw31_RelationsSets_l2 n) n x y hy) h
theorem sub_circalaw31_RelationsSets_l2 (n : Nat) : SubSt Tryd.prog 216 (Ls_circalaw31_RelationsSets n) 2 sac_circalaw31_RelationsSets_l2 := fun α s k z => sub1_circalaw31_RelationsSets_l2 n α s k z
theorem subs_circalaw31_RelationsSets_l1 (n : Nat) : SubOK Tryd.prog 216 (Ls_circalaw31_RelationsSets n) ac_circalaw31_RelationsSets_l1 := SubOK_of _ (by
  have e : subs ac_circalaw31_RelationsSets_l1 = [(2, sac_circalaw31_RelationsSets_l2)] := by kernel_rfl
  rw [e]; intro p hp
  simp only [List.mem_cons, List.not_mem_nil, or_false] at hp
  · rw [hp]; exact sub_circalaw31_RelationsSets_l2 n
  )
theorem body_circalaw31_RelationsSets_l1 (n : Nat) : ∀ x, run Tryd.prog (Es_circalaw31_RelationsSets n) (Ls_circalaw31_RelationsSets n) 216 ac_circalaw31_RelationsSets_l1 (emb_circalaw31_RelationsSets_l1 x) (roundK an_circalaw31_RelationsSets_l1 un_circalaw31_RelationsSets_l1 ax_circalaw31_RelationsSets_l1 ux_circalaw31_RelationsSets_l1) = circalaw31_RelationsSets_l1 n x := fun _ => by kernel_rfl
theorem sub1_circalaw31_RelationsSets_l1 (n : Nat) : ∀ (α : Type) (s : St) (k : Ex → St → Option α) (z : α), (subE 1 an_circalaw31_RelationsSets_l1 un_circalaw31_RelationsSets_l1 (fun x => iterL (circalaw31_RelationsSets_l1 n) n x) outK_circalaw31_RelationsSets_l1).e α s k = some z → SemC Tryd.prog 216 (sac_circalaw31_RelationsSets_l1).code s fun ex s' => k ex s' = some z := by
  intro α s k z h
  have e : sac_circalaw31_RelationsSets_l1 = .loop ac_circalaw31_RelationsSets_l1 := by kernel_rfl
  rw [e]
  exact subE_ok (m := 1) (f := fun x => iterL (circalaw31_RelationsSets_l1 n) n x) (out := out_circalaw31_RelationsSets_l1) outK_ok_circalaw31_RelationsSets_l1 un_ok_circalaw31_RelationsSets_l1 (fun x y hy => loop_ok (Es_ok_circalaw31_RelationsSets n) (subs_circalaw31_RelationsSets_l1 n) un_ok_circalaw31_RelationsSets_l1 ux_ok_circalaw31_RelationsSets_l1 (body_circalaw31_RelationsSets_l1 n) n x y hy) h
theorem sub_circalaw31_RelationsSets_l1 (n : Nat) : SubSt Tryd.prog 216 (Ls_circalaw31_RelationsSets n) 1 sac_circalaw31_RelationsSets_l1 := fun α s k z => sub1_circalaw31_RelationsSets_l1 n α s k z
theorem subs_circalaw31_RelationsSets (n : Nat) : SubOK Tryd.prog 216 (Ls_circalaw31_RelationsSets n) (acOf Tryd.f7) := SubOK_of _ (by
  have e : subs (acOf Tryd.f7) = [(0, sac_circalaw31_RelationsSets_l0), (1, sac_circalaw31_RelationsSets_l1)] := by kernel_rfl
  rw [e]; intro p hp
  simp only [List.mem_cons, List.not_mem_nil, or_false] at hp
  rcases hp with hp | hp
  · rw [hp]; exact sub_circalaw31_RelationsSets_l0 n
  · rw [hp]; exact sub_circalaw31_RelationsSets_l1 n
  )
theorem cert_circalaw31_RelationsSets (n : Nat) (a0 : Int) (a1 : Int) : run Tryd.prog (Es_circalaw31_RelationsSets n) (Ls_circalaw31_RelationsSets n) Tryd.f7.ntmps (acOf Tryd.f7) ⟨argsT [.i .u16 a0, .i .u16 a1] 0, [], 0, 0, 0, 0⟩ (finK Tryd.prog Tryd.f7.results.toList (retX unr_circalaw31_RelationsSets)) = circalaw31_RelationsSets n a0 a1 := by kernel_rfl
theorem pure_circalaw31_RelationsSets (n : Nat) : ∀ a r, circalaw31_RelationsSets n a.1 a.2 = some r → PureOK Tryd.prog 7 (arg_circalaw31_RelationsSets a) (enc_circalaw31_RelationsSets r) := fun a r h => pureX_ok unr_ok_circalaw31_RelationsSets (Es_ok_circalaw31_RelationsSets n) Tryd.func7 rfl (acOf_code _) (subs_circalaw31_RelationsSets n) rfl ((cert_circalaw31_RelationsSets n a.1 a.2).trans h)
theorem ok_circalaw31_RelationsSets (n : Nat) : EntOK Tryd.prog (e_circalaw31_RelationsSets n) := pureE_ok Tryd.call7 una_ok_circalaw31_RelationsSets (fun _ => rfl) (pure_circalaw31_RelationsSets n)

/-! circa/circaref31.Table -/
noncomputable def arg_circaref31_Table (_a : Unit) : List V := []
noncomputable def H0_circaref31_Table (_a : Unit) : List (Nat × Blk) := []
noncomputable def una_circaref31_Table (l : List V) (H : List (Nat × Blk)) : Option ((Unit) × List Nat) := match l with
  | [] => (cond (Abs.distinct [] && true) (some ((), [])) none)
  | _ => none
theorem una_ok_circaref31_Table : ∀ l H a ρ, una_circaref31_Table l H = some (a, ρ) → ρ.length = 0 ∧ ρ.Nodup ∧ l = V.rens ρ (arg_circaref31_Table a) ∧ ∀ b blk, Abs.look (H0_circaref31_Table a) b = some blk → Abs.look H (getN ρ b) = some (blk.ren ρ) := by
  intro l H a ρ h
  unfold una_circaref31_Table at h
  split at h
  · obtain ⟨hd, h⟩ := cond_some h
    simp only [Bool.and_eq_true] at hd
    obtain ⟨hd, _⟩ := hd
    cases h
    exact ⟨rfl, distinct_ok hd, rfl, eachH_look trivial⟩
  · cases h
noncomputable def out_circaref31_Table (r : List (Int)) : FOut := (⟨false, .ws 0, [(0, .rows [.i .i64] r)], [0]⟩ : FOut)
noncomputable def outK_circaref31_Table (α : Type) (r : List (Int)) (k : FOut → Option α) : Option α := (k ⟨false, .ws 0, [(0, .rows [.i .i64] r)], [0]⟩)
theorem outK_ok_circaref31_Table : ∀ α r k, outK_circaref31_Table α r k = k (out_circaref31_Table r) := by
  intro α r k
  rfl
noncomputable def unr_circaref31_Table (pan : Bool) (v : V) (H : List (Nat × Blk)) (nw : List Nat) : Option (List (Int)) := match pan, v, H, nw with
  | false, .ws 0, [(0, .rows [.i .i64] r0)], [0] => some r0
  | _, _, _, _ => none
theorem unr_ok_circaref31_Table : ∀ pan v H nw r, unr_circaref31_Table pan v H nw = some r → (out_circaref31_Table r).pan = pan ∧ (out_circaref31_Table r).news = nw ∧ v = V.ren (upTo 0 0 ++ (out_circaref31_Table r).news) (out_circaref31_Table r).val ∧ H = renH (upTo 0 0 ++ (out_circaref31_Table r).news) (out_circaref31_Table r).H := by
  intro pan v H nw r h
  unfold unr_circaref31_Table at h
  split at h
  · cases h; exact ⟨rfl, rfl, rfl, rfl⟩
  · cases h
theorem hv_circaref31_Table : ∀ r, V.lt (0 + (out_circaref31_Table r).news.length) (out_circaref31_Table r).val = true := fun r => (by rfl)
theorem hc_circaref31_Table : ∀ r, chkH (0 + (out_circaref31_Table r).news.length) (out_circaref31_Table r).H = true := fun r => (by rfl)
theorem hk_circaref31_Table : ∀ r, hasKeys (out_circaref31_Table r).H 0 (0 + (out_circaref31_Table r).news.length) = true := fun r => (by rfl)
noncomputable def e_circaref31_Table (n : Nat) : Ent := funE 31 0 una_circaref31_Table (fun _a => circaref31_Table n) outK_circaref31_Table
noncomputable def t_circaref31_Table (l : List V) (H : List (Nat × Blk)) : Bool := isS (una_circaref31_Table l H)
noncomputable def Es_circaref31_Table (n : Nat) : List Ent := [e_circaref31_Of n]
theorem Es_ok_circaref31_Table (n : Nat) : ∀ x ∈ Es_circaref31_Table n, EntOK Tryd.prog x := by
  intro x hx
  simp only [Es_circaref31_Table, List.mem_cons, List.not_mem_nil, or_false] at hx
  · rw [hx]; exact ok_circaref31_Of n
noncomputable def an_circaref31_Table_l1 : Ann := ⟨[1, 2, 3, 4], [0, 1], 2, []⟩
noncomputable def emb_circaref31_Table_l1 (x : Int × Int × List (Int) × List (Int × Int × Int × Int)) : St := ⟨[(1, some (.ws 0)), (2, some (.ws 1)), (3, some (.i .i64 x.1)), (4, some (.i .i64 x.2.1))], [(0, .rows [.i .i64] x.2.2.1), (1, .rows [.i .i8, .i .i64, .i .i8, .i .i64] x.2.2.2)], 2, 0, 0, 0⟩
noncomputable def un_circaref31_Table_l1 (s : St) : Option (Int × Int × List (Int) × List (Int × Int × Int × Int)) := match s with
  | ⟨[(1, some (.ws 0)), (2, some (.ws 1)), (3, some (.i .i64 x0)), (4, some (.i .i64 x1))], [(0, .rows [.i .i64] x2), (1, .rows [.i .i8, .i .i64, .i .i8, .i .i64] x3)], 2, 0, 0, 0⟩ => some (x0, x1, x2, x3)
  | _ => none
theorem un_ok_circaref31_Table_l1 : ∀ s x, un_circaref31_Table_l1 s = some x → s = emb_circaref31_Table_l1 x := by
  intro s x h
  unfold un_circaref31_Table_l1 at h
  split at h
  · cases h; rfl
  · cases h
noncomputable def ax_circaref31_Table_l1 : Ex → Ann := fun ex => match ex with
  | .exit 2 => ⟨[1, 2, 3], [0, 1], 2, []⟩
  | _ => ⟨[], [], 0, []⟩
noncomputable def out_circaref31_Table_l1 (y : (Int × List (Int) × List (Int × Int × Int × Int))) : Ex × St := (.exit 2, ⟨[(1, some (.ws 0)), (2, some (.ws 1)), (3, some (.i .i64 y.1))], [(0, .rows [.i .i64] y.2.1), (1, .rows [.i .i8, .i .i64, .i .i8, .i .i64] y.2.2)], 2, 0, 0, 0⟩)
noncomputable def outK_circaref31_Table_l1 (α : Type) (y : (Int × List (Int) × List (Int × Int × Int × Int))) (k : Ex → St → Option α) : Option α := (k (.exit 2) ⟨[(1, some (.ws 0)), (2, some (.ws 1)), (3, some (.i .i64 y.1))], [(0, .rows [.i .i64] y.2.1), (1, .rows [.i .i8, .i .i64, .i .i8, .i .i64] y.2.2)], 2, 0, 0, 0⟩)
theorem outK_ok_circaref31_Table_l1 : ∀ α y k, outK_circaref31_Table_l1 α y k = k (out_circaref31_Table_l1 y).1 (out_circaref31_Table_l1 y).2 := by
  intro α y k
  rfl
noncomputable def ux_circaref31_Table_l1 (ex : Ex) (s : St) : Option ((Int × List (Int) × List (Int × Int × Int × Int))) := match ex, s with
  | .exit 2, ⟨[(1, some (.ws 0)), (2, some (.ws 1)), (3, some (.i .i64 y0))], [(0, .rows [.i .i64] y1), (1, .rows [.i .i8, .i .i64, .i .i8, .i .i64] y2)], 2, 0, 0, 0⟩ => some (y0, y1, y2)
  | _, _ => none
theorem ux_ok_circaref31_Table_l1 : ∀ ex s y, ux_circaref31_Table_l1 ex s = some y → (ex, s) = out_circaref31_Table_l1 y := by
  intro ex s y h
  unfold ux_circaref31_Table_l1 at h
  split at h
  · cases h; rfl
  · cases h
noncomputable def an_circaref31_Table_l0 : Ann := ⟨[1, 2, 3], [0, 1], 2, [.nilT 2 1 [.i .i8, .i .i64, .i .i8, .i .i64]]⟩
noncomputable def emb_circaref31_Table_l0 (x : Int × List (Int) × List (Int × Int × Int × Int)) : St := ⟨[(1, some (.ws 0)), (2, some (.ws 1)), (3, some (.i .i64 x.1))], [(0, .rows [.i .i64] x.2.1), (1, .rows [.i .i8, .i .i64, .i .i8, .i .i64] x.2.2)], 2, 0, 0, 0⟩
noncomputable def un_circaref31_Table_l0 (s : St) : Option (Int × List (Int) × List (Int × Int × Int × Int)) := match s with
  | ⟨[(1, some (.ws 0)), (2, some (.ws 1)), (3, some (.i .i64 x0))], [(0, .rows [.i .i64] x1), (1, .rows [.i .i8, .i .i64, .i .i8, .i .i64] x2)], 2, 0, 0, 0⟩ => some (x0, x1, x2)
  | _ => none
theorem un_ok_circaref31_Table_l0 : ∀ s x, un_circaref31_Table_l0 s = some x → s = emb_circaref31_Table_l0 x := by
  intro s x h
  unfold un_circaref31_Table_l0 at h
  split at h
  · cases h; rfl
  · cases h
noncomputable def ax_circaref31_Table_l0 : Ex → Ann := fun ex => match ex with
  | .exit 0 => ⟨[1, 2], [0, 1], 2, []⟩
  | _ => ⟨[], [], 0, []⟩
noncomputable def out_circaref31_Table_l0 (y : (List (Int) × List (Int × Int × Int × Int))) : Ex × St := (.exit 0, ⟨[(1, some (.ws 0)), (2, some (.ws 1))], [(0, .rows [.i .i64] y.1), (1, .rows [.i .i8, .i .i64, .i .i8, .i .i64] y.2)], 2, 0, 0, 0⟩)
noncomputable def outK_circaref31_Table_l0 (α : Type) (y : (List (Int) × List (Int × Int × Int × Int))) (k : Ex → St → Option α) : Option α := (k (.exit 0) ⟨[(1, some (.ws 0)), (2, some (.ws 1))], [(0, .rows [.i .i64] y.1), (1, .rows [.i .i8, .i .i64, .i .i8, .i .i64] y.2)], 2, 0, 0, 0⟩)
theorem outK_ok_circaref31_Table_l0 : ∀ α y k, outK_circaref31_Table_l0 α y k = k (out_circaref31_Table_l0 y).1 (out_circaref31_Table_l0 y).2 := by
  intro α y k
  rfl
noncomputable def ux_circaref31_Table_l0 (ex : Ex) (s : St) : Option ((List (Int) × List (Int × Int × Int × Int))) := match ex, s with
  | .exit 0, ⟨[(1, some (.ws 0)), (2, some (.ws 1))], [(0, .rows [.i .i64] y0), (1, .rows [.i .i8, .i .i64, .i .i8, .i .i64] y1)], 2, 0, 0, 0⟩ => some (y0, y1)
  | _, _ => none
theorem ux_ok_circaref31_Table_l0 : ∀ ex s y, ux_circaref31_Table_l0 ex s = some y → (ex, s) = out_circaref31_Table_l0 y := by
  intro ex s y h
  unfold ux_circaref31_Table_l0 at h
  split at h
  · cases h; rfl
  · cases h
noncomputable def an_circaref31_Table_l4 : Ann := ⟨[1, 2, 5, 6, 7, 8], [0, 1], 82, []⟩
noncomputable def emb_circaref31_Table_l4 (x : Int × Int × Int × Int × List (Int) × List (Int × Int × Int × Int)) : St := ⟨[(1, some (.ws 0)), (2, some (.ws 1)), (5, some (.i .i64 x.1)), (6, some (.i .i64 x.2.1)), (7, some (.i .i64 x.2.2.1)), (8, some (.i .i64 x.2.2.2.1))], [(0, .rows [.i .i64] x.2.2.2.2.1), (1, .rows [.i .i8, .i .i64, .i .i8, .i .i64] x.2.2.2.2.2)], 82, 0, 0, 0⟩
noncomputable def un_circaref31_Table_l4 (s : St) : Option (Int × Int × Int × Int × List (Int) × List (Int × Int × Int × Int)) := match s with
  | ⟨[(1, some (.ws 0)), (2, some (.ws 1)), (5, some (.i .i64 x0)), (6, some (.i .i64 x1)), (7, some (.i .i64 x2)), (8, some (.i .i64 x3))], [(0, .rows [.i .i64] x4), (1, .rows [.i .i8, .i .i64, .i .i8, .i .i64] x5)], 82, 0, 0, 0⟩ => some (x0, x1, x2, x3, x4, x5)
  | _ => none
theorem un_ok_circaref31_Table_l4 : ∀ s x, un_circaref31_Table_l4 s = some x → s = emb_circaref31_Table_l4 x := by
  intro s x h
  unfold un_circaref31_Table_l4 at h
  split at h
  · cases h; rfl
  · cases h
noncomputable def ax_circaref31_Table_l4 : Ex → Ann := fun ex => match ex with
  | .exit 8 => ⟨[1, 2, 5, 6], [0, 1], 82, []⟩
  | _ => ⟨[], [], 0, []⟩
noncomputable def out_circaref31_Table_l4 (y : (Int × Int × List (Int) × List (Int × Int × Int × Int))) : Ex × St := (.exit 8, ⟨[(1, some (.ws 0)), (2, some (.ws 1)), (5, some (.i .i64 y.1)), (6, some (.i .i64 y.2.1))], [(0, .rows [.i .i64] y.2.2.1), (1, .rows [.i .i8, .i .i64, .i .i8, .i .i64] y.2.2.2)], 82, 0, 0, 0⟩)
noncomputable def outK_circaref31_Table_l4 (α : Type) (y : (Int × Int × List (Int) × List (Int × Int × Int × Int))) (k : Ex → St → Option α) : Option α := (k (.exit 8) ⟨[(1, some (.ws 0)), (2, some (.ws 1)), (5, some (.i .i64 y.1)), (6, some (.i .i64 y.2.1))], [(0, .rows [.i .i64] y.2.2.1), (1, .rows [.i .i8, .i .i64, .i .i8, .i .i64] y.2.2.2)], 82, 0, 0, 0⟩)
theorem outK_ok_circaref31_Table_l4 : ∀ α y k, outK_circaref31_Table_l4 α y k = k (out_circaref31_Table_l4 y).1 (out_circaref31_Table_l4 y).2 := by
  intro α y k
  rfl
noncomputable def ux_circaref31_Table_l4 (ex : Ex) (s : St) : Option ((Int × Int × List (Int) × List (Int × Int × Int × Int))) := match ex, s with
  | .exit 8, ⟨[(1, some (.ws 0)), (2, some (.ws 1)), (5, some (.i .i64 y0)), (6, some (.i .i64 y1))], [(0, .rows [.i .i64] y2), (1, .rows [.i .i8, .i .i64, .i .i8, .i .i64] y3)], 82, 0, 0, 0⟩ => some (y0, y1, y2, y3)
  | _, _ => none
theorem ux_ok_circaref31_Table_l4 : ∀ ex s y, ux_circaref31_Table_l4 ex s = some y → (ex, s) = out_circaref31_Table_l4 y := by
  intro ex s y h
  unfold ux_circaref31_Table_l4 at h
  split at h
  · cases h; rfl
  · cases h
noncomputable def an_circaref31_Table_l3 : Ann := ⟨[1, 2, 5, 6], [0, 1], 2, []⟩
noncomputable def emb_circaref31_Table_l3 (x : Int × Int × List (Int) × List (Int × Int × Int × Int)) : St := ⟨[(1, some (.ws 0)), (2, some (.ws 1)), (5, some (.i .i64 x.1)), (6, some (.i .i64 x.2.1))], [(0, .rows [.i .i64] x.2.2.1), (1, .rows [.i .i8, .i .i64, .i .i8, .i .i64] x.2.2.2)], 2, 0, 0, 0⟩
noncomputable def un_circaref31_Table_l3 (s : St) : Option (Int × Int × List (Int) × List (Int × Int × Int × Int)) := match s with
  | ⟨[(1, some (.ws 0)), (2, some (.ws 1)), (5, some (.i .i64 x0)), (6, some (.i .i64 x1))], [(0, .rows [.i .i64] x2), (1, .rows [.i .i8, .i .i64, .i .i8, .i .i64] x3)], 2, 0, 0, 0⟩ => some (x0, x1, x2, x3)
  | _ => none
theorem un_ok_circaref31_Table_l3 : ∀ s x, un_circaref31_Table_l3 s = some x → s = emb_circaref31_Table_l3 x := by
  intro s x h
  unfold un_circaref31_Table_l3 at h
  split at h
  · cases h; rfl
  · cases h
noncomputable def ax_circaref31_Table_l3 : Ex → Ann := fun ex => match ex with
  | .exit 6 => ⟨[1, 2, 5], [0, 1], 2, []⟩
  | _ => ⟨[], [], 0, []⟩
noncomputable def out_circaref31_Table_l3 (y : (Int × List (Int) × List (Int × Int × Int × Int))) : Ex × St := (.exit 6, ⟨[(1, some (.ws 0)), (2, some (.ws 1)), (5, some (.i .i64 y.1))], [(0, .rows [.i .i64] y.2.1), (1, .rows [.i .i8, .i .i64, .i .i8, .i .i64] y.2.2)], 2, 0, 0, 0⟩)
noncomputable def outK_circaref31_Table_l3 (α : Type) (y : (Int × List (Int) × List (Int × Int × Int × Int))) (k : Ex → St → Option α) : Option α := (k (.exit 6) ⟨[(1, some (.ws 0)), (2, some (.ws 1)), (5, some (.i .i64 y.1))], [(0, .rows [.i .i64] y.2.1), (1, .rows [.i .i8, .i .i64, .i .i8, .i .i64] y.2.2)], 2, 0, 0, 0⟩)
theorem outK_ok_circaref31_Table_l3 : ∀ α y k, outK_circaref31_Table_l3 α y k = k (out_circaref31_Table_l3 y).1 (out_circaref31_Table_l3 y).2 := by
  intro α y k
  rfl
noncomputable def ux_circaref31_Table_l3 (ex : Ex) (s : St) : Option ((Int × List (Int) × List (Int × Int × Int × Int))) := match ex, s with
  | .exit 6, ⟨[(1, some (.ws 0)), (2, some (.ws 1)), (5, some (.i .i64 y0))], [(0, .rows [.i .i64] y1), (1, .rows [.i .i8, .i .i64, .i .i8, .i .i64] y2)], 2, 0, 0, 0⟩ => some (y0, y1, y2)
  | _, _ => none
theorem ux_ok_circaref31_Table_l3 : ∀ ex s y, ux_circaref31_Table_l3 ex s = some y → (ex, s) = out_circaref31_Table_l3 y := by
  intro ex s y h
  unfold ux_circaref31_Table_l3 at h
  split at h
  · cases h; rfl
  · cases h
noncomputable def an_circaref31_Table_l2 : Ann := ⟨[1, 2, 5], [0, 1], 2, []⟩
noncomputable def emb_circaref31_Table_l2 (x : Int × List (Int) × List (Int × Int × Int × Int)) : St := ⟨[(1, some (.ws 0)), (2, some (.ws 1)), (5, some (.i .i64 x.1))], [(0, .rows [.i .i64] x.2.1), (1, .rows [.i .i8, .i .i64, .i .i8, .i .i64] x.2.2)], 2, 0, 0, 0⟩
noncomputable def un_circaref31_Table_l2 (s : St) : Option (Int × List (Int) × List (Int × Int × Int × Int)) := match s with
  | ⟨[(1, some (.ws 0)), (2, some (.ws 1)), (5, some (.i .i64 x0))], [(0, .rows [.i .i64] x1), (1, .rows [.i .i8, .i .i64, .i .i8, .i .i64] x2)], 2, 0, 0, 0⟩ => some (x0, x1, x2)
  | _ => none
theorem un_ok_circaref31_Table_l2 : ∀ s x, un_circaref31_Table_l2 s = some x → s = emb_circaref31_Table_l2 x := by
  intro s x h
  unfold un_circaref31_Table_l2 at h
  split at h
  · cases h; rfl
  · cases h
noncomputable def ax_circaref31_Table_l2 : Ex → Ann := fun ex => match ex with
  | .exit 4 => ⟨[1], [0], 2, []⟩
  | _ => ⟨[], [], 0, []⟩
noncomputable def out_circaref31_Table_l2 (y : List (Int)) : Ex × St := (.exit 4, ⟨[(1, some (.ws 0))], [(0, .rows [.i .i64] y)], 2, 0, 0, 0⟩)
noncomputable def outK_circaref31_Table_l2 (α : Type) (y : List (Int)) (k : Ex → St → Option α) : Option α := (k (.exit 4) ⟨[(1, some (.ws 0))], [(0, .rows [.i .i64] y)], 2, 0, 0, 0⟩)
theorem outK_ok_circaref31_Table_l2 : ∀ α y k, outK_circaref31_Table_l2 α y k = k (out_circaref31_Table_l2 y).1 (out_circaref31_Table_l2 y).2 := by
  intro α y k
  rfl
noncomputable def ux_circaref31_Table_l2 (ex : Ex) (s : St) : Option (List (Int)) := match ex, s with
  | .exit 4, ⟨[(1, some (.ws 0))], [(0, .rows [.i .i64] y0)], 2, 0, 0, 0⟩ => some y0
  | _, _ => none
theorem ux_ok_circaref31_Table_l2 : ∀ ex s y, ux_circaref31_Table_l2 ex s = some y → (ex, s) = out_circaref31_Table_l2 y := by
  intro ex s y h
  unfold ux_circaref31_Table_l2 at h
  split at h
  · cases h; rfl
  · cases h
noncomputable def Ls_circaref31_Table (n : Nat) : List Sub := [subE 1 an_circaref31_Table_l1 un_circaref31_Table_l1 (fun x => iterL (circaref31_Table_l1 n) n x) outK_circaref31_Table_l1, subE 0 an_circaref31_Table_l0 un_circaref31_Table_l0 (fun x => iterL (circaref31_Table_l0 n) n x) outK_circaref31_Table_l0, subE 4 an_circaref31_Table_l4 un_circaref31_Table_l4 (fun x => iterL (circaref31_Table_l4 n) n x) outK_circaref31_Table_l4, subE 3 an_circaref31_Table_l3 un_circaref31_Table_l3 (fun x => iterL (circaref31_Table_l3 n) n x) outK_circaref31_Table_l3, subE 2 an_circaref31_Table_l2 un_circaref31_Table_l2 (fun x => iterL (circaref31_Table_l2 n) n x) outK_circaref31_Table_l2]
noncomputable def sac_circaref31_Table_l0 : AC := getS (subs (acOf Tryd.f31)) 0
noncomputable def ac_circaref31_Table_l0 : AC := AC.body sac_circaref31_Table_l0
noncomputable def sac_circaref31_Table_l1 : AC := getS (subs ac_circaref31_Table_l0) 1
noncomputable def ac_circaref31_Table_l1 : AC := AC.body sac_circaref31_Table_l1
theorem subs_circaref31_Table_l1 (n : Nat) : SubOK Tryd.prog 96 (Ls_circaref31_Table n) ac_circaref31_Table_l1 := SubOK_of _ (by
  have e : subs ac_circaref31_Table_l1 = [] := by kernel_rfl
  rw [e]; intro p hp; cases hp)
theorem body_circaref31_Table_l1 (n : Nat) : ∀ x, run Tryd.prog (Es_circaref31_Table n) (Ls_circaref31_Table n) 96 ac_circaref31_Table_l1 (emb_circaref31_Table_l1 x) (roundK an_circaref31_Table_l1 un_circaref31_Table_l1 ax_circaref31_Table_l1 ux_circaref31_Table_l1) = circaref31_Table_l1 n x := fun _ => by kernel_rfl
theorem sub1_circaref31_Table_l1 (n : Nat) : ∀ (α : Type) (s : St) (k : Ex → St → Option α) (z : α), (subE 1 an_circaref31_Table_l1 un_circaref31_Table_l1 (fun x => iterL (circaref31_Table_l1 n) n x) outK_circaref31_Table_l1).e α s k = some z → SemC Tryd.prog 96 (sac_circaref31_Table_l1).code s fun ex s' => k ex s' = some z := by
  intro α s k z h
  have e : sac_circaref31_Table_l1 = .loop ac_circaref31_Table_l1 := by kernel_rfl
  rw [e]
  exact subE_ok (m := 1) (f := fun x => iterL (circaref31_Table_l1 n) n x) (out := out_circaref31_Table_l1) outK_ok_circaref31_Table_l1 un_ok_circaref31_Table_l1 (fun x y hy => loop_ok (Es_ok_circaref31_Table n) (subs_circaref31_Table_l1 n) un_ok_circaref31_Table_l1 ux_ok_circaref31_Table_l1 (body_circaref31_Table_l1 n) n x y hy) h
theorem sub_circaref31_Table_l1 (n : Nat) : SubSt Tryd.prog 96 (Ls_circaref31_Table n) 1 sac_circaref31_Table_l1 := fun α s k z => sub1_circaref31_Table_l1 n α s k z
theorem subs_circaref31_Table_l0 (n : Nat) : SubOK Tryd.prog 96 (Ls_circaref31_Table n) ac_circaref31_Table_l0 := SubOK_of _ (by
  have e : subs ac_circaref31_Table_l0 = [(1, sac_circaref31_Table_l1)] := by kernel_rfl
  rw [e]; intro p hp
  simp only [List.mem_cons, List.not_mem_nil, or_false] at hp
  · rw [hp]; exact sub_circaref31_Table_l1 n
  )
theorem body_circaref31_Table_l0 (n : Nat) : ∀ x, run Tryd.prog (Es_circaref31_Table n) (Ls_circaref31_Table n) 96 ac_circaref31_Table_l0 (emb_circaref31_Table_l0 x) (roundK an_circaref31_Table_l0 un_circaref31_Table_l0 ax_circaref31_Table_l0 ux_circaref31_Table_l0) = circaref31_Table_l0 n x := fun _ => by kernel_rfl
theorem sub1_circaref31_Table_l0 (n : Nat) : ∀ (α : Type) (s : St) (k : Ex → St → Option α) (z : α), (subE 0 an_circaref31_Table_l0 un_circaref31_Table_l0 (fun x => iterL (circaref31_Table_l0 n) n x) outK_circaref31_Table_l0).e α s k = some z → SemC Tryd.prog 96 (sac_circaref31_Table_l0).code s fun ex s' => k ex s' = some z := by
  intro α s k z h
  have e : sac_circaref31_Table_l0 = .loop ac_circaref31_Table_l0 := by kernel_rfl
  rw [e]
  exact subE_ok (m := 0) (f := fun x => iterL (circaref31_Table_l0 n) n x) (out := out_circaref31_Table_l0) outK_ok_circaref31_Table_l0 un_ok_circaref31_Table_l0 (fun x y hy => loop_ok (Es_ok_circaref31_Table n) (subs_circaref31_Table_l0 n) un_ok_circaref31_Table_l0 ux_ok_circaref31_Table_l0 (body_circaref31_Table_l0 n) n x y hy) h
theorem sub_circaref31_Table_l0 (n : Nat) : SubSt Tryd.prog 96 (Ls_circaref31_Table n) 0 sac_circaref31_Table_l0 := fun α s k z => sub1_circaref31_Table_l0 n α s k z
noncomputable def sac_circaref31_Table_l2 : AC := getS (subs (acOf Tryd.f31)) 2
noncomputable def ac_circaref31_Table_l2 : AC := AC.body sac_circaref31_Table_l2
noncomputable def sac_circaref31_Table_l3 : AC := getS (subs ac_circaref31_Table_l2) 3
noncomputable def ac_circaref31_Table_l3 : AC := AC.body sac_circaref31_Table_l3
noncomputable def sac_circaref31_Table_l4 : AC := getS (subs ac_circaref31_Table_l3) 4
noncomputable def ac_circaref31_Table_l4 : AC := AC.body sac_circaref31_Table_l4
theorem subs_circaref31_Table_l4 (n : Nat) : SubOK Tryd.prog 96 (Ls_circaref31_Table n) ac_circaref31_Table_l4 := SubOK_of _ (by
  have e : subs ac_circaref31_Table_l4 = [] := by kernel_rfl
  rw [e]; intro p hp; cases hp)
theorem body_circaref31_Table_l4 (n : Nat) : ∀ x, run Tryd.prog (Es_circaref31_Table n) (Ls_circaref31_Table n) 96 ac_circaref31_Table_l4 (emb_circaref31_Table_l4 x) (roundK an_circaref31_Table_l4 un_circaref31_Table_l4 ax_circaref31_Table_l4 ux_circaref31_Table_l4) = circaref31_Table_l4 n x := fun _ => by kernel_rfl
theorem sub1_circaref31_Table_l4 (n : Nat) : ∀ (α : Type) (s : St) (k : Ex → St → Option α) (z : α), (subE 4 an_circaref31_Table_l4 un_circaref31_Table_l4 (fun x => iterL (circaref31_Table_l4 n) n x) outK_circaref31_Table_l4).e α s k = some z → SemC Tryd.prog 96 (sac_circaref31_Table_l4).code s fun ex s' => k ex s' = some z := by
  intro α s k z h
  have e : sac_circaref31_Table_l4 = .loop ac_circaref31_Table_l4 := by kernel_rfl
  rw [e]
  exact subE_ok (m := 4) (f := fun x => iterL (circaref31_Table_l4 n) n x) (out := out_circaref31_Table_l4) outK_ok_circaref31_Table_l4 un_ok_circaref31_Table_l4 (fun x y hy => loop_ok (Es_ok_circaref31_Table n) (subs_circaref31_Table_l4 n) un_ok_circaref31_Table_l4 ux_ok_circaref31_Table_l4 (body_circaref31_Table_l4 n) n x y hy) h
theorem sub_circaref31_Table_l4 (n : Nat) : SubSt Tryd.prog 96 (Ls_circaref31_Table n) 4 sac_circaref31_Table_l4 := fun α s k z => sub1_circaref31_Table_l4 n α s k z
theorem subs_circaref31_Table_l3 (n : Nat) : SubOK Tryd.prog 96 (Ls_circaref31_Table n) ac_circaref31_Table_l3 := SubOK_of _ (by
  have e : subs ac_circaref31_Table_l3 = [(4, sac_circaref31_Table_l4)] := by kernel_rfl
  rw [e]; intro p hp
  simp only [List.mem_cons, List.not_mem_nil, or_false] at hp
  · rw [hp]; exact sub_circaref31_Table_l4 n
  )
theorem body_circaref31_Table_l3 (n : Nat) : ∀ x, run Tryd.prog (Es_circaref31_Table n) (Ls_circaref31_Table n) 96 ac_circaref31_Table_l3 (emb_circaref31_Table_l3 x) (roundK an_circaref31_Table_l3 un_circaref31_Table_l3 ax_circaref31_Table_l3 ux_circaref31_Table_l3) = circaref31_Table_l3 n x := fun _ => by kernel_rfl
theorem sub1_circaref31_Table_l3 (n : Nat) : ∀ (α : Type) (s : St) (k : Ex → St → Option α) (z : α), (subE 3 an_circaref31_Table_l3 un_circaref31_Table_l3 (fun x => iterL (circaref31_Table_l3 n) n x) outK_circaref31_Table_l3).e α s k = some z → SemC Tryd.prog 96 (sac_circaref31_Table_l3).code s fun ex s' => k ex s' = some z := by
  intro α s k z h
  have e : sac_circaref31_Table_l3 = .loop ac_circaref31_Table_l3 := by kernel_rfl
  rw [e]
  exact subE_ok (m := 3) (f := fun x => iterL (circaref31_Table_l3 n) n x) (out := out_circaref31_Table_l3) outK_ok_circaref31_Table_l3 un_ok_circaref31_Table_l3 (fun x y hy => loop_ok (Es_ok_circaref31_Table n) (subs_circaref31_Table_l3 n) un_ok_circaref31_Table_l3 ux_ok_circaref31_Table_l3 (body_circaref31_Table_l3 n) n x y hy) h
theorem sub_circaref31_Table_l3 (n : Nat) : SubSt Tryd.prog 96 (Ls_circaref31_Table n) 3 sac_circaref31_Table_l3 := fun α s k z => sub1_circaref31_Table_l3 n α s k z
theorem subs_circaref31_Table_l2 (n : Nat) : SubOK Tryd.prog 96 (Ls_circaref31_Table n) ac_circaref31_Table_l2 := SubOK_of _ (by
  have e : subs ac_circaref31_Table_l2 = [(3, sac_circaref31_Table_l3)] := by kernel_rfl
  rw [e]; intro p hp
  simp only [List.mem_cons, List.not_mem_nil, or_false] at hp
  · rw [hp]; exact sub_circaref31_Table_l3 n
  )
theorem body_circaref31_Table_l2 (n : Nat) : ∀ x, run Tryd.prog (Es_circaref31_Table n) (Ls_circaref31_Table n) 96 ac_circaref31_Table_l2 (emb_circaref31_Table_l2 x) (roundK an_circaref31_Table_l2 un_circaref31_Table_l2 ax_circaref31_Table_l2 ux_circaref31_Table_l2) = circaref31_Table_l2 n x := fun _ => by kernel_rfl
theorem sub1_circaref31_Table_l2 (n : Nat) : ∀ (α : Type) (s : St) (k : Ex → St → Option α) (z : α), (subE 2 an_circaref31_Table_l2 un_circaref31_Table_l2 (fun x => iterL (circaref31_Table_l2 n) n x) outK_circaref31_Table_l2).e α s k = some z → SemC Tryd.prog 96 (sac_circaref31_Table_l2).code s fun ex s' => k ex s' = some z := by
  intro α s k z h
  have e : sac_circaref31_Table_l2 = .loop ac_circaref31_Table_l2 := by kernel_rfl
  rw [e]
  exact subE_ok (m := 2) (f := fun x => iterL (circaref31_Table_l2 n) n x) (out := out_circaref31_Table_l2) outK_ok_circaref31_Table_l2 un_ok_circaref31_Table_l2 (fun x y hy => loop_ok (Es_ok_circaref31_Table n) (subs_circaref31_Table_l2 n) un_ok_circaref31_Table_l2 ux_ok_circaref31_Table_l2 (body_circaref31_Table_l2 n) n x y hy) h
theorem sub_circaref31_Table_l2 (n : Nat) : SubSt Tryd.prog 96 (Ls_circaref31_Table n) 2 sac_circaref31_Table_l2 := fun α s k z => sub1_circaref31_Table_l2 n α s k z
theorem subs_circaref31_Table (n : Nat) : SubOK Tryd.prog 96 (Ls_circaref31_Table n) (acOf Tryd.f31) := SubOK_of _ (by
  have e : subs (acOf Tryd.f31) = [(0, sac_circaref31_Table_l0), (2, sac_circaref31_Table_l2)] := by kernel_rfl
  rw [e]; intro p hp
  simp only [List.mem_cons, List.not_mem_nil, or_false] at hp
  rcases hp with hp | hp
  · rw [hp]; exact sub_circaref31_Table_l0 n
  · rw [hp]; exact sub_circaref31_Table_l2 n
  )
theorem cert_circaref31_Table (n : Nat) : run Tryd.prog (Es_circaref31_Table n) (Ls_circaref31_Table n) Tryd.f31.ntmps (acOf Tryd.f31) ⟨argsT [] 0, [], 0, 0, 0, 0⟩ (finK Tryd.prog Tryd.f31.results.toList (funX [] 0 0 0 unr_circaref31_Table)) = circaref31_Table n := by kernel_rfl
theorem fun_circaref31_Table (n : Nat) : ∀ a r, circaref31_Table n = some r → FunOK Tryd.prog 31 (arg_circaref31_Table a) (H0_circaref31_Table a) 0 0 0 (out_circaref31_Table r) := fun a r h => funX_ok (ws := []) unr_ok_circaref31_Table hv_circaref31_Table (fun r b blk hl => (chkH_look (hc_circaref31_Table r) b blk hl).2) (fun r => chkH_keys (hc_circaref31_Table r)) (by decide) (Es_ok_circaref31_Table n) Tryd.func31 rfl (acOf_code _) (subs_circaref31_Table n) rfl rfl ((cert_circaref31_Table n).trans h)
theorem ok_circaref31_Table (n : Nat) : EntOK Tryd.prog (e_circaref31_Table n) := funE_ok (m := 0) (ro := 0) (rb := 0) (out := out_circaref31_Table) (arg := arg_circaref31_Table) (H0 := H0_circaref31_Table) Tryd.call31 (by decide) (by decide) outK_ok_circaref31_Table una_ok_circaref31_Table (fun _ => rfl) (fun a => chkH_look (m := 0) (H := H0_circaref31_Table a) rfl) (fun _ => rfl) (fun r => chkH_keys (hc_circaref31_Table r)) (fun r b blk h => (chkH_look (hc_circaref31_Table r) b blk h).2) (fun r b h1 h2 => hasKeys_ok (hk_circaref31_Table r) b h1 (by omega)) hv_circaref31_Table (fun_circaref31_Table n)

/-! circa/circalaw31.RelationsKnown -/
noncomputable def arg_circalaw31_RelationsKnown (_a : Unit) : List V := []
noncomputable def una_circalaw31_RelationsKnown (l : List V) : Option (Unit) := match l with
  | [] => some ()
  | _ => none
theorem una_ok_circalaw31_RelationsKnown : ∀ l a, una_circalaw31_RelationsKnown l = some a → l = arg_circalaw31_RelationsKnown a := by
  intro l a h
  unfold una_circalaw31_RelationsKnown at h
  split at h
  · cases h; rfl
  · cases h
noncomputable def enc_circalaw31_RelationsKnown (r : Bool) : V := .b r
noncomputable def unr_circalaw31_RelationsKnown (v : V) : Option (Bool) := match v with
  | .b r0 => some r0
  | _ => none
theorem unr_ok_circalaw31_RelationsKnown : ∀ v r, unr_circalaw31_RelationsKnown v = some r → v = enc_circalaw31_RelationsKnown r := by
  intro v r h
  unfold unr_circalaw31_RelationsKnown at h
  split at h
  · cases h; rfl
  · cases h
noncomputable def e_circalaw31_RelationsKnown (n : Nat) : Ent := pureE 8 una_circalaw31_RelationsKnown (fun _a => circalaw31_RelationsKnown n) enc_circalaw31_RelationsKnown
noncomputable def t_circalaw31_RelationsKnown (l : List V) (_ : List (Nat × Blk)) : Bool := isS (una_circalaw31_RelationsKnown l)
noncomputable def Es_circalaw31_RelationsKnown (n : Nat) : List Ent := [e_circaref31_Table n, e_relations_Compose n, e_relations_Set_Converse n, e_relations_Set_Count n, e_circalaw31_RelationsNames n, e_circalaw31_run n, e_circalaw31_is n, e_circalaw31_RelationsOf n, e_circalaw31_RelationsSets n, e_circalaw31_RelationsText n, e_circalaw31_lives n]
theorem Es_ok_circalaw31_RelationsKnown (n : Nat) : ∀ x ∈ Es_circalaw31_RelationsKnown n, EntOK Tryd.prog x := by
  intro x hx
  simp only [Es_circalaw31_RelationsKnown, List.mem_cons, List.not_mem_nil, or_false] at hx
  rcases hx with hx | hx | hx | hx | hx | hx | hx | hx | hx | hx | hx
  · rw [hx]; exact ok_circaref31_Table n
  · rw [hx]; exact ok_relations_Compose n
  · rw [hx]; exact ok_relations_Set_Converse n
  · rw [hx]; exact ok_relations_Set_Count n
  · rw [hx]; exact ok_circalaw31_RelationsNames n
  · rw [hx]; exact ok_circalaw31_run n
  · rw [hx]; exact ok_circalaw31_is n
  · rw [hx]; exact ok_circalaw31_RelationsOf n
  · rw [hx]; exact ok_circalaw31_RelationsSets n
  · rw [hx]; exact ok_circalaw31_RelationsText n
  · rw [hx]; exact ok_circalaw31_lives n
noncomputable def an_circalaw31_RelationsKnown_l1 : Ann := ⟨[1, 2, 3, 4], [0], 1, []⟩
noncomputable def emb_circalaw31_RelationsKnown_l1 (x : Int × Int × Int × List (Int)) : St := ⟨[(1, some (.ws 0)), (2, some (.i .i64 x.1)), (3, some (.i .i64 x.2.1)), (4, some (.i .i64 x.2.2.1))], [(0, .rows [.i .i64] x.2.2.2)], 1, 0, 0, 0⟩
noncomputable def un_circalaw31_RelationsKnown_l1 (s : St) : Option (Int × Int × Int × List (Int)) := match s with
  | ⟨[(1, some (.ws 0)), (2, some (.i .i64 x0)), (3, some (.i .i64 x1)), (4, some (.i .i64 x2))], [(0, .rows [.i .i64] x3)], 1, 0, 0, 0⟩ => some (x0, x1, x2, x3)
  | _ => none
theorem un_ok_circalaw31_RelationsKnown_l1 : ∀ s x, un_circalaw31_RelationsKnown_l1 s = some x → s = emb_circalaw31_RelationsKnown_l1 x := by
  intro s x h
  unfold un_circalaw31_RelationsKnown_l1 at h
  split at h
  · cases h; rfl
  · cases h
noncomputable def ax_circalaw31_RelationsKnown_l1 : Ex → Ann := fun ex => match ex with
  | .ret => ⟨[0], [], 1, []⟩
  | .exit 2 => ⟨[1, 2, 3], [0], 1, []⟩
  | _ => ⟨[], [], 0, []⟩
noncomputable def out_circalaw31_RelationsKnown_l1 (y : Bool ⊕ (Int × Int × List (Int))) : Ex × St := (Sum.casesOn (motive := fun _ => Ex × St) y (fun a0 => (.ret, ⟨[(0, some (.b a0))], [], 1, 0, 0, 0⟩)) (fun b0 => (.exit 2, ⟨[(1, some (.ws 0)), (2, some (.i .i64 b0.1)), (3, some (.i .i64 b0.2.1))], [(0, .rows [.i .i64] b0.2.2)], 1, 0, 0, 0⟩)))
noncomputable def outK_circalaw31_RelationsKnown_l1 (α : Type) (y : Bool ⊕ (Int × Int × List (Int))) (k : Ex → St → Option α) : Option α := (Sum.casesOn (motive := fun _ => Option α) y (fun a0 => (k (.ret) ⟨[(0, some (.b a0))], [], 1, 0, 0, 0⟩)) (fun b0 => (k (.exit 2) ⟨[(1, some (.ws 0)), (2, some (.i .i64 b0.1)), (3, some (.i .i64 b0.2.1))], [(0, .rows [.i .i64] b0.2.2)], 1, 0, 0, 0⟩)))
theorem outK_ok_circalaw31_RelationsKnown_l1 : ∀ α y k, outK_circalaw31_RelationsKnown_l1 α y k = k (out_circalaw31_RelationsKnown_l1 y).1 (out_circalaw31_RelationsKnown_l1 y).2 := by
  intro α y k
  rcases y with y | y <;> rfl
noncomputable def ux_circalaw31_RelationsKnown_l1 (ex : Ex) (s : St) : Option (Bool ⊕ (Int × Int × List (Int))) := match ex, s with
  | .ret, ⟨[(0, some (.b y0))], [], 1, 0, 0, 0⟩ => some (.inl y0)
  | .exit 2, ⟨[(1, some (.ws 0)), (2, some (.i .i64 y0)), (3, some (.i .i64 y1))], [(0, .rows [.i .i64] y2)], 1, 0, 0, 0⟩ => some (.inr (y0, y1, y2))
  | _, _ => none
theorem ux_ok_circalaw31_RelationsKnown_l1 : ∀ ex s y, ux_circalaw31_RelationsKnown_l1 ex s = some y → (ex, s) = out_circalaw31_RelationsKnown_l1 y := by
  intro ex s y h
  unfold ux_circalaw31_RelationsKnown_l1 at h
  split at h
  · cases h; rfl
  · cases h; rfl
  · cases h
noncomputable def an_circalaw31_RelationsKnown_l0 : Ann := ⟨[1, 2, 3], [0], 1, []⟩
noncomputable def emb_circalaw31_RelationsKnown_l0 (x : Int × Int × List (Int)) : St := ⟨[(1, some (.ws 0)), (2, some (.i .i64 x.1)), (3, some (.i .i64 x.2.1))], [(0, .rows [.i .i64] x.2.2)], 1, 0, 0, 0⟩
noncomputable def un_circalaw31_RelationsKnown_l0 (s : St) : Option (Int × Int × List (Int)) := match s with
  | ⟨[(1, some (.ws 0)), (2, some (.i .i64 x0)), (3, some (.i .i64 x1))], [(0, .rows [.i .i64] x2)], 1, 0, 0, 0⟩ => some (x0, x1, x2)
  | _ => none
theorem un_ok_circalaw31_RelationsKnown_l0 : ∀ s x, un_circalaw31_RelationsKnown_l0 s = some x → s = emb_circalaw31_RelationsKnown_l0 x := by
  intro s x h
  unfold un_circalaw31_RelationsKnown_l0 at h
  split at h
  · cases h; rfl
  · cases h
noncomputable def ax_circalaw31_RelationsKnown_l0 : Ex → Ann := fun ex => match ex with
  | .ret => ⟨[0], [], 1, []⟩
  | .exit 0 => ⟨[2], [], 1, []⟩
  | _ => ⟨[], [], 0, []⟩
noncomputable def out_circalaw31_RelationsKnown_l0 (y : Bool ⊕ Int) : Ex × St := (Sum.casesOn (motive := fun _ => Ex × St) y (fun a0 => (.ret, ⟨[(0, some (.b a0))], [], 1, 0, 0, 0⟩)) (fun b0 => (.exit 0, ⟨[(2, some (.i .i64 b0))], [], 1, 0, 0, 0⟩)))
noncomputable def outK_circalaw31_RelationsKnown_l0 (α : Type) (y : Bool ⊕ Int) (k : Ex → St → Option α) : Option α := (Sum.casesOn (motive := fun _ => Option α) y (fun a0 => (k (.ret) ⟨[(0, some (.b a0))], [], 1, 0, 0, 0⟩)) (fun b0 => (k (.exit 0) ⟨[(2, some (.i .i64 b0))], [], 1, 0, 0, 0⟩)))
theorem outK_ok_circalaw31_RelationsKnown_l0 : ∀ α y k, outK_circalaw31_RelationsKnown_l0 α y k = k (out_circalaw31_RelationsKnown_l0 y).1 (out_circalaw31_RelationsKnown_l0 y).2 := by
  intro α y k
  rcases y with y | y <;> rfl
noncomputable def ux_circalaw31_RelationsKnown_l0 (ex : Ex) (s : St) : Option (Bool ⊕ Int) := match ex, s with
  | .ret, ⟨[(0, some (.b y0))], [], 1, 0, 0, 0⟩ => some (.inl y0)
  | .exit 0, ⟨[(2, some (.i .i64 y0))], [], 1, 0, 0, 0⟩ => some (.inr y0)
  | _, _ => none
theorem ux_ok_circalaw31_RelationsKnown_l0 : ∀ ex s y, ux_circalaw31_RelationsKnown_l0 ex s = some y → (ex, s) = out_circalaw31_RelationsKnown_l0 y := by
  intro ex s y h
  unfold ux_circalaw31_RelationsKnown_l0 at h
  split at h
  · cases h; rfl
  · cases h; rfl
  · cases h
noncomputable def an_circalaw31_RelationsKnown_l3 : Ann := ⟨[16, 17, 18], [354], 370, []⟩
noncomputable def emb_circalaw31_RelationsKnown_l3 (x : Int × Int × List (Int × Int × Int × Int)) : St := ⟨[(16, some (.ws 354)), (17, some (.i .i64 x.1)), (18, some (.i .i64 x.2.1))], [(354, .rows [.i .i8, .i .i64, .i .i8, .i .i64] x.2.2)], 370, 0, 0, 0⟩
noncomputable def un_circalaw31_RelationsKnown_l3 (s : St) : Option (Int × Int × List (Int × Int × Int × Int)) := match s with
  | ⟨[(16, some (.ws 354)), (17, some (.i .i64 x0)), (18, some (.i .i64 x1))], [(354, .rows [.i .i8, .i .i64, .i .i8, .i .i64] x2)], 370, 0, 0, 0⟩ => some (x0, x1, x2)
  | _ => none
theorem un_ok_circalaw31_RelationsKnown_l3 : ∀ s x, un_circalaw31_RelationsKnown_l3 s = some x → s = emb_circalaw31_RelationsKnown_l3 x := by
  intro s x h
  unfold un_circalaw31_RelationsKnown_l3 at h
  split at h
  · cases h; rfl
  · cases h
noncomputable def ax_circalaw31_RelationsKnown_l3 : Ex → Ann := fun ex => match ex with
  | .ret => ⟨[0], [], 370, []⟩
  | .exit 6 => ⟨[16, 17], [354], 370, []⟩
  | _ => ⟨[], [], 0, []⟩
noncomputable def out_circalaw31_RelationsKnown_l3 (y : Bool ⊕ (Int × List (Int × Int × Int × Int))) : Ex × St := (Sum.casesOn (motive := fun _ => Ex × St) y (fun a0 => (.ret, ⟨[(0, some (.b a0))], [], 370, 0, 0, 0⟩)) (fun b0 => (.exit 6, ⟨[(16, some (.ws 354)), (17, some (.i .i64 b0.1))], [(354, .rows [.i .i8, .i .i64, .i .i8, .i .i64] b0.2)], 370, 0, 0, 0⟩)))
noncomputable def outK_circalaw31_RelationsKnown_l3 (α : Type) (y : Bool ⊕ (Int × List (Int × Int × Int × Int))) (k : Ex → St → Option α) : Option α := (Sum.casesOn (motive := fun _ => Option α) y (fun a0 => (k (.ret) ⟨[(0, some (.b a0))], [], 370, 0, 0, 0⟩)) (fun b0 => (k (.exit 6) ⟨[(16, some (.ws 354)), (17, some (.i .i64 b0.1))], [(354, .rows [.i .i8, .i .i64, .i .i8, .i .i64] b0.2)], 370, 0, 0, 0⟩)))
theorem outK_ok_circalaw31_RelationsKnown_l3 : ∀ α y k, outK_circalaw31_RelationsKnown_l3 α y k = k (out_circalaw31_RelationsKnown_l3 y).1 (out_circalaw31_RelationsKnown_l3 y).2 := by
  intro α y k
  rcases y with y | y <;> rfl
noncomputable def ux_circalaw31_RelationsKnown_l3 (ex : Ex) (s : St) : Option (Bool ⊕ (Int × List (Int × Int × Int × Int))) := match ex, s with
  | .ret, ⟨[(0, some (.b y0))], [], 370, 0, 0, 0⟩ => some (.inl y0)
  | .exit 6, ⟨[(16, some (.ws 354)), (17, some (.i .i64 y0))], [(354, .rows [.i .i8, .i .i64, .i .i8, .i .i64] y1)], 370, 0, 0, 0⟩ => some (.inr (y0, y1))
  | _, _ => none
theorem ux_ok_circalaw31_RelationsKnown_l3 : ∀ ex s y, ux_circalaw31_RelationsKnown_l3 ex s = some y → (ex, s) = out_circalaw31_RelationsKnown_l3 y := by
  intro ex s y h
  unfold ux_circalaw31_RelationsKnown_l3 at h
  split at h
  · cases h; rfl
  · cases h; rfl
  · cases h
noncomputable def an_circalaw31_RelationsKnown_l2 : Ann := ⟨[16, 17], [354], 370, []⟩
noncomputable def emb_circalaw31_RelationsKnown_l2 (x : Int × List (Int × Int × Int × Int)) : St := ⟨[(16, some (.ws 354)), (17, some (.i .i64 x.1))], [(354, .rows [.i .i8, .i .i64, .i .i8, .i .i64] x.2)], 370, 0, 0, 0⟩
noncomputable def un_circalaw31_RelationsKnown_l2 (s : St) : Option (Int × List (Int × Int × Int × Int)) := match s with
  | ⟨[(16, some (.ws 354)), (17, some (.i .i64 x0))], [(354, .rows [.i .i8, .i .i64, .i .i8, .i .i64] x1)], 370, 0, 0, 0⟩ => some (x0, x1)
  | _ => none
theorem un_ok_circalaw31_RelationsKnown_l2 : ∀ s x, un_circalaw31_RelationsKnown_l2 s = some x → s = emb_circalaw31_RelationsKnown_l2 x := by
  intro s x h
  unfold un_circalaw31_RelationsKnown_l2 at h
  split at h
  · cases h; rfl
  · cases h
noncomputable def ax_circalaw31_RelationsKnown_l2 : Ex → Ann := fun ex => match ex with
  | .ret => ⟨[0], [], 370, []⟩
  | .exit 4 => ⟨[], [], 370, []⟩
  | _ => ⟨[], [], 0, []⟩
noncomputable def out_circalaw31_RelationsKnown_l2 (y : Bool ⊕ Unit) : Ex × St := (Sum.casesOn (motive := fun _ => Ex × St) y (fun a0 => (.ret, ⟨[(0, some (.b a0))], [], 370, 0, 0, 0⟩)) (fun b0 => (.exit 4, ⟨[], [], 370, 0, 0, 0⟩)))
noncomputable def outK_circalaw31_RelationsKnown_l2 (α : Type) (y : Bool ⊕ Unit) (k : Ex → St → Option α) : Option α := (Sum.casesOn (motive := fun _ => Option α) y (fun a0 => (k (.ret) ⟨[(0, some (.b a0))], [], 370, 0, 0, 0⟩)) (fun b0 => (k (.exit 4) ⟨[], [], 370, 0, 0, 0⟩)))
theorem outK_ok_circalaw31_RelationsKnown_l2 : ∀ α y k, outK_circalaw31_RelationsKnown_l2 α y k = k (out_circalaw31_RelationsKnown_l2 y).1 (out_circalaw31_RelationsKnown_l2 y).2 := by
  intro α y k
  rcases y with y | y <;> rfl
noncomputable def ux_circalaw31_RelationsKnown_l2 (ex : Ex) (s : St) : Option (Bool ⊕ Unit) := match ex, s with
  | .ret, ⟨[(0, some (.b y0))], [], 370, 0, 0, 0⟩ => some (.inl y0)
  | .exit 4, ⟨[], [], 370, 0, 0, 0⟩ => some (.inr ())
  | _, _ => none
theorem ux_ok_circalaw31_RelationsKnown_l2 : ∀ ex s y, ux_circalaw31_RelationsKnown_l2 ex s = some y → (ex, s) = out_circalaw31_RelationsKnown_l2 y := by
  intro ex s y h
  unfold ux_circalaw31_RelationsKnown_l2 at h
  split at h
  · cases h; rfl
  · cases h; rfl
  · cases h
noncomputable def Ls_circalaw31_RelationsKnown (n : Nat) : List Sub := [subE 1 an_circalaw31_RelationsKnown_l1 un_circalaw31_RelationsKnown_l1 (fun x => iterL (circalaw31_RelationsKnown_l1 n) n x) outK_circalaw31_RelationsKnown_l1, subE 0 an_circalaw31_RelationsKnown_l0 un_circalaw31_RelationsKnown_l0 (fun x => iterL (circalaw31_RelationsKnown_l0 n) n x) outK_circalaw31_RelationsKnown_l0, subE 3 an_circalaw31_RelationsKnown_l3 un_circalaw31_RelationsKnown_l3 (fun x => iterL (circalaw31_RelationsKnown_l3 n) n x) outK_circalaw31_RelationsKnown_l3, subE 2 an_circalaw31_RelationsKnown_l2 un_circalaw31_RelationsKnown_l2 (fun x => iterL (circalaw31_RelationsKnown_l2 n) n x) outK_circalaw31_RelationsKnown_l2]
noncomputable def sac_circalaw31_RelationsKnown_l0 : AC := getS (subs (acOf Tryd.f8)) 0
noncomputable def ac_circalaw31_RelationsKnown_l0 : AC := AC.body sac_circalaw31_RelationsKnown_l0
noncomputable def sac_circalaw31_RelationsKnown_l1 : AC := getS (subs ac_circalaw31_RelationsKnown_l0) 1
noncomputable def ac_circalaw31_RelationsKnown_l1 : AC := AC.body sac_circalaw31_RelationsKnown_l1
theorem subs_circalaw31_RelationsKnown_l1 (n : Nat) : SubOK Tryd.prog 210 (Ls_circalaw31_RelationsKnown n) ac_circalaw31_RelationsKnown_l1 := SubOK_of _ (by
  have e : subs ac_circalaw31_RelationsKnown_l1 = [] := by kernel_rfl
  rw [e]; intro p hp; cases hp)
theorem body_circalaw31_RelationsKnown_l1 (n : Nat) : ∀ x, run Tryd.prog (Es_circalaw31_RelationsKnown n) (Ls_circalaw31_RelationsKnown n) 210 ac_circalaw31_RelationsKnown_l1 (emb_circalaw31_RelationsKnown_l1 x) (roundK an_circalaw31_RelationsKnown_l1 un_circalaw31_RelationsKnown_l1 ax_circalaw31_RelationsKnown_l1 ux_circalaw31_RelationsKnown_l1) = circalaw31_RelationsKnown_l1 n x := fun _ => by kernel_rfl
theorem sub1_circalaw31_RelationsKnown_l1 (n : Nat) : ∀ (α : Type) (s : St) (k : Ex → St → Option α) (z : α), (subE 1 an_circalaw31_RelationsKnown_l1 un_circalaw31_RelationsKnown_l1 (fun x => iterL (circalaw31_RelationsKnown_l1 n) n x) outK_circalaw31_RelationsKnown_l1).e α s k = some z → SemC Tryd.prog 210 (sac_circalaw31_RelationsKnown_l1).code s fun ex s' => k ex s' = some z := by
  intro α s k z h
  have e : sac_circalaw31_RelationsKnown_l1 = .loop ac_circalaw31_RelationsKnown_l1 := by kernel_rfl
  rw [e]
  exact subE_ok (m := 1) (f := fun x => iterL (circalaw31_RelationsKnown_l1 n) n x) (out := out_circalaw31_RelationsKnown_l1) outK_ok_circalaw31_RelationsKnown_l1 un_ok_circalaw31_RelationsKnown_l1 (fun x y hy => loop_ok (Es_ok_circalaw31_RelationsKnown n) (subs_circalaw31_RelationsKnown_l1 n) un_ok_circalaw31_RelationsKnown_l1 ux_ok_circalaw31_RelationsKnown_l1 (body_circalaw31_RelationsKnown_l1 n) n x y hy) h
theorem sub_circalaw31_RelationsKnown_l1 (n : Nat) : SubSt Tryd.prog 210 (Ls_circalaw31_RelationsKnown n) 1 sac_circalaw31_RelationsKnown_l1 := fun α s k z => sub1_circalaw31_RelationsKnown_l1 n α s k z
theorem subs_circalaw31_RelationsKnown_l0 (n : Nat) : SubOK Tryd.prog 210 (Ls_circalaw31_RelationsKnown n) ac_circalaw31_RelationsKnown_l0 := SubOK_of _ (by
  have e : subs ac_circalaw31_RelationsKnown_l0 = [(1, sac_circalaw31_RelationsKnown_l1)] := by kernel_rfl
  rw [e]; intro p hp
  simp only [List.mem_cons, List.not_mem_nil, or_false] at hp
  · rw [hp]; exact sub_circalaw31_RelationsKnown_l1 n
  )
theorem body_circalaw31_RelationsKnown_l0 (n : Nat) : ∀ x, run Tryd.prog (Es_circalaw31_RelationsKnown n) (Ls_circalaw31_RelationsKnown n) 210 ac_circalaw31_RelationsKnown_l0 (emb_circalaw31_RelationsKnown_l0 x) (roundK an_circalaw31_RelationsKnown_l0 un_circalaw31_RelationsKnown_l0 ax_circalaw31_RelationsKnown_l0 ux_circalaw31_RelationsKnown_l0) = circalaw31_RelationsKnown_l0 n x := fun _ => by kernel_rfl
theorem sub1_circalaw31_RelationsKnown_l0 (n : Nat) : ∀ (α : Type) (s : St) (k : Ex → St → Option α) (z : α), (subE 0 an_circalaw31_RelationsKnown_l0 un_circalaw31_RelationsKnown_l0 (fun x => iterL (circalaw31_RelationsKnown_l0 n) n x) outK_circalaw31_RelationsKnown_l0).e α s k = some z → SemC Tryd.prog 210 (sac_circalaw31_RelationsKnown_l0).code s fun ex s' => k ex s' = some z := by
  intro α s k z h
  have e : sac_circalaw31_RelationsKnown_l0 = .loop ac_circalaw31_RelationsKnown_l0 := by kernel_rfl
  rw [e]
  exact subE_ok (m := 0) (f := fun x => iterL (circalaw31_RelationsKnown_l0 n) n x) (out := out_circalaw31_RelationsKnown_l0) outK_ok_circalaw31_RelationsKnown_l0 un_ok_circalaw31_RelationsKnown_l0 (fun x y hy => loop_ok (Es_ok_circalaw31_RelationsKnown n) (subs_circalaw31_RelationsKnown_l0 n) un_ok_circalaw31_RelationsKnown_l0 ux_ok_circalaw31_RelationsKnown_l0 (body_circalaw31_RelationsKnown_l0 n) n x y hy) h
theorem sub_circalaw31_RelationsKnown_l0 (n : Nat) : SubSt Tryd.prog 210 (Ls_circalaw31_RelationsKnown n) 0 sac_circalaw31_RelationsKnown_l0 := fun α s k z => sub1_circalaw31_RelationsKnown_l0 n α s k z
noncomputable def sac_circalaw31_RelationsKnown_l2 : AC := getS (subs (acOf Tryd.f8)) 2
noncomputable def ac_circalaw31_RelationsKnown_l2 : AC := AC.body sac_circalaw31_RelationsKnown_l2
noncomputable def sac_circalaw31_RelationsKnown_l3 : AC := getS (subs ac_circalaw31_RelationsKnown_l2) 3
noncomputable def ac_circalaw31_RelationsKnown_l3 : AC := AC.body sac_circalaw31_RelationsKnown_l3
theorem subs_circalaw31_RelationsKnown_l3 (n : Nat) : SubOK Tryd.prog 210 (Ls_circalaw31_RelationsKnown n) ac_circalaw31_RelationsKnown_l3 := SubOK_of _ (by
  have e : subs ac_circalaw31_RelationsKnown_l3 = [] := by kernel_rfl
  rw [e]; intro p hp; cases hp)
theorem body_circalaw31_RelationsKnown_l3 (n : Nat) : ∀ x, run Tryd.prog (Es_circalaw31_RelationsKnown n) (Ls_circalaw31_RelationsKnown n) 210 ac_circalaw31_RelationsKnown_l3 (emb_circalaw31_RelationsKnown_l3 x) (roundK an_circalaw31_RelationsKnown_l3 un_circalaw31_RelationsKnown_l3 ax_circalaw31_RelationsKnown_l3 ux_circalaw31_RelationsKnown_l3) = circalaw31_RelationsKnown_l3 n x := fun _ => by kernel_rfl
theorem sub1_circalaw31_RelationsKnown_l3 (n : Nat) : ∀ (α : Type) (s : St) (k : Ex → St → Option α) (z : α), (subE 3 an_circalaw31_RelationsKnown_l3 un_circalaw31_RelationsKnown_l3 (fun x => iterL (circalaw31_RelationsKnown_l3 n) n x) outK_circalaw31_RelationsKnown_l3).e α s k = some z → SemC Tryd.prog 210 (sac_circalaw31_RelationsKnown_l3).code s fun ex s' => k ex s' = some z := by
  intro α s k z h
  have e : sac_circalaw31_RelationsKnown_l3 = .loop ac_circalaw31_RelationsKnown_l3 := by kernel_rfl
  rw [e]
  exact subE_ok (m := 3) (f := fun x => iterL (circalaw31_RelationsKnown_l3 n) n x) (out := out_circalaw31_RelationsKnown_l3) outK_ok_circalaw31_RelationsKnown_l3 un_ok_circalaw31_RelationsKnown_l3 (fun x y hy => loop_ok (Es_ok_circalaw31_RelationsKnown n) (subs_circalaw31_RelationsKnown_l3 n) un_ok_circalaw31_RelationsKnown_l3 ux_ok_circalaw31_RelationsKnown_l3 (body_circalaw31_RelationsKnown_l3 n) n x y hy) h
theorem sub_circalaw31_RelationsKnown_l3 (n : Nat) : SubSt Tryd.prog 210 (Ls_circalaw31_RelationsKnown n) 3 sac_circalaw31_RelationsKnown_l3 := fun α s k z => sub1_circalaw31_RelationsKnown_l3 n α s k z
theorem subs_circalaw31_RelationsKnown_l2 (n : Nat) : SubOK Tryd.prog 210 (Ls_circalaw31_RelationsKnown n) ac_circalaw31_RelationsKnown_l2 := SubOK_of _ (by
  have e : subs ac_circalaw31_RelationsKnown_l2 = [(3, sac_circalaw31_RelationsKnown_l3)] := by kernel_rfl
  rw [e]; intro p hp
  simp only [List.mem_cons, List.not_mem_nil, or_false] at hp
  · rw [hp]; exact sub_circalaw31_RelationsKnown_l3 n
  )
theorem body_circalaw31_RelationsKnown_l2 (n : Nat) : ∀ x, run Tryd.prog (Es_circalaw31_RelationsKnown n) (Ls_circalaw31_RelationsKnown n) 210 ac_circalaw31_RelationsKnown_l2 (emb_circalaw31_RelationsKnown_l2 x) (roundK an_circalaw31_RelationsKnown_l2 un_circalaw31_RelationsKnown_l2 ax_circalaw31_RelationsKnown_l2 ux_circalaw31_RelationsKnown_l2) = circalaw31_RelationsKnown_l2 n x := fun _ => by kernel_rfl
theorem sub1_circalaw31_RelationsKnown_l2 (n : Nat) : ∀ (α : Type) (s : St) (k : Ex → St → Option α) (z : α), (subE 2 an_circalaw31_RelationsKnown_l2 un_circalaw31_RelationsKnown_l2 (fun x => iterL (circalaw31_RelationsKnown_l2 n) n x) outK_circalaw31_RelationsKnown_l2).e α s k = some z → SemC Tryd.prog 210 (sac_circalaw31_RelationsKnown_l2).code s fun ex s' => k ex s' = some z := by
  intro α s k z h
  have e : sac_circalaw31_RelationsKnown_l2 = .loop ac_circalaw31_RelationsKnown_l2 := by kernel_rfl
  rw [e]
  exact subE_ok (m := 2) (f := fun x => iterL (circalaw31_RelationsKnown_l2 n) n x) (out := out_circalaw31_RelationsKnown_l2) outK_ok_circalaw31_RelationsKnown_l2 un_ok_circalaw31_RelationsKnown_l2 (fun x y hy => loop_ok (Es_ok_circalaw31_RelationsKnown n) (subs_circalaw31_RelationsKnown_l2 n) un_ok_circalaw31_RelationsKnown_l2 ux_ok_circalaw31_RelationsKnown_l2 (body_circalaw31_RelationsKnown_l2 n) n x y hy) h
theorem sub_circalaw31_RelationsKnown_l2 (n : Nat) : SubSt Tryd.prog 210 (Ls_circalaw31_RelationsKnown n) 2 sac_circalaw31_RelationsKnown_l2 := fun α s k z => sub1_circalaw31_RelationsKnown_l2 n α s k z
theorem subs_circalaw31_RelationsKnown (n : Nat) : SubOK Tryd.prog 210 (Ls_circalaw31_RelationsKnown n) (acOf Tryd.f8) := SubOK_of _ (by
  have e : subs (acOf Tryd.f8) = [(0, sac_circalaw31_RelationsKnown_l0), (2, sac_circalaw31_RelationsKnown_l2)] := by kernel_rfl
  rw [e]; intro p hp
  simp only [List.mem_cons, List.not_mem_nil, or_false] at hp
  rcases hp with hp | hp
  · rw [hp]; exact sub_circalaw31_RelationsKnown_l0 n
  · rw [hp]; exact sub_circalaw31_RelationsKnown_l2 n
  )
theorem cert_circalaw31_RelationsKnown (n : Nat) : run Tryd.prog (Es_circalaw31_RelationsKnown n) (Ls_circalaw31_RelationsKnown n) Tryd.f8.ntmps (acOf Tryd.f8) ⟨argsT [] 0, [], 0, 0, 0, 0⟩ (finK Tryd.prog Tryd.f8.results.toList (retX unr_circalaw31_RelationsKnown)) = circalaw31_RelationsKnown n := by kernel_rfl
theorem pure_circalaw31_RelationsKnown (n : Nat) : ∀ a r, circalaw31_RelationsKnown n = some r → PureOK Tryd.prog 8 (arg_circalaw31_RelationsKnown a) (enc_circalaw31_RelationsKnown r) := fun a r h => pureX_ok unr_ok_circalaw31_RelationsKnown (Es_ok_circalaw31_RelationsKnown n) Tryd.func8 rfl (acOf_code _) (subs_circalaw31_RelationsKnown n) rfl ((cert_circalaw31_RelationsKnown n).trans h)
theorem ok_circalaw31_RelationsKnown (n : Nat) : EntOK Tryd.prog (e_circalaw31_RelationsKnown n) := pureE_ok Tryd.call8 una_ok_circalaw31_RelationsKnown (fun _ => rfl) (pure_circalaw31_RelationsKnown n)

end Go.Sh
