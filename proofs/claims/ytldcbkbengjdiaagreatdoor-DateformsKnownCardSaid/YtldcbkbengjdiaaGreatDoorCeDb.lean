/- Each function of the program computes its plain function: the certificates.
   Conditions: none. Printed by the bench tool gen.py. -/
import Derived.Test.YtldcbkbengjdiaaGreatDoorCeDa
import Derived.Test.YtldcbkbengjdiaaGreatDoorYText
set_option linter.unusedVariables false
set_option linter.unusedSimpArgs false
set_option maxRecDepth 100000
set_option maxHeartbeats 4000000
namespace Go.Sh
open Go.Abs Go.Proofs

noncomputable def e_lib_53 (n : Nat) : Ent := ytextE 53 (yearforms_Check n)
theorem ok_lib_53 (n : Nat) : EntOK Tryz.prog (e_lib_53 n) := ytextE_ok Tryz.call53 (ytext_err n) (ytext_ok n)

/-! circa/marks.Text -/
noncomputable def arg_marks_Text (a : Int) : List V := [.i .u8 a]
noncomputable def una_marks_Text (l : List V) : Option (Int) := match l with
  | [.i .u8 a0] => some a0
  | _ => none
theorem una_ok_marks_Text : ∀ l a, una_marks_Text l = some a → l = arg_marks_Text a := by
  intro l a h
  unfold una_marks_Text at h
  split at h
  · cases h; rfl
  · cases h
noncomputable def enc_marks_Text (r : List UInt8 × Int) : V := .tp [.s r.1, .i .i64 r.2]
noncomputable def unr_marks_Text (v : V) : Option (List UInt8 × Int) := match v with
  | .tp [.s r0, .i .i64 r1] => some (r0, r1)
  | _ => none
theorem unr_ok_marks_Text : ∀ v r, unr_marks_Text v = some r → v = enc_marks_Text r := by
  intro v r h
  unfold unr_marks_Text at h
  split at h
  · cases h; rfl
  · cases h
noncomputable def e_marks_Text (n : Nat) : Ent := pureE 54 una_marks_Text (fun a => marks_Text n a) enc_marks_Text
noncomputable def t_marks_Text (l : List V) (_ : List (Nat × Blk)) : Bool := isS (una_marks_Text l)
noncomputable def Es_marks_Text (n : Nat) : List Ent := [e_marks_Check n, e_marks_texts n]
theorem Es_ok_marks_Text (n : Nat) : ∀ x ∈ Es_marks_Text n, EntOK Tryz.prog x := by
  intro x hx
  simp only [Es_marks_Text, List.mem_cons, List.not_mem_nil, or_false] at hx
  rcases hx with hx | hx
  · rw [hx]; exact ok_marks_Check n
  · rw [hx]; exact ok_marks_texts n
noncomputable def Ls_marks_Text (_n : Nat) : List Sub := []
theorem subs_marks_Text (n : Nat) : SubOK Tryz.prog 13 (Ls_marks_Text n) (acOf Tryz.f54) := SubOK_of _ (by
  have e : subs (acOf Tryz.f54) = [] := by kernel_rfl
  rw [e]; intro p hp; cases hp)
theorem cert_marks_Text (n : Nat) (a0 : Int) : run Tryz.prog (Es_marks_Text n) (Ls_marks_Text n) Tryz.f54.ntmps (acOf Tryz.f54) ⟨argsT [.i .u8 a0] 0, [], 0, 0, 0, 0⟩ (finK Tryz.prog Tryz.f54.results.toList (retX unr_marks_Text)) = marks_Text n a0 := by kernel_rfl
theorem pure_marks_Text (n : Nat) : ∀ a r, marks_Text n a = some r → PureOK Tryz.prog 54 (arg_marks_Text a) (enc_marks_Text r) := fun a r h => pureX_ok unr_ok_marks_Text (Es_ok_marks_Text n) Tryz.func54 rfl (acOf_code _) (subs_marks_Text n) rfl ((cert_marks_Text n a).trans h)
theorem ok_marks_Text (n : Nat) : EntOK Tryz.prog (e_marks_Text n) := pureE_ok Tryz.call54 una_ok_marks_Text (fun _ => rfl) (pure_marks_Text n)

noncomputable def e_lib_55 (_n : Nat) : Ent := joinE 55
theorem ok_lib_55 (n : Nat) : EntOK Tryz.prog (e_lib_55 n) := joinE_ok Tryz.call55 Tryz.strings_Join_none Tryz.strings_Join

/-! circa/dateforms.Text -/
noncomputable def arg_dateforms_Text (a : Bool × Bool × List UInt8 × Int × Int × List UInt8 × List UInt8 × Int × Int × Int) : List V := [.ag [.b a.1, .b a.2.1, .s a.2.2.1, .i .i64 a.2.2.2.1, .i .i64 a.2.2.2.2.1, .s a.2.2.2.2.2.1, .s a.2.2.2.2.2.2.1, .i .u8 a.2.2.2.2.2.2.2.1, .i .u8 a.2.2.2.2.2.2.2.2.1, .i .u8 a.2.2.2.2.2.2.2.2.2]]
noncomputable def una_dateforms_Text (l : List V) : Option (Bool × Bool × List UInt8 × Int × Int × List UInt8 × List UInt8 × Int × Int × Int) := match l with
  | [.ag [.b a0, .b a1, .s a2, .i .i64 a3, .i .i64 a4, .s a5, .s a6, .i .u8 a7, .i .u8 a8, .i .u8 a9]] => some (a0, a1, a2, a3, a4, a5, a6, a7, a8, a9)
  | _ => none
theorem una_ok_dateforms_Text : ∀ l a, una_dateforms_Text l = some a → l = arg_dateforms_Text a := by
  intro l a h
  unfold una_dateforms_Text at h
  split at h
  · cases h; rfl
  · cases h
noncomputable def enc_dateforms_Text (r : List UInt8 × Int) : V := .tp [.s r.1, .i .i64 r.2]
noncomputable def unr_dateforms_Text (v : V) : Option (List UInt8 × Int) := match v with
  | .tp [.s r0, .i .i64 r1] => some (r0, r1)
  | _ => none
theorem unr_ok_dateforms_Text : ∀ v r, unr_dateforms_Text v = some r → v = enc_dateforms_Text r := by
  intro v r h
  unfold unr_dateforms_Text at h
  split at h
  · cases h; rfl
  · cases h
noncomputable def e_dateforms_Text (n : Nat) : Ent := pureE 15 una_dateforms_Text (fun a => dateforms_Text n a.1 a.2.1 a.2.2.1 a.2.2.2.1 a.2.2.2.2.1 a.2.2.2.2.2.1 a.2.2.2.2.2.2.1 a.2.2.2.2.2.2.2.1 a.2.2.2.2.2.2.2.2.1 a.2.2.2.2.2.2.2.2.2) enc_dateforms_Text
noncomputable def t_dateforms_Text (l : List V) (_ : List (Nat × Blk)) : Bool := isS (una_dateforms_Text l)
noncomputable def Es_dateforms_Text (n : Nat) : List Ent := [e_dateforms_Check n, e_dateforms_Components n, e_marks_Plain n, e_lib_53 n, e_marks_Text n, e_lib_55 n]
theorem Es_ok_dateforms_Text (n : Nat) : ∀ x ∈ Es_dateforms_Text n, EntOK Tryz.prog x := by
  intro x hx
  simp only [Es_dateforms_Text, List.mem_cons, List.not_mem_nil, or_false] at hx
  rcases hx with hx | hx | hx | hx | hx | hx
  · rw [hx]; exact ok_dateforms_Check n
  · rw [hx]; exact ok_dateforms_Components n
  · rw [hx]; exact ok_marks_Plain n
  · rw [hx]; exact ok_lib_53 n
  · rw [hx]; exact ok_marks_Text n
  · rw [hx]; exact ok_lib_55 n
noncomputable def an_dateforms_Text_l0 : Ann := ⟨[6, 7, 11, 48, 49, 50], [1, 2, 3, 4], 5, []⟩
noncomputable def emb_dateforms_Text_l0 (x : Nat × Int × Int × List Int × List Int × List (List UInt8) × List (List UInt8)) : St := ⟨[(6, some (.p 1 0)), (7, some (.p 2 0)), (11, some (.ws 3)), (48, some (.rs 1 4 0 x.1 none)), (49, some (.i .i64 x.2.1)), (50, some (.i .i64 x.2.2.1))], [(1, .ints .u8 3 x.2.2.2.1), (2, .ints .u8 3 x.2.2.2.2.1), (3, .rows [.s] x.2.2.2.2.2.1), (4, .rows [.s] x.2.2.2.2.2.2)], 5, 0, 0, 0⟩
noncomputable def un_dateforms_Text_l0 (s : St) : Option (Nat × Int × Int × List Int × List Int × List (List UInt8) × List (List UInt8)) := match s with
  | ⟨[(6, some (.p 1 0)), (7, some (.p 2 0)), (11, some (.ws 3)), (48, some (.rs 1 4 0 x0 none)), (49, some (.i .i64 x1)), (50, some (.i .i64 x2))], [(1, .ints .u8 3 x3), (2, .ints .u8 3 x4), (3, .rows [.s] x5), (4, .rows [.s] x6)], 5, 0, 0, 0⟩ => some (x0, x1, x2, x3, x4, x5, x6)
  | _ => none
theorem un_ok_dateforms_Text_l0 : ∀ s x, un_dateforms_Text_l0 s = some x → s = emb_dateforms_Text_l0 x := by
  intro s x h
  unfold un_dateforms_Text_l0 at h
  split at h
  · cases h; rfl
  · cases h
noncomputable def ax_dateforms_Text_l0 : Ex → Ann := fun ex => match ex with
  | .exit 0 => ⟨[11], [3], 5, []⟩
  | _ => ⟨[], [], 0, []⟩
noncomputable def out_dateforms_Text_l0 (y : List (List UInt8)) : Ex × St := (.exit 0, ⟨[(11, some (.ws 3))], [(3, .rows [.s] y)], 5, 0, 0, 0⟩)
noncomputable def outK_dateforms_Text_l0 (α : Type) (y : List (List UInt8)) (k : Ex → St → Option α) : Option α := (k (.exit 0) ⟨[(11, some (.ws 3))], [(3, .rows [.s] y)], 5, 0, 0, 0⟩)
theorem outK_ok_dateforms_Text_l0 : ∀ α y k, outK_dateforms_Text_l0 α y k = k (out_dateforms_Text_l0 y).1 (out_dateforms_Text_l0 y).2 := by
  intro α y k
  rfl
noncomputable def ux_dateforms_Text_l0 (ex : Ex) (s : St) : Option (List (List UInt8)) := match ex, s with
  | .exit 0, ⟨[(11, some (.ws 3))], [(3, .rows [.s] y0)], 5, 0, 0, 0⟩ => some y0
  | _, _ => none
theorem ux_ok_dateforms_Text_l0 : ∀ ex s y, ux_dateforms_Text_l0 ex s = some y → (ex, s) = out_dateforms_Text_l0 y := by
  intro ex s y h
  unfold ux_dateforms_Text_l0 at h
  split at h
  · cases h; rfl
  · cases h
noncomputable def Ls_dateforms_Text (n : Nat) : List Sub := [subE 0 an_dateforms_Text_l0 un_dateforms_Text_l0 (fun x => iterL (dateforms_Text_l0 n) n x) outK_dateforms_Text_l0]
noncomputable def sac_dateforms_Text_l0 : AC := getS (subs (acOf Tryz.f15)) 0
noncomputable def ac_dateforms_Text_l0 : AC := AC.body sac_dateforms_Text_l0
theorem subs_dateforms_Text_l0 (n : Nat) : SubOK Tryz.prog 80 (Ls_dateforms_Text n) ac_dateforms_Text_l0 := SubOK_of _ (by
  have e : subs ac_dateforms_Text_l0 = [] := by kernel_rfl
  rw [e]; intro p hp; cases hp)
theorem body_dateforms_Text_l0 (n : Nat) : ∀ x, run Tryz.prog (Es_dateforms_Text n) (Ls_dateforms_Text n) 80 ac_dateforms_Text_l0 (emb_dateforms_Text_l0 x) (roundK an_dateforms_Text_l0 un_dateforms_Text_l0 ax_dateforms_Text_l0 ux_dateforms_Text_l0) = dateforms_Text_l0 n x := fun _ => by kernel_rfl
theorem sub1_dateforms_Text_l0 (n : Nat) : ∀ (α : Type) (s : St) (k : Ex → St → Option α) (z : α), (subE 0 an_dateforms_Text_l0 un_dateforms_Text_l0 (fun x => iterL (dateforms_Text_l0 n) n x) outK_dateforms_Text_l0).e α s k = some z → SemC Tryz.prog 80 (sac_dateforms_Text_l0).code s fun ex s' => k ex s' = some z := by
  intro α s k z h
  have e : sac_dateforms_Text_l0 = .loop ac_dateforms_Text_l0 := by kernel_rfl
  rw [e]
  exact subE_ok (m := 0) (f := fun x => iterL (dateforms_Text_l0 n) n x) (out := out_dateforms_Text_l0) outK_ok_dateforms_Text_l0 un_ok_dateforms_Text_l0 (fun x y hy => loop_ok (Es_ok_dateforms_Text n) (subs_dateforms_Text_l0 n) un_ok_dateforms_Text_l0 ux_ok_dateforms_Text_l0 (body_dateforms_Text_l0 n) n x y hy) h
theorem sub_dateforms_Text_l0 (n : Nat) : SubSt Tryz.prog 80 (Ls_dateforms_Text n) 0 sac_dateforms_Text_l0 := fun α s k z => sub1_dateforms_Text_l0 n α s k z
theorem subs_dateforms_Text (n : Nat) : SubOK Tryz.prog 80 (Ls_dateforms_Text n) (acOf Tryz.f15) := SubOK_of _ (by
  have e : subs (acOf Tryz.f15) = [(0, sac_dateforms_Text_l0)] := by kernel_rfl
  rw [e]; intro p hp
  simp only [List.mem_cons, List.not_mem_nil, or_false] at hp
  · rw [hp]; exact sub_dateforms_Text_l0 n
  )
theorem cert_dateforms_Text (n : Nat) (a0 : Bool) (a1 : Bool) (a2 : List UInt8) (a3 : Int) (a4 : Int) (a5 : List UInt8) (a6 : List UInt8) (a7 : Int) (a8 : Int) (a9 : Int) : run Tryz.prog (Es_dateforms_Text n) (Ls_dateforms_Text n) Tryz.f15.ntmps (acOf Tryz.f15) ⟨argsT [.ag [.b a0, .b a1, .s a2, .i .i64 a3, .i .i64 a4, .s a5, .s a6, .i .u8 a7, .i .u8 a8, .i .u8 a9]] 0, [], 0, 0, 0, 0⟩ (finK Tryz.prog Tryz.f15.results.toList (retX unr_dateforms_Text)) = dateforms_Text n a0 a1 a2 a3 a4 a5 a6 a7 a8 a9 := by kernel_rfl
theorem pure_dateforms_Text (n : Nat) : ∀ a r, dateforms_Text n a.1 a.2.1 a.2.2.1 a.2.2.2.1 a.2.2.2.2.1 a.2.2.2.2.2.1 a.2.2.2.2.2.2.1 a.2.2.2.2.2.2.2.1 a.2.2.2.2.2.2.2.2.1 a.2.2.2.2.2.2.2.2.2 = some r → PureOK Tryz.prog 15 (arg_dateforms_Text a) (enc_dateforms_Text r) := fun a r h => pureX_ok unr_ok_dateforms_Text (Es_ok_dateforms_Text n) Tryz.func15 rfl (acOf_code _) (subs_dateforms_Text n) rfl ((cert_dateforms_Text n a.1 a.2.1 a.2.2.1 a.2.2.2.1 a.2.2.2.2.1 a.2.2.2.2.2.1 a.2.2.2.2.2.2.1 a.2.2.2.2.2.2.2.1 a.2.2.2.2.2.2.2.2.1 a.2.2.2.2.2.2.2.2.2).trans h)
theorem ok_dateforms_Text (n : Nat) : EntOK Tryz.prog (e_dateforms_Text n) := pureE_ok Tryz.call15 una_ok_dateforms_Text (fun _ => rfl) (pure_dateforms_Text n)

/-! circa/dateforms.Precision -/
noncomputable def arg_dateforms_Precision (a : Bool × Bool × List UInt8 × Int × Int × List UInt8 × List UInt8 × Int × Int × Int) : List V := [.ag [.b a.1, .b a.2.1, .s a.2.2.1, .i .i64 a.2.2.2.1, .i .i64 a.2.2.2.2.1, .s a.2.2.2.2.2.1, .s a.2.2.2.2.2.2.1, .i .u8 a.2.2.2.2.2.2.2.1, .i .u8 a.2.2.2.2.2.2.2.2.1, .i .u8 a.2.2.2.2.2.2.2.2.2]]
noncomputable def una_dateforms_Precision (l : List V) : Option (Bool × Bool × List UInt8 × Int × Int × List UInt8 × List UInt8 × Int × Int × Int) := match l with
  | [.ag [.b a0, .b a1, .s a2, .i .i64 a3, .i .i64 a4, .s a5, .s a6, .i .u8 a7, .i .u8 a8, .i .u8 a9]] => some (a0, a1, a2, a3, a4, a5, a6, a7, a8, a9)
  | _ => none
theorem una_ok_dateforms_Precision : ∀ l a, una_dateforms_Precision l = some a → l = arg_dateforms_Precision a := by
  intro l a h
  unfold una_dateforms_Precision at h
  split at h
  · cases h; rfl
  · cases h
noncomputable def enc_dateforms_Precision (r : Int) : V := .i .u8 r
noncomputable def unr_dateforms_Precision (v : V) : Option (Int) := match v with
  | .i .u8 r0 => some r0
  | _ => none
theorem unr_ok_dateforms_Precision : ∀ v r, unr_dateforms_Precision v = some r → v = enc_dateforms_Precision r := by
  intro v r h
  unfold unr_dateforms_Precision at h
  split at h
  · cases h; rfl
  · cases h
noncomputable def e_dateforms_Precision (n : Nat) : Ent := pureE 23 una_dateforms_Precision (fun a => dateforms_Precision n a.1 a.2.1 a.2.2.1 a.2.2.2.1 a.2.2.2.2.1 a.2.2.2.2.2.1 a.2.2.2.2.2.2.1 a.2.2.2.2.2.2.2.1 a.2.2.2.2.2.2.2.2.1 a.2.2.2.2.2.2.2.2.2) enc_dateforms_Precision
noncomputable def t_dateforms_Precision (l : List V) (_ : List (Nat × Blk)) : Bool := isS (una_dateforms_Precision l)
noncomputable def Es_dateforms_Precision (n : Nat) : List Ent := [e_dateforms_Season n]
theorem Es_ok_dateforms_Precision (n : Nat) : ∀ x ∈ Es_dateforms_Precision n, EntOK Tryz.prog x := by
  intro x hx
  simp only [Es_dateforms_Precision, List.mem_cons, List.not_mem_nil, or_false] at hx
  · rw [hx]; exact ok_dateforms_Season n
noncomputable def Ls_dateforms_Precision (_n : Nat) : List Sub := []
theorem subs_dateforms_Precision (n : Nat) : SubOK Tryz.prog 20 (Ls_dateforms_Precision n) (acOf Tryz.f23) := SubOK_of _ (by
  have e : subs (acOf Tryz.f23) = [] := by kernel_rfl
  rw [e]; intro p hp; cases hp)
theorem cert_dateforms_Precision (n : Nat) (a0 : Bool) (a1 : Bool) (a2 : List UInt8) (a3 : Int) (a4 : Int) (a5 : List UInt8) (a6 : List UInt8) (a7 : Int) (a8 : Int) (a9 : Int) : run Tryz.prog (Es_dateforms_Precision n) (Ls_dateforms_Precision n) Tryz.f23.ntmps (acOf Tryz.f23) ⟨argsT [.ag [.b a0, .b a1, .s a2, .i .i64 a3, .i .i64 a4, .s a5, .s a6, .i .u8 a7, .i .u8 a8, .i .u8 a9]] 0, [], 0, 0, 0, 0⟩ (finK Tryz.prog Tryz.f23.results.toList (retX unr_dateforms_Precision)) = dateforms_Precision n a0 a1 a2 a3 a4 a5 a6 a7 a8 a9 := by kernel_rfl
theorem pure_dateforms_Precision (n : Nat) : ∀ a r, dateforms_Precision n a.1 a.2.1 a.2.2.1 a.2.2.2.1 a.2.2.2.2.1 a.2.2.2.2.2.1 a.2.2.2.2.2.2.1 a.2.2.2.2.2.2.2.1 a.2.2.2.2.2.2.2.2.1 a.2.2.2.2.2.2.2.2.2 = some r → PureOK Tryz.prog 23 (arg_dateforms_Precision a) (enc_dateforms_Precision r) := fun a r h => pureX_ok unr_ok_dateforms_Precision (Es_ok_dateforms_Precision n) Tryz.func23 rfl (acOf_code _) (subs_dateforms_Precision n) rfl ((cert_dateforms_Precision n a.1 a.2.1 a.2.2.1 a.2.2.2.1 a.2.2.2.2.1 a.2.2.2.2.2.1 a.2.2.2.2.2.2.1 a.2.2.2.2.2.2.2.1 a.2.2.2.2.2.2.2.2.1 a.2.2.2.2.2.2.2.2.2).trans h)
theorem ok_dateforms_Precision (n : Nat) : EntOK Tryz.prog (e_dateforms_Precision n) := pureE_ok Tryz.call23 una_ok_dateforms_Precision (fun _ => rfl) (pure_dateforms_Precision n)

/-! circa/circalaw15.lives -/
noncomputable def arg_circalaw15_lives (_a : Unit) : List V := []
noncomputable def una_circalaw15_lives (l : List V) : Option (Unit) := match l with
  | [] => some ()
  | _ => none
theorem una_ok_circalaw15_lives : ∀ l a, una_circalaw15_lives l = some a → l = arg_circalaw15_lives a := by
  intro l a h
  unfold una_circalaw15_lives at h
  split at h
  · cases h; rfl
  · cases h
noncomputable def enc_circalaw15_lives (r : Bool) : V := .b r
noncomputable def unr_circalaw15_lives (v : V) : Option (Bool) := match v with
  | .b r0 => some r0
  | _ => none
theorem unr_ok_circalaw15_lives : ∀ v r, unr_circalaw15_lives v = some r → v = enc_circalaw15_lives r := by
  intro v r h
  unfold unr_circalaw15_lives at h
  split at h
  · cases h; rfl
  · cases h
noncomputable def e_circalaw15_lives (n : Nat) : Ent := pureE 12 una_circalaw15_lives (fun _a => circalaw15_lives n) enc_circalaw15_lives
noncomputable def t_circalaw15_lives (l : List V) (_ : List (Nat × Blk)) : Bool := isS (una_circalaw15_lives l)
noncomputable def Es_circalaw15_lives (n : Nat) : List Ent := [e_dateforms_Parse n, e_dateforms_Text n, e_dateforms_Precision n]
theorem Es_ok_circalaw15_lives (n : Nat) : ∀ x ∈ Es_circalaw15_lives n, EntOK Tryz.prog x := by
  intro x hx
  simp only [Es_circalaw15_lives, List.mem_cons, List.not_mem_nil, or_false] at hx
  rcases hx with hx | hx | hx
  · rw [hx]; exact ok_dateforms_Parse n
  · rw [hx]; exact ok_dateforms_Text n
  · rw [hx]; exact ok_dateforms_Precision n
noncomputable def an_circalaw15_lives_l0 : Ann := ⟨[16, 17], [3], 4, []⟩
noncomputable def emb_circalaw15_lives_l0 (x : Int × List (List UInt8)) : St := ⟨[(16, some (.ws 3)), (17, some (.i .i64 x.1))], [(3, .rows [.s] x.2)], 4, 0, 0, 0⟩
noncomputable def un_circalaw15_lives_l0 (s : St) : Option (Int × List (List UInt8)) := match s with
  | ⟨[(16, some (.ws 3)), (17, some (.i .i64 x0))], [(3, .rows [.s] x1)], 4, 0, 0, 0⟩ => some (x0, x1)
  | _ => none
theorem un_ok_circalaw15_lives_l0 : ∀ s x, un_circalaw15_lives_l0 s = some x → s = emb_circalaw15_lives_l0 x := by
  intro s x h
  unfold un_circalaw15_lives_l0 at h
  split at h
  · cases h; rfl
  · cases h
noncomputable def ax_circalaw15_lives_l0 : Ex → Ann := fun ex => match ex with
  | .ret => ⟨[0], [], 4, []⟩
  | .exit 0 => ⟨[], [], 4, []⟩
  | _ => ⟨[], [], 0, []⟩
noncomputable def out_circalaw15_lives_l0 (y : Bool ⊕ Unit) : Ex × St := (Sum.casesOn (motive := fun _ => Ex × St) y (fun a0 => (.ret, ⟨[(0, some (.b a0))], [], 4, 0, 0, 0⟩)) (fun b0 => (.exit 0, ⟨[], [], 4, 0, 0, 0⟩)))
noncomputable def outK_circalaw15_lives_l0 (α : Type) (y : Bool ⊕ Unit) (k : Ex → St → Option α) : Option α := (Sum.casesOn (motive := fun _ => Option α) y (fun a0 => (k (.ret) ⟨[(0, some (.b a0))], [], 4, 0, 0, 0⟩)) (fun b0 => (k (.exit 0) ⟨[], [], 4, 0, 0, 0⟩)))
theorem outK_ok_circalaw15_lives_l0 : ∀ α y k, outK_circalaw15_lives_l0 α y k = k (out_circalaw15_lives_l0 y).1 (out_circalaw15_lives_l0 y).2 := by
  intro α y k
  rcases y with y | y <;> rfl
noncomputable def ux_circalaw15_lives_l0 (ex : Ex) (s : St) : Option (Bool ⊕ Unit) := match ex, s with
  | .ret, ⟨[(0, some (.b y0))], [], 4, 0, 0, 0⟩ => some (.inl y0)
  | .exit 0, ⟨[], [], 4, 0, 0, 0⟩ => some (.inr ())
  | _, _ => none
theorem ux_ok_circalaw15_lives_l0 : ∀ ex s y, ux_circalaw15_lives_l0 ex s = some y → (ex, s) = out_circalaw15_lives_l0 y := by
  intro ex s y h
  unfold ux_circalaw15_lives_l0 at h
  split at h
  · cases h; rfl
  · cases h; rfl
  · cases h
noncomputable def an_circalaw15_lives_l1 : Ann := ⟨[21, 22, 23, 24], [4, 5, 6], 7, []⟩
noncomputable def emb_circalaw15_lives_l1 (x : Int × List (List UInt8) × List (Int) × List (Int)) : St := ⟨[(21, some (.ws 4)), (22, some (.ws 5)), (23, some (.ws 6)), (24, some (.i .i64 x.1))], [(4, .rows [.s] x.2.1), (5, .rows [.i .i64] x.2.2.1), (6, .rows [.i .i64] x.2.2.2)], 7, 0, 0, 0⟩
noncomputable def un_circalaw15_lives_l1 (s : St) : Option (Int × List (List UInt8) × List (Int) × List (Int)) := match s with
  | ⟨[(21, some (.ws 4)), (22, some (.ws 5)), (23, some (.ws 6)), (24, some (.i .i64 x0))], [(4, .rows [.s] x1), (5, .rows [.i .i64] x2), (6, .rows [.i .i64] x3)], 7, 0, 0, 0⟩ => some (x0, x1, x2, x3)
  | _ => none
theorem un_ok_circalaw15_lives_l1 : ∀ s x, un_circalaw15_lives_l1 s = some x → s = emb_circalaw15_lives_l1 x := by
  intro s x h
  unfold un_circalaw15_lives_l1 at h
  split at h
  · cases h; rfl
  · cases h
noncomputable def ax_circalaw15_lives_l1 : Ex → Ann := fun ex => match ex with
  | .ret => ⟨[0], [], 7, []⟩
  | .exit 2 => ⟨[], [], 7, []⟩
  | _ => ⟨[], [], 0, []⟩
noncomputable def out_circalaw15_lives_l1 (y : Bool ⊕ Unit) : Ex × St := (Sum.casesOn (motive := fun _ => Ex × St) y (fun a0 => (.ret, ⟨[(0, some (.b a0))], [], 7, 0, 0, 0⟩)) (fun b0 => (.exit 2, ⟨[], [], 7, 0, 0, 0⟩)))
noncomputable def outK_circalaw15_lives_l1 (α : Type) (y : Bool ⊕ Unit) (k : Ex → St → Option α) : Option α := (Sum.casesOn (motive := fun _ => Option α) y (fun a0 => (k (.ret) ⟨[(0, some (.b a0))], [], 7, 0, 0, 0⟩)) (fun b0 => (k (.exit 2) ⟨[], [], 7, 0, 0, 0⟩)))
theorem outK_ok_circalaw15_lives_l1 : ∀ α y k, outK_circalaw15_lives_l1 α y k = k (out_circalaw15_lives_l1 y).1 (out_circalaw15_lives_l1 y).2 := by
  intro α y k
  rcases y with y | y <;> rfl
noncomputable def ux_circalaw15_lives_l1 (ex : Ex) (s : St) : Option (Bool ⊕ Unit) := match ex, s with
  | .ret, ⟨[(0, some (.b y0))], [], 7, 0, 0, 0⟩ => some (.inl y0)
  | .exit 2, ⟨[], [], 7, 0, 0, 0⟩ => some (.inr ())
  | _, _ => none
theorem ux_ok_circalaw15_lives_l1 : ∀ ex s y, ux_circalaw15_lives_l1 ex s = some y → (ex, s) = out_circalaw15_lives_l1 y := by
  intro ex s y h
  unfold ux_circalaw15_lives_l1 at h
  split at h
  · cases h; rfl
  · cases h; rfl
  · cases h
noncomputable def Ls_circalaw15_lives (n : Nat) : List Sub := [subE 0 an_circalaw15_lives_l0 un_circalaw15_lives_l0 (fun x => iterL (circalaw15_lives_l0 n) n x) outK_circalaw15_lives_l0, subE 1 an_circalaw15_lives_l1 un_circalaw15_lives_l1 (fun x => iterL (circalaw15_lives_l1 n) n x) outK_circalaw15_lives_l1]
noncomputable def sac_circalaw15_lives_l0 : AC := getS (subs (acOf Tryz.f12)) 0
noncomputable def ac_circalaw15_lives_l0 : AC := AC.body sac_circalaw15_lives_l0
theorem subs_circalaw15_lives_l0 (n : Nat) : SubOK Tryz.prog 162 (Ls_circalaw15_lives n) ac_circalaw15_lives_l0 := SubOK_of _ (by
  have e : subs ac_circalaw15_lives_l0 = [] := by kernel_rfl
  rw [e]; intro p hp; cases hp)
theorem body_circalaw15_lives_l0 (n : Nat) : ∀ x, run Tryz.prog (Es_circalaw15_lives n) (Ls_circalaw15_lives n) 162 ac_circalaw15_lives_l0 (emb_circalaw15_lives_l0 x) (roundK an_circalaw15_lives_l0 un_circalaw15_lives_l0 ax_circalaw15_lives_l0 ux_circalaw15_lives_l0) = circalaw15_lives_l0 n x := fun _ => by kernel_rfl
theorem sub1_circalaw15_lives_l0 (n : Nat) : ∀ (α : Type) (s : St) (k : Ex → St → Option α) (z : α), (subE 0 an_circalaw15_lives_l0 un_circalaw15_lives_l0 (fun x => iterL (circalaw15_lives_l0 n) n x) outK_circalaw15_lives_l0).e α s k = some z → SemC Tryz.prog 162 (sac_circalaw15_lives_l0).code s fun ex s' => k ex s' = some z := by
  intro α s k z h
  have e : sac_circalaw15_lives_l0 = .loop ac_circalaw15_lives_l0 := by kernel_rfl
  rw [e]
  exact subE_ok (m := 0) (f := fun x => iterL (circalaw15_lives_l0 n) n x) (out := out_circalaw15_lives_l0) outK_ok_circalaw15_lives_l0 un_ok_circalaw15_lives_l0 (fun x y hy => loop_ok (Es_ok_circalaw15_lives n) (subs_circalaw15_lives_l0 n) un_ok_circalaw15_lives_l0 ux_ok_circalaw15_lives_l0 (body_circalaw15_lives_l0 n) n x y hy) h
theorem sub_circalaw15_lives_l0 (n : Nat) : SubSt Tryz.prog 162 (Ls_circalaw15_lives n) 0 sac_circalaw15_lives_l0 := fun α s k z => sub1_circalaw15_lives_l0 n α s k z
noncomputable def sac_circalaw15_lives_l1 : AC := getS (subs (acOf Tryz.f12)) 1
noncomputable def ac_circalaw15_lives_l1 : AC := AC.body sac_circalaw15_lives_l1
theorem subs_circalaw15_lives_l1 (n : Nat) : SubOK Tryz.prog 162 (Ls_circalaw15_lives n) ac_circalaw15_lives_l1 := SubOK_of _ (by
  have e : subs ac_circalaw15_lives_l1 = [] := by kernel_rfl
  rw [e]; intro p hp; cases hp)
theorem body_circalaw15_lives_l1 (n : Nat) : ∀ x, run Tryz.prog (Es_circalaw15_lives n) (Ls_circalaw15_lives n) 162 ac_circalaw15_lives_l1 (emb_circalaw15_lives_l1 x) (roundK an_circalaw15_lives_l1 un_circalaw15_lives_l1 ax_circalaw15_lives_l1 ux_circalaw15_lives_l1) = circalaw15_lives_l1 n x := fun _ => by kernel_rfl
theorem sub1_circalaw15_lives_l1 (n : Nat) : ∀ (α : Type) (s : St) (k : Ex → St → Option α) (z : α), (subE 1 an_circalaw15_lives_l1 un_circalaw15_lives_l1 (fun x => iterL (circalaw15_lives_l1 n) n x) outK_circalaw15_lives_l1).e α s k = some z → SemC Tryz.prog 162 (sac_circalaw15_lives_l1).code s fun ex s' => k ex s' = some z := by
  intro α s k z h
  have e : sac_circalaw15_lives_l1 = .loop ac_circalaw15_lives_l1 := by kernel_rfl
  rw [e]
  exact subE_ok (m := 1) (f := fun x => iterL (circalaw15_lives_l1 n) n x) (out := out_circalaw15_lives_l1) outK_ok_circalaw15_lives_l1 un_ok_circalaw15_lives_l1 (fun x y hy => loop_ok (Es_ok_circalaw15_lives n) (subs_circalaw15_lives_l1 n) un_ok_circalaw15_lives_l1 ux_ok_circalaw15_lives_l1 (body_circalaw15_lives_l1 n) n x y hy) h
theorem sub_circalaw15_lives_l1 (n : Nat) : SubSt Tryz.prog 162 (Ls_circalaw15_lives n) 1 sac_circalaw15_lives_l1 := fun α s k z => sub1_circalaw15_lives_l1 n α s k z
theorem subs_circalaw15_lives (n : Nat) : SubOK Tryz.prog 162 (Ls_circalaw15_lives n) (acOf Tryz.f12) := SubOK_of _ (by
  have e : subs (acOf Tryz.f12) = [(0, sac_circalaw15_lives_l0), (1, sac_circalaw15_lives_l1)] := by kernel_rfl
  rw [e]; intro p hp
  simp only [List.mem_cons, List.not_mem_nil, or_false] at hp
  rcases hp with hp | hp
  · rw [hp]; exact sub_circalaw15_lives_l0 n
  · rw [hp]; exact sub_circalaw15_lives_l1 n
  )
theorem cert_circalaw15_lives (n : Nat) : run Tryz.prog (Es_circalaw15_lives n) (Ls_circalaw15_lives n) Tryz.f12.ntmps (acOf Tryz.f12) ⟨argsT [] 0, [], 0, 0, 0, 0⟩ (finK Tryz.prog Tryz.f12.results.toList (retX unr_circalaw15_lives)) = circalaw15_lives n := by kernel_rfl
theorem pure_circalaw15_lives (n : Nat) : ∀ a r, circalaw15_lives n = some r → PureOK Tryz.prog 12 (arg_circalaw15_lives a) (enc_circalaw15_lives r) := fun a r h => pureX_ok unr_ok_circalaw15_lives (Es_ok_circalaw15_lives n) Tryz.func12 rfl (acOf_code _) (subs_circalaw15_lives n) rfl ((cert_circalaw15_lives n).trans h)
theorem ok_circalaw15_lives (n : Nat) : EntOK Tryz.prog (e_circalaw15_lives n) := pureE_ok Tryz.call12 una_ok_circalaw15_lives (fun _ => rfl) (pure_circalaw15_lives n)

/-! circa/circaref13.Text -/
noncomputable def arg_circaref13_Text (a : Int) : List V := [.i .u8 a]
noncomputable def una_circaref13_Text (l : List V) : Option (Int) := match l with
  | [.i .u8 a0] => some a0
  | _ => none
theorem una_ok_circaref13_Text : ∀ l a, una_circaref13_Text l = some a → l = arg_circaref13_Text a := by
  intro l a h
  unfold una_circaref13_Text at h
  split at h
  · cases h; rfl
  · cases h
noncomputable def enc_circaref13_Text (r : List UInt8) : V := .s r
noncomputable def unr_circaref13_Text (v : V) : Option (List UInt8) := match v with
  | .s r0 => some r0
  | _ => none
theorem unr_ok_circaref13_Text : ∀ v r, unr_circaref13_Text v = some r → v = enc_circaref13_Text r := by
  intro v r h
  unfold unr_circaref13_Text at h
  split at h
  · cases h; rfl
  · cases h
noncomputable def e_circaref13_Text (n : Nat) : Ent := pureE 60 una_circaref13_Text (fun a => circaref13_Text n a) enc_circaref13_Text
noncomputable def t_circaref13_Text (l : List V) (_ : List (Nat × Blk)) : Bool := isS (una_circaref13_Text l)
noncomputable def Es_circaref13_Text (_n : Nat) : List Ent := []
theorem Es_ok_circaref13_Text (n : Nat) : ∀ x ∈ Es_circaref13_Text n, EntOK Tryz.prog x := by
  intro x hx
  simp [Es_circaref13_Text] at hx
noncomputable def Ls_circaref13_Text (_n : Nat) : List Sub := []
theorem subs_circaref13_Text (n : Nat) : SubOK Tryz.prog 10 (Ls_circaref13_Text n) (acOf Tryz.f60) := SubOK_of _ (by
  have e : subs (acOf Tryz.f60) = [] := by kernel_rfl
  rw [e]; intro p hp; cases hp)
theorem cert_circaref13_Text (n : Nat) (a0 : Int) : run Tryz.prog (Es_circaref13_Text n) (Ls_circaref13_Text n) Tryz.f60.ntmps (acOf Tryz.f60) ⟨argsT [.i .u8 a0] 0, [], 0, 0, 0, 0⟩ (finK Tryz.prog Tryz.f60.results.toList (retX unr_circaref13_Text)) = circaref13_Text n a0 := by kernel_rfl
theorem pure_circaref13_Text (n : Nat) : ∀ a r, circaref13_Text n a = some r → PureOK Tryz.prog 60 (arg_circaref13_Text a) (enc_circaref13_Text r) := fun a r h => pureX_ok unr_ok_circaref13_Text (Es_ok_circaref13_Text n) Tryz.func60 rfl (acOf_code _) (subs_circaref13_Text n) rfl ((cert_circaref13_Text n a).trans h)
theorem ok_circaref13_Text (n : Nat) : EntOK Tryz.prog (e_circaref13_Text n) := pureE_ok Tryz.call60 una_ok_circaref13_Text (fun _ => rfl) (pure_circaref13_Text n)

/-! circa/circaref13.Of -/
noncomputable def arg_circaref13_Of (a : Int) : List V := [.i .u8 a]
noncomputable def una_circaref13_Of (l : List V) : Option (Int) := match l with
  | [.i .u8 a0] => some a0
  | _ => none
theorem una_ok_circaref13_Of : ∀ l a, una_circaref13_Of l = some a → l = arg_circaref13_Of a := by
  intro l a h
  unfold una_circaref13_Of at h
  split at h
  · cases h; rfl
  · cases h
noncomputable def enc_circaref13_Of (r : Int) : V := .i .u8 r
noncomputable def unr_circaref13_Of (v : V) : Option (Int) := match v with
  | .i .u8 r0 => some r0
  | _ => none
theorem unr_ok_circaref13_Of : ∀ v r, unr_circaref13_Of v = some r → v = enc_circaref13_Of r := by
  intro v r h
  unfold unr_circaref13_Of at h
  split at h
  · cases h; rfl
  · cases h
noncomputable def e_circaref13_Of (n : Nat) : Ent := pureE 131 una_circaref13_Of (fun a => circaref13_Of n a) enc_circaref13_Of
noncomputable def t_circaref13_Of (l : List V) (_ : List (Nat × Blk)) : Bool := isS (una_circaref13_Of l)
noncomputable def Es_circaref13_Of (n : Nat) : List Ent := [e_circaref13_Text n]
theorem Es_ok_circaref13_Of (n : Nat) : ∀ x ∈ Es_circaref13_Of n, EntOK Tryz.prog x := by
  intro x hx
  simp only [Es_circaref13_Of, List.mem_cons, List.not_mem_nil, or_false] at hx
  · rw [hx]; exact ok_circaref13_Text n
noncomputable def an_circaref13_Of_l0 : Ann := ⟨[0, 3], [], 0, []⟩
noncomputable def emb_circaref13_Of_l0 (x : Int × Int) : St := ⟨[(0, some (.i .u8 x.1)), (3, some (.i .u8 x.2))], [], 0, 0, 0, 0⟩
noncomputable def un_circaref13_Of_l0 (s : St) : Option (Int × Int) := match s with
  | ⟨[(0, some (.i .u8 x0)), (3, some (.i .u8 x1))], [], 0, 0, 0, 0⟩ => some (x0, x1)
  | _ => none
theorem un_ok_circaref13_Of_l0 : ∀ s x, un_circaref13_Of_l0 s = some x → s = emb_circaref13_Of_l0 x := by
  intro s x h
  unfold un_circaref13_Of_l0 at h
  split at h
  · cases h; rfl
  · cases h
noncomputable def ax_circaref13_Of_l0 : Ex → Ann := fun ex => match ex with
  | .ret => ⟨[2], [], 0, []⟩
  | .exit 0 => ⟨[], [], 0, []⟩
  | _ => ⟨[], [], 0, []⟩
noncomputable def out_circaref13_Of_l0 (y : Int ⊕ Unit) : Ex × St := (Sum.casesOn (motive := fun _ => Ex × St) y (fun a0 => (.ret, ⟨[(2, some (.i .u8 a0))], [], 0, 0, 0, 0⟩)) (fun b0 => (.exit 0, ⟨[], [], 0, 0, 0, 0⟩)))
noncomputable def outK_circaref13_Of_l0 (α : Type) (y : Int ⊕ Unit) (k : Ex → St → Option α) : Option α := (Sum.casesOn (motive := fun _ => Option α) y (fun a0 => (k (.ret) ⟨[(2, some (.i .u8 a0))], [], 0, 0, 0, 0⟩)) (fun b0 => (k (.exit 0) ⟨[], [], 0, 0, 0, 0⟩)))
theorem outK_ok_circaref13_Of_l0 : ∀ α y k, outK_circaref13_Of_l0 α y k = k (out_circaref13_Of_l0 y).1 (out_circaref13_Of_l0 y).2 := by
  intro α y k
  rcases y with y | y <;> rfl
noncomputable def ux_circaref13_Of_l0 (ex : Ex) (s : St) : Option (Int ⊕ Unit) := match ex, s with
  | .ret, ⟨[(2, some (.i .u8 y0))], [], 0, 0, 0, 0⟩ => some (.inl y0)
  | .exit 0, ⟨[], [], 0, 0, 0, 0⟩ => some (.inr ())
  | _, _ => none
theorem ux_ok_circaref13_Of_l0 : ∀ ex s y, ux_circaref13_Of_l0 ex s = some y → (ex, s) = out_circaref13_Of_l0 y := by
  intro ex s y h
  unfold ux_circaref13_Of_l0 at h
  split at h
  · cases h; rfl
  · cases h; rfl
  · cases h
noncomputable def Ls_circaref13_Of (n : Nat) : List Sub := [subE 0 an_circaref13_Of_l0 un_circaref13_Of_l0 (fun x => iterL (circaref13_Of_l0 n) n x) outK_circaref13_Of_l0]
noncomputable def sac_circaref13_Of_l0 : AC := getS (subs (acOf Tryz.f131)) 0
noncomputable def ac_circaref13_Of_l0 : AC := AC.body sac_circaref13_Of_l0
theorem subs_circaref13_Of_l0 (n : Nat) : SubOK Tryz.prog 14 (Ls_circaref13_Of n) ac_circaref13_Of_l0 := SubOK_of _ (by
  have e : subs ac_circaref13_Of_l0 = [] := by kernel_rfl
  rw [e]; intro p hp; cases hp)
theorem body_circaref13_Of_l0 (n : Nat) : ∀ x, run Tryz.prog (Es_circaref13_Of n) (Ls_circaref13_Of n) 14 ac_circaref13_Of_l0 (emb_circaref13_Of_l0 x) (roundK an_circaref13_Of_l0 un_circaref13_Of_l0 ax_circaref13_Of_l0 ux_circaref13_Of_l0) = circaref13_Of_l0 n x := fun _ => by kernel_rfl
theorem sub1_circaref13_Of_l0 (n : Nat) : ∀ (α : Type) (s : St) (k : Ex → St → Option α) (z : α), (subE 0 an_circaref13_Of_l0 un_circaref13_Of_l0 (fun x => iterL (circaref13_Of_l0 n) n x) outK_circaref13_Of_l0).e α s k = some z → SemC Tryz.prog 14 (sac_circaref13_Of_l0).code s fun ex s' => k ex s' = some z := by
  intro α s k z h
  have e : sac_circaref13_Of_l0 = .loop ac_circaref13_Of_l0 := by kernel_rfl
  rw [e]
  exact subE_ok (m := 0) (f := fun x => iterL (circaref13_Of_l0 n) n x) (out := out_circaref13_Of_l0) outK_ok_circaref13_Of_l0 un_ok_circaref13_Of_l0 (fun x y hy => loop_ok (Es_ok_circaref13_Of n) (subs_circaref13_Of_l0 n) un_ok_circaref13_Of_l0 ux_ok_circaref13_Of_l0 (body_circaref13_Of_l0 n) n x y hy) h
theorem sub_circaref13_Of_l0 (n : Nat) : SubSt Tryz.prog 14 (Ls_circaref13_Of n) 0 sac_circaref13_Of_l0 := fun α s k z => sub1_circaref13_Of_l0 n α s k z
theorem subs_circaref13_Of (n : Nat) : SubOK Tryz.prog 14 (Ls_circaref13_Of n) (acOf Tryz.f131) := SubOK_of _ (by
  have e : subs (acOf Tryz.f131) = [(0, sac_circaref13_Of_l0)] := by kernel_rfl
  rw [e]; intro p hp
  simp only [List.mem_cons, List.not_mem_nil, or_false] at hp
  · rw [hp]; exact sub_circaref13_Of_l0 n
  )
theorem cert_circaref13_Of (n : Nat) (a0 : Int) : run Tryz.prog (Es_circaref13_Of n) (Ls_circaref13_Of n) Tryz.f131.ntmps (acOf Tryz.f131) ⟨argsT [.i .u8 a0] 0, [], 0, 0, 0, 0⟩ (finK Tryz.prog Tryz.f131.results.toList (retX unr_circaref13_Of)) = circaref13_Of n a0 := by kernel_rfl
theorem pure_circaref13_Of (n : Nat) : ∀ a r, circaref13_Of n a = some r → PureOK Tryz.prog 131 (arg_circaref13_Of a) (enc_circaref13_Of r) := fun a r h => pureX_ok unr_ok_circaref13_Of (Es_ok_circaref13_Of n) Tryz.func131 rfl (acOf_code _) (subs_circaref13_Of n) rfl ((cert_circaref13_Of n a).trans h)
theorem ok_circaref13_Of (n : Nat) : EntOK Tryz.prog (e_circaref13_Of n) := pureE_ok Tryz.call131 una_ok_circaref13_Of (fun _ => rfl) (pure_circaref13_Of n)

/-! circa/circaref15.mark -/
noncomputable def arg_circaref15_mark (a : List UInt8 × Int × Int) : List V := [.ag [.s a.1, .i .i64 a.2.1, .i .i64 a.2.2]]
noncomputable def una_circaref15_mark (l : List V) : Option (List UInt8 × Int × Int) := match l with
  | [.ag [.s a0, .i .i64 a1, .i .i64 a2]] => some (a0, a1, a2)
  | _ => none
theorem una_ok_circaref15_mark : ∀ l a, una_circaref15_mark l = some a → l = arg_circaref15_mark a := by
  intro l a h
  unfold una_circaref15_mark at h
  split at h
  · cases h; rfl
  · cases h
noncomputable def enc_circaref15_mark (r : Int × List UInt8 × Int × Int) : V := .tp [.i .u8 r.1, .ag [.s r.2.1, .i .i64 r.2.2.1, .i .i64 r.2.2.2]]
noncomputable def unr_circaref15_mark (v : V) : Option (Int × List UInt8 × Int × Int) := match v with
  | .tp [.i .u8 r0, .ag [.s r1, .i .i64 r2, .i .i64 r3]] => some (r0, r1, r2, r3)
  | _ => none
theorem unr_ok_circaref15_mark : ∀ v r, unr_circaref15_mark v = some r → v = enc_circaref15_mark r := by
  intro v r h
  unfold unr_circaref15_mark at h
  split at h
  · cases h; rfl
  · cases h
noncomputable def e_circaref15_mark (n : Nat) : Ent := pureE 70 una_circaref15_mark (fun a => circaref15_mark n a.1 a.2.1 a.2.2) enc_circaref15_mark
noncomputable def t_circaref15_mark (l : List V) (_ : List (Nat × Blk)) : Bool := isS (una_circaref15_mark l)
noncomputable def Es_circaref15_mark (n : Nat) : List Ent := [e_circaref13_Of n]
theorem Es_ok_circaref15_mark (n : Nat) : ∀ x ∈ Es_circaref15_mark n, EntOK Tryz.prog x := by
  intro x hx
  simp only [Es_circaref15_mark, List.mem_cons, List.not_mem_nil, or_false] at hx
  · rw [hx]; exact ok_circaref13_Of n
noncomputable def Ls_circaref15_mark (_n : Nat) : List Sub := []
theorem subs_circaref15_mark (n : Nat) : SubOK Tryz.prog 26 (Ls_circaref15_mark n) (acOf Tryz.f70) := SubOK_of _ (by
  have e : subs (acOf Tryz.f70) = [] := by kernel_rfl
  rw [e]; intro p hp; cases hp)
theorem cert_circaref15_mark (n : Nat) (a0 : List UInt8) (a1 : Int) (a2 : Int) : run Tryz.prog (Es_circaref15_mark n) (Ls_circaref15_mark n) Tryz.f70.ntmps (acOf Tryz.f70) ⟨argsT [.ag [.s a0, .i .i64 a1, .i .i64 a2]] 0, [], 0, 0, 0, 0⟩ (finK Tryz.prog Tryz.f70.results.toList (retX unr_circaref15_mark)) = circaref15_mark n a0 a1 a2 := by kernel_rfl
theorem pure_circaref15_mark (n : Nat) : ∀ a r, circaref15_mark n a.1 a.2.1 a.2.2 = some r → PureOK Tryz.prog 70 (arg_circaref15_mark a) (enc_circaref15_mark r) := fun a r h => pureX_ok unr_ok_circaref15_mark (Es_ok_circaref15_mark n) Tryz.func70 rfl (acOf_code _) (subs_circaref15_mark n) rfl ((cert_circaref15_mark n a.1 a.2.1 a.2.2).trans h)
theorem ok_circaref15_mark (n : Nat) : EntOK Tryz.prog (e_circaref15_mark n) := pureE_ok Tryz.call70 una_ok_circaref15_mark (fun _ => rfl) (pure_circaref15_mark n)

/-! circa/circaref14.number -/
noncomputable def arg_circaref14_number (a : List UInt8 × Int × Int) : List V := [.s a.1, .i .i64 a.2.1, .i .u8 a.2.2]
noncomputable def una_circaref14_number (l : List V) : Option (List UInt8 × Int × Int) := match l with
  | [.s a0, .i .i64 a1, .i .u8 a2] => some (a0, a1, a2)
  | _ => none
theorem una_ok_circaref14_number : ∀ l a, una_circaref14_number l = some a → l = arg_circaref14_number a := by
  intro l a h
  unfold una_circaref14_number at h
  split at h
  · cases h; rfl
  · cases h
noncomputable def enc_circaref14_number (r : Int × Int) : V := .tp [.i .i64 r.1, .i .i64 r.2]
noncomputable def unr_circaref14_number (v : V) : Option (Int × Int) := match v with
  | .tp [.i .i64 r0, .i .i64 r1] => some (r0, r1)
  | _ => none
theorem unr_ok_circaref14_number : ∀ v r, unr_circaref14_number v = some r → v = enc_circaref14_number r := by
  intro v r h
  unfold unr_circaref14_number at h
  split at h
  · cases h; rfl
  · cases h
noncomputable def e_circaref14_number (n : Nat) : Ent := pureE 132 una_circaref14_number (fun a => circaref14_number n a.1 a.2.1 a.2.2) enc_circaref14_number
noncomputable def t_circaref14_number (l : List V) (_ : List (Nat × Blk)) : Bool := isS (una_circaref14_number l)
noncomputable def Es_circaref14_number (_n : Nat) : List Ent := []
theorem Es_ok_circaref14_number (n : Nat) : ∀ x ∈ Es_circaref14_number n, EntOK Tryz.prog x := by
  intro x hx
  simp [Es_circaref14_number] at hx
noncomputable def Ls_circaref14_number (_n : Nat) : List Sub := []
theorem subs_circaref14_number (n : Nat) : SubOK Tryz.prog 75 (Ls_circaref14_number n) (acOf Tryz.f132) := SubOK_of _ (by
  have e : subs (acOf Tryz.f132) = [] := by kernel_rfl
  rw [e]; intro p hp; cases hp)
theorem cert_circaref14_number (n : Nat) (a0 : List UInt8) (a1 : Int) (a2 : Int) : run Tryz.prog (Es_circaref14_number n) (Ls_circaref14_number n) Tryz.f132.ntmps (acOf Tryz.f132) ⟨argsT [.s a0, .i .i64 a1, .i .u8 a2] 0, [], 0, 0, 0, 0⟩ (finK Tryz.prog Tryz.f132.results.toList (retX unr_circaref14_number)) = circaref14_number n a0 a1 a2 := by kernel_rfl
theorem pure_circaref14_number (n : Nat) : ∀ a r, circaref14_number n a.1 a.2.1 a.2.2 = some r → PureOK Tryz.prog 132 (arg_circaref14_number a) (enc_circaref14_number r) := fun a r h => pureX_ok unr_ok_circaref14_number (Es_ok_circaref14_number n) Tryz.func132 rfl (acOf_code _) (subs_circaref14_number n) rfl ((cert_circaref14_number n a.1 a.2.1 a.2.2).trans h)
theorem ok_circaref14_number (n : Nat) : EntOK Tryz.prog (e_circaref14_number n) := pureE_ok Tryz.call132 una_ok_circaref14_number (fun _ => rfl) (pure_circaref14_number n)

/-! circa/circaref14.Read -/
noncomputable def arg_circaref14_Read (a : List UInt8 × Int) : List V := [.s a.1, .i .i64 a.2]
noncomputable def una_circaref14_Read (l : List V) : Option (List UInt8 × Int) := match l with
  | [.s a0, .i .i64 a1] => some (a0, a1)
  | _ => none
theorem una_ok_circaref14_Read : ∀ l a, una_circaref14_Read l = some a → l = arg_circaref14_Read a := by
  intro l a h
  unfold una_circaref14_Read at h
  split at h
  · cases h; rfl
  · cases h
noncomputable def enc_circaref14_Read (r : Bool × Bool × List UInt8 × Int × Int × Int × Int) : V := .tp [.ag [.b r.1, .b r.2.1, .s r.2.2.1, .i .i64 r.2.2.2.1, .i .i64 r.2.2.2.2.1], .i .i64 r.2.2.2.2.2.1, .i .i64 r.2.2.2.2.2.2]
noncomputable def unr_circaref14_Read (v : V) : Option (Bool × Bool × List UInt8 × Int × Int × Int × Int) := match v with
  | .tp [.ag [.b r0, .b r1, .s r2, .i .i64 r3, .i .i64 r4], .i .i64 r5, .i .i64 r6] => some (r0, r1, r2, r3, r4, r5, r6)
  | _ => none
theorem unr_ok_circaref14_Read : ∀ v r, unr_circaref14_Read v = some r → v = enc_circaref14_Read r := by
  intro v r h
  unfold unr_circaref14_Read at h
  split at h
  · cases h; rfl
  · cases h
noncomputable def e_circaref14_Read (n : Nat) : Ent := pureE 71 una_circaref14_Read (fun a => circaref14_Read n a.1 a.2) enc_circaref14_Read
noncomputable def t_circaref14_Read (l : List V) (_ : List (Nat × Blk)) : Bool := isS (una_circaref14_Read l)
noncomputable def Es_circaref14_Read (n : Nat) : List Ent := [e_circaref14_number n]
theorem Es_ok_circaref14_Read (n : Nat) : ∀ x ∈ Es_circaref14_Read n, EntOK Tryz.prog x := by
  intro x hx
  simp only [Es_circaref14_Read, List.mem_cons, List.not_mem_nil, or_false] at hx
  · rw [hx]; exact ok_circaref14_number n
noncomputable def an_circaref14_Read_l0 : Ann := ⟨[0, 4, 7, 8, 9, 10], [0, 1], 2, []⟩
noncomputable def emb_circaref14_Read_l0 (x : List UInt8 × Int × Int × Int × Bool × Bool × List UInt8 × Int × Int × Bool × Bool × List UInt8 × Int × Int) : St := ⟨[(0, some (.s x.1)), (4, some (.p 0 0)), (7, some (.p 1 0)), (8, some (.i .i64 x.2.1)), (9, some (.i .i64 x.2.2.1)), (10, some (.i .i64 x.2.2.2.1))], [(0, .cells [.b x.2.2.2.2.1, .b x.2.2.2.2.2.1, .s x.2.2.2.2.2.2.1, .i .i64 x.2.2.2.2.2.2.2.1, .i .i64 x.2.2.2.2.2.2.2.2.1]), (1, .cells [.b x.2.2.2.2.2.2.2.2.2.1, .b x.2.2.2.2.2.2.2.2.2.2.1, .s x.2.2.2.2.2.2.2.2.2.2.2.1, .i .i64 x.2.2.2.2.2.2.2.2.2.2.2.2.1, .i .i64 x.2.2.2.2.2.2.2.2.2.2.2.2.2])], 2, 0, 0, 0⟩
noncomputable def un_circaref14_Read_l0 (s : St) : Option (List UInt8 × Int × Int × Int × Bool × Bool × List UInt8 × Int × Int × Bool × Bool × List UInt8 × Int × Int) := match s with
  | ⟨[(0, some (.s x0)), (4, some (.p 0 0)), (7, some (.p 1 0)), (8, some (.i .i64 x1)), (9, some (.i .i64 x2)), (10, some (.i .i64 x3))], [(0, .cells [.b x4, .b x5, .s x6, .i .i64 x7, .i .i64 x8]), (1, .cells [.b x9, .b x10, .s x11, .i .i64 x12, .i .i64 x13])], 2, 0, 0, 0⟩ => some (x0, x1, x2, x3, x4, x5, x6, x7, x8, x9, x10, x11, x12, x13)
  | _ => none
theorem un_ok_circaref14_Read_l0 : ∀ s x, un_circaref14_Read_l0 s = some x → s = emb_circaref14_Read_l0 x := by
  intro s x h
  unfold un_circaref14_Read_l0 at h
  split at h
  · cases h; rfl
  · cases h
noncomputable def ax_circaref14_Read_l0 : Ex → Ann := fun ex => match ex with
  | .ret => ⟨[4, 5, 6], [0], 2, []⟩
  | .exit 0 => ⟨[0, 4, 7, 8, 9], [0, 1], 2, []⟩
  | _ => ⟨[], [], 0, []⟩
noncomputable def out_circaref14_Read_l0 (y : (Int × Int × Bool × Bool × List UInt8 × Int × Int) ⊕ (List UInt8 × Int × Int × Bool × Bool × List UInt8 × Int × Int × Bool × Bool × List UInt8 × Int × Int)) : Ex × St := (Sum.casesOn (motive := fun _ => Ex × St) y (fun a0 => (.ret, ⟨[(4, some (.p 0 0)), (5, some (.i .i64 a0.1)), (6, some (.i .i64 a0.2.1))], [(0, .cells [.b a0.2.2.1, .b a0.2.2.2.1, .s a0.2.2.2.2.1, .i .i64 a0.2.2.2.2.2.1, .i .i64 a0.2.2.2.2.2.2])], 2, 0, 0, 0⟩)) (fun b0 => (.exit 0, ⟨[(0, some (.s b0.1)), (4, some (.p 0 0)), (7, some (.p 1 0)), (8, some (.i .i64 b0.2.1)), (9, some (.i .i64 b0.2.2.1))], [(0, .cells [.b b0.2.2.2.1, .b b0.2.2.2.2.1, .s b0.2.2.2.2.2.1, .i .i64 b0.2.2.2.2.2.2.1, .i .i64 b0.2.2.2.2.2.2.2.1]), (1, .cells [.b b0.2.2.2.2.2.2.2.2.1, .b b0.2.2.2.2.2.2.2.2.2.1, .s b0.2.2.2.2.2.2.2.2.2.2.1, .i .i64 b0.2.2.2.2.2.2.2.2.2.2.2.1, .i .i64 b0.2.2.2.2.2.2.2.2.2.2.2.2])], 2, 0, 0, 0⟩)))
noncomputable def outK_circaref14_Read_l0 (α : Type) (y : (Int × Int × Bool × Bool × List UInt8 × Int × Int) ⊕ (List UInt8 × Int × Int × Bool × Bool × List UInt8 × Int × Int × Bool × Bool × List UInt8 × Int × Int)) (k : Ex → St → Option α) : Option α := (Sum.casesOn (motive := fun _ => Option α) y (fun a0 => (k (.ret) ⟨[(4, some (.p 0 0)), (5, some (.i .i64 a0.1)), (6, some (.i .i64 a0.2.1))], [(0, .cells [.b a0.2.2.1, .b a0.2.2.2.1, .s a0.2.2.2.2.1, .i .i64 a0.2.2.2.2.2.1, .i .i64 a0.2.2.2.2.2.2])], 2, 0, 0, 0⟩)) (fun b0 => (k (.exit 0) ⟨[(0, some (.s b0.1)), (4, some (.p 0 0)), (7, some (.p 1 0)), (8, some (.i .i64 b0.2.1)), (9, some (.i .i64 b0.2.2.1))], [(0, .cells [.b b0.2.2.2.1, .b b0.2.2.2.2.1, .s b0.2.2.2.2.2.1, .i .i64 b0.2.2.2.2.2.2.1, .i .i64 b0.2.2.2.2.2.2.2.1]), (1, .cells [.b b0.2.2.2.2.2.2.2.2.1, .b b0.2.2.2.2.2.2.2.2.2.1, .s b0.2.2.2.2.2.2.2.2.2.2.1, .i .i64 b0.2.2.2.2.2.2.2.2.2.2.2.1, .i .i64 b0.2.2.2.2.2.2.2.2.2.2.2.2])], 2, 0, 0, 0⟩)))
theorem outK_ok_circaref14_Read_l0 : ∀ α y k, outK_circaref14_Read_l0 α y k = k (out_circaref14_Read_l0 y).1 (out_circaref14_Read_l0 y).2 := by
  intro α y k
  rcases y with y | y <;> rfl
noncomputable def ux_circaref14_Read_l0 (ex : Ex) (s : St) : Option ((Int × Int × Bool × Bool × List UInt8 × Int × Int) ⊕ (List UInt8 × Int × Int × Bool × Bool × List UInt8 × Int × Int × Bool × Bool × List UInt8 × Int × Int)) := match ex, s with
  | .ret, ⟨[(4, some (.p 0 0)), (5, some (.i .i64 y0)), (6, some (.i .i64 y1))], [(0, .cells [.b y2, .b y3, .s y4, .i .i64 y5, .i .i64 y6])], 2, 0, 0, 0⟩ => some (.inl (y0, y1, y2, y3, y4, y5, y6))
  | .exit 0, ⟨[(0, some (.s y0)), (4, some (.p 0 0)), (7, some (.p 1 0)), (8, some (.i .i64 y1)), (9, some (.i .i64 y2))], [(0, .cells [.b y3, .b y4, .s y5, .i .i64 y6, .i .i64 y7]), (1, .cells [.b y8, .b y9, .s y10, .i .i64 y11, .i .i64 y12])], 2, 0, 0, 0⟩ => some (.inr (y0, y1, y2, y3, y4, y5, y6, y7, y8, y9, y10, y11, y12))
  | _, _ => none
theorem ux_ok_circaref14_Read_l0 : ∀ ex s y, ux_circaref14_Read_l0 ex s = some y → (ex, s) = out_circaref14_Read_l0 y := by
  intro ex s y h
  unfold ux_circaref14_Read_l0 at h
  split at h
  · cases h; rfl
  · cases h; rfl
  · cases h
noncomputable def Ls_circaref14_Read (n : Nat) : List Sub := [subE 0 an_circaref14_Read_l0 un_circaref14_Read_l0 (fun x => iterL (circaref14_Read_l0 n) n x) outK_circaref14_Read_l0]
noncomputable def sac_circaref14_Read_l0 : AC := getS (subs (acOf Tryz.f71)) 0
noncomputable def ac_circaref14_Read_l0 : AC := AC.body sac_circaref14_Read_l0
theorem subs_circaref14_Read_l0 (n : Nat) : SubOK Tryz.prog 142 (Ls_circaref14_Read n) ac_circaref14_Read_l0 := SubOK_of _ (by
  have e : subs ac_circaref14_Read_l0 = [] := by kernel_rfl
  rw [e]; intro p hp; cases hp)
theorem body_circaref14_Read_l0 (n : Nat) : ∀ x, run Tryz.prog (Es_circaref14_Read n) (Ls_circaref14_Read n) 142 ac_circaref14_Read_l0 (emb_circaref14_Read_l0 x) (roundK an_circaref14_Read_l0 un_circaref14_Read_l0 ax_circaref14_Read_l0 ux_circaref14_Read_l0) = circaref14_Read_l0 n x := fun _ => by kernel_rfl
theorem sub1_circaref14_Read_l0 (n : Nat) : ∀ (α : Type) (s : St) (k : Ex → St → Option α) (z : α), (subE 0 an_circaref14_Read_l0 un_circaref14_Read_l0 (fun x => iterL (circaref14_Read_l0 n) n x) outK_circaref14_Read_l0).e α s k = some z → SemC Tryz.prog 142 (sac_circaref14_Read_l0).code s fun ex s' => k ex s' = some z := by
  intro α s k z h
  have e : sac_circaref14_Read_l0 = .loop ac_circaref14_Read_l0 := by kernel_rfl
  rw [e]
  exact subE_ok (m := 0) (f := fun x => iterL (circaref14_Read_l0 n) n x) (out := out_circaref14_Read_l0) outK_ok_circaref14_Read_l0 un_ok_circaref14_Read_l0 (fun x y hy => loop_ok (Es_ok_circaref14_Read n) (subs_circaref14_Read_l0 n) un_ok_circaref14_Read_l0 ux_ok_circaref14_Read_l0 (body_circaref14_Read_l0 n) n x y hy) h
theorem sub_circaref14_Read_l0 (n : Nat) : SubSt Tryz.prog 142 (Ls_circaref14_Read n) 0 sac_circaref14_Read_l0 := fun α s k z => sub1_circaref14_Read_l0 n α s k z
theorem subs_circaref14_Read (n : Nat) : SubOK Tryz.prog 142 (Ls_circaref14_Read n) (acOf Tryz.f71) := SubOK_of _ (by
  have e : subs (acOf Tryz.f71) = [(0, sac_circaref14_Read_l0)] := by kernel_rfl
  rw [e]; intro p hp
  simp only [List.mem_cons, List.not_mem_nil, or_false] at hp
  · rw [hp]; exact sub_circaref14_Read_l0 n
  )
theorem cert_circaref14_Read (n : Nat) (a0 : List UInt8) (a1 : Int) : run Tryz.prog (Es_circaref14_Read n) (Ls_circaref14_Read n) Tryz.f71.ntmps (acOf Tryz.f71) ⟨argsT [.s a0, .i .i64 a1] 0, [], 0, 0, 0, 0⟩ (finK Tryz.prog Tryz.f71.results.toList (retX unr_circaref14_Read)) = circaref14_Read n a0 a1 := by kernel_rfl
theorem pure_circaref14_Read (n : Nat) : ∀ a r, circaref14_Read n a.1 a.2 = some r → PureOK Tryz.prog 71 (arg_circaref14_Read a) (enc_circaref14_Read r) := fun a r h => pureX_ok unr_ok_circaref14_Read (Es_ok_circaref14_Read n) Tryz.func71 rfl (acOf_code _) (subs_circaref14_Read n) rfl ((cert_circaref14_Read n a.1 a.2).trans h)
theorem ok_circaref14_Read (n : Nat) : EntOK Tryz.prog (e_circaref14_Read n) := pureE_ok Tryz.call71 una_ok_circaref14_Read (fun _ => rfl) (pure_circaref14_Read n)

/-! circa/circaref15.two -/
noncomputable def arg_circaref15_two (a : List UInt8 × Int × Int) : List V := [.ag [.s a.1, .i .i64 a.2.1, .i .i64 a.2.2]]
noncomputable def una_circaref15_two (l : List V) : Option (List UInt8 × Int × Int) := match l with
  | [.ag [.s a0, .i .i64 a1, .i .i64 a2]] => some (a0, a1, a2)
  | _ => none
theorem una_ok_circaref15_two : ∀ l a, una_circaref15_two l = some a → l = arg_circaref15_two a := by
  intro l a h
  unfold una_circaref15_two at h
  split at h
  · cases h; rfl
  · cases h
noncomputable def enc_circaref15_two (r : List UInt8 × List UInt8 × Int × Int) : V := .tp [.s r.1, .ag [.s r.2.1, .i .i64 r.2.2.1, .i .i64 r.2.2.2]]
noncomputable def unr_circaref15_two (v : V) : Option (List UInt8 × List UInt8 × Int × Int) := match v with
  | .tp [.s r0, .ag [.s r1, .i .i64 r2, .i .i64 r3]] => some (r0, r1, r2, r3)
  | _ => none
theorem unr_ok_circaref15_two : ∀ v r, unr_circaref15_two v = some r → v = enc_circaref15_two r := by
  intro v r h
  unfold unr_circaref15_two at h
  split at h
  · cases h; rfl
  · cases h
noncomputable def e_circaref15_two (n : Nat) : Ent := pureE 72 una_circaref15_two (fun a => circaref15_two n a.1 a.2.1 a.2.2) enc_circaref15_two
noncomputable def t_circaref15_two (l : List V) (_ : List (Nat × Blk)) : Bool := isS (una_circaref15_two l)
noncomputable def Es_circaref15_two (_n : Nat) : List Ent := []
theorem Es_ok_circaref15_two (n : Nat) : ∀ x ∈ Es_circaref15_two n, EntOK Tryz.prog x := by
  intro x hx
  simp [Es_circaref15_two] at hx
noncomputable def an_circaref15_two_l0 : Ann := ⟨[1, 3, 4, 5], [0, 1], 2, []⟩
noncomputable def emb_circaref15_two_l0 (x : Int × Int × List UInt8 × Int × Int × List UInt8 × Int × Int) : St := ⟨[(1, some (.p 0 0)), (3, some (.p 1 0)), (4, some (.i .i64 x.1)), (5, some (.i .i64 x.2.1))], [(0, .cells [.s x.2.2.1, .i .i64 x.2.2.2.1, .i .i64 x.2.2.2.2.1]), (1, .cells [.s x.2.2.2.2.2.1, .i .i64 x.2.2.2.2.2.2.1, .i .i64 x.2.2.2.2.2.2.2])], 2, 0, 0, 0⟩
noncomputable def un_circaref15_two_l0 (s : St) : Option (Int × Int × List UInt8 × Int × Int × List UInt8 × Int × Int) := match s with
  | ⟨[(1, some (.p 0 0)), (3, some (.p 1 0)), (4, some (.i .i64 x0)), (5, some (.i .i64 x1))], [(0, .cells [.s x2, .i .i64 x3, .i .i64 x4]), (1, .cells [.s x5, .i .i64 x6, .i .i64 x7])], 2, 0, 0, 0⟩ => some (x0, x1, x2, x3, x4, x5, x6, x7)
  | _ => none
theorem un_ok_circaref15_two_l0 : ∀ s x, un_circaref15_two_l0 s = some x → s = emb_circaref15_two_l0 x := by
  intro s x h
  unfold un_circaref15_two_l0 at h
  split at h
  · cases h; rfl
  · cases h
noncomputable def ax_circaref15_two_l0 : Ex → Ann := fun ex => match ex with
  | .ret => ⟨[2, 3], [1], 2, []⟩
  | .exit 0 => ⟨[1, 3, 4], [0, 1], 2, []⟩
  | _ => ⟨[], [], 0, []⟩
noncomputable def out_circaref15_two_l0 (y : (List UInt8 × List UInt8 × Int × Int) ⊕ (Int × List UInt8 × Int × Int × List UInt8 × Int × Int)) : Ex × St := (Sum.casesOn (motive := fun _ => Ex × St) y (fun a0 => (.ret, ⟨[(2, some (.s a0.1)), (3, some (.p 1 0))], [(1, .cells [.s a0.2.1, .i .i64 a0.2.2.1, .i .i64 a0.2.2.2])], 2, 0, 0, 0⟩)) (fun b0 => (.exit 0, ⟨[(1, some (.p 0 0)), (3, some (.p 1 0)), (4, some (.i .i64 b0.1))], [(0, .cells [.s b0.2.1, .i .i64 b0.2.2.1, .i .i64 b0.2.2.2.1]), (1, .cells [.s b0.2.2.2.2.1, .i .i64 b0.2.2.2.2.2.1, .i .i64 b0.2.2.2.2.2.2])], 2, 0, 0, 0⟩)))
noncomputable def outK_circaref15_two_l0 (α : Type) (y : (List UInt8 × List UInt8 × Int × Int) ⊕ (Int × List UInt8 × Int × Int × List UInt8 × Int × Int)) (k : Ex → St → Option α) : Option α := (Sum.casesOn (motive := fun _ => Option α) y (fun a0 => (k (.ret) ⟨[(2, some (.s a0.1)), (3, some (.p 1 0))], [(1, .cells [.s a0.2.1, .i .i64 a0.2.2.1, .i .i64 a0.2.2.2])], 2, 0, 0, 0⟩)) (fun b0 => (k (.exit 0) ⟨[(1, some (.p 0 0)), (3, some (.p 1 0)), (4, some (.i .i64 b0.1))], [(0, .cells [.s b0.2.1, .i .i64 b0.2.2.1, .i .i64 b0.2.2.2.1]), (1, .cells [.s b0.2.2.2.2.1, .i .i64 b0.2.2.2.2.2.1, .i .i64 b0.2.2.2.2.2.2])], 2, 0, 0, 0⟩)))
theorem outK_ok_circaref15_two_l0 : ∀ α y k, outK_circaref15_two_l0 α y k = k (out_circaref15_two_l0 y).1 (out_circaref15_two_l0 y).2 := by
  intro α y k
  rcases y with y | y <;> rfl
noncomputable def ux_circaref15_two_l0 (ex : Ex) (s : St) : Option ((List UInt8 × List UInt8 × Int × Int) ⊕ (Int × List UInt8 × Int × Int × List UInt8 × Int × Int)) := match ex, s with
  | .ret, ⟨[(2, some (.s y0)), (3, some (.p 1 0))], [(1, .cells [.s y1, .i .i64 y2, .i .i64 y3])], 2, 0, 0, 0⟩ => some (.inl (y0, y1, y2, y3))
  | .exit 0, ⟨[(1, some (.p 0 0)), (3, some (.p 1 0)), (4, some (.i .i64 y0))], [(0, .cells [.s y1, .i .i64 y2, .i .i64 y3]), (1, .cells [.s y4, .i .i64 y5, .i .i64 y6])], 2, 0, 0, 0⟩ => some (.inr (y0, y1, y2, y3, y4, y5, y6))
  | _, _ => none
theorem ux_ok_circaref15_two_l0 : ∀ ex s y, ux_circaref15_two_l0 ex s = some y → (ex, s) = out_circaref15_two_l0 y := by
  intro ex s y h
  unfold ux_circaref15_two_l0 at h
  split at h
  · cases h; rfl
  · cases h; rfl
  · cases h
noncomputable def Ls_circaref15_two (n : Nat) : List Sub := [subE 0 an_circaref15_two_l0 un_circaref15_two_l0 (fun x => iterL (circaref15_two_l0 n) n x) outK_circaref15_two_l0]
noncomputable def sac_circaref15_two_l0 : AC := getS (subs (acOf Tryz.f72)) 0
noncomputable def ac_circaref15_two_l0 : AC := AC.body sac_circaref15_two_l0
theorem subs_circaref15_two_l0 (n : Nat) : SubOK Tryz.prog 55 (Ls_circaref15_two n) ac_circaref15_two_l0 := SubOK_of _ (by
  have e : subs ac_circaref15_two_l0 = [] := by kernel_rfl
  rw [e]; intro p hp; cases hp)
theorem body_circaref15_two_l0 (n : Nat) : ∀ x, run Tryz.prog (Es_circaref15_two n) (Ls_circaref15_two n) 55 ac_circaref15_two_l0 (emb_circaref15_two_l0 x) (roundK an_circaref15_two_l0 un_circaref15_two_l0 ax_circaref15_two_l0 ux_circaref15_two_l0) = circaref15_two_l0 n x := fun _ => by kernel_rfl
theorem sub1_circaref15_two_l0 (n : Nat) : ∀ (α : Type) (s : St) (k : Ex → St → Option α) (z : α), (subE 0 an_circaref15_two_l0 un_circaref15_two_l0 (fun x => iterL (circaref15_two_l0 n) n x) outK_circaref15_two_l0).e α s k = some z → SemC Tryz.prog 55 (sac_circaref15_two_l0).code s fun ex s' => k ex s' = some z := by
  intro α s k z h
  have e : sac_circaref15_two_l0 = .loop ac_circaref15_two_l0 := by kernel_rfl
  rw [e]
  exact subE_ok (m := 0) (f := fun x => iterL (circaref15_two_l0 n) n x) (out := out_circaref15_two_l0) outK_ok_circaref15_two_l0 un_ok_circaref15_two_l0 (fun x y hy => loop_ok (Es_ok_circaref15_two n) (subs_circaref15_two_l0 n) un_ok_circaref15_two_l0 ux_ok_circaref15_two_l0 (body_circaref15_two_l0 n) n x y hy) h
theorem sub_circaref15_two_l0 (n : Nat) : SubSt Tryz.prog 55 (Ls_circaref15_two n) 0 sac_circaref15_two_l0 := fun α s k z => sub1_circaref15_two_l0 n α s k z
theorem subs_circaref15_two (n : Nat) : SubOK Tryz.prog 55 (Ls_circaref15_two n) (acOf Tryz.f72) := SubOK_of _ (by
  have e : subs (acOf Tryz.f72) = [(0, sac_circaref15_two_l0)] := by kernel_rfl
  rw [e]; intro p hp
  simp only [List.mem_cons, List.not_mem_nil, or_false] at hp
  · rw [hp]; exact sub_circaref15_two_l0 n
  )
theorem cert_circaref15_two (n : Nat) (a0 : List UInt8) (a1 : Int) (a2 : Int) : run Tryz.prog (Es_circaref15_two n) (Ls_circaref15_two n) Tryz.f72.ntmps (acOf Tryz.f72) ⟨argsT [.ag [.s a0, .i .i64 a1, .i .i64 a2]] 0, [], 0, 0, 0, 0⟩ (finK Tryz.prog Tryz.f72.results.toList (retX unr_circaref15_two)) = circaref15_two n a0 a1 a2 := by kernel_rfl
theorem pure_circaref15_two (n : Nat) : ∀ a r, circaref15_two n a.1 a.2.1 a.2.2 = some r → PureOK Tryz.prog 72 (arg_circaref15_two a) (enc_circaref15_two r) := fun a r h => pureX_ok unr_ok_circaref15_two (Es_ok_circaref15_two n) Tryz.func72 rfl (acOf_code _) (subs_circaref15_two n) rfl ((cert_circaref15_two n a.1 a.2.1 a.2.2).trans h)
theorem ok_circaref15_two (n : Nat) : EntOK Tryz.prog (e_circaref15_two n) := pureE_ok Tryz.call72 una_ok_circaref15_two (fun _ => rfl) (pure_circaref15_two n)

/-! circa/circaref13.bit -/
noncomputable def arg_circaref13_bit (a : Int × Int) : List V := [.i .u8 a.1, .i .u8 a.2]
noncomputable def una_circaref13_bit (l : List V) : Option (Int × Int) := match l with
  | [.i .u8 a0, .i .u8 a1] => some (a0, a1)
  | _ => none
theorem una_ok_circaref13_bit : ∀ l a, una_circaref13_bit l = some a → l = arg_circaref13_bit a := by
  intro l a h
  unfold una_circaref13_bit at h
  split at h
  · cases h; rfl
  · cases h
noncomputable def enc_circaref13_bit (r : Int) : V := .i .i64 r
noncomputable def unr_circaref13_bit (v : V) : Option (Int) := match v with
  | .i .i64 r0 => some r0
  | _ => none
theorem unr_ok_circaref13_bit : ∀ v r, unr_circaref13_bit v = some r → v = enc_circaref13_bit r := by
  intro v r h
  unfold unr_circaref13_bit at h
  split at h
  · cases h; rfl
  · cases h
noncomputable def e_circaref13_bit (n : Nat) : Ent := pureE 133 una_circaref13_bit (fun a => circaref13_bit n a.1 a.2) enc_circaref13_bit
noncomputable def t_circaref13_bit (l : List V) (_ : List (Nat × Blk)) : Bool := isS (una_circaref13_bit l)
noncomputable def Es_circaref13_bit (_n : Nat) : List Ent := []
theorem Es_ok_circaref13_bit (n : Nat) : ∀ x ∈ Es_circaref13_bit n, EntOK Tryz.prog x := by
  intro x hx
  simp [Es_circaref13_bit] at hx
noncomputable def Ls_circaref13_bit (_n : Nat) : List Sub := []
theorem subs_circaref13_bit (n : Nat) : SubOK Tryz.prog 14 (Ls_circaref13_bit n) (acOf Tryz.f133) := SubOK_of _ (by
  have e : subs (acOf Tryz.f133) = [] := by kernel_rfl
  rw [e]; intro p hp; cases hp)
theorem cert_circaref13_bit (n : Nat) (a0 : Int) (a1 : Int) : run Tryz.prog (Es_circaref13_bit n) (Ls_circaref13_bit n) Tryz.f133.ntmps (acOf Tryz.f133) ⟨argsT [.i .u8 a0, .i .u8 a1] 0, [], 0, 0, 0, 0⟩ (finK Tryz.prog Tryz.f133.results.toList (retX unr_circaref13_bit)) = circaref13_bit n a0 a1 := by kernel_rfl
theorem pure_circaref13_bit (n : Nat) : ∀ a r, circaref13_bit n a.1 a.2 = some r → PureOK Tryz.prog 133 (arg_circaref13_bit a) (enc_circaref13_bit r) := fun a r h => pureX_ok unr_ok_circaref13_bit (Es_ok_circaref13_bit n) Tryz.func133 rfl (acOf_code _) (subs_circaref13_bit n) rfl ((cert_circaref13_bit n a.1 a.2).trans h)
theorem ok_circaref13_bit (n : Nat) : EntOK Tryz.prog (e_circaref13_bit n) := pureE_ok Tryz.call133 una_ok_circaref13_bit (fun _ => rfl) (pure_circaref13_bit n)

/-! circa/circaref13.Spread -/
noncomputable def arg_circaref13_Spread (a : List Int × List Int × Int) : List V := [.ai .u8 3 a.1, .ai .u8 3 a.2.1, .i .i64 a.2.2]
noncomputable def una_circaref13_Spread (l : List V) : Option (List Int × List Int × Int) := match l with
  | [.ai .u8 3 a0, .ai .u8 3 a1, .i .i64 a2] => some (a0, a1, a2)
  | _ => none
theorem una_ok_circaref13_Spread : ∀ l a, una_circaref13_Spread l = some a → l = arg_circaref13_Spread a := by
  intro l a h
  unfold una_circaref13_Spread at h
  split at h
  · cases h; rfl
  · cases h
noncomputable def enc_circaref13_Spread (r : List Int) : V := .ai .u8 3 r
noncomputable def unr_circaref13_Spread (v : V) : Option (List Int) := match v with
  | .ai .u8 3 r0 => some r0
  | _ => none
theorem unr_ok_circaref13_Spread : ∀ v r, unr_circaref13_Spread v = some r → v = enc_circaref13_Spread r := by
  intro v r h
  unfold unr_circaref13_Spread at h
  split at h
  · cases h; rfl
  · cases h
noncomputable def e_circaref13_Spread (n : Nat) : Ent := pureE 73 una_circaref13_Spread (fun a => circaref13_Spread n a.1 a.2.1 a.2.2) enc_circaref13_Spread
noncomputable def t_circaref13_Spread (l : List V) (_ : List (Nat × Blk)) : Bool := isS (una_circaref13_Spread l)
noncomputable def Es_circaref13_Spread (n : Nat) : List Ent := [e_circaref13_bit n]
theorem Es_ok_circaref13_Spread (n : Nat) : ∀ x ∈ Es_circaref13_Spread n, EntOK Tryz.prog x := by
  intro x hx
  simp only [Es_circaref13_Spread, List.mem_cons, List.not_mem_nil, or_false] at hx
  · rw [hx]; exact ok_circaref13_bit n
noncomputable def an_circaref13_Spread_l2 : Ann := ⟨[2, 3, 4, 6, 7, 8, 9, 10, 11], [0, 1, 2, 3], 4, []⟩
noncomputable def emb_circaref13_Spread_l2 (x : Int × Int × Int × Int × Int × List Int × List Int × List Int × List Int) : St := ⟨[(2, some (.i .i64 x.1)), (3, some (.p 0 0)), (4, some (.p 1 0)), (6, some (.p 2 0)), (7, some (.p 3 0)), (8, some (.i .u8 x.2.1)), (9, some (.i .i64 x.2.2.1)), (10, some (.i .i64 x.2.2.2.1)), (11, some (.i .i64 x.2.2.2.2.1))], [(0, .ints .u8 3 x.2.2.2.2.2.1), (1, .ints .u8 3 x.2.2.2.2.2.2.1), (2, .ints .u8 3 x.2.2.2.2.2.2.2.1), (3, .ints .u8 3 x.2.2.2.2.2.2.2.2)], 4, 0, 0, 0⟩
noncomputable def un_circaref13_Spread_l2 (s : St) : Option (Int × Int × Int × Int × Int × List Int × List Int × List Int × List Int) := match s with
  | ⟨[(2, some (.i .i64 x0)), (3, some (.p 0 0)), (4, some (.p 1 0)), (6, some (.p 2 0)), (7, some (.p 3 0)), (8, some (.i .u8 x1)), (9, some (.i .i64 x2)), (10, some (.i .i64 x3)), (11, some (.i .i64 x4))], [(0, .ints .u8 3 x5), (1, .ints .u8 3 x6), (2, .ints .u8 3 x7), (3, .ints .u8 3 x8)], 4, 0, 0, 0⟩ => some (x0, x1, x2, x3, x4, x5, x6, x7, x8)
  | _ => none
theorem un_ok_circaref13_Spread_l2 : ∀ s x, un_circaref13_Spread_l2 s = some x → s = emb_circaref13_Spread_l2 x := by
  intro s x h
  unfold un_circaref13_Spread_l2 at h
  split at h
  · cases h; rfl
  · cases h
noncomputable def ax_circaref13_Spread_l2 : Ex → Ann := fun ex => match ex with
  | .exit 4 => ⟨[2, 3, 4, 6, 7, 8, 9, 10], [0, 1, 2, 3], 4, []⟩
  | _ => ⟨[], [], 0, []⟩
noncomputable def out_circaref13_Spread_l2 (y : (Int × Int × Int × Int × List Int × List Int × List Int × List Int)) : Ex × St := (.exit 4, ⟨[(2, some (.i .i64 y.1)), (3, some (.p 0 0)), (4, some (.p 1 0)), (6, some (.p 2 0)), (7, some (.p 3 0)), (8, some (.i .u8 y.2.1)), (9, some (.i .i64 y.2.2.1)), (10, some (.i .i64 y.2.2.2.1))], [(0, .ints .u8 3 y.2.2.2.2.1), (1, .ints .u8 3 y.2.2.2.2.2.1), (2, .ints .u8 3 y.2.2.2.2.2.2.1), (3, .ints .u8 3 y.2.2.2.2.2.2.2)], 4, 0, 0, 0⟩)
noncomputable def outK_circaref13_Spread_l2 (α : Type) (y : (Int × Int × Int × Int × List Int × List Int × List Int × List Int)) (k : Ex → St → Option α) : Option α := (k (.exit 4) ⟨[(2, some (.i .i64 y.1)), (3, some (.p 0 0)), (4, some (.p 1 0)), (6, some (.p 2 0)), (7, some (.p 3 0)), (8, some (.i .u8 y.2.1)), (9, some (.i .i64 y.2.2.1)), (10, some (.i .i64 y.2.2.2.1))], [(0, .ints .u8 3 y.2.2.2.2.1), (1, .ints .u8 3 y.2.2.2.2.2.1), (2, .ints .u8 3 y.2.2.2.2.2.2.1), (3, .ints .u8 3 y.2.2.2.2.2.2.2)], 4, 0, 0, 0⟩)
theorem outK_ok_circaref13_Spread_l2 : ∀ α y k, outK_circaref13_Spread_l2 α y k = k (out_circaref13_Spread_l2 y).1 (out_circaref13_Spread_l2 y).2 := by
  intro α y k
  rfl
noncomputable def ux_circaref13_Spread_l2 (ex : Ex) (s : St) : Option ((Int × Int × Int × Int × List Int × List Int × List Int × List Int)) := match ex, s with
  | .exit 4, ⟨[(2, some (.i .i64 y0)), (3, some (.p 0 0)), (4, some (.p 1 0)), (6, some (.p 2 0)), (7, some (.p 3 0)), (8, some (.i .u8 y1)), (9, some (.i .i64 y2)), (10, some (.i .i64 y3))], [(0, .ints .u8 3 y4), (1, .ints .u8 3 y5), (2, .ints .u8 3 y6), (3, .ints .u8 3 y7)], 4, 0, 0, 0⟩ => some (y0, y1, y2, y3, y4, y5, y6, y7)
  | _, _ => none
theorem ux_ok_circaref13_Spread_l2 : ∀ ex s y, ux_circaref13_Spread_l2 ex s = some y → (ex, s) = out_circaref13_Spread_l2 y := by
  intro ex s y h
  unfold ux_circaref13_Spread_l2 at h
  split at h
  · cases h; rfl
  · cases h
noncomputable def an_circaref13_Spread_l1 : Ann := ⟨[2, 3, 4, 6, 7, 8, 9], [0, 1, 2, 3], 4, []⟩
noncomputable def emb_circaref13_Spread_l1 (x : Int × Int × Int × List Int × List Int × List Int × List Int) : St := ⟨[(2, some (.i .i64 x.1)), (3, some (.p 0 0)), (4, some (.p 1 0)), (6, some (.p 2 0)), (7, some (.p 3 0)), (8, some (.i .u8 x.2.1)), (9, some (.i .i64 x.2.2.1))], [(0, .ints .u8 3 x.2.2.2.1), (1, .ints .u8 3 x.2.2.2.2.1), (2, .ints .u8 3 x.2.2.2.2.2.1), (3, .ints .u8 3 x.2.2.2.2.2.2)], 4, 0, 0, 0⟩
noncomputable def un_circaref13_Spread_l1 (s : St) : Option (Int × Int × Int × List Int × List Int × List Int × List Int) := match s with
  | ⟨[(2, some (.i .i64 x0)), (3, some (.p 0 0)), (4, some (.p 1 0)), (6, some (.p 2 0)), (7, some (.p 3 0)), (8, some (.i .u8 x1)), (9, some (.i .i64 x2))], [(0, .ints .u8 3 x3), (1, .ints .u8 3 x4), (2, .ints .u8 3 x5), (3, .ints .u8 3 x6)], 4, 0, 0, 0⟩ => some (x0, x1, x2, x3, x4, x5, x6)
  | _ => none
theorem un_ok_circaref13_Spread_l1 : ∀ s x, un_circaref13_Spread_l1 s = some x → s = emb_circaref13_Spread_l1 x := by
  intro s x h
  unfold un_circaref13_Spread_l1 at h
  split at h
  · cases h; rfl
  · cases h
noncomputable def ax_circaref13_Spread_l1 : Ex → Ann := fun ex => match ex with
  | .exit 2 => ⟨[2, 3, 4, 6, 7, 8], [0, 1, 2, 3], 4, []⟩
  | _ => ⟨[], [], 0, []⟩
noncomputable def out_circaref13_Spread_l1 (y : (Int × Int × List Int × List Int × List Int × List Int)) : Ex × St := (.exit 2, ⟨[(2, some (.i .i64 y.1)), (3, some (.p 0 0)), (4, some (.p 1 0)), (6, some (.p 2 0)), (7, some (.p 3 0)), (8, some (.i .u8 y.2.1))], [(0, .ints .u8 3 y.2.2.1), (1, .ints .u8 3 y.2.2.2.1), (2, .ints .u8 3 y.2.2.2.2.1), (3, .ints .u8 3 y.2.2.2.2.2)], 4, 0, 0, 0⟩)
noncomputable def outK_circaref13_Spread_l1 (α : Type) (y : (Int × Int × List Int × List Int × List Int × List Int)) (k : Ex → St → Option α) : Option α := (k (.exit 2) ⟨[(2, some (.i .i64 y.1)), (3, some (.p 0 0)), (4, some (.p 1 0)), (6, some (.p 2 0)), (7, some (.p 3 0)), (8, some (.i .u8 y.2.1))], [(0, .ints .u8 3 y.2.2.1), (1, .ints .u8 3 y.2.2.2.1), (2, .ints .u8 3 y.2.2.2.2.1), (3, .ints .u8 3 y.2.2.2.2.2)], 4, 0, 0, 0⟩)
theorem outK_ok_circaref13_Spread_l1 : ∀ α y k, outK_circaref13_Spread_l1 α y k = k (out_circaref13_Spread_l1 y).1 (out_circaref13_Spread_l1 y).2 := by
  intro α y k
  rfl
noncomputable def ux_circaref13_Spread_l1 (ex : Ex) (s : St) : Option ((Int × Int × List Int × List Int × List Int × List Int)) := match ex, s with
  | .exit 2, ⟨[(2, some (.i .i64 y0)), (3, some (.p 0 0)), (4, some (.p 1 0)), (6, some (.p 2 0)), (7, some (.p 3 0)), (8, some (.i .u8 y1))], [(0, .ints .u8 3 y2), (1, .ints .u8 3 y3), (2, .ints .u8 3 y4), (3, .ints .u8 3 y5)], 4, 0, 0, 0⟩ => some (y0, y1, y2, y3, y4, y5)
  | _, _ => none
theorem ux_ok_circaref13_Spread_l1 : ∀ ex s y, ux_circaref13_Spread_l1 ex s = some y → (ex, s) = out_circaref13_Spread_l1 y := by
  intro ex s y h
  unfold ux_circaref13_Spread_l1 at h
  split at h
  · cases h; rfl
  · cases h
noncomputable def an_circaref13_Spread_l0 : Ann := ⟨[2, 3, 4, 6, 7, 8], [0, 1, 2, 3], 4, []⟩
noncomputable def emb_circaref13_Spread_l0 (x : Int × Int × List Int × List Int × List Int × List Int) : St := ⟨[(2, some (.i .i64 x.1)), (3, some (.p 0 0)), (4, some (.p 1 0)), (6, some (.p 2 0)), (7, some (.p 3 0)), (8, some (.i .u8 x.2.1))], [(0, .ints .u8 3 x.2.2.1), (1, .ints .u8 3 x.2.2.2.1), (2, .ints .u8 3 x.2.2.2.2.1), (3, .ints .u8 3 x.2.2.2.2.2)], 4, 0, 0, 0⟩
noncomputable def un_circaref13_Spread_l0 (s : St) : Option (Int × Int × List Int × List Int × List Int × List Int) := match s with
  | ⟨[(2, some (.i .i64 x0)), (3, some (.p 0 0)), (4, some (.p 1 0)), (6, some (.p 2 0)), (7, some (.p 3 0)), (8, some (.i .u8 x1))], [(0, .ints .u8 3 x2), (1, .ints .u8 3 x3), (2, .ints .u8 3 x4), (3, .ints .u8 3 x5)], 4, 0, 0, 0⟩ => some (x0, x1, x2, x3, x4, x5)
  | _ => none
theorem un_ok_circaref13_Spread_l0 : ∀ s x, un_circaref13_Spread_l0 s = some x → s = emb_circaref13_Spread_l0 x := by
  intro s x h
  unfold un_circaref13_Spread_l0 at h
  split at h
  · cases h; rfl
  · cases h
noncomputable def ax_circaref13_Spread_l0 : Ex → Ann := fun ex => match ex with
  | .exit 0 => ⟨[6, 7], [2, 3], 4, []⟩
  | _ => ⟨[], [], 0, []⟩
noncomputable def out_circaref13_Spread_l0 (y : (List Int × List Int)) : Ex × St := (.exit 0, ⟨[(6, some (.p 2 0)), (7, some (.p 3 0))], [(2, .ints .u8 3 y.1), (3, .ints .u8 3 y.2)], 4, 0, 0, 0⟩)
noncomputable def outK_circaref13_Spread_l0 (α : Type) (y : (List Int × List Int)) (k : Ex → St → Option α) : Option α := (k (.exit 0) ⟨[(6, some (.p 2 0)), (7, some (.p 3 0))], [(2, .ints .u8 3 y.1), (3, .ints .u8 3 y.2)], 4, 0, 0, 0⟩)
theorem outK_ok_circaref13_Spread_l0 : ∀ α y k, outK_circaref13_Spread_l0 α y k = k (out_circaref13_Spread_l0 y).1 (out_circaref13_Spread_l0 y).2 := by
  intro α y k
  rfl
noncomputable def ux_circaref13_Spread_l0 (ex : Ex) (s : St) : Option ((List Int × List Int)) := match ex, s with
  | .exit 0, ⟨[(6, some (.p 2 0)), (7, some (.p 3 0))], [(2, .ints .u8 3 y0), (3, .ints .u8 3 y1)], 4, 0, 0, 0⟩ => some (y0, y1)
  | _, _ => none
theorem ux_ok_circaref13_Spread_l0 : ∀ ex s y, ux_circaref13_Spread_l0 ex s = some y → (ex, s) = out_circaref13_Spread_l0 y := by
  intro ex s y h
  unfold ux_circaref13_Spread_l0 at h
  split at h
  · cases h; rfl
  · cases h
noncomputable def Ls_circaref13_Spread (n : Nat) : List Sub := [subE 2 an_circaref13_Spread_l2 un_circaref13_Spread_l2 (fun x => iterL (circaref13_Spread_l2 n) n x) outK_circaref13_Spread_l2, subE 1 an_circaref13_Spread_l1 un_circaref13_Spread_l1 (fun x => iterL (circaref13_Spread_l1 n) n x) outK_circaref13_Spread_l1, subE 0 an_circaref13_Spread_l0 un_circaref13_Spread_l0 (fun x => iterL (circaref13_Spread_l0 n) n x) outK_circaref13_Spread_l0]
noncomputable def sac_circaref13_Spread_l0 : AC := getS (subs (acOf Tryz.f73)) 0
noncomputable def ac_circaref13_Spread_l0 : AC := AC.body sac_circaref13_Spread_l0
noncomputable def sac_circaref13_Spread_l1 : AC := getS (subs ac_circaref13_Spread_l0) 1
noncomputable def ac_circaref13_Spread_l1 : AC := AC.body sac_circaref13_Spread_l1
noncomputable def sac_circaref13_Spread_l2 : AC := getS (subs ac_circaref13_Spread_l1) 2
noncomputable def ac_circaref13_Spread_l2 : AC := AC.body sac_circaref13_Spread_l2
theorem subs_circaref13_Spread_l2 (n : Nat) : SubOK Tryz.prog 48 (Ls_circaref13_Spread n) ac_circaref13_Spread_l2 := SubOK_of _ (by
  have e : subs ac_circaref13_Spread_l2 = [] := by kernel_rfl
  rw [e]; intro p hp; cases hp)
theorem body_circaref13_Spread_l2 (n : Nat) : ∀ x, run Tryz.prog (Es_circaref13_Spread n) (Ls_circaref13_Spread n) 48 ac_circaref13_Spread_l2 (emb_circaref13_Spread_l2 x) (roundK an_circaref13_Spread_l2 un_circaref13_Spread_l2 ax_circaref13_Spread_l2 ux_circaref13_Spread_l2) = circaref13_Spread_l2 n x := fun _ => by kernel_rfl
theorem sub1_circaref13_Spread_l2 (n : Nat) : ∀ (α : Type) (s : St) (k : Ex → St → Option α) (z : α), (subE 2 an_circaref13_Spread_l2 un_circaref13_Spread_l2 (fun x => iterL (circaref13_Spread_l2 n) n x) outK_circaref13_Spread_l2).e α s k = some z → SemC Tryz.prog 48 (sac_circaref13_Spread_l2).code s fun ex s' => k ex s' = some z := by
  intro α s k z h
  have e : sac_circaref13_Spread_l2 = .loop ac_circaref13_Spread_l2 := by kernel_rfl
  rw [e]
  exact subE_ok (m := 2) (f := fun x => iterL (circaref13_Spread_l2 n) n x) (out := out_circaref13_Spread_l2) outK_ok_circaref13_Spread_l2 un_ok_circaref13_Spread_l2 (fun x y hy => loop_ok (Es_ok_circaref13_Spread n) (subs_circaref13_Spread_l2 n) un_ok_circaref13_Spread_l2 ux_ok_circaref13_Spread_l2 (body_circaref13_Spread_l2 n) n x y hy) h
theorem sub_circaref13_Spread_l2 (n : Nat) : SubSt Tryz.prog 48 (Ls_circaref13_Spread n) 2 sac_circaref13_Spread_l2 := fun α s k z => sub1_circaref13_Spread_l2 n α s k z
theorem subs_circaref13_Spread_l1 (n : Nat) : SubOK Tryz.prog 48 (Ls_circaref13_Spread n) ac_circaref13_Spread_l1 := SubOK_of _ (by
  have e : subs ac_circaref13_Spread_l1 = [(2, sac_circaref13_Spread_l2)] := by kernel_rfl
  rw [e]; intro p hp
  simp only [List.mem_cons, List.not_mem_nil, or_false] at hp
  · rw [hp]; exact sub_circaref13_Spread_l2 n
  )
theorem body_circaref13_Spread_l1 (n : Nat) : ∀ x, run Tryz.prog (Es_circaref13_Spread n) (Ls_circaref13_Spread n) 48 ac_circaref13_Spread_l1 (emb_circaref13_Spread_l1 x) (roundK an_circaref13_Spread_l1 un_circaref13_Spread_l1 ax_circaref13_Spread_l1 ux_circaref13_Spread_l1) = circaref13_Spread_l1 n x := fun _ => by kernel_rfl
theorem sub1_circaref13_Spread_l1 (n : Nat) : ∀ (α : Type) (s : St) (k : Ex → St → Option α) (z : α), (subE 1 an_circaref13_Spread_l1 un_circaref13_Spread_l1 (fun x => iterL (circaref13_Spread_l1 n) n x) outK_circaref13_Spread_l1).e α s k = some z → SemC Tryz.prog 48 (sac_circaref13_Spread_l1).code s fun ex s' => k ex s' = some z := by
  intro α s k z h
  have e : sac_circaref13_Spread_l1 = .loop ac_circaref13_Spread_l1 := by kernel_rfl
  rw [e]
  exact subE_ok (m := 1) (f := fun x => iterL (circaref13_Spread_l1 n) n x) (out := out_circaref13_Spread_l1) outK_ok_circaref13_Spread_l1 un_ok_circaref13_Spread_l1 (fun x y hy => loop_ok (Es_ok_circaref13_Spread n) (subs_circaref13_Spread_l1 n) un_ok_circaref13_Spread_l1 ux_ok_circaref13_Spread_l1 (body_circaref13_Spread_l1 n) n x y hy) h
theorem sub_circaref13_Spread_l1 (n : Nat) : SubSt Tryz.prog 48 (Ls_circaref13_Spread n) 1 sac_circaref13_Spread_l1 := fun α s k z => sub1_circaref13_Spread_l1 n α s k z
theorem subs_circaref13_Spread_l0 (n : Nat) : SubOK Tryz.prog 48 (Ls_circaref13_Spread n) ac_circaref13_Spread_l0 := SubOK_of _ (by
  have e : subs ac_circaref13_Spread_l0 = [(1, sac_circaref13_Spread_l1)] := by kernel_rfl
  rw [e]; intro p hp
  simp only [List.mem_cons, List.not_mem_nil, or_false] at hp
  · rw [hp]; exact sub_circaref13_Spread_l1 n
  )
theorem body_circaref13_Spread_l0 (n : Nat) : ∀ x, run Tryz.prog (Es_circaref13_Spread n) (Ls_circaref13_Spread n) 48 ac_circaref13_Spread_l0 (emb_circaref13_Spread_l0 x) (roundK an_circaref13_Spread_l0 un_circaref13_Spread_l0 ax_circaref13_Spread_l0 ux_circaref13_Spread_l0) = circaref13_Spread_l0 n x := fun _ => by kernel_rfl
theorem sub1_circaref13_Spread_l0 (n : Nat) : ∀ (α : Type) (s : St) (k : Ex → St → Option α) (z : α), (subE 0 an_circaref13_Spread_l0 un_circaref13_Spread_l0 (fun x => iterL (circaref13_Spread_l0 n) n x) outK_circaref13_Spread_l0).e α s k = some z → SemC Tryz.prog 48 (sac_circaref13_Spread_l0).code s fun ex s' => k ex s' = some z := by
  intro α s k z h
  have e : sac_circaref13_Spread_l0 = .loop ac_circaref13_Spread_l0 := by kernel_rfl
  rw [e]
  exact subE_ok (m := 0) (f := fun x => iterL (circaref13_Spread_l0 n) n x) (out := out_circaref13_Spread_l0) outK_ok_circaref13_Spread_l0 un_ok_circaref13_Spread_l0 (fun x y hy => loop_ok (Es_ok_circaref13_Spread n) (subs_circaref13_Spread_l0 n) un_ok_circaref13_Spread_l0 ux_ok_circaref13_Spread_l0 (body_circaref13_Spread_l0 n) n x y hy) h
theorem sub_circaref13_Spread_l0 (n : Nat) : SubSt Tryz.prog 48 (Ls_circaref13_Spread n) 0 sac_circaref13_Spread_l0 := fun α s k z => sub1_circaref13_Spread_l0 n α s k z
theorem subs_circaref13_Spread (n : Nat) : SubOK Tryz.prog 48 (Ls_circaref13_Spread n) (acOf Tryz.f73) := SubOK_of _ (by
  have e : subs (acOf Tryz.f73) = [(0, sac_circaref13_Spread_l0)] := by kernel_rfl
  rw [e]; intro p hp
  simp only [List.mem_cons, List.not_mem_nil, or_false] at hp
  · rw [hp]; exact sub_circaref13_Spread_l0 n
  )
theorem cert_circaref13_Spread (n : Nat) (a0 : List Int) (a1 : List Int) (a2 : Int) : run Tryz.prog (Es_circaref13_Spread n) (Ls_circaref13_Spread n) Tryz.f73.ntmps (acOf Tryz.f73) ⟨argsT [.ai .u8 3 a0, .ai .u8 3 a1, .i .i64 a2] 0, [], 0, 0, 0, 0⟩ (finK Tryz.prog Tryz.f73.results.toList (retX unr_circaref13_Spread)) = circaref13_Spread n a0 a1 a2 := by kernel_rfl
theorem pure_circaref13_Spread (n : Nat) : ∀ a r, circaref13_Spread n a.1 a.2.1 a.2.2 = some r → PureOK Tryz.prog 73 (arg_circaref13_Spread a) (enc_circaref13_Spread r) := fun a r h => pureX_ok unr_ok_circaref13_Spread (Es_ok_circaref13_Spread n) Tryz.func73 rfl (acOf_code _) (subs_circaref13_Spread n) rfl ((cert_circaref13_Spread n a.1 a.2.1 a.2.2).trans h)
theorem ok_circaref13_Spread (n : Nat) : EntOK Tryz.prog (e_circaref13_Spread n) := pureE_ok Tryz.call73 una_ok_circaref13_Spread (fun _ => rfl) (pure_circaref13_Spread n)

/-! circa/circaref15.Read -/
noncomputable def arg_circaref15_Read (a : List UInt8 × Int) : List V := [.s a.1, .i .i64 a.2]
noncomputable def una_circaref15_Read (l : List V) : Option (List UInt8 × Int) := match l with
  | [.s a0, .i .i64 a1] => some (a0, a1)
  | _ => none
theorem una_ok_circaref15_Read : ∀ l a, una_circaref15_Read l = some a → l = arg_circaref15_Read a := by
  intro l a h
  unfold una_circaref15_Read at h
  split at h
  · cases h; rfl
  · cases h
noncomputable def enc_circaref15_Read (r : Bool × Bool × List UInt8 × Int × Int × List UInt8 × List UInt8 × Int × Int × Int × List Int × List UInt8 × Int × Int) : V := .tp [.ag [.b r.1, .b r.2.1, .s r.2.2.1, .i .i64 r.2.2.2.1, .i .i64 r.2.2.2.2.1, .s r.2.2.2.2.2.1, .s r.2.2.2.2.2.2.1, .i .u8 r.2.2.2.2.2.2.2.1, .i .u8 r.2.2.2.2.2.2.2.2.1, .i .u8 r.2.2.2.2.2.2.2.2.2.1], .ai .i64 3 r.2.2.2.2.2.2.2.2.2.2.1, .ag [.s r.2.2.2.2.2.2.2.2.2.2.2.1, .i .i64 r.2.2.2.2.2.2.2.2.2.2.2.2.1, .i .i64 r.2.2.2.2.2.2.2.2.2.2.2.2.2]]
noncomputable def unr_circaref15_Read (v : V) : Option (Bool × Bool × List UInt8 × Int × Int × List UInt8 × List UInt8 × Int × Int × Int × List Int × List UInt8 × Int × Int) := match v with
  | .tp [.ag [.b r0, .b r1, .s r2, .i .i64 r3, .i .i64 r4, .s r5, .s r6, .i .u8 r7, .i .u8 r8, .i .u8 r9], .ai .i64 3 r10, .ag [.s r11, .i .i64 r12, .i .i64 r13]] => some (r0, r1, r2, r3, r4, r5, r6, r7, r8, r9, r10, r11, r12, r13)
  | _ => none
theorem unr_ok_circaref15_Read : ∀ v r, unr_circaref15_Read v = some r → v = enc_circaref15_Read r := by
  intro v r h
  unfold unr_circaref15_Read at h
  split at h
  · cases h; rfl
  · cases h
noncomputable def e_circaref15_Read (n : Nat) : Ent := pureE 27 una_circaref15_Read (fun a => circaref15_Read n a.1 a.2) enc_circaref15_Read
noncomputable def t_circaref15_Read (l : List V) (_ : List (Nat × Blk)) : Bool := isS (una_circaref15_Read l)
noncomputable def Es_circaref15_Read (n : Nat) : List Ent := [e_circaref15_mark n, e_circaref14_Read n, e_circaref15_two n, e_circaref13_Spread n]
theorem Es_ok_circaref15_Read (n : Nat) : ∀ x ∈ Es_circaref15_Read n, EntOK Tryz.prog x := by
  intro x hx
  simp only [Es_circaref15_Read, List.mem_cons, List.not_mem_nil, or_false] at hx
  rcases hx with hx | hx | hx | hx
  · rw [hx]; exact ok_circaref15_mark n
  · rw [hx]; exact ok_circaref14_Read n
  · rw [hx]; exact ok_circaref15_two n
  · rw [hx]; exact ok_circaref13_Spread n
noncomputable def an_circaref15_Read_l0 : Ann := ⟨[0, 4, 5, 6, 7, 8, 9, 10, 11, 12, 13], [0, 1, 2, 3, 4, 5, 6, 7], 8, []⟩
noncomputable def emb_circaref15_Read_l0 (x : List UInt8 × Int × Int × Bool × Bool × List UInt8 × Int × Int × List UInt8 × List UInt8 × Int × Int × Int × List Int × List UInt8 × Int × Int × Bool × Bool × List UInt8 × Int × Int × List UInt8 × List UInt8 × Int × Int × Int × List Int × List Int × List Int × List UInt8 × Int × Int) : St := ⟨[(0, some (.s x.1)), (4, some (.p 0 0)), (5, some (.p 1 0)), (6, some (.p 2 0)), (7, some (.p 3 0)), (8, some (.p 4 0)), (9, some (.p 5 0)), (10, some (.p 6 0)), (11, some (.p 7 0)), (12, some (.i .i64 x.2.1)), (13, some (.i .i64 x.2.2.1))], [(0, .cells [.b x.2.2.2.1, .b x.2.2.2.2.1, .s x.2.2.2.2.2.1, .i .i64 x.2.2.2.2.2.2.1, .i .i64 x.2.2.2.2.2.2.2.1, .s x.2.2.2.2.2.2.2.2.1, .s x.2.2.2.2.2.2.2.2.2.1, .i .u8 x.2.2.2.2.2.2.2.2.2.2.1, .i .u8 x.2.2.2.2.2.2.2.2.2.2.2.1, .i .u8 x.2.2.2.2.2.2.2.2.2.2.2.2.1]), (1, .ints .i64 3 x.2.2.2.2.2.2.2.2.2.2.2.2.2.1), (2, .cells [.s x.2.2.2.2.2.2.2.2.2.2.2.2.2.2.1, .i .i64 x.2.2.2.2.2.2.2.2.2.2.2.2.2.2.2.1, .i .i64 x.2.2.2.2.2.2.2.2.2.2.2.2.2.2.2.2.1]), (3, .cells [.b x.2.2.2.2.2.2.2.2.2.2.2.2.2.2.2.2.2.1, .b x.2.2.2.2.2.2.2.2.2.2.2.2.2.2.2.2.2.2.1, .s x.2.2.2.2.2.2.2.2.2.2.2.2.2.2.2.2.2.2.2.1, .i .i64 x.2.2.2.2.2.2.2.2.2.2.2.2.2.2.2.2.2.2.2.2.1, .i .i64 x.2.2.2.2.2.2.2.2.2.2.2.2.2.2.2.2.2.2.2.2.2.1, .s x.2.2.2.2.2.2.2.2.2.2.2.2.2.2.2.2.2.2.2.2.2.2.1, .s x.2.2.2.2.2.2.2.2.2.2.2.2.2.2.2.2.2.2.2.2.2.2.2.1, .i .u8 x.2.2.2.2.2.2.2.2.2.2.2.2.2.2.2.2.2.2.2.2.2.2.2.2.1, .i .u8 x.2.2.2.2.2.2.2.2.2.2.2.2.2.2.2.2.2.2.2.2.2.2.2.2.2.1, .i .u8 x.2.2.2.2.2.2.2.2.2.2.2.2.2.2.2.2.2.2.2.2.2.2.2.2.2.2.1]), (4, .ints .i64 3 x.2.2.2.2.2.2.2.2.2.2.2.2.2.2.2.2.2.2.2.2.2.2.2.2.2.2.2.1), (5, .ints .u8 3 x.2.2.2.2.2.2.2.2.2.2.2.2.2.2.2.2.2.2.2.2.2.2.2.2.2.2.2.2.1), (6, .ints .u8 3 x.2.2.2.2.2.2.2.2.2.2.2.2.2.2.2.2.2.2.2.2.2.2.2.2.2.2.2.2.2.1), (7, .cells [.s x.2.2.2.2.2.2.2.2.2.2.2.2.2.2.2.2.2.2.2.2.2.2.2.2.2.2.2.2.2.2.1, .i .i64 x.2.2.2.2.2.2.2.2.2.2.2.2.2.2.2.2.2.2.2.2.2.2.2.2.2.2.2.2.2.2.2.1, .i .i64 x.2.2.2.2.2.2.2.2.2.2.2.2.2.2.2.2.2.2.2.2.2.2.2.2.2.2.2.2.2.2.2.2])], 8, 0, 0, 0⟩
noncomputable def un_circaref15_Read_l0 (s : St) : Option (List UInt8 × Int × Int × Bool × Bool × List UInt8 × Int × Int × List UInt8 × List UInt8 × Int × Int × Int × List Int × List UInt8 × Int × Int × Bool × Bool × List UInt8 × Int × Int × List UInt8 × List UInt8 × Int × Int × Int × List Int × List Int × List Int × List UInt8 × Int × Int) := match s with
  | ⟨[(0, some (.s x0)), (4, some (.p 0 0)), (5, some (.p 1 0)), (6, some (.p 2 0)), (7, some (.p 3 0)), (8, some (.p 4 0)), (9, some (.p 5 0)), (10, some (.p 6 0)), (11, some (.p 7 0)), (12, some (.i .i64 x1)), (13, some (.i .i64 x2))], [(0, .cells [.b x3, .b x4, .s x5, .i .i64 x6, .i .i64 x7, .s x8, .s x9, .i .u8 x10, .i .u8 x11, .i .u8 x12]), (1, .ints .i64 3 x13), (2, .cells [.s x14, .i .i64 x15, .i .i64 x16]), (3, .cells [.b x17, .b x18, .s x19, .i .i64 x20, .i .i64 x21, .s x22, .s x23, .i .u8 x24, .i .u8 x25, .i .u8 x26]), (4, .ints .i64 3 x27), (5, .ints .u8 3 x28), (6, .ints .u8 3 x29), (7, .cells [.s x30, .i .i64 x31, .i .i64 x32])], 8, 0, 0, 0⟩ => some (x0, x1, x2, x3, x4, x5, x6, x7, x8, x9, x10, x11, x12, x13, x14, x15, x16, x17, x18, x19, x20, x21, x22, x23, x24, x25, x26, x27, x28, x29, x30, x31, x32)
  | _ => none
theorem un_ok_circaref15_Read_l0 : ∀ s x, un_circaref15_Read_l0 s = some x → s = emb_circaref15_Read_l0 x := by
  intro s x h
  unfold un_circaref15_Read_l0 at h
  split at h
  · cases h; rfl
  · cases h
noncomputable def ax_circaref15_Read_l0 : Ex → Ann := fun ex => match ex with
  | .exit 0 => ⟨[4, 5, 6, 7, 8, 9, 10, 11, 12], [0, 1, 2, 3, 4, 5, 6, 7], 8, []⟩
  | .ret => ⟨[4, 5, 6], [0, 1, 2], 8, []⟩
  | _ => ⟨[], [], 0, []⟩
noncomputable def out_circaref15_Read_l0 (y : (Int × Bool × Bool × List UInt8 × Int × Int × List UInt8 × List UInt8 × Int × Int × Int × List Int × List UInt8 × Int × Int × Bool × Bool × List UInt8 × Int × Int × List UInt8 × List UInt8 × Int × Int × Int × List Int × List Int × List Int × List UInt8 × Int × Int) ⊕ (Bool × Bool × List UInt8 × Int × Int × List UInt8 × List UInt8 × Int × Int × Int × List Int × List UInt8 × Int × Int)) : Ex × St := (Sum.casesOn (motive := fun _ => Ex × St) y (fun a0 => (.exit 0, ⟨[(4, some (.p 0 0)), (5, some (.p 1 0)), (6, some (.p 2 0)), (7, some (.p 3 0)), (8, some (.p 4 0)), (9, some (.p 5 0)), (10, some (.p 6 0)), (11, some (.p 7 0)), (12, some (.i .i64 a0.1))], [(0, .cells [.b a0.2.1, .b a0.2.2.1, .s a0.2.2.2.1, .i .i64 a0.2.2.2.2.1, .i .i64 a0.2.2.2.2.2.1, .s a0.2.2.2.2.2.2.1, .s a0.2.2.2.2.2.2.2.1, .i .u8 a0.2.2.2.2.2.2.2.2.1, .i .u8 a0.2.2.2.2.2.2.2.2.2.1, .i .u8 a0.2.2.2.2.2.2.2.2.2.2.1]), (1, .ints .i64 3 a0.2.2.2.2.2.2.2.2.2.2.2.1), (2, .cells [.s a0.2.2.2.2.2.2.2.2.2.2.2.2.1, .i .i64 a0.2.2.2.2.2.2.2.2.2.2.2.2.2.1, .i .i64 a0.2.2.2.2.2.2.2.2.2.2.2.2.2.2.1]), (3, .cells [.b a0.2.2.2.2.2.2.2.2.2.2.2.2.2.2.2.1, .b a0.2.2.2.2.2.2.2.2.2.2.2.2.2.2.2.2.1, .s a0.2.2.2.2.2.2.2.2.2.2.2.2.2.2.2.2.2.1, .i .i64 a0.2.2.2.2.2.2.2.2.2.2.2.2.2.2.2.2.2.2.1, .i .i64 a0.2.2.2.2.2.2.2.2.2.2.2.2.2.2.2.2.2.2.2.1, .s a0.2.2.2.2.2.2.2.2.2.2.2.2.2.2.2.2.2.2.2.2.1, .s a0.2.2.2.2.2.2.2.2.2.2.2.2.2.2.2.2.2.2.2.2.2.1, .i .u8 a0.2.2.2.2.2.2.2.2.2.2.2.2.2.2.2.2.2.2.2.2.2.2.1, .i .u8 a0.2.2.2.2.2.2.2.2.2.2.2.2.2.2.2.2.2.2.2.2.2.2.2.1, .i .u8 a0.2.2.2.2.2.2.2.2.2.2.2.2.2.2.2.2.2.2.2.2.2.2.2.2.1]), (4, .ints .i64 3 a0.2.2.2.2.2.2.2.2.2.2.2.2.2.2.2.2.2.2.2.2.2.2.2.2.2.1), (5, .ints .u8 3 a0.2.2.2.2.2.2.2.2.2.2.2.2.2.2.2.2.2.2.2.2.2.2.2.2.2.2.1), (6, .ints .u8 3 a0.2.2.2.2.2.2.2.2.2.2.2.2.2.2.2.2.2.2.2.2.2.2.2.2.2.2.2.1), (7, .cells [.s a0.2.2.2.2.2.2.2.2.2.2.2.2.2.2.2.2.2.2.2.2.2.2.2.2.2.2.2.2.1, .i .i64 a0.2.2.2.2.2.2.2.2.2.2.2.2.2.2.2.2.2.2.2.2.2.2.2.2.2.2.2.2.2.1, .i .i64 a0.2.2.2.2.2.2.2.2.2.2.2.2.2.2.2.2.2.2.2.2.2.2.2.2.2.2.2.2.2.2])], 8, 0, 0, 0⟩)) (fun b0 => (.ret, ⟨[(4, some (.p 0 0)), (5, some (.p 1 0)), (6, some (.p 2 0))], [(0, .cells [.b b0.1, .b b0.2.1, .s b0.2.2.1, .i .i64 b0.2.2.2.1, .i .i64 b0.2.2.2.2.1, .s b0.2.2.2.2.2.1, .s b0.2.2.2.2.2.2.1, .i .u8 b0.2.2.2.2.2.2.2.1, .i .u8 b0.2.2.2.2.2.2.2.2.1, .i .u8 b0.2.2.2.2.2.2.2.2.2.1]), (1, .ints .i64 3 b0.2.2.2.2.2.2.2.2.2.2.1), (2, .cells [.s b0.2.2.2.2.2.2.2.2.2.2.2.1, .i .i64 b0.2.2.2.2.2.2.2.2.2.2.2.2.1, .i .i64 b0.2.2.2.2.2.2.2.2.2.2.2.2.2])], 8, 0, 0, 0⟩)))
noncomputable def outK_circaref15_Read_l0 (α : Type) (y : (Int × Bool × Bool × List UInt8 × Int × Int × List UInt8 × List UInt8 × Int × Int × Int × List Int × List UInt8 × Int × Int × Bool × Bool × List UInt8 × Int × Int × List UInt8 × List UInt8 × Int × Int × Int × List Int × List Int × List Int × List UInt8 × Int × Int) ⊕ (Bool × Bool × List UInt8 × Int × Int × List UInt8 × List UInt8 × Int × Int × Int × List Int × List UInt8 × Int × Int)) (k : Ex → St → Option α) : Option α := (Sum.casesOn (motive := fun _ => Option α) y (fun a0 => (k (.exit 0) ⟨[(4, some (.p 0 0)), (5, some (.p 1 0)), (6, some (.p 2 0)), (7, some (.p 3 0)), (8, some (.p 4 0)), (9, some (.p 5 0)), (10, some (.p 6 0)), (11, some (.p 7 0)), (12, some (.i .i64 a0.1))], [(0, .cells [.b a0.2.1, .b a0.2.2.1, .s a0.2.2.2.1, .i .i64 a0.2.2.2.2.1, .i .i64 a0.2.2.2.2.2.1, .s a0.2.2.2.2.2.2.1, .s a0.2.2.2.2.2.2.2.1, .i .u8 a0.2.2.2.2.2.2.2.2.1, .i .u8 a0.2.2.2.2.2.2.2.2.2.1, .i .u8 a0.2.2.2.2.2.2.2.2.2.2.1]), (1, .ints .i64 3 a0.2.2.2.2.2.2.2.2.2.2.2.1), (2, .cells [.s a0.2.2.2.2.2.2.2.2.2.2.2.2.1, .i .i64 a0.2.2.2.2.2.2.2.2.2.2.2.2.2.1, .i .i64 a0.2.2.2.2.2.2.2.2.2.2.2.2.2.2.1]), (3, .cells [.b a0.2.2.2.2.2.2.2.2.2.2.2.2.2.2.2.1, .b a0.2.2.2.2.2.2.2.2.2.2.2.2.2.2.2.2.1, .s a0.2.2.2.2.2.2.2.2.2.2.2.2.2.2.2.2.2.1, .i .i64 a0.2.2.2.2.2.2.2.2.2.2.2.2.2.2.2.2.2.2.1, .i .i64 a0.2.2.2.2.2.2.2.2.2.2.2.2.2.2.2.2.2.2.2.1, .s a0.2.2.2.2.2.2.2.2.2.2.2.2.2.2.2.2.2.2.2.2.1, .s a0.2.2.2.2.2.2.2.2.2.2.2.2.2.2.2.2.2.2.2.2.2.1, .i .u8 a0.2.2.2.2.2.2.2.2.2.2.2.2.2.2.2.2.2.2.2.2.2.2.1, .i .u8 a0.2.2.2.2.2.2.2.2.2.2.2.2.2.2.2.2.2.2.2.2.2.2.2.1, .i .u8 a0.2.2.2.2.2.2.2.2.2.2.2.2.2.2.2.2.2.2.2.2.2.2.2.2.1]), (4, .ints .i64 3 a0.2.2.2.2.2.2.2.2.2.2.2.2.2.2.2.2.2.2.2.2.2.2.2.2.2.1), (5, .ints .u8 3 a0.2.2.2.2.2.2.2.2.2.2.2.2.2.2.2.2.2.2.2.2.2.2.2.2.2.2.1), (6, .ints .u8 3 a0.2.2.2.2.2.2.2.2.2.2.2.2.2.2.2.2.2.2.2.2.2.2.2.2.2.2.2.1), (7, .cells [.s a0.2.2.2.2.2.2.2.2.2.2.2.2.2.2.2.2.2.2.2.2.2.2.2.2.2.2.2.2.1, .i .i64 a0.2.2.2.2.2.2.2.2.2.2.2.2.2.2.2.2.2.2.2.2.2.2.2.2.2.2.2.2.2.1, .i .i64 a0.2.2.2.2.2.2.2.2.2.2.2.2.2.2.2.2.2.2.2.2.2.2.2.2.2.2.2.2.2.2])], 8, 0, 0, 0⟩)) (fun b0 => (k (.ret) ⟨[(4, some (.p 0 0)), (5, some (.p 1 0)), (6, some (.p 2 0))], [(0, .cells [.b b0.1, .b b0.2.1, .s b0.2.2.1, .i .i64 b0.2.2.2.1, .i .i64 b0.2.2.2.2.1, .s b0.2.2.2.2.2.1, .s b0.2.2.2.2.2.2.1, .i .u8 b0.2.2.2.2.2.2.2.1, .i .u8 b0.2.2.2.2.2.2.2.2.1, .i .u8 b0.2.2.2.2.2.2.2.2.2.1]), (1, .ints .i64 3 b0.2.2.2.2.2.2.2.2.2.2.1), (2, .cells [.s b0.2.2.2.2.2.2.2.2.2.2.2.1, .i .i64 b0.2.2.2.2.2.2.2.2.2.2.2.2.1, .i .i64 b0.2.2.2.2.2.2.2.2.2.2.2.2.2])], 8, 0, 0, 0⟩)))
theorem outK_ok_circaref15_Read_l0 : ∀ α y k, outK_circaref15_Read_l0 α y k = k (out_circaref15_Read_l0 y).1 (out_circaref15_Read_l0 y).2 := by
  intro α y k
  rcases y with y | y <;> rfl
noncomputable def ux_circaref15_Read_l0 (ex : Ex) (s : St) : Option ((Int × Bool × Bool × List UInt8 × Int × Int × List UInt8 × List UInt8 × Int × Int × Int × List Int × List UInt8 × Int × Int × Bool × Bool × List UInt8 × Int × Int × List UInt8 × List UInt8 × Int × Int × Int × List Int × List Int × List Int × List UInt8 × Int × Int) ⊕ (Bool × Bool × List UInt8 × Int × Int × List UInt8 × List UInt8 × Int × Int × Int × List Int × List UInt8 × Int × Int)) := match ex, s with
  | .exit 0, ⟨[(4, some (.p 0 0)), (5, some (.p 1 0)), (6, some (.p 2 0)), (7, some (.p 3 0)), (8, some (.p 4 0)), (9, some (.p 5 0)), (10, some (.p 6 0)), (11, some (.p 7 0)), (12, some (.i .i64 y0))], [(0, .cells [.b y1, .b y2, .s y3, .i .i64 y4, .i .i64 y5, .s y6, .s y7, .i .u8 y8, .i .u8 y9, .i .u8 y10]), (1, .ints .i64 3 y11), (2, .cells [.s y12, .i .i64 y13, .i .i64 y14]), (3, .cells [.b y15, .b y16, .s y17, .i .i64 y18, .i .i64 y19, .s y20, .s y21, .i .u8 y22, .i .u8 y23, .i .u8 y24]), (4, .ints .i64 3 y25), (5, .ints .u8 3 y26), (6, .ints .u8 3 y27), (7, .cells [.s y28, .i .i64 y29, .i .i64 y30])], 8, 0, 0, 0⟩ => some (.inl (y0, y1, y2, y3, y4, y5, y6, y7, y8, y9, y10, y11, y12, y13, y14, y15, y16, y17, y18, y19, y20, y21, y22, y23, y24, y25, y26, y27, y28, y29, y30))
  | .ret, ⟨[(4, some (.p 0 0)), (5, some (.p 1 0)), (6, some (.p 2 0))], [(0, .cells [.b y0, .b y1, .s y2, .i .i64 y3, .i .i64 y4, .s y5, .s y6, .i .u8 y7, .i .u8 y8, .i .u8 y9]), (1, .ints .i64 3 y10), (2, .cells [.s y11, .i .i64 y12, .i .i64 y13])], 8, 0, 0, 0⟩ => some (.inr (y0, y1, y2, y3, y4, y5, y6, y7, y8, y9, y10, y11, y12, y13))
  | _, _ => none
theorem ux_ok_circaref15_Read_l0 : ∀ ex s y, ux_circaref15_Read_l0 ex s = some y → (ex, s) = out_circaref15_Read_l0 y := by
  intro ex s y h
  unfold ux_circaref15_Read_l0 at h
  split at h
  · cases h; rfl
  · cases h; rfl
  · cases h
noncomputable def Ls_circaref15_Read (n : Nat) : List Sub := [subE 0 an_circaref15_Read_l0 un_circaref15_Read_l0 (fun x => iterL (circaref15_Read_l0 n) n x) outK_circaref15_Read_l0]
noncomputable def sac_circaref15_Read_l0 : AC := getS (subs (acOf Tryz.f27)) 0
noncomputable def ac_circaref15_Read_l0 : AC := AC.body sac_circaref15_Read_l0
theorem subs_circaref15_Read_l0 (n : Nat) : SubOK Tryz.prog 107 (Ls_circaref15_Read n) ac_circaref15_Read_l0 := SubOK_of _ (by
  have e : subs ac_circaref15_Read_l0 = [] := by kernel_rfl
  rw [e]; intro p hp; cases hp)
theorem body_circaref15_Read_l0 (n : Nat) : ∀ x, run Tryz.prog (Es_circaref15_Read n) (Ls_circaref15_Read n) 107 ac_circaref15_Read_l0 (emb_circaref15_Read_l0 x) (roundK an_circaref15_Read_l0 un_circaref15_Read_l0 ax_circaref15_Read_l0 ux_circaref15_Read_l0) = circaref15_Read_l0 n x := fun _ => by kernel_rfl
theorem sub1_circaref15_Read_l0 (n : Nat) : ∀ (α : Type) (s : St) (k : Ex → St → Option α) (z : α), (subE 0 an_circaref15_Read_l0 un_circaref15_Read_l0 (fun x => iterL (circaref15_Read_l0 n) n x) outK_circaref15_Read_l0).e α s k = some z → SemC Tryz.prog 107 (sac_circaref15_Read_l0).code s fun ex s' => k ex s' = some z := by
  intro α s k z h
  have e : sac_circaref15_Read_l0 = .loop ac_circaref15_Read_l0 := by kernel_rfl
  rw [e]
  exact subE_ok (m := 0) (f := fun x => iterL (circaref15_Read_l0 n) n x) (out := out_circaref15_Read_l0) outK_ok_circaref15_Read_l0 un_ok_circaref15_Read_l0 (fun x y hy => loop_ok (Es_ok_circaref15_Read n) (subs_circaref15_Read_l0 n) un_ok_circaref15_Read_l0 ux_ok_circaref15_Read_l0 (body_circaref15_Read_l0 n) n x y hy) h
theorem sub_circaref15_Read_l0 (n : Nat) : SubSt Tryz.prog 107 (Ls_circaref15_Read n) 0 sac_circaref15_Read_l0 := fun α s k z => sub1_circaref15_Read_l0 n α s k z
theorem subs_circaref15_Read (n : Nat) : SubOK Tryz.prog 107 (Ls_circaref15_Read n) (acOf Tryz.f27) := SubOK_of _ (by
  have e : subs (acOf Tryz.f27) = [(0, sac_circaref15_Read_l0)] := by kernel_rfl
  rw [e]; intro p hp
  simp only [List.mem_cons, List.not_mem_nil, or_false] at hp
  · rw [hp]; exact sub_circaref15_Read_l0 n
  )
theorem cert_circaref15_Read (n : Nat) (a0 : List UInt8) (a1 : Int) : run Tryz.prog (Es_circaref15_Read n) (Ls_circaref15_Read n) Tryz.f27.ntmps (acOf Tryz.f27) ⟨argsT [.s a0, .i .i64 a1] 0, [], 0, 0, 0, 0⟩ (finK Tryz.prog Tryz.f27.results.toList (retX unr_circaref15_Read)) = circaref15_Read n a0 a1 := by kernel_rfl
theorem pure_circaref15_Read (n : Nat) : ∀ a r, circaref15_Read n a.1 a.2 = some r → PureOK Tryz.prog 27 (arg_circaref15_Read a) (enc_circaref15_Read r) := fun a r h => pureX_ok unr_ok_circaref15_Read (Es_ok_circaref15_Read n) Tryz.func27 rfl (acOf_code _) (subs_circaref15_Read n) rfl ((cert_circaref15_Read n a.1 a.2).trans h)
theorem ok_circaref15_Read (n : Nat) : EntOK Tryz.prog (e_circaref15_Read n) := pureE_ok Tryz.call27 una_ok_circaref15_Read (fun _ => rfl) (pure_circaref15_Read n)

/-! circa/circaref14.has -/
noncomputable def arg_circaref14_has (a : List UInt8 × Int × Int) : List V := [.s a.1, .i .u8 a.2.1, .i .u8 a.2.2]
noncomputable def una_circaref14_has (l : List V) : Option (List UInt8 × Int × Int) := match l with
  | [.s a0, .i .u8 a1, .i .u8 a2] => some (a0, a1, a2)
  | _ => none
theorem una_ok_circaref14_has : ∀ l a, una_circaref14_has l = some a → l = arg_circaref14_has a := by
  intro l a h
  unfold una_circaref14_has at h
  split at h
  · cases h; rfl
  · cases h
noncomputable def enc_circaref14_has (r : Int) : V := .i .i64 r
noncomputable def unr_circaref14_has (v : V) : Option (Int) := match v with
  | .i .i64 r0 => some r0
  | _ => none
theorem unr_ok_circaref14_has : ∀ v r, unr_circaref14_has v = some r → v = enc_circaref14_has r := by
  intro v r h
  unfold unr_circaref14_has at h
  split at h
  · cases h; rfl
  · cases h
noncomputable def e_circaref14_has (n : Nat) : Ent := pureE 176 una_circaref14_has (fun a => circaref14_has n a.1 a.2.1 a.2.2) enc_circaref14_has
noncomputable def t_circaref14_has (l : List V) (_ : List (Nat × Blk)) : Bool := isS (una_circaref14_has l)
noncomputable def Es_circaref14_has (_n : Nat) : List Ent := []
theorem Es_ok_circaref14_has (n : Nat) : ∀ x ∈ Es_circaref14_has n, EntOK Tryz.prog x := by
  intro x hx
  simp [Es_circaref14_has] at hx
noncomputable def an_circaref14_has_l0 : Ann := ⟨[0, 1, 2, 7, 8], [], 0, []⟩
noncomputable def emb_circaref14_has_l0 (x : List UInt8 × Int × Int × Int × Int) : St := ⟨[(0, some (.s x.1)), (1, some (.i .u8 x.2.1)), (2, some (.i .u8 x.2.2.1)), (7, some (.i .i64 x.2.2.2.1)), (8, some (.i .i64 x.2.2.2.2))], [], 0, 0, 0, 0⟩
noncomputable def un_circaref14_has_l0 (s : St) : Option (List UInt8 × Int × Int × Int × Int) := match s with
  | ⟨[(0, some (.s x0)), (1, some (.i .u8 x1)), (2, some (.i .u8 x2)), (7, some (.i .i64 x3)), (8, some (.i .i64 x4))], [], 0, 0, 0, 0⟩ => some (x0, x1, x2, x3, x4)
  | _ => none
theorem un_ok_circaref14_has_l0 : ∀ s x, un_circaref14_has_l0 s = some x → s = emb_circaref14_has_l0 x := by
  intro s x h
  unfold un_circaref14_has_l0 at h
  split at h
  · cases h; rfl
  · cases h
noncomputable def ax_circaref14_has_l0 : Ex → Ann := fun ex => match ex with
  | .exit 0 => ⟨[7], [], 0, []⟩
  | _ => ⟨[], [], 0, []⟩
noncomputable def out_circaref14_has_l0 (y : Int) : Ex × St := (.exit 0, ⟨[(7, some (.i .i64 y))], [], 0, 0, 0, 0⟩)
noncomputable def outK_circaref14_has_l0 (α : Type) (y : Int) (k : Ex → St → Option α) : Option α := (k (.exit 0) ⟨[(7, some (.i .i64 y))], [], 0, 0, 0, 0⟩)
theorem outK_ok_circaref14_has_l0 : ∀ α y k, outK_circaref14_has_l0 α y k = k (out_circaref14_has_l0 y).1 (out_circaref14_has_l0 y).2 := by
  intro α y k
  rfl
noncomputable def ux_circaref14_has_l0 (ex : Ex) (s : St) : Option (Int) := match ex, s with
  | .exit 0, ⟨[(7, some (.i .i64 y0))], [], 0, 0, 0, 0⟩ => some y0
  | _, _ => none
theorem ux_ok_circaref14_has_l0 : ∀ ex s y, ux_circaref14_has_l0 ex s = some y → (ex, s) = out_circaref14_has_l0 y := by
  intro ex s y h
  unfold ux_circaref14_has_l0 at h
  split at h
  · cases h; rfl
  · cases h
noncomputable def Ls_circaref14_has (n : Nat) : List Sub := [subE 0 an_circaref14_has_l0 un_circaref14_has_l0 (fun x => iterL (circaref14_has_l0 n) n x) outK_circaref14_has_l0]
noncomputable def sac_circaref14_has_l0 : AC := getS (subs (acOf Tryz.f176)) 0
noncomputable def ac_circaref14_has_l0 : AC := AC.body sac_circaref14_has_l0
theorem subs_circaref14_has_l0 (n : Nat) : SubOK Tryz.prog 30 (Ls_circaref14_has n) ac_circaref14_has_l0 := SubOK_of _ (by
  have e : subs ac_circaref14_has_l0 = [] := by kernel_rfl
  rw [e]; intro p hp; cases hp)
theorem body_circaref14_has_l0 (n : Nat) : ∀ x, run Tryz.prog (Es_circaref14_has n) (Ls_circaref14_has n) 30 ac_circaref14_has_l0 (emb_circaref14_has_l0 x) (roundK an_circaref14_has_l0 un_circaref14_has_l0 ax_circaref14_has_l0 ux_circaref14_has_l0) = circaref14_has_l0 n x := fun _ => by kernel_rfl
theorem sub1_circaref14_has_l0 (n : Nat) : ∀ (α : Type) (s : St) (k : Ex → St → Option α) (z : α), (subE 0 an_circaref14_has_l0 un_circaref14_has_l0 (fun x => iterL (circaref14_has_l0 n) n x) outK_circaref14_has_l0).e α s k = some z → SemC Tryz.prog 30 (sac_circaref14_has_l0).code s fun ex s' => k ex s' = some z := by
  intro α s k z h
  have e : sac_circaref14_has_l0 = .loop ac_circaref14_has_l0 := by kernel_rfl
  rw [e]
  exact subE_ok (m := 0) (f := fun x => iterL (circaref14_has_l0 n) n x) (out := out_circaref14_has_l0) outK_ok_circaref14_has_l0 un_ok_circaref14_has_l0 (fun x y hy => loop_ok (Es_ok_circaref14_has n) (subs_circaref14_has_l0 n) un_ok_circaref14_has_l0 ux_ok_circaref14_has_l0 (body_circaref14_has_l0 n) n x y hy) h
theorem sub_circaref14_has_l0 (n : Nat) : SubSt Tryz.prog 30 (Ls_circaref14_has n) 0 sac_circaref14_has_l0 := fun α s k z => sub1_circaref14_has_l0 n α s k z
theorem subs_circaref14_has (n : Nat) : SubOK Tryz.prog 30 (Ls_circaref14_has n) (acOf Tryz.f176) := SubOK_of _ (by
  have e : subs (acOf Tryz.f176) = [(0, sac_circaref14_has_l0)] := by kernel_rfl
  rw [e]; intro p hp
  simp only [List.mem_cons, List.not_mem_nil, or_false] at hp
  · rw [hp]; exact sub_circaref14_has_l0 n
  )
theorem cert_circaref14_has (n : Nat) (a0 : List UInt8) (a1 : Int) (a2 : Int) : run Tryz.prog (Es_circaref14_has n) (Ls_circaref14_has n) Tryz.f176.ntmps (acOf Tryz.f176) ⟨argsT [.s a0, .i .u8 a1, .i .u8 a2] 0, [], 0, 0, 0, 0⟩ (finK Tryz.prog Tryz.f176.results.toList (retX unr_circaref14_has)) = circaref14_has n a0 a1 a2 := by kernel_rfl
theorem pure_circaref14_has (n : Nat) : ∀ a r, circaref14_has n a.1 a.2.1 a.2.2 = some r → PureOK Tryz.prog 176 (arg_circaref14_has a) (enc_circaref14_has r) := fun a r h => pureX_ok unr_ok_circaref14_has (Es_ok_circaref14_has n) Tryz.func176 rfl (acOf_code _) (subs_circaref14_has n) rfl ((cert_circaref14_has n a.1 a.2.1 a.2.2).trans h)
theorem ok_circaref14_has (n : Nat) : EntOK Tryz.prog (e_circaref14_has n) := pureE_ok Tryz.call176 una_ok_circaref14_has (fun _ => rfl) (pure_circaref14_has n)

/-! circa/circaref14.Magnitude -/
noncomputable def arg_circaref14_Magnitude (a : List UInt8 × Int) : List V := [.s a.1, .i .i64 a.2]
noncomputable def una_circaref14_Magnitude (l : List V) : Option (List UInt8 × Int) := match l with
  | [.s a0, .i .i64 a1] => some (a0, a1)
  | _ => none
theorem una_ok_circaref14_Magnitude : ∀ l a, una_circaref14_Magnitude l = some a → l = arg_circaref14_Magnitude a := by
  intro l a h
  unfold una_circaref14_Magnitude at h
  split at h
  · cases h; rfl
  · cases h
noncomputable def enc_circaref14_Magnitude (r : Int × Int) : V := .tp [.i .i64 r.1, .i .i64 r.2]
noncomputable def unr_circaref14_Magnitude (v : V) : Option (Int × Int) := match v with
  | .tp [.i .i64 r0, .i .i64 r1] => some (r0, r1)
  | _ => none
theorem unr_ok_circaref14_Magnitude : ∀ v r, unr_circaref14_Magnitude v = some r → v = enc_circaref14_Magnitude r := by
  intro v r h
  unfold unr_circaref14_Magnitude at h
  split at h
  · cases h; rfl
  · cases h
noncomputable def e_circaref14_Magnitude (n : Nat) : Ent := pureE 135 una_circaref14_Magnitude (fun a => circaref14_Magnitude n a.1 a.2) enc_circaref14_Magnitude
noncomputable def t_circaref14_Magnitude (l : List V) (_ : List (Nat × Blk)) : Bool := isS (una_circaref14_Magnitude l)
noncomputable def Es_circaref14_Magnitude (_n : Nat) : List Ent := []
theorem Es_ok_circaref14_Magnitude (n : Nat) : ∀ x ∈ Es_circaref14_Magnitude n, EntOK Tryz.prog x := by
  intro x hx
  simp [Es_circaref14_Magnitude] at hx
noncomputable def an_circaref14_Magnitude_l0 : Ann := ⟨[0, 1, 6, 7], [], 0, []⟩
noncomputable def emb_circaref14_Magnitude_l0 (x : List UInt8 × Int × Int × Int) : St := ⟨[(0, some (.s x.1)), (1, some (.i .i64 x.2.1)), (6, some (.i .i64 x.2.2.1)), (7, some (.i .i64 x.2.2.2))], [], 0, 0, 0, 0⟩
noncomputable def un_circaref14_Magnitude_l0 (s : St) : Option (List UInt8 × Int × Int × Int) := match s with
  | ⟨[(0, some (.s x0)), (1, some (.i .i64 x1)), (6, some (.i .i64 x2)), (7, some (.i .i64 x3))], [], 0, 0, 0, 0⟩ => some (x0, x1, x2, x3)
  | _ => none
theorem un_ok_circaref14_Magnitude_l0 : ∀ s x, un_circaref14_Magnitude_l0 s = some x → s = emb_circaref14_Magnitude_l0 x := by
  intro s x h
  unfold un_circaref14_Magnitude_l0 at h
  split at h
  · cases h; rfl
  · cases h
noncomputable def ax_circaref14_Magnitude_l0 : Ex → Ann := fun ex => match ex with
  | .ret => ⟨[4, 5], [], 0, []⟩
  | .exit 0 => ⟨[6], [], 0, []⟩
  | _ => ⟨[], [], 0, []⟩
noncomputable def out_circaref14_Magnitude_l0 (y : (Int × Int) ⊕ Int) : Ex × St := (Sum.casesOn (motive := fun _ => Ex × St) y (fun a0 => (.ret, ⟨[(4, some (.i .i64 a0.1)), (5, some (.i .i64 a0.2))], [], 0, 0, 0, 0⟩)) (fun b0 => (.exit 0, ⟨[(6, some (.i .i64 b0))], [], 0, 0, 0, 0⟩)))
noncomputable def outK_circaref14_Magnitude_l0 (α : Type) (y : (Int × Int) ⊕ Int) (k : Ex → St → Option α) : Option α := (Sum.casesOn (motive := fun _ => Option α) y (fun a0 => (k (.ret) ⟨[(4, some (.i .i64 a0.1)), (5, some (.i .i64 a0.2))], [], 0, 0, 0, 0⟩)) (fun b0 => (k (.exit 0) ⟨[(6, some (.i .i64 b0))], [], 0, 0, 0, 0⟩)))
theorem outK_ok_circaref14_Magnitude_l0 : ∀ α y k, outK_circaref14_Magnitude_l0 α y k = k (out_circaref14_Magnitude_l0 y).1 (out_circaref14_Magnitude_l0 y).2 := by
  intro α y k
  rcases y with y | y <;> rfl
noncomputable def ux_circaref14_Magnitude_l0 (ex : Ex) (s : St) : Option ((Int × Int) ⊕ Int) := match ex, s with
  | .ret, ⟨[(4, some (.i .i64 y0)), (5, some (.i .i64 y1))], [], 0, 0, 0, 0⟩ => some (.inl (y0, y1))
  | .exit 0, ⟨[(6, some (.i .i64 y0))], [], 0, 0, 0, 0⟩ => some (.inr y0)
  | _, _ => none
theorem ux_ok_circaref14_Magnitude_l0 : ∀ ex s y, ux_circaref14_Magnitude_l0 ex s = some y → (ex, s) = out_circaref14_Magnitude_l0 y := by
  intro ex s y h
  unfold ux_circaref14_Magnitude_l0 at h
  split at h
  · cases h; rfl
  · cases h; rfl
  · cases h
noncomputable def Ls_circaref14_Magnitude (n : Nat) : List Sub := [subE 0 an_circaref14_Magnitude_l0 un_circaref14_Magnitude_l0 (fun x => iterL (circaref14_Magnitude_l0 n) n x) outK_circaref14_Magnitude_l0]
noncomputable def sac_circaref14_Magnitude_l0 : AC := getS (subs (acOf Tryz.f135)) 0
noncomputable def ac_circaref14_Magnitude_l0 : AC := AC.body sac_circaref14_Magnitude_l0
theorem subs_circaref14_Magnitude_l0 (n : Nat) : SubOK Tryz.prog 32 (Ls_circaref14_Magnitude n) ac_circaref14_Magnitude_l0 := SubOK_of _ (by
  have e : subs ac_circaref14_Magnitude_l0 = [] := by kernel_rfl
  rw [e]; intro p hp; cases hp)
theorem body_circaref14_Magnitude_l0 (n : Nat) : ∀ x, run Tryz.prog (Es_circaref14_Magnitude n) (Ls_circaref14_Magnitude n) 32 ac_circaref14_Magnitude_l0 (emb_circaref14_Magnitude_l0 x) (roundK an_circaref14_Magnitude_l0 un_circaref14_Magnitude_l0 ax_circaref14_Magnitude_l0 ux_circaref14_Magnitude_l0) = circaref14_Magnitude_l0 n x := fun _ => by kernel_rfl
theorem sub1_circaref14_Magnitude_l0 (n : Nat) : ∀ (α : Type) (s : St) (k : Ex → St → Option α) (z : α), (subE 0 an_circaref14_Magnitude_l0 un_circaref14_Magnitude_l0 (fun x => iterL (circaref14_Magnitude_l0 n) n x) outK_circaref14_Magnitude_l0).e α s k = some z → SemC Tryz.prog 32 (sac_circaref14_Magnitude_l0).code s fun ex s' => k ex s' = some z := by
  intro α s k z h
  have e : sac_circaref14_Magnitude_l0 = .loop ac_circaref14_Magnitude_l0 := by kernel_rfl
  rw [e]
  exact subE_ok (m := 0) (f := fun x => iterL (circaref14_Magnitude_l0 n) n x) (out := out_circaref14_Magnitude_l0) outK_ok_circaref14_Magnitude_l0 un_ok_circaref14_Magnitude_l0 (fun x y hy => loop_ok (Es_ok_circaref14_Magnitude n) (subs_circaref14_Magnitude_l0 n) un_ok_circaref14_Magnitude_l0 ux_ok_circaref14_Magnitude_l0 (body_circaref14_Magnitude_l0 n) n x y hy) h
theorem sub_circaref14_Magnitude_l0 (n : Nat) : SubSt Tryz.prog 32 (Ls_circaref14_Magnitude n) 0 sac_circaref14_Magnitude_l0 := fun α s k z => sub1_circaref14_Magnitude_l0 n α s k z
theorem subs_circaref14_Magnitude (n : Nat) : SubOK Tryz.prog 32 (Ls_circaref14_Magnitude n) (acOf Tryz.f135) := SubOK_of _ (by
  have e : subs (acOf Tryz.f135) = [(0, sac_circaref14_Magnitude_l0)] := by kernel_rfl
  rw [e]; intro p hp
  simp only [List.mem_cons, List.not_mem_nil, or_false] at hp
  · rw [hp]; exact sub_circaref14_Magnitude_l0 n
  )
theorem cert_circaref14_Magnitude (n : Nat) (a0 : List UInt8) (a1 : Int) : run Tryz.prog (Es_circaref14_Magnitude n) (Ls_circaref14_Magnitude n) Tryz.f135.ntmps (acOf Tryz.f135) ⟨argsT [.s a0, .i .i64 a1] 0, [], 0, 0, 0, 0⟩ (finK Tryz.prog Tryz.f135.results.toList (retX unr_circaref14_Magnitude)) = circaref14_Magnitude n a0 a1 := by kernel_rfl
theorem pure_circaref14_Magnitude (n : Nat) : ∀ a r, circaref14_Magnitude n a.1 a.2 = some r → PureOK Tryz.prog 135 (arg_circaref14_Magnitude a) (enc_circaref14_Magnitude r) := fun a r h => pureX_ok unr_ok_circaref14_Magnitude (Es_ok_circaref14_Magnitude n) Tryz.func135 rfl (acOf_code _) (subs_circaref14_Magnitude n) rfl ((cert_circaref14_Magnitude n a.1 a.2).trans h)
theorem ok_circaref14_Magnitude (n : Nat) : EntOK Tryz.prog (e_circaref14_Magnitude n) := pureE_ok Tryz.call135 una_ok_circaref14_Magnitude (fun _ => rfl) (pure_circaref14_Magnitude n)

/-! circa/circaref14.Check -/
noncomputable def arg_circaref14_Check (a : Bool × Bool × List UInt8 × Int × Int) : List V := [.ag [.b a.1, .b a.2.1, .s a.2.2.1, .i .i64 a.2.2.2.1, .i .i64 a.2.2.2.2]]
noncomputable def una_circaref14_Check (l : List V) : Option (Bool × Bool × List UInt8 × Int × Int) := match l with
  | [.ag [.b a0, .b a1, .s a2, .i .i64 a3, .i .i64 a4]] => some (a0, a1, a2, a3, a4)
  | _ => none
theorem una_ok_circaref14_Check : ∀ l a, una_circaref14_Check l = some a → l = arg_circaref14_Check a := by
  intro l a h
  unfold una_circaref14_Check at h
  split at h
  · cases h; rfl
  · cases h
noncomputable def enc_circaref14_Check (r : Int) : V := .i .i64 r
noncomputable def unr_circaref14_Check (v : V) : Option (Int) := match v with
  | .i .i64 r0 => some r0
  | _ => none
theorem unr_ok_circaref14_Check : ∀ v r, unr_circaref14_Check v = some r → v = enc_circaref14_Check r := by
  intro v r h
  unfold unr_circaref14_Check at h
  split at h
  · cases h; rfl
  · cases h
noncomputable def e_circaref14_Check (n : Nat) : Ent := pureE 127 una_circaref14_Check (fun a => circaref14_Check n a.1 a.2.1 a.2.2.1 a.2.2.2.1 a.2.2.2.2) enc_circaref14_Check
noncomputable def t_circaref14_Check (l : List V) (_ : List (Nat × Blk)) : Bool := isS (una_circaref14_Check l)
noncomputable def Es_circaref14_Check (n : Nat) : List Ent := [e_circaref14_has n, e_circaref14_Magnitude n]
theorem Es_ok_circaref14_Check (n : Nat) : ∀ x ∈ Es_circaref14_Check n, EntOK Tryz.prog x := by
  intro x hx
  simp only [Es_circaref14_Check, List.mem_cons, List.not_mem_nil, or_false] at hx
  rcases hx with hx | hx
  · rw [hx]; exact ok_circaref14_has n
  · rw [hx]; exact ok_circaref14_Magnitude n
noncomputable def Ls_circaref14_Check (_n : Nat) : List Sub := []
theorem subs_circaref14_Check (n : Nat) : SubOK Tryz.prog 114 (Ls_circaref14_Check n) (acOf Tryz.f127) := SubOK_of _ (by
  have e : subs (acOf Tryz.f127) = [] := by kernel_rfl
  rw [e]; intro p hp; cases hp)
theorem cert_circaref14_Check (n : Nat) (a0 : Bool) (a1 : Bool) (a2 : List UInt8) (a3 : Int) (a4 : Int) : run Tryz.prog (Es_circaref14_Check n) (Ls_circaref14_Check n) Tryz.f127.ntmps (acOf Tryz.f127) ⟨argsT [.ag [.b a0, .b a1, .s a2, .i .i64 a3, .i .i64 a4]] 0, [], 0, 0, 0, 0⟩ (finK Tryz.prog Tryz.f127.results.toList (retX unr_circaref14_Check)) = circaref14_Check n a0 a1 a2 a3 a4 := by kernel_rfl
theorem pure_circaref14_Check (n : Nat) : ∀ a r, circaref14_Check n a.1 a.2.1 a.2.2.1 a.2.2.2.1 a.2.2.2.2 = some r → PureOK Tryz.prog 127 (arg_circaref14_Check a) (enc_circaref14_Check r) := fun a r h => pureX_ok unr_ok_circaref14_Check (Es_ok_circaref14_Check n) Tryz.func127 rfl (acOf_code _) (subs_circaref14_Check n) rfl ((cert_circaref14_Check n a.1 a.2.1 a.2.2.1 a.2.2.2.1 a.2.2.2.2).trans h)
theorem ok_circaref14_Check (n : Nat) : EntOK Tryz.prog (e_circaref14_Check n) := pureE_ok Tryz.call127 una_ok_circaref14_Check (fun _ => rfl) (pure_circaref14_Check n)

/-! circa/circaref15.Two -/
noncomputable def arg_circaref15_Two (a : Int) : List V := [.i .i64 a]
noncomputable def una_circaref15_Two (l : List V) : Option (Int) := match l with
  | [.i .i64 a0] => some a0
  | _ => none
theorem una_ok_circaref15_Two : ∀ l a, una_circaref15_Two l = some a → l = arg_circaref15_Two a := by
  intro l a h
  unfold una_circaref15_Two at h
  split at h
  · cases h; rfl
  · cases h
noncomputable def enc_circaref15_Two (r : List UInt8) : V := .s r
noncomputable def unr_circaref15_Two (v : V) : Option (List UInt8) := match v with
  | .s r0 => some r0
  | _ => none
theorem unr_ok_circaref15_Two : ∀ v r, unr_circaref15_Two v = some r → v = enc_circaref15_Two r := by
  intro v r h
  unfold unr_circaref15_Two at h
  split at h
  · cases h; rfl
  · cases h
noncomputable def e_circaref15_Two (n : Nat) : Ent := pureE 28 una_circaref15_Two (fun a => circaref15_Two n a) enc_circaref15_Two
noncomputable def t_circaref15_Two (l : List V) (_ : List (Nat × Blk)) : Bool := isS (una_circaref15_Two l)
noncomputable def Es_circaref15_Two (_n : Nat) : List Ent := []
theorem Es_ok_circaref15_Two (n : Nat) : ∀ x ∈ Es_circaref15_Two n, EntOK Tryz.prog x := by
  intro x hx
  simp [Es_circaref15_Two] at hx
noncomputable def Ls_circaref15_Two (_n : Nat) : List Sub := []
theorem subs_circaref15_Two (n : Nat) : SubOK Tryz.prog 19 (Ls_circaref15_Two n) (acOf Tryz.f28) := SubOK_of _ (by
  have e : subs (acOf Tryz.f28) = [] := by kernel_rfl
  rw [e]; intro p hp; cases hp)
theorem cert_circaref15_Two (n : Nat) (a0 : Int) : run Tryz.prog (Es_circaref15_Two n) (Ls_circaref15_Two n) Tryz.f28.ntmps (acOf Tryz.f28) ⟨argsT [.i .i64 a0] 0, [], 0, 0, 0, 0⟩ (finK Tryz.prog Tryz.f28.results.toList (retX unr_circaref15_Two)) = circaref15_Two n a0 := by kernel_rfl
theorem pure_circaref15_Two (n : Nat) : ∀ a r, circaref15_Two n a = some r → PureOK Tryz.prog 28 (arg_circaref15_Two a) (enc_circaref15_Two r) := fun a r h => pureX_ok unr_ok_circaref15_Two (Es_ok_circaref15_Two n) Tryz.func28 rfl (acOf_code _) (subs_circaref15_Two n) rfl ((cert_circaref15_Two n a).trans h)
theorem ok_circaref15_Two (n : Nat) : EntOK Tryz.prog (e_circaref15_Two n) := pureE_ok Tryz.call28 una_ok_circaref15_Two (fun _ => rfl) (pure_circaref15_Two n)

/-! circa/circaref15.Season -/
noncomputable def arg_circaref15_Season (a : Bool × Bool × List UInt8 × Int × Int × List UInt8 × List UInt8 × Int × Int × Int) : List V := [.ag [.b a.1, .b a.2.1, .s a.2.2.1, .i .i64 a.2.2.2.1, .i .i64 a.2.2.2.2.1, .s a.2.2.2.2.2.1, .s a.2.2.2.2.2.2.1, .i .u8 a.2.2.2.2.2.2.2.1, .i .u8 a.2.2.2.2.2.2.2.2.1, .i .u8 a.2.2.2.2.2.2.2.2.2]]
noncomputable def una_circaref15_Season (l : List V) : Option (Bool × Bool × List UInt8 × Int × Int × List UInt8 × List UInt8 × Int × Int × Int) := match l with
  | [.ag [.b a0, .b a1, .s a2, .i .i64 a3, .i .i64 a4, .s a5, .s a6, .i .u8 a7, .i .u8 a8, .i .u8 a9]] => some (a0, a1, a2, a3, a4, a5, a6, a7, a8, a9)
  | _ => none
theorem una_ok_circaref15_Season : ∀ l a, una_circaref15_Season l = some a → l = arg_circaref15_Season a := by
  intro l a h
  unfold una_circaref15_Season at h
  split at h
  · cases h; rfl
  · cases h
noncomputable def enc_circaref15_Season (r : Int) : V := .i .i64 r
noncomputable def unr_circaref15_Season (v : V) : Option (Int) := match v with
  | .i .i64 r0 => some r0
  | _ => none
theorem unr_ok_circaref15_Season : ∀ v r, unr_circaref15_Season v = some r → v = enc_circaref15_Season r := by
  intro v r h
  unfold unr_circaref15_Season at h
  split at h
  · cases h; rfl
  · cases h
noncomputable def e_circaref15_Season (n : Nat) : Ent := pureE 20 una_circaref15_Season (fun a => circaref15_Season n a.1 a.2.1 a.2.2.1 a.2.2.2.1 a.2.2.2.2.1 a.2.2.2.2.2.1 a.2.2.2.2.2.2.1 a.2.2.2.2.2.2.2.1 a.2.2.2.2.2.2.2.2.1 a.2.2.2.2.2.2.2.2.2) enc_circaref15_Season
noncomputable def t_circaref15_Season (l : List V) (_ : List (Nat × Blk)) : Bool := isS (una_circaref15_Season l)
noncomputable def Es_circaref15_Season (n : Nat) : List Ent := [e_circaref15_Two n]
theorem Es_ok_circaref15_Season (n : Nat) : ∀ x ∈ Es_circaref15_Season n, EntOK Tryz.prog x := by
  intro x hx
  simp only [Es_circaref15_Season, List.mem_cons, List.not_mem_nil, or_false] at hx
  · rw [hx]; exact ok_circaref15_Two n
noncomputable def an_circaref15_Season_l0 : Ann := ⟨[1, 3], [0], 1, []⟩
noncomputable def emb_circaref15_Season_l0 (x : Int × Bool × Bool × List UInt8 × Int × Int × List UInt8 × List UInt8 × Int × Int × Int) : St := ⟨[(1, some (.p 0 0)), (3, some (.i .i64 x.1))], [(0, .cells [.b x.2.1, .b x.2.2.1, .s x.2.2.2.1, .i .i64 x.2.2.2.2.1, .i .i64 x.2.2.2.2.2.1, .s x.2.2.2.2.2.2.1, .s x.2.2.2.2.2.2.2.1, .i .u8 x.2.2.2.2.2.2.2.2.1, .i .u8 x.2.2.2.2.2.2.2.2.2.1, .i .u8 x.2.2.2.2.2.2.2.2.2.2])], 1, 0, 0, 0⟩
noncomputable def un_circaref15_Season_l0 (s : St) : Option (Int × Bool × Bool × List UInt8 × Int × Int × List UInt8 × List UInt8 × Int × Int × Int) := match s with
  | ⟨[(1, some (.p 0 0)), (3, some (.i .i64 x0))], [(0, .cells [.b x1, .b x2, .s x3, .i .i64 x4, .i .i64 x5, .s x6, .s x7, .i .u8 x8, .i .u8 x9, .i .u8 x10])], 1, 0, 0, 0⟩ => some (x0, x1, x2, x3, x4, x5, x6, x7, x8, x9, x10)
  | _ => none
theorem un_ok_circaref15_Season_l0 : ∀ s x, un_circaref15_Season_l0 s = some x → s = emb_circaref15_Season_l0 x := by
  intro s x h
  unfold un_circaref15_Season_l0 at h
  split at h
  · cases h; rfl
  · cases h
noncomputable def ax_circaref15_Season_l0 : Ex → Ann := fun ex => match ex with
  | .ret => ⟨[2], [], 1, []⟩
  | .exit 0 => ⟨[], [], 1, []⟩
  | _ => ⟨[], [], 0, []⟩
noncomputable def out_circaref15_Season_l0 (y : Int ⊕ Unit) : Ex × St := (Sum.casesOn (motive := fun _ => Ex × St) y (fun a0 => (.ret, ⟨[(2, some (.i .i64 a0))], [], 1, 0, 0, 0⟩)) (fun b0 => (.exit 0, ⟨[], [], 1, 0, 0, 0⟩)))
noncomputable def outK_circaref15_Season_l0 (α : Type) (y : Int ⊕ Unit) (k : Ex → St → Option α) : Option α := (Sum.casesOn (motive := fun _ => Option α) y (fun a0 => (k (.ret) ⟨[(2, some (.i .i64 a0))], [], 1, 0, 0, 0⟩)) (fun b0 => (k (.exit 0) ⟨[], [], 1, 0, 0, 0⟩)))
theorem outK_ok_circaref15_Season_l0 : ∀ α y k, outK_circaref15_Season_l0 α y k = k (out_circaref15_Season_l0 y).1 (out_circaref15_Season_l0 y).2 := by
  intro α y k
  rcases y with y | y <;> rfl
noncomputable def ux_circaref15_Season_l0 (ex : Ex) (s : St) : Option (Int ⊕ Unit) := match ex, s with
  | .ret, ⟨[(2, some (.i .i64 y0))], [], 1, 0, 0, 0⟩ => some (.inl y0)
  | .exit 0, ⟨[], [], 1, 0, 0, 0⟩ => some (.inr ())
  | _, _ => none
theorem ux_ok_circaref15_Season_l0 : ∀ ex s y, ux_circaref15_Season_l0 ex s = some y → (ex, s) = out_circaref15_Season_l0 y := by
  intro ex s y h
  unfold ux_circaref15_Season_l0 at h
  split at h
  · cases h; rfl
  · cases h; rfl
  · cases h
noncomputable def Ls_circaref15_Season (n : Nat) : List Sub := [subE 0 an_circaref15_Season_l0 un_circaref15_Season_l0 (fun x => iterL (circaref15_Season_l0 n) n x) outK_circaref15_Season_l0]
noncomputable def sac_circaref15_Season_l0 : AC := getS (subs (acOf Tryz.f20)) 0
noncomputable def ac_circaref15_Season_l0 : AC := AC.body sac_circaref15_Season_l0
theorem subs_circaref15_Season_l0 (n : Nat) : SubOK Tryz.prog 14 (Ls_circaref15_Season n) ac_circaref15_Season_l0 := SubOK_of _ (by
  have e : subs ac_circaref15_Season_l0 = [] := by kernel_rfl
  rw [e]; intro p hp; cases hp)
theorem body_circaref15_Season_l0 (n : Nat) : ∀ x, run Tryz.prog (Es_circaref15_Season n) (Ls_circaref15_Season n) 14 ac_circaref15_Season_l0 (emb_circaref15_Season_l0 x) (roundK an_circaref15_Season_l0 un_circaref15_Season_l0 ax_circaref15_Season_l0 ux_circaref15_Season_l0) = circaref15_Season_l0 n x := fun _ => by kernel_rfl
theorem sub1_circaref15_Season_l0 (n : Nat) : ∀ (α : Type) (s : St) (k : Ex → St → Option α) (z : α), (subE 0 an_circaref15_Season_l0 un_circaref15_Season_l0 (fun x => iterL (circaref15_Season_l0 n) n x) outK_circaref15_Season_l0).e α s k = some z → SemC Tryz.prog 14 (sac_circaref15_Season_l0).code s fun ex s' => k ex s' = some z := by
  intro α s k z h
  have e : sac_circaref15_Season_l0 = .loop ac_circaref15_Season_l0 := by kernel_rfl
  rw [e]
  exact subE_ok (m := 0) (f := fun x => iterL (circaref15_Season_l0 n) n x) (out := out_circaref15_Season_l0) outK_ok_circaref15_Season_l0 un_ok_circaref15_Season_l0 (fun x y hy => loop_ok (Es_ok_circaref15_Season n) (subs_circaref15_Season_l0 n) un_ok_circaref15_Season_l0 ux_ok_circaref15_Season_l0 (body_circaref15_Season_l0 n) n x y hy) h
theorem sub_circaref15_Season_l0 (n : Nat) : SubSt Tryz.prog 14 (Ls_circaref15_Season n) 0 sac_circaref15_Season_l0 := fun α s k z => sub1_circaref15_Season_l0 n α s k z
theorem subs_circaref15_Season (n : Nat) : SubOK Tryz.prog 14 (Ls_circaref15_Season n) (acOf Tryz.f20) := SubOK_of _ (by
  have e : subs (acOf Tryz.f20) = [(0, sac_circaref15_Season_l0)] := by kernel_rfl
  rw [e]; intro p hp
  simp only [List.mem_cons, List.not_mem_nil, or_false] at hp
  · rw [hp]; exact sub_circaref15_Season_l0 n
  )
theorem cert_circaref15_Season (n : Nat) (a0 : Bool) (a1 : Bool) (a2 : List UInt8) (a3 : Int) (a4 : Int) (a5 : List UInt8) (a6 : List UInt8) (a7 : Int) (a8 : Int) (a9 : Int) : run Tryz.prog (Es_circaref15_Season n) (Ls_circaref15_Season n) Tryz.f20.ntmps (acOf Tryz.f20) ⟨argsT [.ag [.b a0, .b a1, .s a2, .i .i64 a3, .i .i64 a4, .s a5, .s a6, .i .u8 a7, .i .u8 a8, .i .u8 a9]] 0, [], 0, 0, 0, 0⟩ (finK Tryz.prog Tryz.f20.results.toList (retX unr_circaref15_Season)) = circaref15_Season n a0 a1 a2 a3 a4 a5 a6 a7 a8 a9 := by kernel_rfl
theorem pure_circaref15_Season (n : Nat) : ∀ a r, circaref15_Season n a.1 a.2.1 a.2.2.1 a.2.2.2.1 a.2.2.2.2.1 a.2.2.2.2.2.1 a.2.2.2.2.2.2.1 a.2.2.2.2.2.2.2.1 a.2.2.2.2.2.2.2.2.1 a.2.2.2.2.2.2.2.2.2 = some r → PureOK Tryz.prog 20 (arg_circaref15_Season a) (enc_circaref15_Season r) := fun a r h => pureX_ok unr_ok_circaref15_Season (Es_ok_circaref15_Season n) Tryz.func20 rfl (acOf_code _) (subs_circaref15_Season n) rfl ((cert_circaref15_Season n a.1 a.2.1 a.2.2.1 a.2.2.2.1 a.2.2.2.2.1 a.2.2.2.2.2.1 a.2.2.2.2.2.2.1 a.2.2.2.2.2.2.2.1 a.2.2.2.2.2.2.2.2.1 a.2.2.2.2.2.2.2.2.2).trans h)
theorem ok_circaref15_Season (n : Nat) : EntOK Tryz.prog (e_circaref15_Season n) := pureE_ok Tryz.call20 una_ok_circaref15_Season (fun _ => rfl) (pure_circaref15_Season n)

/-! circa/circaref14.Masked -/
noncomputable def arg_circaref14_Masked (a : Bool × Bool × List UInt8 × Int × Int) : List V := [.ag [.b a.1, .b a.2.1, .s a.2.2.1, .i .i64 a.2.2.2.1, .i .i64 a.2.2.2.2]]
noncomputable def una_circaref14_Masked (l : List V) : Option (Bool × Bool × List UInt8 × Int × Int) := match l with
  | [.ag [.b a0, .b a1, .s a2, .i .i64 a3, .i .i64 a4]] => some (a0, a1, a2, a3, a4)
  | _ => none
theorem una_ok_circaref14_Masked : ∀ l a, una_circaref14_Masked l = some a → l = arg_circaref14_Masked a := by
  intro l a h
  unfold una_circaref14_Masked at h
  split at h
  · cases h; rfl
  · cases h
noncomputable def enc_circaref14_Masked (r : Int) : V := .i .i64 r
noncomputable def unr_circaref14_Masked (v : V) : Option (Int) := match v with
  | .i .i64 r0 => some r0
  | _ => none
theorem unr_ok_circaref14_Masked : ∀ v r, unr_circaref14_Masked v = some r → v = enc_circaref14_Masked r := by
  intro v r h
  unfold unr_circaref14_Masked at h
  split at h
  · cases h; rfl
  · cases h
noncomputable def e_circaref14_Masked (n : Nat) : Ent := pureE 134 una_circaref14_Masked (fun a => circaref14_Masked n a.1 a.2.1 a.2.2.1 a.2.2.2.1 a.2.2.2.2) enc_circaref14_Masked
noncomputable def t_circaref14_Masked (l : List V) (_ : List (Nat × Blk)) : Bool := isS (una_circaref14_Masked l)
noncomputable def Es_circaref14_Masked (n : Nat) : List Ent := [e_circaref14_has n]
theorem Es_ok_circaref14_Masked (n : Nat) : ∀ x ∈ Es_circaref14_Masked n, EntOK Tryz.prog x := by
  intro x hx
  simp only [Es_circaref14_Masked, List.mem_cons, List.not_mem_nil, or_false] at hx
  · rw [hx]; exact ok_circaref14_has n
noncomputable def Ls_circaref14_Masked (_n : Nat) : List Sub := []
theorem subs_circaref14_Masked (n : Nat) : SubOK Tryz.prog 7 (Ls_circaref14_Masked n) (acOf Tryz.f134) := SubOK_of _ (by
  have e : subs (acOf Tryz.f134) = [] := by kernel_rfl
  rw [e]; intro p hp; cases hp)
theorem cert_circaref14_Masked (n : Nat) (a0 : Bool) (a1 : Bool) (a2 : List UInt8) (a3 : Int) (a4 : Int) : run Tryz.prog (Es_circaref14_Masked n) (Ls_circaref14_Masked n) Tryz.f134.ntmps (acOf Tryz.f134) ⟨argsT [.ag [.b a0, .b a1, .s a2, .i .i64 a3, .i .i64 a4]] 0, [], 0, 0, 0, 0⟩ (finK Tryz.prog Tryz.f134.results.toList (retX unr_circaref14_Masked)) = circaref14_Masked n a0 a1 a2 a3 a4 := by kernel_rfl
theorem pure_circaref14_Masked (n : Nat) : ∀ a r, circaref14_Masked n a.1 a.2.1 a.2.2.1 a.2.2.2.1 a.2.2.2.2 = some r → PureOK Tryz.prog 134 (arg_circaref14_Masked a) (enc_circaref14_Masked r) := fun a r h => pureX_ok unr_ok_circaref14_Masked (Es_ok_circaref14_Masked n) Tryz.func134 rfl (acOf_code _) (subs_circaref14_Masked n) rfl ((cert_circaref14_Masked n a.1 a.2.1 a.2.2.1 a.2.2.2.1 a.2.2.2.2).trans h)
theorem ok_circaref14_Masked (n : Nat) : EntOK Tryz.prog (e_circaref14_Masked n) := pureE_ok Tryz.call134 una_ok_circaref14_Masked (fun _ => rfl) (pure_circaref14_Masked n)

/-! circa/circaref15.year -/
noncomputable def arg_circaref15_year (a : Bool × Bool × List UInt8 × Int × Int × List UInt8 × List UInt8 × Int × Int × Int) : List V := [.ag [.b a.1, .b a.2.1, .s a.2.2.1, .i .i64 a.2.2.2.1, .i .i64 a.2.2.2.2.1, .s a.2.2.2.2.2.1, .s a.2.2.2.2.2.2.1, .i .u8 a.2.2.2.2.2.2.2.1, .i .u8 a.2.2.2.2.2.2.2.2.1, .i .u8 a.2.2.2.2.2.2.2.2.2]]
noncomputable def una_circaref15_year (l : List V) : Option (Bool × Bool × List UInt8 × Int × Int × List UInt8 × List UInt8 × Int × Int × Int) := match l with
  | [.ag [.b a0, .b a1, .s a2, .i .i64 a3, .i .i64 a4, .s a5, .s a6, .i .u8 a7, .i .u8 a8, .i .u8 a9]] => some (a0, a1, a2, a3, a4, a5, a6, a7, a8, a9)
  | _ => none
theorem una_ok_circaref15_year : ∀ l a, una_circaref15_year l = some a → l = arg_circaref15_year a := by
  intro l a h
  unfold una_circaref15_year at h
  split at h
  · cases h; rfl
  · cases h
noncomputable def enc_circaref15_year (r : Int) : V := .i .i64 r
noncomputable def unr_circaref15_year (v : V) : Option (Int) := match v with
  | .i .i64 r0 => some r0
  | _ => none
theorem unr_ok_circaref15_year : ∀ v r, unr_circaref15_year v = some r → v = enc_circaref15_year r := by
  intro v r h
  unfold unr_circaref15_year at h
  split at h
  · cases h; rfl
  · cases h
noncomputable def e_circaref15_year (n : Nat) : Ent := pureE 74 una_circaref15_year (fun a => circaref15_year n a.1 a.2.1 a.2.2.1 a.2.2.2.1 a.2.2.2.2.1 a.2.2.2.2.2.1 a.2.2.2.2.2.2.1 a.2.2.2.2.2.2.2.1 a.2.2.2.2.2.2.2.2.1 a.2.2.2.2.2.2.2.2.2) enc_circaref15_year
noncomputable def t_circaref15_year (l : List V) (_ : List (Nat × Blk)) : Bool := isS (una_circaref15_year l)
noncomputable def Es_circaref15_year (n : Nat) : List Ent := [e_circaref14_Check n, e_circaref15_Season n, e_circaref14_Masked n, e_circaref14_Magnitude n]
theorem Es_ok_circaref15_year (n : Nat) : ∀ x ∈ Es_circaref15_year n, EntOK Tryz.prog x := by
  intro x hx
  simp only [Es_circaref15_year, List.mem_cons, List.not_mem_nil, or_false] at hx
  rcases hx with hx | hx | hx | hx
  · rw [hx]; exact ok_circaref14_Check n
  · rw [hx]; exact ok_circaref15_Season n
  · rw [hx]; exact ok_circaref14_Masked n
  · rw [hx]; exact ok_circaref14_Magnitude n
noncomputable def Ls_circaref15_year (_n : Nat) : List Sub := []
theorem subs_circaref15_year (n : Nat) : SubOK Tryz.prog 57 (Ls_circaref15_year n) (acOf Tryz.f74) := SubOK_of _ (by
  have e : subs (acOf Tryz.f74) = [] := by kernel_rfl
  rw [e]; intro p hp; cases hp)
theorem cert_circaref15_year (n : Nat) (a0 : Bool) (a1 : Bool) (a2 : List UInt8) (a3 : Int) (a4 : Int) (a5 : List UInt8) (a6 : List UInt8) (a7 : Int) (a8 : Int) (a9 : Int) : run Tryz.prog (Es_circaref15_year n) (Ls_circaref15_year n) Tryz.f74.ntmps (acOf Tryz.f74) ⟨argsT [.ag [.b a0, .b a1, .s a2, .i .i64 a3, .i .i64 a4, .s a5, .s a6, .i .u8 a7, .i .u8 a8, .i .u8 a9]] 0, [], 0, 0, 0, 0⟩ (finK Tryz.prog Tryz.f74.results.toList (retX unr_circaref15_year)) = circaref15_year n a0 a1 a2 a3 a4 a5 a6 a7 a8 a9 := by kernel_rfl
theorem pure_circaref15_year (n : Nat) : ∀ a r, circaref15_year n a.1 a.2.1 a.2.2.1 a.2.2.2.1 a.2.2.2.2.1 a.2.2.2.2.2.1 a.2.2.2.2.2.2.1 a.2.2.2.2.2.2.2.1 a.2.2.2.2.2.2.2.2.1 a.2.2.2.2.2.2.2.2.2 = some r → PureOK Tryz.prog 74 (arg_circaref15_year a) (enc_circaref15_year r) := fun a r h => pureX_ok unr_ok_circaref15_year (Es_ok_circaref15_year n) Tryz.func74 rfl (acOf_code _) (subs_circaref15_year n) rfl ((cert_circaref15_year n a.1 a.2.1 a.2.2.1 a.2.2.2.1 a.2.2.2.2.1 a.2.2.2.2.2.1 a.2.2.2.2.2.2.1 a.2.2.2.2.2.2.2.1 a.2.2.2.2.2.2.2.2.1 a.2.2.2.2.2.2.2.2.2).trans h)
theorem ok_circaref15_year (n : Nat) : EntOK Tryz.prog (e_circaref15_year n) := pureE_ok Tryz.call74 una_ok_circaref15_year (fun _ => rfl) (pure_circaref15_year n)

/-! circa/circaref15.Agrees -/
noncomputable def arg_circaref15_Agrees (a : List UInt8 × Int) : List V := [.s a.1, .i .i64 a.2]
noncomputable def una_circaref15_Agrees (l : List V) : Option (List UInt8 × Int) := match l with
  | [.s a0, .i .i64 a1] => some (a0, a1)
  | _ => none
theorem una_ok_circaref15_Agrees : ∀ l a, una_circaref15_Agrees l = some a → l = arg_circaref15_Agrees a := by
  intro l a h
  unfold una_circaref15_Agrees at h
  split at h
  · cases h; rfl
  · cases h
noncomputable def enc_circaref15_Agrees (r : Int) : V := .i .i64 r
noncomputable def unr_circaref15_Agrees (v : V) : Option (Int) := match v with
  | .i .i64 r0 => some r0
  | _ => none
theorem unr_ok_circaref15_Agrees : ∀ v r, unr_circaref15_Agrees v = some r → v = enc_circaref15_Agrees r := by
  intro v r h
  unfold unr_circaref15_Agrees at h
  split at h
  · cases h; rfl
  · cases h
noncomputable def e_circaref15_Agrees (n : Nat) : Ent := pureE 136 una_circaref15_Agrees (fun a => circaref15_Agrees n a.1 a.2) enc_circaref15_Agrees
noncomputable def t_circaref15_Agrees (l : List V) (_ : List (Nat × Blk)) : Bool := isS (una_circaref15_Agrees l)
noncomputable def Es_circaref15_Agrees (n : Nat) : List Ent := [e_circaref15_Two n]
theorem Es_ok_circaref15_Agrees (n : Nat) : ∀ x ∈ Es_circaref15_Agrees n, EntOK Tryz.prog x := by
  intro x hx
  simp only [Es_circaref15_Agrees, List.mem_cons, List.not_mem_nil, or_false] at hx
  · rw [hx]; exact ok_circaref15_Two n
noncomputable def Ls_circaref15_Agrees (_n : Nat) : List Sub := []
theorem subs_circaref15_Agrees (n : Nat) : SubOK Tryz.prog 35 (Ls_circaref15_Agrees n) (acOf Tryz.f136) := SubOK_of _ (by
  have e : subs (acOf Tryz.f136) = [] := by kernel_rfl
  rw [e]; intro p hp; cases hp)
theorem cert_circaref15_Agrees (n : Nat) (a0 : List UInt8) (a1 : Int) : run Tryz.prog (Es_circaref15_Agrees n) (Ls_circaref15_Agrees n) Tryz.f136.ntmps (acOf Tryz.f136) ⟨argsT [.s a0, .i .i64 a1] 0, [], 0, 0, 0, 0⟩ (finK Tryz.prog Tryz.f136.results.toList (retX unr_circaref15_Agrees)) = circaref15_Agrees n a0 a1 := by kernel_rfl
theorem pure_circaref15_Agrees (n : Nat) : ∀ a r, circaref15_Agrees n a.1 a.2 = some r → PureOK Tryz.prog 136 (arg_circaref15_Agrees a) (enc_circaref15_Agrees r) := fun a r h => pureX_ok unr_ok_circaref15_Agrees (Es_ok_circaref15_Agrees n) Tryz.func136 rfl (acOf_code _) (subs_circaref15_Agrees n) rfl ((cert_circaref15_Agrees n a.1 a.2).trans h)
theorem ok_circaref15_Agrees (n : Nat) : EntOK Tryz.prog (e_circaref15_Agrees n) := pureE_ok Tryz.call136 una_ok_circaref15_Agrees (fun _ => rfl) (pure_circaref15_Agrees n)

/-! circa/circaref15.Some -/
noncomputable def arg_circaref15_Some (a : List UInt8 × Int) : List V := [.s a.1, .i .i64 a.2]
noncomputable def una_circaref15_Some (l : List V) : Option (List UInt8 × Int) := match l with
  | [.s a0, .i .i64 a1] => some (a0, a1)
  | _ => none
theorem una_ok_circaref15_Some : ∀ l a, una_circaref15_Some l = some a → l = arg_circaref15_Some a := by
  intro l a h
  unfold una_circaref15_Some at h
  split at h
  · cases h; rfl
  · cases h
noncomputable def enc_circaref15_Some (r : Int) : V := .i .i64 r
noncomputable def unr_circaref15_Some (v : V) : Option (Int) := match v with
  | .i .i64 r0 => some r0
  | _ => none
theorem unr_ok_circaref15_Some : ∀ v r, unr_circaref15_Some v = some r → v = enc_circaref15_Some r := by
  intro v r h
  unfold unr_circaref15_Some at h
  split at h
  · cases h; rfl
  · cases h
noncomputable def e_circaref15_Some (n : Nat) : Ent := pureE 75 una_circaref15_Some (fun a => circaref15_Some n a.1 a.2) enc_circaref15_Some
noncomputable def t_circaref15_Some (l : List V) (_ : List (Nat × Blk)) : Bool := isS (una_circaref15_Some l)
noncomputable def Es_circaref15_Some (n : Nat) : List Ent := [e_circaref15_Agrees n]
theorem Es_ok_circaref15_Some (n : Nat) : ∀ x ∈ Es_circaref15_Some n, EntOK Tryz.prog x := by
  intro x hx
  simp only [Es_circaref15_Some, List.mem_cons, List.not_mem_nil, or_false] at hx
  · rw [hx]; exact ok_circaref15_Agrees n
noncomputable def an_circaref15_Some_l0 : Ann := ⟨[0, 1, 5], [], 0, []⟩
noncomputable def emb_circaref15_Some_l0 (x : List UInt8 × Int × Int) : St := ⟨[(0, some (.s x.1)), (1, some (.i .i64 x.2.1)), (5, some (.i .i64 x.2.2))], [], 0, 0, 0, 0⟩
noncomputable def un_circaref15_Some_l0 (s : St) : Option (List UInt8 × Int × Int) := match s with
  | ⟨[(0, some (.s x0)), (1, some (.i .i64 x1)), (5, some (.i .i64 x2))], [], 0, 0, 0, 0⟩ => some (x0, x1, x2)
  | _ => none
theorem un_ok_circaref15_Some_l0 : ∀ s x, un_circaref15_Some_l0 s = some x → s = emb_circaref15_Some_l0 x := by
  intro s x h
  unfold un_circaref15_Some_l0 at h
  split at h
  · cases h; rfl
  · cases h
noncomputable def ax_circaref15_Some_l0 : Ex → Ann := fun ex => match ex with
  | .ret => ⟨[4], [], 0, []⟩
  | .exit 0 => ⟨[], [], 0, []⟩
  | _ => ⟨[], [], 0, []⟩
noncomputable def out_circaref15_Some_l0 (y : Int ⊕ Unit) : Ex × St := (Sum.casesOn (motive := fun _ => Ex × St) y (fun a0 => (.ret, ⟨[(4, some (.i .i64 a0))], [], 0, 0, 0, 0⟩)) (fun b0 => (.exit 0, ⟨[], [], 0, 0, 0, 0⟩)))
noncomputable def outK_circaref15_Some_l0 (α : Type) (y : Int ⊕ Unit) (k : Ex → St → Option α) : Option α := (Sum.casesOn (motive := fun _ => Option α) y (fun a0 => (k (.ret) ⟨[(4, some (.i .i64 a0))], [], 0, 0, 0, 0⟩)) (fun b0 => (k (.exit 0) ⟨[], [], 0, 0, 0, 0⟩)))
theorem outK_ok_circaref15_Some_l0 : ∀ α y k, outK_circaref15_Some_l0 α y k = k (out_circaref15_Some_l0 y).1 (out_circaref15_Some_l0 y).2 := by
  intro α y k
  rcases y with y | y <;> rfl
noncomputable def ux_circaref15_Some_l0 (ex : Ex) (s : St) : Option (Int ⊕ Unit) := match ex, s with
  | .ret, ⟨[(4, some (.i .i64 y0))], [], 0, 0, 0, 0⟩ => some (.inl y0)
  | .exit 0, ⟨[], [], 0, 0, 0, 0⟩ => some (.inr ())
  | _, _ => none
theorem ux_ok_circaref15_Some_l0 : ∀ ex s y, ux_circaref15_Some_l0 ex s = some y → (ex, s) = out_circaref15_Some_l0 y := by
  intro ex s y h
  unfold ux_circaref15_Some_l0 at h
  split at h
  · cases h; rfl
  · cases h; rfl
  · cases h
noncomputable def Ls_circaref15_Some (n : Nat) : List Sub := [subE 0 an_circaref15_Some_l0 un_circaref15_Some_l0 (fun x => iterL (circaref15_Some_l0 n) n x) outK_circaref15_Some_l0]
noncomputable def sac_circaref15_Some_l0 : AC := getS (subs (acOf Tryz.f75)) 0
noncomputable def ac_circaref15_Some_l0 : AC := AC.body sac_circaref15_Some_l0
theorem subs_circaref15_Some_l0 (n : Nat) : SubOK Tryz.prog 15 (Ls_circaref15_Some n) ac_circaref15_Some_l0 := SubOK_of _ (by
  have e : subs ac_circaref15_Some_l0 = [] := by kernel_rfl
  rw [e]; intro p hp; cases hp)
theorem body_circaref15_Some_l0 (n : Nat) : ∀ x, run Tryz.prog (Es_circaref15_Some n) (Ls_circaref15_Some n) 15 ac_circaref15_Some_l0 (emb_circaref15_Some_l0 x) (roundK an_circaref15_Some_l0 un_circaref15_Some_l0 ax_circaref15_Some_l0 ux_circaref15_Some_l0) = circaref15_Some_l0 n x := fun _ => by kernel_rfl
theorem sub1_circaref15_Some_l0 (n : Nat) : ∀ (α : Type) (s : St) (k : Ex → St → Option α) (z : α), (subE 0 an_circaref15_Some_l0 un_circaref15_Some_l0 (fun x => iterL (circaref15_Some_l0 n) n x) outK_circaref15_Some_l0).e α s k = some z → SemC Tryz.prog 15 (sac_circaref15_Some_l0).code s fun ex s' => k ex s' = some z := by
  intro α s k z h
  have e : sac_circaref15_Some_l0 = .loop ac_circaref15_Some_l0 := by kernel_rfl
  rw [e]
  exact subE_ok (m := 0) (f := fun x => iterL (circaref15_Some_l0 n) n x) (out := out_circaref15_Some_l0) outK_ok_circaref15_Some_l0 un_ok_circaref15_Some_l0 (fun x y hy => loop_ok (Es_ok_circaref15_Some n) (subs_circaref15_Some_l0 n) un_ok_circaref15_Some_l0 ux_ok_circaref15_Some_l0 (body_circaref15_Some_l0 n) n x y hy) h
theorem sub_circaref15_Some_l0 (n : Nat) : SubSt Tryz.prog 15 (Ls_circaref15_Some n) 0 sac_circaref15_Some_l0 := fun α s k z => sub1_circaref15_Some_l0 n α s k z
theorem subs_circaref15_Some (n : Nat) : SubOK Tryz.prog 15 (Ls_circaref15_Some n) (acOf Tryz.f75) := SubOK_of _ (by
  have e : subs (acOf Tryz.f75) = [(0, sac_circaref15_Some_l0)] := by kernel_rfl
  rw [e]; intro p hp
  simp only [List.mem_cons, List.not_mem_nil, or_false] at hp
  · rw [hp]; exact sub_circaref15_Some_l0 n
  )
theorem cert_circaref15_Some (n : Nat) (a0 : List UInt8) (a1 : Int) : run Tryz.prog (Es_circaref15_Some n) (Ls_circaref15_Some n) Tryz.f75.ntmps (acOf Tryz.f75) ⟨argsT [.s a0, .i .i64 a1] 0, [], 0, 0, 0, 0⟩ (finK Tryz.prog Tryz.f75.results.toList (retX unr_circaref15_Some)) = circaref15_Some n a0 a1 := by kernel_rfl
theorem pure_circaref15_Some (n : Nat) : ∀ a r, circaref15_Some n a.1 a.2 = some r → PureOK Tryz.prog 75 (arg_circaref15_Some a) (enc_circaref15_Some r) := fun a r h => pureX_ok unr_ok_circaref15_Some (Es_ok_circaref15_Some n) Tryz.func75 rfl (acOf_code _) (subs_circaref15_Some n) rfl ((cert_circaref15_Some n a.1 a.2).trans h)
theorem ok_circaref15_Some (n : Nat) : EntOK Tryz.prog (e_circaref15_Some n) := pureE_ok Tryz.call75 una_ok_circaref15_Some (fun _ => rfl) (pure_circaref15_Some n)

/-! circa/circaref15.Components -/
noncomputable def arg_circaref15_Components (a : Bool × Bool × List UInt8 × Int × Int × List UInt8 × List UInt8 × Int × Int × Int) : List V := [.ag [.b a.1, .b a.2.1, .s a.2.2.1, .i .i64 a.2.2.2.1, .i .i64 a.2.2.2.2.1, .s a.2.2.2.2.2.1, .s a.2.2.2.2.2.2.1, .i .u8 a.2.2.2.2.2.2.2.1, .i .u8 a.2.2.2.2.2.2.2.2.1, .i .u8 a.2.2.2.2.2.2.2.2.2]]
noncomputable def una_circaref15_Components (l : List V) : Option (Bool × Bool × List UInt8 × Int × Int × List UInt8 × List UInt8 × Int × Int × Int) := match l with
  | [.ag [.b a0, .b a1, .s a2, .i .i64 a3, .i .i64 a4, .s a5, .s a6, .i .u8 a7, .i .u8 a8, .i .u8 a9]] => some (a0, a1, a2, a3, a4, a5, a6, a7, a8, a9)
  | _ => none
theorem una_ok_circaref15_Components : ∀ l a, una_circaref15_Components l = some a → l = arg_circaref15_Components a := by
  intro l a h
  unfold una_circaref15_Components at h
  split at h
  · cases h; rfl
  · cases h
noncomputable def enc_circaref15_Components (r : Int) : V := .i .i64 r
noncomputable def unr_circaref15_Components (v : V) : Option (Int) := match v with
  | .i .i64 r0 => some r0
  | _ => none
theorem unr_ok_circaref15_Components : ∀ v r, unr_circaref15_Components v = some r → v = enc_circaref15_Components r := by
  intro v r h
  unfold unr_circaref15_Components at h
  split at h
  · cases h; rfl
  · cases h
noncomputable def e_circaref15_Components (n : Nat) : Ent := pureE 22 una_circaref15_Components (fun a => circaref15_Components n a.1 a.2.1 a.2.2.1 a.2.2.2.1 a.2.2.2.2.1 a.2.2.2.2.2.1 a.2.2.2.2.2.2.1 a.2.2.2.2.2.2.2.1 a.2.2.2.2.2.2.2.2.1 a.2.2.2.2.2.2.2.2.2) enc_circaref15_Components
noncomputable def t_circaref15_Components (l : List V) (_ : List (Nat × Blk)) : Bool := isS (una_circaref15_Components l)
noncomputable def Es_circaref15_Components (_n : Nat) : List Ent := []
theorem Es_ok_circaref15_Components (n : Nat) : ∀ x ∈ Es_circaref15_Components n, EntOK Tryz.prog x := by
  intro x hx
  simp [Es_circaref15_Components] at hx
noncomputable def Ls_circaref15_Components (_n : Nat) : List Sub := []
theorem subs_circaref15_Components (n : Nat) : SubOK Tryz.prog 15 (Ls_circaref15_Components n) (acOf Tryz.f22) := SubOK_of _ (by
  have e : subs (acOf Tryz.f22) = [] := by kernel_rfl
  rw [e]; intro p hp; cases hp)
theorem cert_circaref15_Components (n : Nat) (a0 : Bool) (a1 : Bool) (a2 : List UInt8) (a3 : Int) (a4 : Int) (a5 : List UInt8) (a6 : List UInt8) (a7 : Int) (a8 : Int) (a9 : Int) : run Tryz.prog (Es_circaref15_Components n) (Ls_circaref15_Components n) Tryz.f22.ntmps (acOf Tryz.f22) ⟨argsT [.ag [.b a0, .b a1, .s a2, .i .i64 a3, .i .i64 a4, .s a5, .s a6, .i .u8 a7, .i .u8 a8, .i .u8 a9]] 0, [], 0, 0, 0, 0⟩ (finK Tryz.prog Tryz.f22.results.toList (retX unr_circaref15_Components)) = circaref15_Components n a0 a1 a2 a3 a4 a5 a6 a7 a8 a9 := by kernel_rfl
theorem pure_circaref15_Components (n : Nat) : ∀ a r, circaref15_Components n a.1 a.2.1 a.2.2.1 a.2.2.2.1 a.2.2.2.2.1 a.2.2.2.2.2.1 a.2.2.2.2.2.2.1 a.2.2.2.2.2.2.2.1 a.2.2.2.2.2.2.2.2.1 a.2.2.2.2.2.2.2.2.2 = some r → PureOK Tryz.prog 22 (arg_circaref15_Components a) (enc_circaref15_Components r) := fun a r h => pureX_ok unr_ok_circaref15_Components (Es_ok_circaref15_Components n) Tryz.func22 rfl (acOf_code _) (subs_circaref15_Components n) rfl ((cert_circaref15_Components n a.1 a.2.1 a.2.2.1 a.2.2.2.1 a.2.2.2.2.1 a.2.2.2.2.2.1 a.2.2.2.2.2.2.1 a.2.2.2.2.2.2.2.1 a.2.2.2.2.2.2.2.2.1 a.2.2.2.2.2.2.2.2.2).trans h)
theorem ok_circaref15_Components (n : Nat) : EntOK Tryz.prog (e_circaref15_Components n) := pureE_ok Tryz.call22 una_ok_circaref15_Components (fun _ => rfl) (pure_circaref15_Components n)

/-! circa/circaref13.All -/
noncomputable def arg_circaref13_All (a : List Int × Int) : List V := [.ai .u8 3 a.1, .i .i64 a.2]
noncomputable def una_circaref13_All (l : List V) : Option (List Int × Int) := match l with
  | [.ai .u8 3 a0, .i .i64 a1] => some (a0, a1)
  | _ => none
theorem una_ok_circaref13_All : ∀ l a, una_circaref13_All l = some a → l = arg_circaref13_All a := by
  intro l a h
  unfold una_circaref13_All at h
  split at h
  · cases h; rfl
  · cases h
noncomputable def enc_circaref13_All (r : Int) : V := .i .i64 r
noncomputable def unr_circaref13_All (v : V) : Option (Int) := match v with
  | .i .i64 r0 => some r0
  | _ => none
theorem unr_ok_circaref13_All : ∀ v r, unr_circaref13_All v = some r → v = enc_circaref13_All r := by
  intro v r h
  unfold unr_circaref13_All at h
  split at h
  · cases h; rfl
  · cases h
noncomputable def e_circaref13_All (n : Nat) : Ent := pureE 76 una_circaref13_All (fun a => circaref13_All n a.1 a.2) enc_circaref13_All
noncomputable def t_circaref13_All (l : List V) (_ : List (Nat × Blk)) : Bool := isS (una_circaref13_All l)
noncomputable def Es_circaref13_All (_n : Nat) : List Ent := []
theorem Es_ok_circaref13_All (n : Nat) : ∀ x ∈ Es_circaref13_All n, EntOK Tryz.prog x := by
  intro x hx
  simp [Es_circaref13_All] at hx
noncomputable def an_circaref13_All_l0 : Ann := ⟨[1, 2, 5], [0], 1, []⟩
noncomputable def emb_circaref13_All_l0 (x : Int × Int × List Int) : St := ⟨[(1, some (.i .i64 x.1)), (2, some (.p 0 0)), (5, some (.i .i64 x.2.1))], [(0, .ints .u8 3 x.2.2)], 1, 0, 0, 0⟩
noncomputable def un_circaref13_All_l0 (s : St) : Option (Int × Int × List Int) := match s with
  | ⟨[(1, some (.i .i64 x0)), (2, some (.p 0 0)), (5, some (.i .i64 x1))], [(0, .ints .u8 3 x2)], 1, 0, 0, 0⟩ => some (x0, x1, x2)
  | _ => none
theorem un_ok_circaref13_All_l0 : ∀ s x, un_circaref13_All_l0 s = some x → s = emb_circaref13_All_l0 x := by
  intro s x h
  unfold un_circaref13_All_l0 at h
  split at h
  · cases h; rfl
  · cases h
noncomputable def ax_circaref13_All_l0 : Ex → Ann := fun ex => match ex with
  | .ret => ⟨[4], [], 1, []⟩
  | .exit 0 => ⟨[], [], 1, []⟩
  | _ => ⟨[], [], 0, []⟩
noncomputable def out_circaref13_All_l0 (y : Int ⊕ Unit) : Ex × St := (Sum.casesOn (motive := fun _ => Ex × St) y (fun a0 => (.ret, ⟨[(4, some (.i .i64 a0))], [], 1, 0, 0, 0⟩)) (fun b0 => (.exit 0, ⟨[], [], 1, 0, 0, 0⟩)))
noncomputable def outK_circaref13_All_l0 (α : Type) (y : Int ⊕ Unit) (k : Ex → St → Option α) : Option α := (Sum.casesOn (motive := fun _ => Option α) y (fun a0 => (k (.ret) ⟨[(4, some (.i .i64 a0))], [], 1, 0, 0, 0⟩)) (fun b0 => (k (.exit 0) ⟨[], [], 1, 0, 0, 0⟩)))
theorem outK_ok_circaref13_All_l0 : ∀ α y k, outK_circaref13_All_l0 α y k = k (out_circaref13_All_l0 y).1 (out_circaref13_All_l0 y).2 := by
  intro α y k
  rcases y with y | y <;> rfl
noncomputable def ux_circaref13_All_l0 (ex : Ex) (s : St) : Option (Int ⊕ Unit) := match ex, s with
  | .ret, ⟨[(4, some (.i .i64 y0))], [], 1, 0, 0, 0⟩ => some (.inl y0)
  | .exit 0, ⟨[], [], 1, 0, 0, 0⟩ => some (.inr ())
  | _, _ => none
theorem ux_ok_circaref13_All_l0 : ∀ ex s y, ux_circaref13_All_l0 ex s = some y → (ex, s) = out_circaref13_All_l0 y := by
  intro ex s y h
  unfold ux_circaref13_All_l0 at h
  split at h
  · cases h; rfl
  · cases h; rfl
  · cases h
noncomputable def Ls_circaref13_All (n : Nat) : List Sub := [subE 0 an_circaref13_All_l0 un_circaref13_All_l0 (fun x => iterL (circaref13_All_l0 n) n x) outK_circaref13_All_l0]
noncomputable def sac_circaref13_All_l0 : AC := getS (subs (acOf Tryz.f76)) 0
noncomputable def ac_circaref13_All_l0 : AC := AC.body sac_circaref13_All_l0
theorem subs_circaref13_All_l0 (n : Nat) : SubOK Tryz.prog 31 (Ls_circaref13_All n) ac_circaref13_All_l0 := SubOK_of _ (by
  have e : subs ac_circaref13_All_l0 = [] := by kernel_rfl
  rw [e]; intro p hp; cases hp)
theorem body_circaref13_All_l0 (n : Nat) : ∀ x, run Tryz.prog (Es_circaref13_All n) (Ls_circaref13_All n) 31 ac_circaref13_All_l0 (emb_circaref13_All_l0 x) (roundK an_circaref13_All_l0 un_circaref13_All_l0 ax_circaref13_All_l0 ux_circaref13_All_l0) = circaref13_All_l0 n x := fun _ => by kernel_rfl
theorem sub1_circaref13_All_l0 (n : Nat) : ∀ (α : Type) (s : St) (k : Ex → St → Option α) (z : α), (subE 0 an_circaref13_All_l0 un_circaref13_All_l0 (fun x => iterL (circaref13_All_l0 n) n x) outK_circaref13_All_l0).e α s k = some z → SemC Tryz.prog 31 (sac_circaref13_All_l0).code s fun ex s' => k ex s' = some z := by
  intro α s k z h
  have e : sac_circaref13_All_l0 = .loop ac_circaref13_All_l0 := by kernel_rfl
  rw [e]
  exact subE_ok (m := 0) (f := fun x => iterL (circaref13_All_l0 n) n x) (out := out_circaref13_All_l0) outK_ok_circaref13_All_l0 un_ok_circaref13_All_l0 (fun x y hy => loop_ok (Es_ok_circaref13_All n) (subs_circaref13_All_l0 n) un_ok_circaref13_All_l0 ux_ok_circaref13_All_l0 (body_circaref13_All_l0 n) n x y hy) h
theorem sub_circaref13_All_l0 (n : Nat) : SubSt Tryz.prog 31 (Ls_circaref13_All n) 0 sac_circaref13_All_l0 := fun α s k z => sub1_circaref13_All_l0 n α s k z
theorem subs_circaref13_All (n : Nat) : SubOK Tryz.prog 31 (Ls_circaref13_All n) (acOf Tryz.f76) := SubOK_of _ (by
  have e : subs (acOf Tryz.f76) = [(0, sac_circaref13_All_l0)] := by kernel_rfl
  rw [e]; intro p hp
  simp only [List.mem_cons, List.not_mem_nil, or_false] at hp
  · rw [hp]; exact sub_circaref13_All_l0 n
  )
theorem cert_circaref13_All (n : Nat) (a0 : List Int) (a1 : Int) : run Tryz.prog (Es_circaref13_All n) (Ls_circaref13_All n) Tryz.f76.ntmps (acOf Tryz.f76) ⟨argsT [.ai .u8 3 a0, .i .i64 a1] 0, [], 0, 0, 0, 0⟩ (finK Tryz.prog Tryz.f76.results.toList (retX unr_circaref13_All)) = circaref13_All n a0 a1 := by kernel_rfl
theorem pure_circaref13_All (n : Nat) : ∀ a r, circaref13_All n a.1 a.2 = some r → PureOK Tryz.prog 76 (arg_circaref13_All a) (enc_circaref13_All r) := fun a r h => pureX_ok unr_ok_circaref13_All (Es_ok_circaref13_All n) Tryz.func76 rfl (acOf_code _) (subs_circaref13_All n) rfl ((cert_circaref13_All n a.1 a.2).trans h)
theorem ok_circaref13_All (n : Nat) : EntOK Tryz.prog (e_circaref13_All n) := pureE_ok Tryz.call76 una_ok_circaref13_All (fun _ => rfl) (pure_circaref13_All n)

/-! circa/circaref15.Check -/
noncomputable def arg_circaref15_Check (a : Bool × Bool × List UInt8 × Int × Int × List UInt8 × List UInt8 × Int × Int × Int) : List V := [.ag [.b a.1, .b a.2.1, .s a.2.2.1, .i .i64 a.2.2.2.1, .i .i64 a.2.2.2.2.1, .s a.2.2.2.2.2.1, .s a.2.2.2.2.2.2.1, .i .u8 a.2.2.2.2.2.2.2.1, .i .u8 a.2.2.2.2.2.2.2.2.1, .i .u8 a.2.2.2.2.2.2.2.2.2]]
noncomputable def una_circaref15_Check (l : List V) : Option (Bool × Bool × List UInt8 × Int × Int × List UInt8 × List UInt8 × Int × Int × Int) := match l with
  | [.ag [.b a0, .b a1, .s a2, .i .i64 a3, .i .i64 a4, .s a5, .s a6, .i .u8 a7, .i .u8 a8, .i .u8 a9]] => some (a0, a1, a2, a3, a4, a5, a6, a7, a8, a9)
  | _ => none
theorem una_ok_circaref15_Check : ∀ l a, una_circaref15_Check l = some a → l = arg_circaref15_Check a := by
  intro l a h
  unfold una_circaref15_Check at h
  split at h
  · cases h; rfl
  · cases h
noncomputable def enc_circaref15_Check (r : Int) : V := .i .i64 r
noncomputable def unr_circaref15_Check (v : V) : Option (Int) := match v with
  | .i .i64 r0 => some r0
  | _ => none
theorem unr_ok_circaref15_Check : ∀ v r, unr_circaref15_Check v = some r → v = enc_circaref15_Check r := by
  intro v r h
  unfold unr_circaref15_Check at h
  split at h
  · cases h; rfl
  · cases h
noncomputable def e_circaref15_Check (n : Nat) : Ent := pureE 29 una_circaref15_Check (fun a => circaref15_Check n a.1 a.2.1 a.2.2.1 a.2.2.2.1 a.2.2.2.2.1 a.2.2.2.2.2.1 a.2.2.2.2.2.2.1 a.2.2.2.2.2.2.2.1 a.2.2.2.2.2.2.2.2.1 a.2.2.2.2.2.2.2.2.2) enc_circaref15_Check
noncomputable def t_circaref15_Check (l : List V) (_ : List (Nat × Blk)) : Bool := isS (una_circaref15_Check l)
noncomputable def Es_circaref15_Check (n : Nat) : List Ent := [e_circaref15_year n, e_circaref15_Season n, e_circaref15_Some n, e_circaref15_Components n, e_circaref13_All n]
theorem Es_ok_circaref15_Check (n : Nat) : ∀ x ∈ Es_circaref15_Check n, EntOK Tryz.prog x := by
  intro x hx
  simp only [Es_circaref15_Check, List.mem_cons, List.not_mem_nil, or_false] at hx
  rcases hx with hx | hx | hx | hx | hx
  · rw [hx]; exact ok_circaref15_year n
  · rw [hx]; exact ok_circaref15_Season n
  · rw [hx]; exact ok_circaref15_Some n
  · rw [hx]; exact ok_circaref15_Components n
  · rw [hx]; exact ok_circaref13_All n
noncomputable def Ls_circaref15_Check (_n : Nat) : List Sub := []
theorem subs_circaref15_Check (n : Nat) : SubOK Tryz.prog 44 (Ls_circaref15_Check n) (acOf Tryz.f29) := SubOK_of _ (by
  have e : subs (acOf Tryz.f29) = [] := by kernel_rfl
  rw [e]; intro p hp; cases hp)
theorem cert_circaref15_Check (n : Nat) (a0 : Bool) (a1 : Bool) (a2 : List UInt8) (a3 : Int) (a4 : Int) (a5 : List UInt8) (a6 : List UInt8) (a7 : Int) (a8 : Int) (a9 : Int) : run Tryz.prog (Es_circaref15_Check n) (Ls_circaref15_Check n) Tryz.f29.ntmps (acOf Tryz.f29) ⟨argsT [.ag [.b a0, .b a1, .s a2, .i .i64 a3, .i .i64 a4, .s a5, .s a6, .i .u8 a7, .i .u8 a8, .i .u8 a9]] 0, [], 0, 0, 0, 0⟩ (finK Tryz.prog Tryz.f29.results.toList (retX unr_circaref15_Check)) = circaref15_Check n a0 a1 a2 a3 a4 a5 a6 a7 a8 a9 := by kernel_rfl
theorem pure_circaref15_Check (n : Nat) : ∀ a r, circaref15_Check n a.1 a.2.1 a.2.2.1 a.2.2.2.1 a.2.2.2.2.1 a.2.2.2.2.2.1 a.2.2.2.2.2.2.1 a.2.2.2.2.2.2.2.1 a.2.2.2.2.2.2.2.2.1 a.2.2.2.2.2.2.2.2.2 = some r → PureOK Tryz.prog 29 (arg_circaref15_Check a) (enc_circaref15_Check r) := fun a r h => pureX_ok unr_ok_circaref15_Check (Es_ok_circaref15_Check n) Tryz.func29 rfl (acOf_code _) (subs_circaref15_Check n) rfl ((cert_circaref15_Check n a.1 a.2.1 a.2.2.1 a.2.2.2.1 a.2.2.2.2.1 a.2.2.2.2.2.1 a.2.2.2.2.2.2.1 a.2.2.2.2.2.2.2.1 a.2.2.2.2.2.2.2.2.1 a.2.2.2.2.2.2.2.2.2).trans h)
theorem ok_circaref15_Check (n : Nat) : EntOK Tryz.prog (e_circaref15_Check n) := pureE_ok Tryz.call29 una_ok_circaref15_Check (fun _ => rfl) (pure_circaref15_Check n)

/-! circa/circaref15.Parse -/
noncomputable def arg_circaref15_Parse (a : List UInt8) : List V := [.s a]
noncomputable def una_circaref15_Parse (l : List V) : Option (List UInt8) := match l with
  | [.s a0] => some a0
  | _ => none
theorem una_ok_circaref15_Parse : ∀ l a, una_circaref15_Parse l = some a → l = arg_circaref15_Parse a := by
  intro l a h
  unfold una_circaref15_Parse at h
  split at h
  · cases h; rfl
  · cases h
noncomputable def enc_circaref15_Parse (r : Bool × Bool × List UInt8 × Int × Int × List UInt8 × List UInt8 × Int × Int × Int × Int × Int) : V := .tp [.ag [.b r.1, .b r.2.1, .s r.2.2.1, .i .i64 r.2.2.2.1, .i .i64 r.2.2.2.2.1, .s r.2.2.2.2.2.1, .s r.2.2.2.2.2.2.1, .i .u8 r.2.2.2.2.2.2.2.1, .i .u8 r.2.2.2.2.2.2.2.2.1, .i .u8 r.2.2.2.2.2.2.2.2.2.1], .i .i64 r.2.2.2.2.2.2.2.2.2.2.1, .i .i64 r.2.2.2.2.2.2.2.2.2.2.2]
noncomputable def unr_circaref15_Parse (v : V) : Option (Bool × Bool × List UInt8 × Int × Int × List UInt8 × List UInt8 × Int × Int × Int × Int × Int) := match v with
  | .tp [.ag [.b r0, .b r1, .s r2, .i .i64 r3, .i .i64 r4, .s r5, .s r6, .i .u8 r7, .i .u8 r8, .i .u8 r9], .i .i64 r10, .i .i64 r11] => some (r0, r1, r2, r3, r4, r5, r6, r7, r8, r9, r10, r11)
  | _ => none
theorem unr_ok_circaref15_Parse : ∀ v r, unr_circaref15_Parse v = some r → v = enc_circaref15_Parse r := by
  intro v r h
  unfold unr_circaref15_Parse at h
  split at h
  · cases h; rfl
  · cases h
noncomputable def e_circaref15_Parse (n : Nat) : Ent := pureE 14 una_circaref15_Parse (fun a => circaref15_Parse n a) enc_circaref15_Parse
noncomputable def t_circaref15_Parse (l : List V) (_ : List (Nat × Blk)) : Bool := isS (una_circaref15_Parse l)
noncomputable def Es_circaref15_Parse (n : Nat) : List Ent := [e_circaref15_Read n, e_circaref15_Check n]
theorem Es_ok_circaref15_Parse (n : Nat) : ∀ x ∈ Es_circaref15_Parse n, EntOK Tryz.prog x := by
  intro x hx
  simp only [Es_circaref15_Parse, List.mem_cons, List.not_mem_nil, or_false] at hx
  rcases hx with hx | hx
  · rw [hx]; exact ok_circaref15_Read n
  · rw [hx]; exact ok_circaref15_Check n
noncomputable def Ls_circaref15_Parse (_n : Nat) : List Sub := []
theorem subs_circaref15_Parse (n : Nat) : SubOK Tryz.prog 39 (Ls_circaref15_Parse n) (acOf Tryz.f14) := SubOK_of _ (by
  have e : subs (acOf Tryz.f14) = [] := by kernel_rfl
  rw [e]; intro p hp; cases hp)
theorem cert_circaref15_Parse (n : Nat) (a0 : List UInt8) : run Tryz.prog (Es_circaref15_Parse n) (Ls_circaref15_Parse n) Tryz.f14.ntmps (acOf Tryz.f14) ⟨argsT [.s a0] 0, [], 0, 0, 0, 0⟩ (finK Tryz.prog Tryz.f14.results.toList (retX unr_circaref15_Parse)) = circaref15_Parse n a0 := by kernel_rfl
theorem pure_circaref15_Parse (n : Nat) : ∀ a r, circaref15_Parse n a = some r → PureOK Tryz.prog 14 (arg_circaref15_Parse a) (enc_circaref15_Parse r) := fun a r h => pureX_ok unr_ok_circaref15_Parse (Es_ok_circaref15_Parse n) Tryz.func14 rfl (acOf_code _) (subs_circaref15_Parse n) rfl ((cert_circaref15_Parse n a).trans h)
theorem ok_circaref15_Parse (n : Nat) : EntOK Tryz.prog (e_circaref15_Parse n) := pureE_ok Tryz.call14 una_ok_circaref15_Parse (fun _ => rfl) (pure_circaref15_Parse n)

/-! circa/circaref13.Plain -/
noncomputable def arg_circaref13_Plain (a : List Int × Int) : List V := [.ai .u8 3 a.1, .i .i64 a.2]
noncomputable def una_circaref13_Plain (l : List V) : Option (List Int × Int) := match l with
  | [.ai .u8 3 a0, .i .i64 a1] => some (a0, a1)
  | _ => none
theorem una_ok_circaref13_Plain : ∀ l a, una_circaref13_Plain l = some a → l = arg_circaref13_Plain a := by
  intro l a h
  unfold una_circaref13_Plain at h
  split at h
  · cases h; rfl
  · cases h
noncomputable def enc_circaref13_Plain (r : List Int × List Int) : V := .tp [.ai .u8 3 r.1, .ai .u8 3 r.2]
noncomputable def unr_circaref13_Plain (v : V) : Option (List Int × List Int) := match v with
  | .tp [.ai .u8 3 r0, .ai .u8 3 r1] => some (r0, r1)
  | _ => none
theorem unr_ok_circaref13_Plain : ∀ v r, unr_circaref13_Plain v = some r → v = enc_circaref13_Plain r := by
  intro v r h
  unfold unr_circaref13_Plain at h
  split at h
  · cases h; rfl
  · cases h
noncomputable def e_circaref13_Plain (n : Nat) : Ent := pureE 59 una_circaref13_Plain (fun a => circaref13_Plain n a.1 a.2) enc_circaref13_Plain
noncomputable def t_circaref13_Plain (l : List V) (_ : List (Nat × Blk)) : Bool := isS (una_circaref13_Plain l)
noncomputable def Es_circaref13_Plain (_n : Nat) : List Ent := []
theorem Es_ok_circaref13_Plain (n : Nat) : ∀ x ∈ Es_circaref13_Plain n, EntOK Tryz.prog x := by
  intro x hx
  simp [Es_circaref13_Plain] at hx
noncomputable def an_circaref13_Plain_l0 : Ann := ⟨[1, 2, 4, 5, 6, 7, 8, 9], [0, 1, 2, 3, 4], 5, []⟩
noncomputable def emb_circaref13_Plain_l0 (x : Int × Bool × Int × List Int × List Int × List Int × List Int × List Int) : St := ⟨[(1, some (.i .i64 x.1)), (2, some (.p 0 0)), (4, some (.p 1 0)), (5, some (.p 2 0)), (6, some (.p 3 0)), (7, some (.p 4 0)), (8, some (.b x.2.1)), (9, some (.i .i64 x.2.2.1))], [(0, .ints .u8 3 x.2.2.2.1), (1, .ints .u8 3 x.2.2.2.2.1), (2, .ints .u8 3 x.2.2.2.2.2.1), (3, .ints .u8 3 x.2.2.2.2.2.2.1), (4, .ints .u8 3 x.2.2.2.2.2.2.2)], 5, 0, 0, 0⟩
noncomputable def un_circaref13_Plain_l0 (s : St) : Option (Int × Bool × Int × List Int × List Int × List Int × List Int × List Int) := match s with
  | ⟨[(1, some (.i .i64 x0)), (2, some (.p 0 0)), (4, some (.p 1 0)), (5, some (.p 2 0)), (6, some (.p 3 0)), (7, some (.p 4 0)), (8, some (.b x1)), (9, some (.i .i64 x2))], [(0, .ints .u8 3 x3), (1, .ints .u8 3 x4), (2, .ints .u8 3 x5), (3, .ints .u8 3 x6), (4, .ints .u8 3 x7)], 5, 0, 0, 0⟩ => some (x0, x1, x2, x3, x4, x5, x6, x7)
  | _ => none
theorem un_ok_circaref13_Plain_l0 : ∀ s x, un_circaref13_Plain_l0 s = some x → s = emb_circaref13_Plain_l0 x := by
  intro s x h
  unfold un_circaref13_Plain_l0 at h
  split at h
  · cases h; rfl
  · cases h
noncomputable def ax_circaref13_Plain_l0 : Ex → Ann := fun ex => match ex with
  | .exit 0 => ⟨[1, 2, 4, 5, 6, 7, 8], [0, 1, 2, 3, 4], 5, []⟩
  | _ => ⟨[], [], 0, []⟩
noncomputable def out_circaref13_Plain_l0 (y : (Int × Bool × List Int × List Int × List Int × List Int × List Int)) : Ex × St := (.exit 0, ⟨[(1, some (.i .i64 y.1)), (2, some (.p 0 0)), (4, some (.p 1 0)), (5, some (.p 2 0)), (6, some (.p 3 0)), (7, some (.p 4 0)), (8, some (.b y.2.1))], [(0, .ints .u8 3 y.2.2.1), (1, .ints .u8 3 y.2.2.2.1), (2, .ints .u8 3 y.2.2.2.2.1), (3, .ints .u8 3 y.2.2.2.2.2.1), (4, .ints .u8 3 y.2.2.2.2.2.2)], 5, 0, 0, 0⟩)
noncomputable def outK_circaref13_Plain_l0 (α : Type) (y : (Int × Bool × List Int × List Int × List Int × List Int × List Int)) (k : Ex → St → Option α) : Option α := (k (.exit 0) ⟨[(1, some (.i .i64 y.1)), (2, some (.p 0 0)), (4, some (.p 1 0)), (5, some (.p 2 0)), (6, some (.p 3 0)), (7, some (.p 4 0)), (8, some (.b y.2.1))], [(0, .ints .u8 3 y.2.2.1), (1, .ints .u8 3 y.2.2.2.1), (2, .ints .u8 3 y.2.2.2.2.1), (3, .ints .u8 3 y.2.2.2.2.2.1), (4, .ints .u8 3 y.2.2.2.2.2.2)], 5, 0, 0, 0⟩)
theorem outK_ok_circaref13_Plain_l0 : ∀ α y k, outK_circaref13_Plain_l0 α y k = k (out_circaref13_Plain_l0 y).1 (out_circaref13_Plain_l0 y).2 := by
  intro α y k
  rfl
noncomputable def ux_circaref13_Plain_l0 (ex : Ex) (s : St) : Option ((Int × Bool × List Int × List Int × List Int × List Int × List Int)) := match ex, s with
  | .exit 0, ⟨[(1, some (.i .i64 y0)), (2, some (.p 0 0)), (4, some (.p 1 0)), (5, some (.p 2 0)), (6, some (.p 3 0)), (7, some (.p 4 0)), (8, some (.b y1))], [(0, .ints .u8 3 y2), (1, .ints .u8 3 y3), (2, .ints .u8 3 y4), (3, .ints .u8 3 y5), (4, .ints .u8 3 y6)], 5, 0, 0, 0⟩ => some (y0, y1, y2, y3, y4, y5, y6)
  | _, _ => none
theorem ux_ok_circaref13_Plain_l0 : ∀ ex s y, ux_circaref13_Plain_l0 ex s = some y → (ex, s) = out_circaref13_Plain_l0 y := by
  intro ex s y h
  unfold ux_circaref13_Plain_l0 at h
  split at h
  · cases h; rfl
  · cases h
noncomputable def an_circaref13_Plain_l1 : Ann := ⟨[1, 2, 4, 5, 6, 7, 10], [0, 1, 2, 3, 4], 5, []⟩
noncomputable def emb_circaref13_Plain_l1 (x : Int × Int × List Int × List Int × List Int × List Int × List Int) : St := ⟨[(1, some (.i .i64 x.1)), (2, some (.p 0 0)), (4, some (.p 1 0)), (5, some (.p 2 0)), (6, some (.p 3 0)), (7, some (.p 4 0)), (10, some (.i .i64 x.2.1))], [(0, .ints .u8 3 x.2.2.1), (1, .ints .u8 3 x.2.2.2.1), (2, .ints .u8 3 x.2.2.2.2.1), (3, .ints .u8 3 x.2.2.2.2.2.1), (4, .ints .u8 3 x.2.2.2.2.2.2)], 5, 0, 0, 0⟩
noncomputable def un_circaref13_Plain_l1 (s : St) : Option (Int × Int × List Int × List Int × List Int × List Int × List Int) := match s with
  | ⟨[(1, some (.i .i64 x0)), (2, some (.p 0 0)), (4, some (.p 1 0)), (5, some (.p 2 0)), (6, some (.p 3 0)), (7, some (.p 4 0)), (10, some (.i .i64 x1))], [(0, .ints .u8 3 x2), (1, .ints .u8 3 x3), (2, .ints .u8 3 x4), (3, .ints .u8 3 x5), (4, .ints .u8 3 x6)], 5, 0, 0, 0⟩ => some (x0, x1, x2, x3, x4, x5, x6)
  | _ => none
theorem un_ok_circaref13_Plain_l1 : ∀ s x, un_circaref13_Plain_l1 s = some x → s = emb_circaref13_Plain_l1 x := by
  intro s x h
  unfold un_circaref13_Plain_l1 at h
  split at h
  · cases h; rfl
  · cases h
noncomputable def ax_circaref13_Plain_l1 : Ex → Ann := fun ex => match ex with
  | .exit 2 => ⟨[4, 5, 6, 7], [1, 2, 3, 4], 5, []⟩
  | _ => ⟨[], [], 0, []⟩
noncomputable def out_circaref13_Plain_l1 (y : (List Int × List Int × List Int × List Int)) : Ex × St := (.exit 2, ⟨[(4, some (.p 1 0)), (5, some (.p 2 0)), (6, some (.p 3 0)), (7, some (.p 4 0))], [(1, .ints .u8 3 y.1), (2, .ints .u8 3 y.2.1), (3, .ints .u8 3 y.2.2.1), (4, .ints .u8 3 y.2.2.2)], 5, 0, 0, 0⟩)
noncomputable def outK_circaref13_Plain_l1 (α : Type) (y : (List Int × List Int × List Int × List Int)) (k : Ex → St → Option α) : Option α := (k (.exit 2) ⟨[(4, some (.p 1 0)), (5, some (.p 2 0)), (6, some (.p 3 0)), (7, some (.p 4 0))], [(1, .ints .u8 3 y.1), (2, .ints .u8 3 y.2.1), (3, .ints .u8 3 y.2.2.1), (4, .ints .u8 3 y.2.2.2)], 5, 0, 0, 0⟩)
theorem outK_ok_circaref13_Plain_l1 : ∀ α y k, outK_circaref13_Plain_l1 α y k = k (out_circaref13_Plain_l1 y).1 (out_circaref13_Plain_l1 y).2 := by
  intro α y k
  rfl
noncomputable def ux_circaref13_Plain_l1 (ex : Ex) (s : St) : Option ((List Int × List Int × List Int × List Int)) := match ex, s with
  | .exit 2, ⟨[(4, some (.p 1 0)), (5, some (.p 2 0)), (6, some (.p 3 0)), (7, some (.p 4 0))], [(1, .ints .u8 3 y0), (2, .ints .u8 3 y1), (3, .ints .u8 3 y2), (4, .ints .u8 3 y3)], 5, 0, 0, 0⟩ => some (y0, y1, y2, y3)
  | _, _ => none
theorem ux_ok_circaref13_Plain_l1 : ∀ ex s y, ux_circaref13_Plain_l1 ex s = some y → (ex, s) = out_circaref13_Plain_l1 y := by
  intro ex s y h
  unfold ux_circaref13_Plain_l1 at h
  split at h
  · cases h; rfl
  · cases h
noncomputable def Ls_circaref13_Plain (n : Nat) : List Sub := [subE 0 an_circaref13_Plain_l0 un_circaref13_Plain_l0 (fun x => iterL (circaref13_Plain_l0 n) n x) outK_circaref13_Plain_l0, subE 1 an_circaref13_Plain_l1 un_circaref13_Plain_l1 (fun x => iterL (circaref13_Plain_l1 n) n x) outK_circaref13_Plain_l1]
noncomputable def sac_circaref13_Plain_l0 : AC := getS (subs (acOf Tryz.f59)) 0
noncomputable def ac_circaref13_Plain_l0 : AC := AC.body sac_circaref13_Plain_l0
theorem subs_circaref13_Plain_l0 (n : Nat) : SubOK Tryz.prog 45 (Ls_circaref13_Plain n) ac_circaref13_Plain_l0 := SubOK_of _ (by
  have e : subs ac_circaref13_Plain_l0 = [] := by kernel_rfl
  rw [e]; intro p hp; cases hp)
theorem body_circaref13_Plain_l0 (n : Nat) : ∀ x, run Tryz.prog (Es_circaref13_Plain n) (Ls_circaref13_Plain n) 45 ac_circaref13_Plain_l0 (emb_circaref13_Plain_l0 x) (roundK an_circaref13_Plain_l0 un_circaref13_Plain_l0 ax_circaref13_Plain_l0 ux_circaref13_Plain_l0) = circaref13_Plain_l0 n x := fun _ => by kernel_rfl
theorem sub1_circaref13_Plain_l0 (n : Nat) : ∀ (α : Type) (s : St) (k : Ex → St → Option α) (z : α), (subE 0 an_circaref13_Plain_l0 un_circaref13_Plain_l0 (fun x => iterL (circaref13_Plain_l0 n) n x) outK_circaref13_Plain_l0).e α s k = some z → SemC Tryz.prog 45 (sac_circaref13_Plain_l0).code s fun ex s' => k ex s' = some z := by
  intro α s k z h
  have e : sac_circaref13_Plain_l0 = .loop ac_circaref13_Plain_l0 := by kernel_rfl
  rw [e]
  exact subE_ok (m := 0) (f := fun x => iterL (circaref13_Plain_l0 n) n x) (out := out_circaref13_Plain_l0) outK_ok_circaref13_Plain_l0 un_ok_circaref13_Plain_l0 (fun x y hy => loop_ok (Es_ok_circaref13_Plain n) (subs_circaref13_Plain_l0 n) un_ok_circaref13_Plain_l0 ux_ok_circaref13_Plain_l0 (body_circaref13_Plain_l0 n) n x y hy) h
theorem sub_circaref13_Plain_l0 (n : Nat) : SubSt Tryz.prog 45 (Ls_circaref13_Plain n) 0 sac_circaref13_Plain_l0 := fun α s k z => sub1_circaref13_Plain_l0 n α s k z
noncomputable def sac_circaref13_Plain_l1 : AC := getS (subs (acOf Tryz.f59)) 1
noncomputable def ac_circaref13_Plain_l1 : AC := AC.body sac_circaref13_Plain_l1
theorem subs_circaref13_Plain_l1 (n : Nat) : SubOK Tryz.prog 45 (Ls_circaref13_Plain n) ac_circaref13_Plain_l1 := SubOK_of _ (by
  have e : subs ac_circaref13_Plain_l1 = [] := by kernel_rfl
  rw [e]; intro p hp; cases hp)
theorem body_circaref13_Plain_l1 (n : Nat) : ∀ x, run Tryz.prog (Es_circaref13_Plain n) (Ls_circaref13_Plain n) 45 ac_circaref13_Plain_l1 (emb_circaref13_Plain_l1 x) (roundK an_circaref13_Plain_l1 un_circaref13_Plain_l1 ax_circaref13_Plain_l1 ux_circaref13_Plain_l1) = circaref13_Plain_l1 n x := fun _ => by kernel_rfl
theorem sub1_circaref13_Plain_l1 (n : Nat) : ∀ (α : Type) (s : St) (k : Ex → St → Option α) (z : α), (subE 1 an_circaref13_Plain_l1 un_circaref13_Plain_l1 (fun x => iterL (circaref13_Plain_l1 n) n x) outK_circaref13_Plain_l1).e α s k = some z → SemC Tryz.prog 45 (sac_circaref13_Plain_l1).code s fun ex s' => k ex s' = some z := by
  intro α s k z h
  have e : sac_circaref13_Plain_l1 = .loop ac_circaref13_Plain_l1 := by kernel_rfl
  rw [e]
  exact subE_ok (m := 1) (f := fun x => iterL (circaref13_Plain_l1 n) n x) (out := out_circaref13_Plain_l1) outK_ok_circaref13_Plain_l1 un_ok_circaref13_Plain_l1 (fun x y hy => loop_ok (Es_ok_circaref13_Plain n) (subs_circaref13_Plain_l1 n) un_ok_circaref13_Plain_l1 ux_ok_circaref13_Plain_l1 (body_circaref13_Plain_l1 n) n x y hy) h
theorem sub_circaref13_Plain_l1 (n : Nat) : SubSt Tryz.prog 45 (Ls_circaref13_Plain n) 1 sac_circaref13_Plain_l1 := fun α s k z => sub1_circaref13_Plain_l1 n α s k z
theorem subs_circaref13_Plain (n : Nat) : SubOK Tryz.prog 45 (Ls_circaref13_Plain n) (acOf Tryz.f59) := SubOK_of _ (by
  have e : subs (acOf Tryz.f59) = [(0, sac_circaref13_Plain_l0), (1, sac_circaref13_Plain_l1)] := by kernel_rfl
  rw [e]; intro p hp
  simp only [List.mem_cons, List.not_mem_nil, or_false] at hp
  rcases hp with hp | hp
  · rw [hp]; exact sub_circaref13_Plain_l0 n
  · rw [hp]; exact sub_circaref13_Plain_l1 n
  )
theorem cert_circaref13_Plain (n : Nat) (a0 : List Int) (a1 : Int) : run Tryz.prog (Es_circaref13_Plain n) (Ls_circaref13_Plain n) Tryz.f59.ntmps (acOf Tryz.f59) ⟨argsT [.ai .u8 3 a0, .i .i64 a1] 0, [], 0, 0, 0, 0⟩ (finK Tryz.prog Tryz.f59.results.toList (retX unr_circaref13_Plain)) = circaref13_Plain n a0 a1 := by kernel_rfl
theorem pure_circaref13_Plain (n : Nat) : ∀ a r, circaref13_Plain n a.1 a.2 = some r → PureOK Tryz.prog 59 (arg_circaref13_Plain a) (enc_circaref13_Plain r) := fun a r h => pureX_ok unr_ok_circaref13_Plain (Es_ok_circaref13_Plain n) Tryz.func59 rfl (acOf_code _) (subs_circaref13_Plain n) rfl ((cert_circaref13_Plain n a.1 a.2).trans h)
theorem ok_circaref13_Plain (n : Nat) : EntOK Tryz.prog (e_circaref13_Plain n) := pureE_ok Tryz.call59 una_ok_circaref13_Plain (fun _ => rfl) (pure_circaref13_Plain n)

/-! circa/circaref14.Decimal -/
noncomputable def arg_circaref14_Decimal (a : Int) : List V := [.i .i64 a]
noncomputable def una_circaref14_Decimal (l : List V) : Option (Int) := match l with
  | [.i .i64 a0] => some a0
  | _ => none
theorem una_ok_circaref14_Decimal : ∀ l a, una_circaref14_Decimal l = some a → l = arg_circaref14_Decimal a := by
  intro l a h
  unfold una_circaref14_Decimal at h
  split at h
  · cases h; rfl
  · cases h
noncomputable def enc_circaref14_Decimal (r : List UInt8) : V := .s r
noncomputable def unr_circaref14_Decimal (v : V) : Option (List UInt8) := match v with
  | .s r0 => some r0
  | _ => none
theorem unr_ok_circaref14_Decimal : ∀ v r, unr_circaref14_Decimal v = some r → v = enc_circaref14_Decimal r := by
  intro v r h
  unfold unr_circaref14_Decimal at h
  split at h
  · cases h; rfl
  · cases h
noncomputable def e_circaref14_Decimal (n : Nat) : Ent := pureE 125 una_circaref14_Decimal (fun a => circaref14_Decimal n a) enc_circaref14_Decimal
noncomputable def t_circaref14_Decimal (l : List V) (_ : List (Nat × Blk)) : Bool := isS (una_circaref14_Decimal l)
noncomputable def Es_circaref14_Decimal (_n : Nat) : List Ent := []
theorem Es_ok_circaref14_Decimal (n : Nat) : ∀ x ∈ Es_circaref14_Decimal n, EntOK Tryz.prog x := by
  intro x hx
  simp [Es_circaref14_Decimal] at hx
noncomputable def Ls_circaref14_Decimal (_n : Nat) : List Sub := []
theorem subs_circaref14_Decimal (n : Nat) : SubOK Tryz.prog 21 (Ls_circaref14_Decimal n) (acOf Tryz.f125) := SubOK_of _ (by
  have e : subs (acOf Tryz.f125) = [] := by kernel_rfl
  rw [e]; intro p hp; cases hp)
theorem cert_circaref14_Decimal (n : Nat) (a0 : Int) : run Tryz.prog (Es_circaref14_Decimal n) (Ls_circaref14_Decimal n) Tryz.f125.ntmps (acOf Tryz.f125) ⟨argsT [.i .i64 a0] 0, [], 0, 0, 0, 0⟩ (finK Tryz.prog Tryz.f125.results.toList (retX unr_circaref14_Decimal)) = circaref14_Decimal n a0 := by kernel_rfl
theorem pure_circaref14_Decimal (n : Nat) : ∀ a r, circaref14_Decimal n a = some r → PureOK Tryz.prog 125 (arg_circaref14_Decimal a) (enc_circaref14_Decimal r) := fun a r h => pureX_ok unr_ok_circaref14_Decimal (Es_ok_circaref14_Decimal n) Tryz.func125 rfl (acOf_code _) (subs_circaref14_Decimal n) rfl ((cert_circaref14_Decimal n a).trans h)
theorem ok_circaref14_Decimal (n : Nat) : EntOK Tryz.prog (e_circaref14_Decimal n) := pureE_ok Tryz.call125 una_ok_circaref14_Decimal (fun _ => rfl) (pure_circaref14_Decimal n)

/-! circa/circaref14.Text -/
noncomputable def arg_circaref14_Text (a : Bool × Bool × List UInt8 × Int × Int) : List V := [.ag [.b a.1, .b a.2.1, .s a.2.2.1, .i .i64 a.2.2.2.1, .i .i64 a.2.2.2.2]]
noncomputable def una_circaref14_Text (l : List V) : Option (Bool × Bool × List UInt8 × Int × Int) := match l with
  | [.ag [.b a0, .b a1, .s a2, .i .i64 a3, .i .i64 a4]] => some (a0, a1, a2, a3, a4)
  | _ => none
theorem una_ok_circaref14_Text : ∀ l a, una_circaref14_Text l = some a → l = arg_circaref14_Text a := by
  intro l a h
  unfold una_circaref14_Text at h
  split at h
  · cases h; rfl
  · cases h
noncomputable def enc_circaref14_Text (r : List UInt8) : V := .s r
noncomputable def unr_circaref14_Text (v : V) : Option (List UInt8) := match v with
  | .s r0 => some r0
  | _ => none
theorem unr_ok_circaref14_Text : ∀ v r, unr_circaref14_Text v = some r → v = enc_circaref14_Text r := by
  intro v r h
  unfold unr_circaref14_Text at h
  split at h
  · cases h; rfl
  · cases h
noncomputable def e_circaref14_Text (n : Nat) : Ent := pureE 61 una_circaref14_Text (fun a => circaref14_Text n a.1 a.2.1 a.2.2.1 a.2.2.2.1 a.2.2.2.2) enc_circaref14_Text
noncomputable def t_circaref14_Text (l : List V) (_ : List (Nat × Blk)) : Bool := isS (una_circaref14_Text l)
noncomputable def Es_circaref14_Text (n : Nat) : List Ent := [e_circaref14_Decimal n]
theorem Es_ok_circaref14_Text (n : Nat) : ∀ x ∈ Es_circaref14_Text n, EntOK Tryz.prog x := by
  intro x hx
  simp only [Es_circaref14_Text, List.mem_cons, List.not_mem_nil, or_false] at hx
  · rw [hx]; exact ok_circaref14_Decimal n
noncomputable def Ls_circaref14_Text (_n : Nat) : List Sub := []
theorem subs_circaref14_Text (n : Nat) : SubOK Tryz.prog 33 (Ls_circaref14_Text n) (acOf Tryz.f61) := SubOK_of _ (by
  have e : subs (acOf Tryz.f61) = [] := by kernel_rfl
  rw [e]; intro p hp; cases hp)
theorem cert_circaref14_Text (n : Nat) (a0 : Bool) (a1 : Bool) (a2 : List UInt8) (a3 : Int) (a4 : Int) : run Tryz.prog (Es_circaref14_Text n) (Ls_circaref14_Text n) Tryz.f61.ntmps (acOf Tryz.f61) ⟨argsT [.ag [.b a0, .b a1, .s a2, .i .i64 a3, .i .i64 a4]] 0, [], 0, 0, 0, 0⟩ (finK Tryz.prog Tryz.f61.results.toList (retX unr_circaref14_Text)) = circaref14_Text n a0 a1 a2 a3 a4 := by kernel_rfl
theorem pure_circaref14_Text (n : Nat) : ∀ a r, circaref14_Text n a.1 a.2.1 a.2.2.1 a.2.2.2.1 a.2.2.2.2 = some r → PureOK Tryz.prog 61 (arg_circaref14_Text a) (enc_circaref14_Text r) := fun a r h => pureX_ok unr_ok_circaref14_Text (Es_ok_circaref14_Text n) Tryz.func61 rfl (acOf_code _) (subs_circaref14_Text n) rfl ((cert_circaref14_Text n a.1 a.2.1 a.2.2.1 a.2.2.2.1 a.2.2.2.2).trans h)
theorem ok_circaref14_Text (n : Nat) : EntOK Tryz.prog (e_circaref14_Text n) := pureE_ok Tryz.call61 una_ok_circaref14_Text (fun _ => rfl) (pure_circaref14_Text n)

/-! circa/circaref15.Text -/
noncomputable def arg_circaref15_Text (a : Bool × Bool × List UInt8 × Int × Int × List UInt8 × List UInt8 × Int × Int × Int) : List V := [.ag [.b a.1, .b a.2.1, .s a.2.2.1, .i .i64 a.2.2.2.1, .i .i64 a.2.2.2.2.1, .s a.2.2.2.2.2.1, .s a.2.2.2.2.2.2.1, .i .u8 a.2.2.2.2.2.2.2.1, .i .u8 a.2.2.2.2.2.2.2.2.1, .i .u8 a.2.2.2.2.2.2.2.2.2]]
noncomputable def una_circaref15_Text (l : List V) : Option (Bool × Bool × List UInt8 × Int × Int × List UInt8 × List UInt8 × Int × Int × Int) := match l with
  | [.ag [.b a0, .b a1, .s a2, .i .i64 a3, .i .i64 a4, .s a5, .s a6, .i .u8 a7, .i .u8 a8, .i .u8 a9]] => some (a0, a1, a2, a3, a4, a5, a6, a7, a8, a9)
  | _ => none
theorem una_ok_circaref15_Text : ∀ l a, una_circaref15_Text l = some a → l = arg_circaref15_Text a := by
  intro l a h
  unfold una_circaref15_Text at h
  split at h
  · cases h; rfl
  · cases h
noncomputable def enc_circaref15_Text (r : List UInt8) : V := .s r
noncomputable def unr_circaref15_Text (v : V) : Option (List UInt8) := match v with
  | .s r0 => some r0
  | _ => none
theorem unr_ok_circaref15_Text : ∀ v r, unr_circaref15_Text v = some r → v = enc_circaref15_Text r := by
  intro v r h
  unfold unr_circaref15_Text at h
  split at h
  · cases h; rfl
  · cases h
noncomputable def e_circaref15_Text (n : Nat) : Ent := pureE 17 una_circaref15_Text (fun a => circaref15_Text n a.1 a.2.1 a.2.2.1 a.2.2.2.1 a.2.2.2.2.1 a.2.2.2.2.2.1 a.2.2.2.2.2.2.1 a.2.2.2.2.2.2.2.1 a.2.2.2.2.2.2.2.2.1 a.2.2.2.2.2.2.2.2.2) enc_circaref15_Text
noncomputable def t_circaref15_Text (l : List V) (_ : List (Nat × Blk)) : Bool := isS (una_circaref15_Text l)
noncomputable def Es_circaref15_Text (n : Nat) : List Ent := [e_circaref15_Components n, e_circaref13_Plain n, e_circaref13_Text n, e_circaref14_Text n]
theorem Es_ok_circaref15_Text (n : Nat) : ∀ x ∈ Es_circaref15_Text n, EntOK Tryz.prog x := by
  intro x hx
  simp only [Es_circaref15_Text, List.mem_cons, List.not_mem_nil, or_false] at hx
  rcases hx with hx | hx | hx | hx
  · rw [hx]; exact ok_circaref15_Components n
  · rw [hx]; exact ok_circaref13_Plain n
  · rw [hx]; exact ok_circaref13_Text n
  · rw [hx]; exact ok_circaref14_Text n
noncomputable def Ls_circaref15_Text (_n : Nat) : List Sub := []
theorem subs_circaref15_Text (n : Nat) : SubOK Tryz.prog 58 (Ls_circaref15_Text n) (acOf Tryz.f17) := SubOK_of _ (by
  have e : subs (acOf Tryz.f17) = [] := by kernel_rfl
  rw [e]; intro p hp; cases hp)
theorem cert_circaref15_Text (n : Nat) (a0 : Bool) (a1 : Bool) (a2 : List UInt8) (a3 : Int) (a4 : Int) (a5 : List UInt8) (a6 : List UInt8) (a7 : Int) (a8 : Int) (a9 : Int) : run Tryz.prog (Es_circaref15_Text n) (Ls_circaref15_Text n) Tryz.f17.ntmps (acOf Tryz.f17) ⟨argsT [.ag [.b a0, .b a1, .s a2, .i .i64 a3, .i .i64 a4, .s a5, .s a6, .i .u8 a7, .i .u8 a8, .i .u8 a9]] 0, [], 0, 0, 0, 0⟩ (finK Tryz.prog Tryz.f17.results.toList (retX unr_circaref15_Text)) = circaref15_Text n a0 a1 a2 a3 a4 a5 a6 a7 a8 a9 := by kernel_rfl
theorem pure_circaref15_Text (n : Nat) : ∀ a r, circaref15_Text n a.1 a.2.1 a.2.2.1 a.2.2.2.1 a.2.2.2.2.1 a.2.2.2.2.2.1 a.2.2.2.2.2.2.1 a.2.2.2.2.2.2.2.1 a.2.2.2.2.2.2.2.2.1 a.2.2.2.2.2.2.2.2.2 = some r → PureOK Tryz.prog 17 (arg_circaref15_Text a) (enc_circaref15_Text r) := fun a r h => pureX_ok unr_ok_circaref15_Text (Es_ok_circaref15_Text n) Tryz.func17 rfl (acOf_code _) (subs_circaref15_Text n) rfl ((cert_circaref15_Text n a.1 a.2.1 a.2.2.1 a.2.2.2.1 a.2.2.2.2.1 a.2.2.2.2.2.1 a.2.2.2.2.2.2.1 a.2.2.2.2.2.2.2.1 a.2.2.2.2.2.2.2.2.1 a.2.2.2.2.2.2.2.2.2).trans h)
theorem ok_circaref15_Text (n : Nat) : EntOK Tryz.prog (e_circaref15_Text n) := pureE_ok Tryz.call17 una_ok_circaref15_Text (fun _ => rfl) (pure_circaref15_Text n)

/-! circa/circalaw15.DateformsParse -/
noncomputable def arg_circalaw15_DateformsParse (a : List UInt8) : List V := [.s a]
noncomputable def una_circalaw15_DateformsParse (l : List V) : Option (List UInt8) := match l with
  | [.s a0] => some a0
  | _ => none
theorem una_ok_circalaw15_DateformsParse : ∀ l a, una_circalaw15_DateformsParse l = some a → l = arg_circalaw15_DateformsParse a := by
  intro l a h
  unfold una_circalaw15_DateformsParse at h
  split at h
  · cases h; rfl
  · cases h
noncomputable def enc_circalaw15_DateformsParse (r : Bool) : V := .b r
noncomputable def unr_circalaw15_DateformsParse (v : V) : Option (Bool) := match v with
  | .b r0 => some r0
  | _ => none
theorem unr_ok_circalaw15_DateformsParse : ∀ v r, unr_circalaw15_DateformsParse v = some r → v = enc_circalaw15_DateformsParse r := by
  intro v r h
  unfold unr_circalaw15_DateformsParse at h
  split at h
  · cases h; rfl
  · cases h
noncomputable def e_circalaw15_DateformsParse (n : Nat) : Ent := pureE 3 una_circalaw15_DateformsParse (fun a => circalaw15_DateformsParse n a) enc_circalaw15_DateformsParse
noncomputable def t_circalaw15_DateformsParse (l : List V) (_ : List (Nat × Blk)) : Bool := isS (una_circalaw15_DateformsParse l)
noncomputable def Es_circalaw15_DateformsParse (n : Nat) : List Ent := [e_circalaw15_lives n, e_dateforms_Parse n, e_circaref15_Parse n, e_dateforms_Text n, e_dateforms_Check n, e_circaref15_Text n]
theorem Es_ok_circalaw15_DateformsParse (n : Nat) : ∀ x ∈ Es_circalaw15_DateformsParse n, EntOK Tryz.prog x := by
  intro x hx
  simp only [Es_circalaw15_DateformsParse, List.mem_cons, List.not_mem_nil, or_false] at hx
  rcases hx with hx | hx | hx | hx | hx | hx
  · rw [hx]; exact ok_circalaw15_lives n
  · rw [hx]; exact ok_dateforms_Parse n
  · rw [hx]; exact ok_circaref15_Parse n
  · rw [hx]; exact ok_dateforms_Text n
  · rw [hx]; exact ok_dateforms_Check n
  · rw [hx]; exact ok_circaref15_Text n
noncomputable def Ls_circalaw15_DateformsParse (_n : Nat) : List Sub := []
theorem subs_circalaw15_DateformsParse (n : Nat) : SubOK Tryz.prog 86 (Ls_circalaw15_DateformsParse n) (acOf Tryz.f3) := SubOK_of _ (by
  have e : subs (acOf Tryz.f3) = [] := by kernel_rfl
  rw [e]; intro p hp; cases hp)
theorem cert_circalaw15_DateformsParse (n : Nat) (a0 : List UInt8) : run Tryz.prog (Es_circalaw15_DateformsParse n) (Ls_circalaw15_DateformsParse n) Tryz.f3.ntmps (acOf Tryz.f3) ⟨argsT [.s a0] 0, [], 0, 0, 0, 0⟩ (finK Tryz.prog Tryz.f3.results.toList (retX unr_circalaw15_DateformsParse)) = circalaw15_DateformsParse n a0 := by kernel_rfl
theorem pure_circalaw15_DateformsParse (n : Nat) : ∀ a r, circalaw15_DateformsParse n a = some r → PureOK Tryz.prog 3 (arg_circalaw15_DateformsParse a) (enc_circalaw15_DateformsParse r) := fun a r h => pureX_ok unr_ok_circalaw15_DateformsParse (Es_ok_circalaw15_DateformsParse n) Tryz.func3 rfl (acOf_code _) (subs_circalaw15_DateformsParse n) rfl ((cert_circalaw15_DateformsParse n a).trans h)
theorem ok_circalaw15_DateformsParse (n : Nat) : EntOK Tryz.prog (e_circalaw15_DateformsParse n) := pureE_ok Tryz.call3 una_ok_circalaw15_DateformsParse (fun _ => rfl) (pure_circalaw15_DateformsParse n)

/-! circa/circalaw15.DateformsKnown -/
noncomputable def arg_circalaw15_DateformsKnown (_a : Unit) : List V := []
noncomputable def una_circalaw15_DateformsKnown (l : List V) : Option (Unit) := match l with
  | [] => some ()
  | _ => none
theorem una_ok_circalaw15_DateformsKnown : ∀ l a, una_circalaw15_DateformsKnown l = some a → l = arg_circalaw15_DateformsKnown a := by
  intro l a h
  unfold una_circalaw15_DateformsKnown at h
  split at h
  · cases h; rfl
  · cases h
noncomputable def enc_circalaw15_DateformsKnown (r : Bool) : V := .b r
noncomputable def unr_circalaw15_DateformsKnown (v : V) : Option (Bool) := match v with
  | .b r0 => some r0
  | _ => none
theorem unr_ok_circalaw15_DateformsKnown : ∀ v r, unr_circalaw15_DateformsKnown v = some r → v = enc_circalaw15_DateformsKnown r := by
  intro v r h
  unfold unr_circalaw15_DateformsKnown at h
  split at h
  · cases h; rfl
  · cases h
noncomputable def e_circalaw15_DateformsKnown (n : Nat) : Ent := pureE 6 una_circalaw15_DateformsKnown (fun _a => circalaw15_DateformsKnown n) enc_circalaw15_DateformsKnown
noncomputable def t_circalaw15_DateformsKnown (l : List V) (_ : List (Nat × Blk)) : Bool := isS (una_circalaw15_DateformsKnown l)
noncomputable def Es_circalaw15_DateformsKnown (n : Nat) : List Ent := [e_circalaw15_DateformsParse n, e_circaref15_Two n, e_dateforms_Parse n, e_circalaw15_lives n]
theorem Es_ok_circalaw15_DateformsKnown (n : Nat) : ∀ x ∈ Es_circalaw15_DateformsKnown n, EntOK Tryz.prog x := by
  intro x hx
  simp only [Es_circalaw15_DateformsKnown, List.mem_cons, List.not_mem_nil, or_false] at hx
  rcases hx with hx | hx | hx | hx
  · rw [hx]; exact ok_circalaw15_DateformsParse n
  · rw [hx]; exact ok_circaref15_Two n
  · rw [hx]; exact ok_dateforms_Parse n
  · rw [hx]; exact ok_circalaw15_lives n
noncomputable def an_circalaw15_DateformsKnown_l1 : Ann := ⟨[1, 2, 3], [], 0, []⟩
noncomputable def emb_circalaw15_DateformsKnown_l1 (x : List UInt8 × Int × Int) : St := ⟨[(1, some (.s x.1)), (2, some (.i .i64 x.2.1)), (3, some (.i .i64 x.2.2))], [], 0, 0, 0, 0⟩
noncomputable def un_circalaw15_DateformsKnown_l1 (s : St) : Option (List UInt8 × Int × Int) := match s with
  | ⟨[(1, some (.s x0)), (2, some (.i .i64 x1)), (3, some (.i .i64 x2))], [], 0, 0, 0, 0⟩ => some (x0, x1, x2)
  | _ => none
theorem un_ok_circalaw15_DateformsKnown_l1 : ∀ s x, un_circalaw15_DateformsKnown_l1 s = some x → s = emb_circalaw15_DateformsKnown_l1 x := by
  intro s x h
  unfold un_circalaw15_DateformsKnown_l1 at h
  split at h
  · cases h; rfl
  · cases h
noncomputable def ax_circalaw15_DateformsKnown_l1 : Ex → Ann := fun ex => match ex with
  | .ret => ⟨[0], [], 0, []⟩
  | .exit 2 => ⟨[1, 2], [], 0, []⟩
  | _ => ⟨[], [], 0, []⟩
noncomputable def out_circalaw15_DateformsKnown_l1 (y : Bool ⊕ (List UInt8 × Int)) : Ex × St := (Sum.casesOn (motive := fun _ => Ex × St) y (fun a0 => (.ret, ⟨[(0, some (.b a0))], [], 0, 0, 0, 0⟩)) (fun b0 => (.exit 2, ⟨[(1, some (.s b0.1)), (2, some (.i .i64 b0.2))], [], 0, 0, 0, 0⟩)))
noncomputable def outK_circalaw15_DateformsKnown_l1 (α : Type) (y : Bool ⊕ (List UInt8 × Int)) (k : Ex → St → Option α) : Option α := (Sum.casesOn (motive := fun _ => Option α) y (fun a0 => (k (.ret) ⟨[(0, some (.b a0))], [], 0, 0, 0, 0⟩)) (fun b0 => (k (.exit 2) ⟨[(1, some (.s b0.1)), (2, some (.i .i64 b0.2))], [], 0, 0, 0, 0⟩)))
theorem outK_ok_circalaw15_DateformsKnown_l1 : ∀ α y k, outK_circalaw15_DateformsKnown_l1 α y k = k (out_circalaw15_DateformsKnown_l1 y).1 (out_circalaw15_DateformsKnown_l1 y).2 := by
  intro α y k
  rcases y with y | y <;> rfl
noncomputable def ux_circalaw15_DateformsKnown_l1 (ex : Ex) (s : St) : Option (Bool ⊕ (List UInt8 × Int)) := match ex, s with
  | .ret, ⟨[(0, some (.b y0))], [], 0, 0, 0, 0⟩ => some (.inl y0)
  | .exit 2, ⟨[(1, some (.s y0)), (2, some (.i .i64 y1))], [], 0, 0, 0, 0⟩ => some (.inr (y0, y1))
  | _, _ => none
theorem ux_ok_circalaw15_DateformsKnown_l1 : ∀ ex s y, ux_circalaw15_DateformsKnown_l1 ex s = some y → (ex, s) = out_circalaw15_DateformsKnown_l1 y := by
  intro ex s y h
  unfold ux_circalaw15_DateformsKnown_l1 at h
  split at h
  · cases h; rfl
  · cases h; rfl
  · cases h
noncomputable def an_circalaw15_DateformsKnown_l0 : Ann := ⟨[1, 2], [], 0, []⟩
noncomputable def emb_circalaw15_DateformsKnown_l0 (x : List UInt8 × Int) : St := ⟨[(1, some (.s x.1)), (2, some (.i .i64 x.2))], [], 0, 0, 0, 0⟩
noncomputable def un_circalaw15_DateformsKnown_l0 (s : St) : Option (List UInt8 × Int) := match s with
  | ⟨[(1, some (.s x0)), (2, some (.i .i64 x1))], [], 0, 0, 0, 0⟩ => some (x0, x1)
  | _ => none
theorem un_ok_circalaw15_DateformsKnown_l0 : ∀ s x, un_circalaw15_DateformsKnown_l0 s = some x → s = emb_circalaw15_DateformsKnown_l0 x := by
  intro s x h
  unfold un_circalaw15_DateformsKnown_l0 at h
  split at h
  · cases h; rfl
  · cases h
noncomputable def ax_circalaw15_DateformsKnown_l0 : Ex → Ann := fun ex => match ex with
  | .ret => ⟨[0], [], 0, []⟩
  | .exit 0 => ⟨[], [], 0, []⟩
  | _ => ⟨[], [], 0, []⟩
noncomputable def out_circalaw15_DateformsKnown_l0 (y : Bool ⊕ Unit) : Ex × St := (Sum.casesOn (motive := fun _ => Ex × St) y (fun a0 => (.ret, ⟨[(0, some (.b a0))], [], 0, 0, 0, 0⟩)) (fun b0 => (.exit 0, ⟨[], [], 0, 0, 0, 0⟩)))
noncomputable def outK_circalaw15_DateformsKnown_l0 (α : Type) (y : Bool ⊕ Unit) (k : Ex → St → Option α) : Option α := (Sum.casesOn (motive := fun _ => Option α) y (fun a0 => (k (.ret) ⟨[(0, some (.b a0))], [], 0, 0, 0, 0⟩)) (fun b0 => (k (.exit 0) ⟨[], [], 0, 0, 0, 0⟩)))
theorem outK_ok_circalaw15_DateformsKnown_l0 : ∀ α y k, outK_circalaw15_DateformsKnown_l0 α y k = k (out_circalaw15_DateformsKnown_l0 y).1 (out_circalaw15_DateformsKnown_l0 y).2 := by
  intro α y k
  rcases y with y | y <;> rfl
noncomputable def ux_circalaw15_DateformsKnown_l0 (ex : Ex) (s : St) : Option (Bool ⊕ Unit) := match ex, s with
  | .ret, ⟨[(0, some (.b y0))], [], 0, 0, 0, 0⟩ => some (.inl y0)
  | .exit 0, ⟨[], [], 0, 0, 0, 0⟩ => some (.inr ())
  | _, _ => none
theorem ux_ok_circalaw15_DateformsKnown_l0 : ∀ ex s y, ux_circalaw15_DateformsKnown_l0 ex s = some y → (ex, s) = out_circalaw15_DateformsKnown_l0 y := by
  intro ex s y h
  unfold ux_circalaw15_DateformsKnown_l0 at h
  split at h
  · cases h; rfl
  · cases h; rfl
  · cases h
noncomputable def an_circalaw15_DateformsKnown_l3 : Ann := ⟨[5, 6, 7, 8], [0], 1, []⟩
noncomputable def emb_circalaw15_DateformsKnown_l3 (x : Int × List UInt8 × Int × List (List UInt8)) : St := ⟨[(5, some (.i .i64 x.1)), (6, some (.s x.2.1)), (7, some (.ws 0)), (8, some (.i .i64 x.2.2.1))], [(0, .rows [.s] x.2.2.2)], 1, 0, 0, 0⟩
noncomputable def un_circalaw15_DateformsKnown_l3 (s : St) : Option (Int × List UInt8 × Int × List (List UInt8)) := match s with
  | ⟨[(5, some (.i .i64 x0)), (6, some (.s x1)), (7, some (.ws 0)), (8, some (.i .i64 x2))], [(0, .rows [.s] x3)], 1, 0, 0, 0⟩ => some (x0, x1, x2, x3)
  | _ => none
theorem un_ok_circalaw15_DateformsKnown_l3 : ∀ s x, un_circalaw15_DateformsKnown_l3 s = some x → s = emb_circalaw15_DateformsKnown_l3 x := by
  intro s x h
  unfold un_circalaw15_DateformsKnown_l3 at h
  split at h
  · cases h; rfl
  · cases h
noncomputable def ax_circalaw15_DateformsKnown_l3 : Ex → Ann := fun ex => match ex with
  | .ret => ⟨[0], [], 1, []⟩
  | .exit 6 => ⟨[5], [], 1, []⟩
  | _ => ⟨[], [], 0, []⟩
noncomputable def out_circalaw15_DateformsKnown_l3 (y : Bool ⊕ Int) : Ex × St := (Sum.casesOn (motive := fun _ => Ex × St) y (fun a0 => (.ret, ⟨[(0, some (.b a0))], [], 1, 0, 0, 0⟩)) (fun b0 => (.exit 6, ⟨[(5, some (.i .i64 b0))], [], 1, 0, 0, 0⟩)))
noncomputable def outK_circalaw15_DateformsKnown_l3 (α : Type) (y : Bool ⊕ Int) (k : Ex → St → Option α) : Option α := (Sum.casesOn (motive := fun _ => Option α) y (fun a0 => (k (.ret) ⟨[(0, some (.b a0))], [], 1, 0, 0, 0⟩)) (fun b0 => (k (.exit 6) ⟨[(5, some (.i .i64 b0))], [], 1, 0, 0, 0⟩)))
theorem outK_ok_circalaw15_DateformsKnown_l3 : ∀ α y k, outK_circalaw15_DateformsKnown_l3 α y k = k (out_circalaw15_DateformsKnown_l3 y).1 (out_circalaw15_DateformsKnown_l3 y).2 := by
  intro α y k
  rcases y with y | y <;> rfl
noncomputable def ux_circalaw15_DateformsKnown_l3 (ex : Ex) (s : St) : Option (Bool ⊕ Int) := match ex, s with
  | .ret, ⟨[(0, some (.b y0))], [], 1, 0, 0, 0⟩ => some (.inl y0)
  | .exit 6, ⟨[(5, some (.i .i64 y0))], [], 1, 0, 0, 0⟩ => some (.inr y0)
  | _, _ => none
theorem ux_ok_circalaw15_DateformsKnown_l3 : ∀ ex s y, ux_circalaw15_DateformsKnown_l3 ex s = some y → (ex, s) = out_circalaw15_DateformsKnown_l3 y := by
  intro ex s y h
  unfold ux_circalaw15_DateformsKnown_l3 at h
  split at h
  · cases h; rfl
  · cases h; rfl
  · cases h
noncomputable def an_circalaw15_DateformsKnown_l2 : Ann := ⟨[5], [], 0, []⟩
noncomputable def emb_circalaw15_DateformsKnown_l2 (x : Int) : St := ⟨[(5, some (.i .i64 x))], [], 0, 0, 0, 0⟩
noncomputable def un_circalaw15_DateformsKnown_l2 (s : St) : Option (Int) := match s with
  | ⟨[(5, some (.i .i64 x0))], [], 0, 0, 0, 0⟩ => some x0
  | _ => none
theorem un_ok_circalaw15_DateformsKnown_l2 : ∀ s x, un_circalaw15_DateformsKnown_l2 s = some x → s = emb_circalaw15_DateformsKnown_l2 x := by
  intro s x h
  unfold un_circalaw15_DateformsKnown_l2 at h
  split at h
  · cases h; rfl
  · cases h
noncomputable def ax_circalaw15_DateformsKnown_l2 : Ex → Ann := fun ex => match ex with
  | .ret => ⟨[0], [], 0, []⟩
  | .exit 4 => ⟨[], [], 0, []⟩
  | _ => ⟨[], [], 0, []⟩
noncomputable def out_circalaw15_DateformsKnown_l2 (y : Bool ⊕ Unit) : Ex × St := (Sum.casesOn (motive := fun _ => Ex × St) y (fun a0 => (.ret, ⟨[(0, some (.b a0))], [], 0, 0, 0, 0⟩)) (fun b0 => (.exit 4, ⟨[], [], 0, 0, 0, 0⟩)))
noncomputable def outK_circalaw15_DateformsKnown_l2 (α : Type) (y : Bool ⊕ Unit) (k : Ex → St → Option α) : Option α := (Sum.casesOn (motive := fun _ => Option α) y (fun a0 => (k (.ret) ⟨[(0, some (.b a0))], [], 0, 0, 0, 0⟩)) (fun b0 => (k (.exit 4) ⟨[], [], 0, 0, 0, 0⟩)))
theorem outK_ok_circalaw15_DateformsKnown_l2 : ∀ α y k, outK_circalaw15_DateformsKnown_l2 α y k = k (out_circalaw15_DateformsKnown_l2 y).1 (out_circalaw15_DateformsKnown_l2 y).2 := by
  intro α y k
  rcases y with y | y <;> rfl
noncomputable def ux_circalaw15_DateformsKnown_l2 (ex : Ex) (s : St) : Option (Bool ⊕ Unit) := match ex, s with
  | .ret, ⟨[(0, some (.b y0))], [], 0, 0, 0, 0⟩ => some (.inl y0)
  | .exit 4, ⟨[], [], 0, 0, 0, 0⟩ => some (.inr ())
  | _, _ => none
theorem ux_ok_circalaw15_DateformsKnown_l2 : ∀ ex s y, ux_circalaw15_DateformsKnown_l2 ex s = some y → (ex, s) = out_circalaw15_DateformsKnown_l2 y := by
  intro ex s y h
  unfold ux_circalaw15_DateformsKnown_l2 at h
  split at h
  · cases h; rfl
  · cases h; rfl
  · cases h
noncomputable def an_circalaw15_DateformsKnown_l4 : Ann := ⟨[9, 10], [0], 1, []⟩
noncomputable def emb_circalaw15_DateformsKnown_l4 (x : Int × List (List UInt8)) : St := ⟨[(9, some (.ws 0)), (10, some (.i .i64 x.1))], [(0, .rows [.s] x.2)], 1, 0, 0, 0⟩
noncomputable def un_circalaw15_DateformsKnown_l4 (s : St) : Option (Int × List (List UInt8)) := match s with
  | ⟨[(9, some (.ws 0)), (10, some (.i .i64 x0))], [(0, .rows [.s] x1)], 1, 0, 0, 0⟩ => some (x0, x1)
  | _ => none
theorem un_ok_circalaw15_DateformsKnown_l4 : ∀ s x, un_circalaw15_DateformsKnown_l4 s = some x → s = emb_circalaw15_DateformsKnown_l4 x := by
  intro s x h
  unfold un_circalaw15_DateformsKnown_l4 at h
  split at h
  · cases h; rfl
  · cases h
noncomputable def ax_circalaw15_DateformsKnown_l4 : Ex → Ann := fun ex => match ex with
  | .ret => ⟨[0], [], 1, []⟩
  | .exit 8 => ⟨[], [], 1, []⟩
  | _ => ⟨[], [], 0, []⟩
noncomputable def out_circalaw15_DateformsKnown_l4 (y : Bool ⊕ Unit) : Ex × St := (Sum.casesOn (motive := fun _ => Ex × St) y (fun a0 => (.ret, ⟨[(0, some (.b a0))], [], 1, 0, 0, 0⟩)) (fun b0 => (.exit 8, ⟨[], [], 1, 0, 0, 0⟩)))
noncomputable def outK_circalaw15_DateformsKnown_l4 (α : Type) (y : Bool ⊕ Unit) (k : Ex → St → Option α) : Option α := (Sum.casesOn (motive := fun _ => Option α) y (fun a0 => (k (.ret) ⟨[(0, some (.b a0))], [], 1, 0, 0, 0⟩)) (fun b0 => (k (.exit 8) ⟨[], [], 1, 0, 0, 0⟩)))
theorem outK_ok_circalaw15_DateformsKnown_l4 : ∀ α y k, outK_circalaw15_DateformsKnown_l4 α y k = k (out_circalaw15_DateformsKnown_l4 y).1 (out_circalaw15_DateformsKnown_l4 y).2 := by
  intro α y k
  rcases y with y | y <;> rfl
noncomputable def ux_circalaw15_DateformsKnown_l4 (ex : Ex) (s : St) : Option (Bool ⊕ Unit) := match ex, s with
  | .ret, ⟨[(0, some (.b y0))], [], 1, 0, 0, 0⟩ => some (.inl y0)
  | .exit 8, ⟨[], [], 1, 0, 0, 0⟩ => some (.inr ())
  | _, _ => none
theorem ux_ok_circalaw15_DateformsKnown_l4 : ∀ ex s y, ux_circalaw15_DateformsKnown_l4 ex s = some y → (ex, s) = out_circalaw15_DateformsKnown_l4 y := by
  intro ex s y h
  unfold ux_circalaw15_DateformsKnown_l4 at h
  split at h
  · cases h; rfl
  · cases h; rfl
  · cases h
noncomputable def Ls_circalaw15_DateformsKnown (n : Nat) : List Sub := [subE 1 an_circalaw15_DateformsKnown_l1 un_circalaw15_DateformsKnown_l1 (fun x => iterL (circalaw15_DateformsKnown_l1 n) n x) outK_circalaw15_DateformsKnown_l1, subE 0 an_circalaw15_DateformsKnown_l0 un_circalaw15_DateformsKnown_l0 (fun x => iterL (circalaw15_DateformsKnown_l0 n) n x) outK_circalaw15_DateformsKnown_l0, subE 3 an_circalaw15_DateformsKnown_l3 un_circalaw15_DateformsKnown_l3 (fun x => iterL (circalaw15_DateformsKnown_l3 n) n x) outK_circalaw15_DateformsKnown_l3, subE 2 an_circalaw15_DateformsKnown_l2 un_circalaw15_DateformsKnown_l2 (fun x => iterL (circalaw15_DateformsKnown_l2 n) n x) outK_circalaw15_DateformsKnown_l2, subE 4 an_circalaw15_DateformsKnown_l4 un_circalaw15_DateformsKnown_l4 (fun x => iterL (circalaw15_DateformsKnown_l4 n) n x) outK_circalaw15_DateformsKnown_l4]
noncomputable def sac_circalaw15_DateformsKnown_l0 : AC := getS (subs (acOf Tryz.f6)) 0
noncomputable def ac_circalaw15_DateformsKnown_l0 : AC := AC.body sac_circalaw15_DateformsKnown_l0
noncomputable def sac_circalaw15_DateformsKnown_l1 : AC := getS (subs ac_circalaw15_DateformsKnown_l0) 1
noncomputable def ac_circalaw15_DateformsKnown_l1 : AC := AC.body sac_circalaw15_DateformsKnown_l1
theorem subs_circalaw15_DateformsKnown_l1 (n : Nat) : SubOK Tryz.prog 131 (Ls_circalaw15_DateformsKnown n) ac_circalaw15_DateformsKnown_l1 := SubOK_of _ (by
  have e : subs ac_circalaw15_DateformsKnown_l1 = [] := by kernel_rfl
  rw [e]; intro p hp; cases hp)
theorem body_circalaw15_DateformsKnown_l1 (n : Nat) : ∀ x, run Tryz.prog (Es_circalaw15_DateformsKnown n) (Ls_circalaw15_DateformsKnown n) 131 ac_circalaw15_DateformsKnown_l1 (emb_circalaw15_DateformsKnown_l1 x) (roundK an_circalaw15_DateformsKnown_l1 un_circalaw15_DateformsKnown_l1 ax_circalaw15_DateformsKnown_l1 ux_circalaw15_DateformsKnown_l1) = circalaw15_DateformsKnown_l1 n x := fun _ => by kernel_rfl
theorem sub1_circalaw15_DateformsKnown_l1 (n : Nat) : ∀ (α : Type) (s : St) (k : Ex → St → Option α) (z : α), (subE 1 an_circalaw15_DateformsKnown_l1 un_circalaw15_DateformsKnown_l1 (fun x => iterL (circalaw15_DateformsKnown_l1 n) n x) outK_circalaw15_DateformsKnown_l1).e α s k = some z → SemC Tryz.prog 131 (sac_circalaw15_DateformsKnown_l1).code s fun ex s' => k ex s' = some z := by
  intro α s k z h
  have e : sac_circalaw15_DateformsKnown_l1 = .loop ac_circalaw15_DateformsKnown_l1 := by kernel_rfl
  rw [e]
  exact subE_ok (m := 1) (f := fun x => iterL (circalaw15_DateformsKnown_l1 n) n x) (out := out_circalaw15_DateformsKnown_l1) outK_ok_circalaw15_DateformsKnown_l1 un_ok_circalaw15_DateformsKnown_l1 (fun x y hy => loop_ok (Es_ok_circalaw15_DateformsKnown n) (subs_circalaw15_DateformsKnown_l1 n) un_ok_circalaw15_DateformsKnown_l1 ux_ok_circalaw15_DateformsKnown_l1 (body_circalaw15_DateformsKnown_l1 n) n x y hy) h
theorem sub_circalaw15_DateformsKnown_l1 (n : Nat) : SubSt Tryz.prog 131 (Ls_circalaw15_DateformsKnown n) 1 sac_circalaw15_DateformsKnown_l1 := fun α s k z => sub1_circalaw15_DateformsKnown_l1 n α s k z
theorem subs_circalaw15_DateformsKnown_l0 (n : Nat) : SubOK Tryz.prog 131 (Ls_circalaw15_DateformsKnown n) ac_circalaw15_DateformsKnown_l0 := SubOK_of _ (by
  have e : subs ac_circalaw15_DateformsKnown_l0 = [(1, sac_circalaw15_DateformsKnown_l1)] := by kernel_rfl
  rw [e]; intro p hp
  simp only [List.mem_cons, List.not_mem_nil, or_false] at hp
  · rw [hp]; exact sub_circalaw15_DateformsKnown_l1 n
  )
theorem body_circalaw15_DateformsKnown_l0 (n : Nat) : ∀ x, run Tryz.prog (Es_circalaw15_DateformsKnown n) (Ls_circalaw15_DateformsKnown n) 131 ac_circalaw15_DateformsKnown_l0 (emb_circalaw15_DateformsKnown_l0 x) (roundK an_circalaw15_DateformsKnown_l0 un_circalaw15_DateformsKnown_l0 ax_circalaw15_DateformsKnown_l0 ux_circalaw15_DateformsKnown_l0) = circalaw15_DateformsKnown_l0 n x := fun _ => by kernel_rfl
theorem sub1_circalaw15_DateformsKnown_l0 (n : Nat) : ∀ (α : Type) (s : St) (k : Ex → St → Option α) (z : α), (subE 0 an_circalaw15_DateformsKnown_l0 un_circalaw15_DateformsKnown_l0 (fun x => iterL (circalaw15_DateformsKnown_l0 n) n x) outK_circalaw15_DateformsKnown_l0).e α s k = some z → SemC Tryz.prog 131 (sac_circalaw15_DateformsKnown_l0).code s fun ex s' => k ex s' = some z := by
  intro α s k z h
  have e : sac_circalaw15_DateformsKnown_l0 = .loop ac_circalaw15_DateformsKnown_l0 := by kernel_rfl
  rw [e]
  exact subE_ok (m := 0) (f := fun x => iterL (circalaw15_DateformsKnown_l0 n) n x) (out := out_circalaw15_DateformsKnown_l0) outK_ok_circalaw15_DateformsKnown_l0 un_ok_circalaw15_DateformsKnown_l0 (fun x y hy => loop_ok (Es_ok_circalaw15_DateformsKnown n) (subs_circalaw15_DateformsKnown_l0 n) un_ok_circalaw15_DateformsKnown_l0 ux_ok_circalaw15_DateformsKnown_l0 (body_circalaw15_DateformsKnown_l0 n) n x y hy) h
theorem sub_circalaw15_DateformsKnown_l0 (n : Nat) : SubSt Tryz.prog 131 (Ls_circalaw15_DateformsKnown n) 0 sac_circalaw15_DateformsKnown_l0 := fun α s k z => sub1_circalaw15_DateformsKnown_l0 n α s k z
noncomputable def sac_circalaw15_DateformsKnown_l2 : AC := getS (subs (acOf Tryz.f6)) 2
noncomputable def ac_circalaw15_DateformsKnown_l2 : AC := AC.body sac_circalaw15_DateformsKnown_l2
noncomputable def sac_circalaw15_DateformsKnown_l3 : AC := getS (subs ac_circalaw15_DateformsKnown_l2) 3
noncomputable def ac_circalaw15_DateformsKnown_l3 : AC := AC.body sac_circalaw15_DateformsKnown_l3
theorem subs_circalaw15_DateformsKnown_l3 (n : Nat) : SubOK Tryz.prog 131 (Ls_circalaw15_DateformsKnown n) ac_circalaw15_DateformsKnown_l3 := SubOK_of _ (by
  have e : subs ac_circalaw15_DateformsKnown_l3 = [] := by kernel_rfl
  rw [e]; intro p hp; cases hp)
theorem body_circalaw15_DateformsKnown_l3 (n : Nat) : ∀ x, run Tryz.prog (Es_circalaw15_DateformsKnown n) (Ls_circalaw15_DateformsKnown n) 131 ac_circalaw15_DateformsKnown_l3 (emb_circalaw15_DateformsKnown_l3 x) (roundK an_circalaw15_DateformsKnown_l3 un_circalaw15_DateformsKnown_l3 ax_circalaw15_DateformsKnown_l3 ux_circalaw15_DateformsKnown_l3) = circalaw15_DateformsKnown_l3 n x := fun _ => by kernel_rfl
theorem sub1_circalaw15_DateformsKnown_l3 (n : Nat) : ∀ (α : Type) (s : St) (k : Ex → St → Option α) (z : α), (subE 3 an_circalaw15_DateformsKnown_l3 un_circalaw15_DateformsKnown_l3 (fun x => iterL (circalaw15_DateformsKnown_l3 n) n x) outK_circalaw15_DateformsKnown_l3).e α s k = some z → SemC Tryz.prog 131 (sac_circalaw15_DateformsKnown_l3).code s fun ex s' => k ex s' = some z := by
  intro α s k z h
  have e : sac_circalaw15_DateformsKnown_l3 = .loop ac_circalaw15_DateformsKnown_l3 := by kernel_rfl
  rw [e]
  exact subE_ok (m := 3) (f := fun x => iterL (circalaw15_DateformsKnown_l3 n) n x) (out := out_circalaw15_DateformsKnown_l3) outK_ok_circalaw15_DateformsKnown_l3 un_ok_circalaw15_DateformsKnown_l3 (fun x y hy => loop_ok (Es_ok_circalaw15_DateformsKnown n) (subs_circalaw15_DateformsKnown_l3 n) un_ok_circalaw15_DateformsKnown_l3 ux_ok_circalaw15_DateformsKnown_l3 (body_circalaw15_DateformsKnown_l3 n) n x y hy) h
theorem sub_circalaw15_DateformsKnown_l3 (n : Nat) : SubSt Tryz.prog 131 (Ls_circalaw15_DateformsKnown n) 3 sac_circalaw15_DateformsKnown_l3 := fun α s k z => sub1_circalaw15_DateformsKnown_l3 n α s k z
theorem subs_circalaw15_DateformsKnown_l2 (n : Nat) : SubOK Tryz.prog 131 (Ls_circalaw15_DateformsKnown n) ac_circalaw15_DateformsKnown_l2 := SubOK_of _ (by
  have e : subs ac_circalaw15_DateformsKnown_l2 = [(3, sac_circalaw15_DateformsKnown_l3)] := by kernel_rfl
  rw [e]; intro p hp
  simp only [List.mem_cons, List.not_mem_nil, or_false] at hp
  · rw [hp]; exact sub_circalaw15_DateformsKnown_l3 n
  )
theorem body_circalaw15_DateformsKnown_l2 (n : Nat) : ∀ x, run Tryz.prog (Es_circalaw15_DateformsKnown n) (Ls_circalaw15_DateformsKnown n) 131 ac_circalaw15_DateformsKnown_l2 (emb_circalaw15_DateformsKnown_l2 x) (roundK an_circalaw15_DateformsKnown_l2 un_circalaw15_DateformsKnown_l2 ax_circalaw15_DateformsKnown_l2 ux_circalaw15_DateformsKnown_l2) = circalaw15_DateformsKnown_l2 n x := fun _ => by kernel_rfl
theorem sub1_circalaw15_DateformsKnown_l2 (n : Nat) : ∀ (α : Type) (s : St) (k : Ex → St → Option α) (z : α), (subE 2 an_circalaw15_DateformsKnown_l2 un_circalaw15_DateformsKnown_l2 (fun x => iterL (circalaw15_DateformsKnown_l2 n) n x) outK_circalaw15_DateformsKnown_l2).e α s k = some z → SemC Tryz.prog 131 (sac_circalaw15_DateformsKnown_l2).code s fun ex s' => k ex s' = some z := by
  intro α s k z h
  have e : sac_circalaw15_DateformsKnown_l2 = .loop ac_circalaw15_DateformsKnown_l2 := by kernel_rfl
  rw [e]
  exact subE_ok (m := 2) (f := fun x => iterL (circalaw15_DateformsKnown_l2 n) n x) (out := out_circalaw15_DateformsKnown_l2) outK_ok_circalaw15_DateformsKnown_l2 un_ok_circalaw15_DateformsKnown_l2 (fun x y hy => loop_ok (Es_ok_circalaw15_DateformsKnown n) (subs_circalaw15_DateformsKnown_l2 n) un_ok_circalaw15_DateformsKnown_l2 ux_ok_circalaw15_DateformsKnown_l2 (body_circalaw15_DateformsKnown_l2 n) n x y hy) h
theorem sub_circalaw15_DateformsKnown_l2 (n : Nat) : SubSt Tryz.prog 131 (Ls_circalaw15_DateformsKnown n) 2 sac_circalaw15_DateformsKnown_l2 := fun α s k z => sub1_circalaw15_DateformsKnown_l2 n α s k z
noncomputable def sac_circalaw15_DateformsKnown_l4 : AC := getS (subs (acOf Tryz.f6)) 4
noncomputable def ac_circalaw15_DateformsKnown_l4 : AC := AC.body sac_circalaw15_DateformsKnown_l4
theorem subs_circalaw15_DateformsKnown_l4 (n : Nat) : SubOK Tryz.prog 131 (Ls_circalaw15_DateformsKnown n) ac_circalaw15_DateformsKnown_l4 := SubOK_of _ (by
  have e : subs ac_circalaw15_DateformsKnown_l4 = [] := by kernel_rfl
  rw [e]; intro p hp; cases hp)
theorem body_circalaw15_DateformsKnown_l4 (n : Nat) : ∀ x, run Tryz.prog (Es_circalaw15_DateformsKnown n) (Ls_circalaw15_DateformsKnown n) 131 ac_circalaw15_DateformsKnown_l4 (emb_circalaw15_DateformsKnown_l4 x) (roundK an_circalaw15_DateformsKnown_l4 un_circalaw15_DateformsKnown_l4 ax_circalaw15_DateformsKnown_l4 ux_circalaw15_DateformsKnown_l4) = circalaw15_DateformsKnown_l4 n x := fun _ => by kernel_rfl
theorem sub1_circalaw15_DateformsKnown_l4 (n : Nat) : ∀ (α : Type) (s : St) (k : Ex → St → Option α) (z : α), (subE 4 an_circalaw15_DateformsKnown_l4 un_circalaw15_DateformsKnown_l4 (fun x => iterL (circalaw15_DateformsKnown_l4 n) n x) outK_circalaw15_DateformsKnown_l4).e α s k = some z → SemC Tryz.prog 131 (sac_circalaw15_DateformsKnown_l4).code s fun ex s' => k ex s' = some z := by
  intro α s k z h
  have e : sac_circalaw15_DateformsKnown_l4 = .loop ac_circalaw15_DateformsKnown_l4 := by kernel_rfl
  rw [e]
  exact subE_ok (m := 4) (f := fun x => iterL (circalaw15_DateformsKnown_l4 n) n x) (out := out_circalaw15_DateformsKnown_l4) outK_ok_circalaw15_DateformsKnown_l4 un_ok_circalaw15_DateformsKnown_l4 (fun x y hy => loop_ok (Es_ok_circalaw15_DateformsKnown n) (subs_circalaw15_DateformsKnown_l4 n) un_ok_circalaw15_DateformsKnown_l4 ux_ok_circalaw15_DateformsKnown_l4 (body_circalaw15_DateformsKnown_l4 n) n x y hy) h
theorem sub_circalaw15_DateformsKnown_l4 (n : Nat) : SubSt Tryz.prog 131 (Ls_circalaw15_DateformsKnown n) 4 sac_circalaw15_DateformsKnown_l4 := fun α s k z => sub1_circalaw15_DateformsKnown_l4 n α s k z
theorem subs_circalaw15_DateformsKnown (n : Nat) : SubOK Tryz.prog 131 (Ls_circalaw15_DateformsKnown n) (acOf Tryz.f6) := SubOK_of _ (by
  have e : subs (acOf Tryz.f6) = [(0, sac_circalaw15_DateformsKnown_l0), (2, sac_circalaw15_DateformsKnown_l2), (4, sac_circalaw15_DateformsKnown_l4)] := by kernel_rfl
  rw [e]; intro p hp
  simp only [List.mem_cons, List.not_mem_nil, or_false] at hp
  rcases hp with hp | hp | hp
  · rw [hp]; exact sub_circalaw15_DateformsKnown_l0 n
  · rw [hp]; exact sub_circalaw15_DateformsKnown_l2 n
  · rw [hp]; exact sub_circalaw15_DateformsKnown_l4 n
  )
theorem cert_circalaw15_DateformsKnown (n : Nat) : run Tryz.prog (Es_circalaw15_DateformsKnown n) (Ls_circalaw15_DateformsKnown n) Tryz.f6.ntmps (acOf Tryz.f6) ⟨argsT [] 0, [], 0, 0, 0, 0⟩ (finK Tryz.prog Tryz.f6.results.toList (retX unr_circalaw15_DateformsKnown)) = circalaw15_DateformsKnown n := by kernel_rfl
theorem pure_circalaw15_DateformsKnown (n : Nat) : ∀ a r, circalaw15_DateformsKnown n = some r → PureOK Tryz.prog 6 (arg_circalaw15_DateformsKnown a) (enc_circalaw15_DateformsKnown r) := fun a r h => pureX_ok unr_ok_circalaw15_DateformsKnown (Es_ok_circalaw15_DateformsKnown n) Tryz.func6 rfl (acOf_code _) (subs_circalaw15_DateformsKnown n) rfl ((cert_circalaw15_DateformsKnown n).trans h)
theorem ok_circalaw15_DateformsKnown (n : Nat) : EntOK Tryz.prog (e_circalaw15_DateformsKnown n) := pureE_ok Tryz.call6 una_ok_circalaw15_DateformsKnown (fun _ => rfl) (pure_circalaw15_DateformsKnown n)

end Go.Sh
