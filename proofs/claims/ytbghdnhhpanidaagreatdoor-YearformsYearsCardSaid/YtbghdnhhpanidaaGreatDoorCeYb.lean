/- Each function of the program computes its plain function: the certificates.
   Conditions: none. Printed by the bench tool gen.py. -/
import Derived.Test.YtbghdnhhpanidaaGreatDoorCeYa
import Derived.Test.YtbghdnhhpanidaaGreatDoorYText
set_option linter.unusedVariables false
set_option linter.unusedSimpArgs false
set_option maxRecDepth 100000
namespace Go.Sh
open Go.Abs Go.Proofs

noncomputable def e_lib_16 (n : Nat) : Ent := ytextE 16 (yearforms_Check n)
theorem ok_lib_16 (n : Nat) : EntOK Tryz.prog (e_lib_16 n) := ytextE_ok Tryz.call16 (ytext_err n) (ytext_ok n)

/-! circa/circalaw14.YearformsParse -/
noncomputable def arg_circalaw14_YearformsParse (a : List UInt8) : List V := [.s a]
noncomputable def una_circalaw14_YearformsParse (l : List V) : Option (List UInt8) := match l with
  | [.s a0] => some a0
  | _ => none
theorem una_ok_circalaw14_YearformsParse : ∀ l a, una_circalaw14_YearformsParse l = some a → l = arg_circalaw14_YearformsParse a := by
  intro l a h
  unfold una_circalaw14_YearformsParse at h
  split at h
  · cases h; rfl
  · cases h
noncomputable def enc_circalaw14_YearformsParse (r : Bool) : V := .b r
noncomputable def unr_circalaw14_YearformsParse (v : V) : Option (Bool) := match v with
  | .b r0 => some r0
  | _ => none
theorem unr_ok_circalaw14_YearformsParse : ∀ v r, unr_circalaw14_YearformsParse v = some r → v = enc_circalaw14_YearformsParse r := by
  intro v r h
  unfold unr_circalaw14_YearformsParse at h
  split at h
  · cases h; rfl
  · cases h
noncomputable def e_circalaw14_YearformsParse (n : Nat) : Ent := pureE 4 una_circalaw14_YearformsParse (fun a => circalaw14_YearformsParse n a) enc_circalaw14_YearformsParse
noncomputable def t_circalaw14_YearformsParse (l : List V) (_ : List (Nat × Blk)) : Bool := isS (una_circalaw14_YearformsParse l)
noncomputable def Es_circalaw14_YearformsParse (n : Nat) : List Ent := [e_circalaw14_lives n, e_yearforms_Parse n, e_circaref14_Read n, e_lib_16 n, e_yearforms_Check n, e_circaref14_Check n]
theorem Es_ok_circalaw14_YearformsParse (n : Nat) : ∀ x ∈ Es_circalaw14_YearformsParse n, EntOK Tryz.prog x := by
  intro x hx
  simp only [Es_circalaw14_YearformsParse, List.mem_cons, List.not_mem_nil, or_false] at hx
  rcases hx with hx | hx | hx | hx | hx | hx
  · rw [hx]; exact ok_circalaw14_lives n
  · rw [hx]; exact ok_yearforms_Parse n
  · rw [hx]; exact ok_circaref14_Read n
  · rw [hx]; exact ok_lib_16 n
  · rw [hx]; exact ok_yearforms_Check n
  · rw [hx]; exact ok_circaref14_Check n
noncomputable def Ls_circalaw14_YearformsParse (_n : Nat) : List Sub := []
theorem subs_circalaw14_YearformsParse (n : Nat) : SubOK Tryz.prog 78 (Ls_circalaw14_YearformsParse n) (acOf Tryz.f4) := SubOK_of _ (by
  have e : subs (acOf Tryz.f4) = [] := by kernel_rfl
  rw [e]; intro p hp; cases hp)
theorem cert_circalaw14_YearformsParse (n : Nat) (a0 : List UInt8) : run Tryz.prog (Es_circalaw14_YearformsParse n) (Ls_circalaw14_YearformsParse n) Tryz.f4.ntmps (acOf Tryz.f4) ⟨argsT [.s a0] 0, [], 0, 0, 0, 0⟩ (finK Tryz.prog Tryz.f4.results.toList (retX unr_circalaw14_YearformsParse)) = circalaw14_YearformsParse n a0 := by kernel_rfl
theorem pure_circalaw14_YearformsParse (n : Nat) : ∀ a r, circalaw14_YearformsParse n a = some r → PureOK Tryz.prog 4 (arg_circalaw14_YearformsParse a) (enc_circalaw14_YearformsParse r) := fun a r h => pureX_ok unr_ok_circalaw14_YearformsParse (Es_ok_circalaw14_YearformsParse n) Tryz.func4 rfl (acOf_code _) (subs_circalaw14_YearformsParse n) rfl ((cert_circalaw14_YearformsParse n a).trans h)
theorem ok_circalaw14_YearformsParse (n : Nat) : EntOK Tryz.prog (e_circalaw14_YearformsParse n) := pureE_ok Tryz.call4 una_ok_circalaw14_YearformsParse (fun _ => rfl) (pure_circalaw14_YearformsParse n)

/-! circa/circaref14.Decimal -/
noncomputable def arg_circaref14_Decimal (a : Int) : List V := [.i .i64 a]
noncomputable def una_circaref14_Decimal (l : List V) : Option (Int) := match l with
  | [.i .i64 a0] => some a0
  | _ => none
theorem una_ok_circaref14_Decimal : ∀ l a, una_circaref14_Decimal l = some a → l = arg_circaref14_Decimal a := by
  intro l a h
  unfold una_circaref14_Decimal at h
  split at h
  · cases h; rfl
  · cases h
noncomputable def enc_circaref14_Decimal (r : List UInt8) : V := .s r
noncomputable def unr_circaref14_Decimal (v : V) : Option (List UInt8) := match v with
  | .s r0 => some r0
  | _ => none
theorem unr_ok_circaref14_Decimal : ∀ v r, unr_circaref14_Decimal v = some r → v = enc_circaref14_Decimal r := by
  intro v r h
  unfold unr_circaref14_Decimal at h
  split at h
  · cases h; rfl
  · cases h
noncomputable def e_circaref14_Decimal (n : Nat) : Ent := pureE 41 una_circaref14_Decimal (fun a => circaref14_Decimal n a) enc_circaref14_Decimal
noncomputable def t_circaref14_Decimal (l : List V) (_ : List (Nat × Blk)) : Bool := isS (una_circaref14_Decimal l)
noncomputable def Es_circaref14_Decimal (_n : Nat) : List Ent := []
theorem Es_ok_circaref14_Decimal (n : Nat) : ∀ x ∈ Es_circaref14_Decimal n, EntOK Tryz.prog x := by
  intro x hx
  simp [Es_circaref14_Decimal] at hx
noncomputable def Ls_circaref14_Decimal (_n : Nat) : List Sub := []
theorem subs_circaref14_Decimal (n : Nat) : SubOK Tryz.prog 21 (Ls_circaref14_Decimal n) (acOf Tryz.f41) := SubOK_of _ (by
  have e : subs (acOf Tryz.f41) = [] := by kernel_rfl
  rw [e]; intro p hp; cases hp)
theorem cert_circaref14_Decimal (n : Nat) (a0 : Int) : run Tryz.prog (Es_circaref14_Decimal n) (Ls_circaref14_Decimal n) Tryz.f41.ntmps (acOf Tryz.f41) ⟨argsT [.i .i64 a0] 0, [], 0, 0, 0, 0⟩ (finK Tryz.prog Tryz.f41.results.toList (retX unr_circaref14_Decimal)) = circaref14_Decimal n a0 := by kernel_rfl
theorem pure_circaref14_Decimal (n : Nat) : ∀ a r, circaref14_Decimal n a = some r → PureOK Tryz.prog 41 (arg_circaref14_Decimal a) (enc_circaref14_Decimal r) := fun a r h => pureX_ok unr_ok_circaref14_Decimal (Es_ok_circaref14_Decimal n) Tryz.func41 rfl (acOf_code _) (subs_circaref14_Decimal n) rfl ((cert_circaref14_Decimal n a).trans h)
theorem ok_circaref14_Decimal (n : Nat) : EntOK Tryz.prog (e_circaref14_Decimal n) := pureE_ok Tryz.call41 una_ok_circaref14_Decimal (fun _ => rfl) (pure_circaref14_Decimal n)

/-! circa/circaref14.Text -/
noncomputable def arg_circaref14_Text (a : Bool × Bool × List UInt8 × Int × Int) : List V := [.ag [.b a.1, .b a.2.1, .s a.2.2.1, .i .i64 a.2.2.2.1, .i .i64 a.2.2.2.2]]
noncomputable def una_circaref14_Text (l : List V) : Option (Bool × Bool × List UInt8 × Int × Int) := match l with
  | [.ag [.b a0, .b a1, .s a2, .i .i64 a3, .i .i64 a4]] => some (a0, a1, a2, a3, a4)
  | _ => none
theorem una_ok_circaref14_Text : ∀ l a, una_circaref14_Text l = some a → l = arg_circaref14_Text a := by
  intro l a h
  unfold una_circaref14_Text at h
  split at h
  · cases h; rfl
  · cases h
noncomputable def enc_circaref14_Text (r : List UInt8) : V := .s r
noncomputable def unr_circaref14_Text (v : V) : Option (List UInt8) := match v with
  | .s r0 => some r0
  | _ => none
theorem unr_ok_circaref14_Text : ∀ v r, unr_circaref14_Text v = some r → v = enc_circaref14_Text r := by
  intro v r h
  unfold unr_circaref14_Text at h
  split at h
  · cases h; rfl
  · cases h
noncomputable def e_circaref14_Text (n : Nat) : Ent := pureE 18 una_circaref14_Text (fun a => circaref14_Text n a.1 a.2.1 a.2.2.1 a.2.2.2.1 a.2.2.2.2) enc_circaref14_Text
noncomputable def t_circaref14_Text (l : List V) (_ : List (Nat × Blk)) : Bool := isS (una_circaref14_Text l)
noncomputable def Es_circaref14_Text (n : Nat) : List Ent := [e_circaref14_Decimal n]
theorem Es_ok_circaref14_Text (n : Nat) : ∀ x ∈ Es_circaref14_Text n, EntOK Tryz.prog x := by
  intro x hx
  simp only [Es_circaref14_Text, List.mem_cons, List.not_mem_nil, or_false] at hx
  · rw [hx]; exact ok_circaref14_Decimal n
noncomputable def Ls_circaref14_Text (_n : Nat) : List Sub := []
theorem subs_circaref14_Text (n : Nat) : SubOK Tryz.prog 33 (Ls_circaref14_Text n) (acOf Tryz.f18) := SubOK_of _ (by
  have e : subs (acOf Tryz.f18) = [] := by kernel_rfl
  rw [e]; intro p hp; cases hp)
theorem cert_circaref14_Text (n : Nat) (a0 : Bool) (a1 : Bool) (a2 : List UInt8) (a3 : Int) (a4 : Int) : run Tryz.prog (Es_circaref14_Text n) (Ls_circaref14_Text n) Tryz.f18.ntmps (acOf Tryz.f18) ⟨argsT [.ag [.b a0, .b a1, .s a2, .i .i64 a3, .i .i64 a4]] 0, [], 0, 0, 0, 0⟩ (finK Tryz.prog Tryz.f18.results.toList (retX unr_circaref14_Text)) = circaref14_Text n a0 a1 a2 a3 a4 := by kernel_rfl
theorem pure_circaref14_Text (n : Nat) : ∀ a r, circaref14_Text n a.1 a.2.1 a.2.2.1 a.2.2.2.1 a.2.2.2.2 = some r → PureOK Tryz.prog 18 (arg_circaref14_Text a) (enc_circaref14_Text r) := fun a r h => pureX_ok unr_ok_circaref14_Text (Es_ok_circaref14_Text n) Tryz.func18 rfl (acOf_code _) (subs_circaref14_Text n) rfl ((cert_circaref14_Text n a.1 a.2.1 a.2.2.1 a.2.2.2.1 a.2.2.2.2).trans h)
theorem ok_circaref14_Text (n : Nat) : EntOK Tryz.prog (e_circaref14_Text n) := pureE_ok Tryz.call18 una_ok_circaref14_Text (fun _ => rfl) (pure_circaref14_Text n)

/-! circa/circaref14.Span -/
noncomputable def arg_circaref14_Span (a : Bool × Bool × List UInt8 × Int × Int) : List V := [.ag [.b a.1, .b a.2.1, .s a.2.2.1, .i .i64 a.2.2.2.1, .i .i64 a.2.2.2.2]]
noncomputable def una_circaref14_Span (l : List V) : Option (Bool × Bool × List UInt8 × Int × Int) := match l with
  | [.ag [.b a0, .b a1, .s a2, .i .i64 a3, .i .i64 a4]] => some (a0, a1, a2, a3, a4)
  | _ => none
theorem una_ok_circaref14_Span : ∀ l a, una_circaref14_Span l = some a → l = arg_circaref14_Span a := by
  intro l a h
  unfold una_circaref14_Span at h
  split at h
  · cases h; rfl
  · cases h
noncomputable def enc_circaref14_Span (r : Int × Int) : V := .tp [.i .i64 r.1, .i .i64 r.2]
noncomputable def unr_circaref14_Span (v : V) : Option (Int × Int) := match v with
  | .tp [.i .i64 r0, .i .i64 r1] => some (r0, r1)
  | _ => none
theorem unr_ok_circaref14_Span : ∀ v r, unr_circaref14_Span v = some r → v = enc_circaref14_Span r := by
  intro v r h
  unfold unr_circaref14_Span at h
  split at h
  · cases h; rfl
  · cases h
noncomputable def e_circaref14_Span (n : Nat) : Ent := pureE 20 una_circaref14_Span (fun a => circaref14_Span n a.1 a.2.1 a.2.2.1 a.2.2.2.1 a.2.2.2.2) enc_circaref14_Span
noncomputable def t_circaref14_Span (l : List V) (_ : List (Nat × Blk)) : Bool := isS (una_circaref14_Span l)
noncomputable def Es_circaref14_Span (n : Nat) : List Ent := [e_circaref14_Masked n, e_circaref14_Magnitude n]
theorem Es_ok_circaref14_Span (n : Nat) : ∀ x ∈ Es_circaref14_Span n, EntOK Tryz.prog x := by
  intro x hx
  simp only [Es_circaref14_Span, List.mem_cons, List.not_mem_nil, or_false] at hx
  rcases hx with hx | hx
  · rw [hx]; exact ok_circaref14_Masked n
  · rw [hx]; exact ok_circaref14_Magnitude n
noncomputable def an_circaref14_Span_l0 : Ann := ⟨[1, 4, 5, 6], [0], 1, []⟩
noncomputable def emb_circaref14_Span_l0 (x : List UInt8 × List UInt8 × Int × Bool × Bool × List UInt8 × Int × Int) : St := ⟨[(1, some (.p 0 0)), (4, some (.s x.1)), (5, some (.s x.2.1)), (6, some (.i .i64 x.2.2.1))], [(0, .cells [.b x.2.2.2.1, .b x.2.2.2.2.1, .s x.2.2.2.2.2.1, .i .i64 x.2.2.2.2.2.2.1, .i .i64 x.2.2.2.2.2.2.2])], 1, 0, 0, 0⟩
noncomputable def un_circaref14_Span_l0 (s : St) : Option (List UInt8 × List UInt8 × Int × Bool × Bool × List UInt8 × Int × Int) := match s with
  | ⟨[(1, some (.p 0 0)), (4, some (.s x0)), (5, some (.s x1)), (6, some (.i .i64 x2))], [(0, .cells [.b x3, .b x4, .s x5, .i .i64 x6, .i .i64 x7])], 1, 0, 0, 0⟩ => some (x0, x1, x2, x3, x4, x5, x6, x7)
  | _ => none
theorem un_ok_circaref14_Span_l0 : ∀ s x, un_circaref14_Span_l0 s = some x → s = emb_circaref14_Span_l0 x := by
  intro s x h
  unfold un_circaref14_Span_l0 at h
  split at h
  · cases h; rfl
  · cases h
noncomputable def ax_circaref14_Span_l0 : Ex → Ann := fun ex => match ex with
  | .exit 0 => ⟨[1, 4, 5], [0], 1, []⟩
  | _ => ⟨[], [], 0, []⟩
noncomputable def out_circaref14_Span_l0 (y : (List UInt8 × List UInt8 × Bool × Bool × List UInt8 × Int × Int)) : Ex × St := (.exit 0, ⟨[(1, some (.p 0 0)), (4, some (.s y.1)), (5, some (.s y.2.1))], [(0, .cells [.b y.2.2.1, .b y.2.2.2.1, .s y.2.2.2.2.1, .i .i64 y.2.2.2.2.2.1, .i .i64 y.2.2.2.2.2.2])], 1, 0, 0, 0⟩)
noncomputable def outK_circaref14_Span_l0 (α : Type) (y : (List UInt8 × List UInt8 × Bool × Bool × List UInt8 × Int × Int)) (k : Ex → St → Option α) : Option α := (k (.exit 0) ⟨[(1, some (.p 0 0)), (4, some (.s y.1)), (5, some (.s y.2.1))], [(0, .cells [.b y.2.2.1, .b y.2.2.2.1, .s y.2.2.2.2.1, .i .i64 y.2.2.2.2.2.1, .i .i64 y.2.2.2.2.2.2])], 1, 0, 0, 0⟩)
theorem outK_ok_circaref14_Span_l0 : ∀ α y k, outK_circaref14_Span_l0 α y k = k (out_circaref14_Span_l0 y).1 (out_circaref14_Span_l0 y).2 := by
  intro α y k
  rfl
noncomputable def ux_circaref14_Span_l0 (ex : Ex) (s : St) : Option ((List UInt8 × List UInt8 × Bool × Bool × List UInt8 × Int × Int)) := match ex, s with
  | .exit 0, ⟨[(1, some (.p 0 0)), (4, some (.s y0)), (5, some (.s y1))], [(0, .cells [.b y2, .b y3, .s y4, .i .i64 y5, .i .i64 y6])], 1, 0, 0, 0⟩ => some (y0, y1, y2, y3, y4, y5, y6)
  | _, _ => none
theorem ux_ok_circaref14_Span_l0 : ∀ ex s y, ux_circaref14_Span_l0 ex s = some y → (ex, s) = out_circaref14_Span_l0 y := by
  intro ex s y h
  unfold ux_circaref14_Span_l0 at h
  split at h
  · cases h; rfl
  · cases h
noncomputable def an_circaref14_Span_l1 : Ann := ⟨[1, 4, 5, 9], [0], 1, []⟩
noncomputable def emb_circaref14_Span_l1 (x : List UInt8 × List UInt8 × Int × Bool × Bool × List UInt8 × Int × Int) : St := ⟨[(1, some (.p 0 0)), (4, some (.s x.1)), (5, some (.s x.2.1)), (9, some (.i .i64 x.2.2.1))], [(0, .cells [.b x.2.2.2.1, .b x.2.2.2.2.1, .s x.2.2.2.2.2.1, .i .i64 x.2.2.2.2.2.2.1, .i .i64 x.2.2.2.2.2.2.2])], 1, 0, 0, 0⟩
noncomputable def un_circaref14_Span_l1 (s : St) : Option (List UInt8 × List UInt8 × Int × Bool × Bool × List UInt8 × Int × Int) := match s with
  | ⟨[(1, some (.p 0 0)), (4, some (.s x0)), (5, some (.s x1)), (9, some (.i .i64 x2))], [(0, .cells [.b x3, .b x4, .s x5, .i .i64 x6, .i .i64 x7])], 1, 0, 0, 0⟩ => some (x0, x1, x2, x3, x4, x5, x6, x7)
  | _ => none
theorem un_ok_circaref14_Span_l1 : ∀ s x, un_circaref14_Span_l1 s = some x → s = emb_circaref14_Span_l1 x := by
  intro s x h
  unfold un_circaref14_Span_l1 at h
  split at h
  · cases h; rfl
  · cases h
noncomputable def ax_circaref14_Span_l1 : Ex → Ann := fun ex => match ex with
  | .exit 2 => ⟨[1, 4, 5], [0], 1, []⟩
  | _ => ⟨[], [], 0, []⟩
noncomputable def out_circaref14_Span_l1 (y : (List UInt8 × List UInt8 × Bool × Bool × List UInt8 × Int × Int)) : Ex × St := (.exit 2, ⟨[(1, some (.p 0 0)), (4, some (.s y.1)), (5, some (.s y.2.1))], [(0, .cells [.b y.2.2.1, .b y.2.2.2.1, .s y.2.2.2.2.1, .i .i64 y.2.2.2.2.2.1, .i .i64 y.2.2.2.2.2.2])], 1, 0, 0, 0⟩)
noncomputable def outK_circaref14_Span_l1 (α : Type) (y : (List UInt8 × List UInt8 × Bool × Bool × List UInt8 × Int × Int)) (k : Ex → St → Option α) : Option α := (k (.exit 2) ⟨[(1, some (.p 0 0)), (4, some (.s y.1)), (5, some (.s y.2.1))], [(0, .cells [.b y.2.2.1, .b y.2.2.2.1, .s y.2.2.2.2.1, .i .i64 y.2.2.2.2.2.1, .i .i64 y.2.2.2.2.2.2])], 1, 0, 0, 0⟩)
theorem outK_ok_circaref14_Span_l1 : ∀ α y k, outK_circaref14_Span_l1 α y k = k (out_circaref14_Span_l1 y).1 (out_circaref14_Span_l1 y).2 := by
  intro α y k
  rfl
noncomputable def ux_circaref14_Span_l1 (ex : Ex) (s : St) : Option ((List UInt8 × List UInt8 × Bool × Bool × List UInt8 × Int × Int)) := match ex, s with
  | .exit 2, ⟨[(1, some (.p 0 0)), (4, some (.s y0)), (5, some (.s y1))], [(0, .cells [.b y2, .b y3, .s y4, .i .i64 y5, .i .i64 y6])], 1, 0, 0, 0⟩ => some (y0, y1, y2, y3, y4, y5, y6)
  | _, _ => none
theorem ux_ok_circaref14_Span_l1 : ∀ ex s y, ux_circaref14_Span_l1 ex s = some y → (ex, s) = out_circaref14_Span_l1 y := by
  intro ex s y h
  unfold ux_circaref14_Span_l1 at h
  split at h
  · cases h; rfl
  · cases h
noncomputable def Ls_circaref14_Span (n : Nat) : List Sub := [subE 0 an_circaref14_Span_l0 un_circaref14_Span_l0 (fun x => iterL (circaref14_Span_l0 n) n x) outK_circaref14_Span_l0, subE 1 an_circaref14_Span_l1 un_circaref14_Span_l1 (fun x => iterL (circaref14_Span_l1 n) n x) outK_circaref14_Span_l1]
noncomputable def sac_circaref14_Span_l0 : AC := getS (subs (acOf Tryz.f20)) 0
noncomputable def ac_circaref14_Span_l0 : AC := AC.body sac_circaref14_Span_l0
theorem subs_circaref14_Span_l0 (n : Nat) : SubOK Tryz.prog 117 (Ls_circaref14_Span n) ac_circaref14_Span_l0 := SubOK_of _ (by
  have e : subs ac_circaref14_Span_l0 = [] := by kernel_rfl
  rw [e]; intro p hp; cases hp)
theorem body_circaref14_Span_l0 (n : Nat) : ∀ x, run Tryz.prog (Es_circaref14_Span n) (Ls_circaref14_Span n) 117 ac_circaref14_Span_l0 (emb_circaref14_Span_l0 x) (roundK an_circaref14_Span_l0 un_circaref14_Span_l0 ax_circaref14_Span_l0 ux_circaref14_Span_l0) = circaref14_Span_l0 n x := fun _ => by kernel_rfl
theorem sub1_circaref14_Span_l0 (n : Nat) : ∀ (α : Type) (s : St) (k : Ex → St → Option α) (z : α), (subE 0 an_circaref14_Span_l0 un_circaref14_Span_l0 (fun x => iterL (circaref14_Span_l0 n) n x) outK_circaref14_Span_l0).e α s k = some z → SemC Tryz.prog 117 (sac_circaref14_Span_l0).code s fun ex s' => k ex s' = some z := by
  intro α s k z h
  have e : sac_circaref14_Span_l0 = .loop ac_circaref14_Span_l0 := by kernel_rfl
  rw [e]
  exact subE_ok (m := 0) (f := fun x => iterL (circaref14_Span_l0 n) n x) (out := out_circaref14_Span_l0) outK_ok_circaref14_Span_l0 un_ok_circaref14_Span_l0 (fun x y hy => loop_ok (Es_ok_circaref14_Span n) (subs_circaref14_Span_l0 n) un_ok_circaref14_Span_l0 ux_ok_circaref14_Span_l0 (body_circaref14_Span_l0 n) n x y hy) h
theorem sub_circaref14_Span_l0 (n : Nat) : SubSt Tryz.prog 117 (Ls_circaref14_Span n) 0 sac_circaref14_Span_l0 := fun α s k z => sub1_circaref14_Span_l0 n α s k z
noncomputable def sac_circaref14_Span_l1 : AC := getS (subs (acOf Tryz.f20)) 1
noncomputable def ac_circaref14_Span_l1 : AC := AC.body sac_circaref14_Span_l1
theorem subs_circaref14_Span_l1 (n : Nat) : SubOK Tryz.prog 117 (Ls_circaref14_Span n) ac_circaref14_Span_l1 := SubOK_of _ (by
  have e : subs ac_circaref14_Span_l1 = [] := by kernel_rfl
  rw [e]; intro p hp; cases hp)
theorem body_circaref14_Span_l1 (n : Nat) : ∀ x, run Tryz.prog (Es_circaref14_Span n) (Ls_circaref14_Span n) 117 ac_circaref14_Span_l1 (emb_circaref14_Span_l1 x) (roundK an_circaref14_Span_l1 un_circaref14_Span_l1 ax_circaref14_Span_l1 ux_circaref14_Span_l1) = circaref14_Span_l1 n x := fun _ => by kernel_rfl
theorem sub1_circaref14_Span_l1 (n : Nat) : ∀ (α : Type) (s : St) (k : Ex → St → Option α) (z : α), (subE 1 an_circaref14_Span_l1 un_circaref14_Span_l1 (fun x => iterL (circaref14_Span_l1 n) n x) outK_circaref14_Span_l1).e α s k = some z → SemC Tryz.prog 117 (sac_circaref14_Span_l1).code s fun ex s' => k ex s' = some z := by
  intro α s k z h
  have e : sac_circaref14_Span_l1 = .loop ac_circaref14_Span_l1 := by kernel_rfl
  rw [e]
  exact subE_ok (m := 1) (f := fun x => iterL (circaref14_Span_l1 n) n x) (out := out_circaref14_Span_l1) outK_ok_circaref14_Span_l1 un_ok_circaref14_Span_l1 (fun x y hy => loop_ok (Es_ok_circaref14_Span n) (subs_circaref14_Span_l1 n) un_ok_circaref14_Span_l1 ux_ok_circaref14_Span_l1 (body_circaref14_Span_l1 n) n x y hy) h
theorem sub_circaref14_Span_l1 (n : Nat) : SubSt Tryz.prog 117 (Ls_circaref14_Span n) 1 sac_circaref14_Span_l1 := fun α s k z => sub1_circaref14_Span_l1 n α s k z
theorem subs_circaref14_Span (n : Nat) : SubOK Tryz.prog 117 (Ls_circaref14_Span n) (acOf Tryz.f20) := SubOK_of _ (by
  have e : subs (acOf Tryz.f20) = [(0, sac_circaref14_Span_l0), (1, sac_circaref14_Span_l1)] := by kernel_rfl
  rw [e]; intro p hp
  simp only [List.mem_cons, List.not_mem_nil, or_false] at hp
  rcases hp with hp | hp
  · rw [hp]; exact sub_circaref14_Span_l0 n
  · rw [hp]; exact sub_circaref14_Span_l1 n
  )
theorem cert_circaref14_Span (n : Nat) (a0 : Bool) (a1 : Bool) (a2 : List UInt8) (a3 : Int) (a4 : Int) : run Tryz.prog (Es_circaref14_Span n) (Ls_circaref14_Span n) Tryz.f20.ntmps (acOf Tryz.f20) ⟨argsT [.ag [.b a0, .b a1, .s a2, .i .i64 a3, .i .i64 a4]] 0, [], 0, 0, 0, 0⟩ (finK Tryz.prog Tryz.f20.results.toList (retX unr_circaref14_Span)) = circaref14_Span n a0 a1 a2 a3 a4 := by kernel_rfl
theorem pure_circaref14_Span (n : Nat) : ∀ a r, circaref14_Span n a.1 a.2.1 a.2.2.1 a.2.2.2.1 a.2.2.2.2 = some r → PureOK Tryz.prog 20 (arg_circaref14_Span a) (enc_circaref14_Span r) := fun a r h => pureX_ok unr_ok_circaref14_Span (Es_ok_circaref14_Span n) Tryz.func20 rfl (acOf_code _) (subs_circaref14_Span n) rfl ((cert_circaref14_Span n a.1 a.2.1 a.2.2.1 a.2.2.2.1 a.2.2.2.2).trans h)
theorem ok_circaref14_Span (n : Nat) : EntOK Tryz.prog (e_circaref14_Span n) := pureE_ok Tryz.call20 una_ok_circaref14_Span (fun _ => rfl) (pure_circaref14_Span n)

/-! circa/circalaw14.YearformsText -/
noncomputable def arg_circalaw14_YearformsText (a : Int × Bool × Int × Int × Int) : List V := [.ag [.i .u8 a.1, .b a.2.1, .i .u16 a.2.2.1, .i .u8 a.2.2.2.1, .i .u8 a.2.2.2.2]]
noncomputable def una_circalaw14_YearformsText (l : List V) : Option (Int × Bool × Int × Int × Int) := match l with
  | [.ag [.i .u8 a0, .b a1, .i .u16 a2, .i .u8 a3, .i .u8 a4]] => some (a0, a1, a2, a3, a4)
  | _ => none
theorem una_ok_circalaw14_YearformsText : ∀ l a, una_circalaw14_YearformsText l = some a → l = arg_circalaw14_YearformsText a := by
  intro l a h
  unfold una_circalaw14_YearformsText at h
  split at h
  · cases h; rfl
  · cases h
noncomputable def enc_circalaw14_YearformsText (r : Bool) : V := .b r
noncomputable def unr_circalaw14_YearformsText (v : V) : Option (Bool) := match v with
  | .b r0 => some r0
  | _ => none
theorem unr_ok_circalaw14_YearformsText : ∀ v r, unr_circalaw14_YearformsText v = some r → v = enc_circalaw14_YearformsText r := by
  intro v r h
  unfold unr_circalaw14_YearformsText at h
  split at h
  · cases h; rfl
  · cases h
noncomputable def e_circalaw14_YearformsText (n : Nat) : Ent := pureE 5 una_circalaw14_YearformsText (fun a => circalaw14_YearformsText n a.1 a.2.1 a.2.2.1 a.2.2.2.1 a.2.2.2.2) enc_circalaw14_YearformsText
noncomputable def t_circalaw14_YearformsText (l : List V) (_ : List (Nat × Blk)) : Bool := isS (una_circalaw14_YearformsText l)
noncomputable def Es_circalaw14_YearformsText (n : Nat) : List Ent := [e_circalaw14_Y_Of n, e_lib_16 n, e_yearforms_Parse n, e_circaref14_Text n, e_yearforms_Masked n, e_circaref14_Masked n, e_yearforms_Span n, e_circaref14_Span n, e_yearforms_Value n, e_circalaw14_lives n, e_circaref14_Magnitude n]
theorem Es_ok_circalaw14_YearformsText (n : Nat) : ∀ x ∈ Es_circalaw14_YearformsText n, EntOK Tryz.prog x := by
  intro x hx
  simp only [Es_circalaw14_YearformsText, List.mem_cons, List.not_mem_nil, or_false] at hx
  rcases hx with hx | hx | hx | hx | hx | hx | hx | hx | hx | hx | hx
  · rw [hx]; exact ok_circalaw14_Y_Of n
  · rw [hx]; exact ok_lib_16 n
  · rw [hx]; exact ok_yearforms_Parse n
  · rw [hx]; exact ok_circaref14_Text n
  · rw [hx]; exact ok_yearforms_Masked n
  · rw [hx]; exact ok_circaref14_Masked n
  · rw [hx]; exact ok_yearforms_Span n
  · rw [hx]; exact ok_circaref14_Span n
  · rw [hx]; exact ok_yearforms_Value n
  · rw [hx]; exact ok_circalaw14_lives n
  · rw [hx]; exact ok_circaref14_Magnitude n
noncomputable def Ls_circalaw14_YearformsText (_n : Nat) : List Sub := []
theorem subs_circalaw14_YearformsText (n : Nat) : SubOK Tryz.prog 142 (Ls_circalaw14_YearformsText n) (acOf Tryz.f5) := SubOK_of _ (by
  have e : subs (acOf Tryz.f5) = [] := by kernel_rfl
  rw [e]; intro p hp; cases hp)
theorem cert_circalaw14_YearformsText (n : Nat) (a0 : Int) (a1 : Bool) (a2 : Int) (a3 : Int) (a4 : Int) : run Tryz.prog (Es_circalaw14_YearformsText n) (Ls_circalaw14_YearformsText n) Tryz.f5.ntmps (acOf Tryz.f5) ⟨argsT [.ag [.i .u8 a0, .b a1, .i .u16 a2, .i .u8 a3, .i .u8 a4]] 0, [], 0, 0, 0, 0⟩ (finK Tryz.prog Tryz.f5.results.toList (retX unr_circalaw14_YearformsText)) = circalaw14_YearformsText n a0 a1 a2 a3 a4 := by kernel_rfl
theorem pure_circalaw14_YearformsText (n : Nat) : ∀ a r, circalaw14_YearformsText n a.1 a.2.1 a.2.2.1 a.2.2.2.1 a.2.2.2.2 = some r → PureOK Tryz.prog 5 (arg_circalaw14_YearformsText a) (enc_circalaw14_YearformsText r) := fun a r h => pureX_ok unr_ok_circalaw14_YearformsText (Es_ok_circalaw14_YearformsText n) Tryz.func5 rfl (acOf_code _) (subs_circalaw14_YearformsText n) rfl ((cert_circalaw14_YearformsText n a.1 a.2.1 a.2.2.1 a.2.2.2.1 a.2.2.2.2).trans h)
theorem ok_circalaw14_YearformsText (n : Nat) : EntOK Tryz.prog (e_circalaw14_YearformsText n) := pureE_ok Tryz.call5 una_ok_circalaw14_YearformsText (fun _ => rfl) (pure_circalaw14_YearformsText n)

/-! circa/circalaw14.YearformsCheck -/
noncomputable def arg_circalaw14_YearformsCheck (a : Bool × Bool × List UInt8 × Int × Int) : List V := [.ag [.b a.1, .b a.2.1, .s a.2.2.1, .i .i64 a.2.2.2.1, .i .i64 a.2.2.2.2]]
noncomputable def una_circalaw14_YearformsCheck (l : List V) : Option (Bool × Bool × List UInt8 × Int × Int) := match l with
  | [.ag [.b a0, .b a1, .s a2, .i .i64 a3, .i .i64 a4]] => some (a0, a1, a2, a3, a4)
  | _ => none
theorem una_ok_circalaw14_YearformsCheck : ∀ l a, una_circalaw14_YearformsCheck l = some a → l = arg_circalaw14_YearformsCheck a := by
  intro l a h
  unfold una_circalaw14_YearformsCheck at h
  split at h
  · cases h; rfl
  · cases h
noncomputable def enc_circalaw14_YearformsCheck (r : Bool) : V := .b r
noncomputable def unr_circalaw14_YearformsCheck (v : V) : Option (Bool) := match v with
  | .b r0 => some r0
  | _ => none
theorem unr_ok_circalaw14_YearformsCheck : ∀ v r, unr_circalaw14_YearformsCheck v = some r → v = enc_circalaw14_YearformsCheck r := by
  intro v r h
  unfold unr_circalaw14_YearformsCheck at h
  split at h
  · cases h; rfl
  · cases h
noncomputable def e_circalaw14_YearformsCheck (n : Nat) : Ent := pureE 6 una_circalaw14_YearformsCheck (fun a => circalaw14_YearformsCheck n a.1 a.2.1 a.2.2.1 a.2.2.2.1 a.2.2.2.2) enc_circalaw14_YearformsCheck
noncomputable def t_circalaw14_YearformsCheck (l : List V) (_ : List (Nat × Blk)) : Bool := isS (una_circalaw14_YearformsCheck l)
noncomputable def Es_circalaw14_YearformsCheck (n : Nat) : List Ent := [e_circalaw14_lives n, e_circaref14_Check n, e_lib_16 n, e_yearforms_Value n, e_yearforms_Span n, e_yearforms_Check n, e_yearforms_Masked n, e_circaref14_Masked n]
theorem Es_ok_circalaw14_YearformsCheck (n : Nat) : ∀ x ∈ Es_circalaw14_YearformsCheck n, EntOK Tryz.prog x := by
  intro x hx
  simp only [Es_circalaw14_YearformsCheck, List.mem_cons, List.not_mem_nil, or_false] at hx
  rcases hx with hx | hx | hx | hx | hx | hx | hx | hx
  · rw [hx]; exact ok_circalaw14_lives n
  · rw [hx]; exact ok_circaref14_Check n
  · rw [hx]; exact ok_lib_16 n
  · rw [hx]; exact ok_yearforms_Value n
  · rw [hx]; exact ok_yearforms_Span n
  · rw [hx]; exact ok_yearforms_Check n
  · rw [hx]; exact ok_yearforms_Masked n
  · rw [hx]; exact ok_circaref14_Masked n
noncomputable def Ls_circalaw14_YearformsCheck (_n : Nat) : List Sub := []
theorem subs_circalaw14_YearformsCheck (n : Nat) : SubOK Tryz.prog 83 (Ls_circalaw14_YearformsCheck n) (acOf Tryz.f6) := SubOK_of _ (by
  have e : subs (acOf Tryz.f6) = [] := by kernel_rfl
  rw [e]; intro p hp; cases hp)
theorem cert_circalaw14_YearformsCheck (n : Nat) (a0 : Bool) (a1 : Bool) (a2 : List UInt8) (a3 : Int) (a4 : Int) : run Tryz.prog (Es_circalaw14_YearformsCheck n) (Ls_circalaw14_YearformsCheck n) Tryz.f6.ntmps (acOf Tryz.f6) ⟨argsT [.ag [.b a0, .b a1, .s a2, .i .i64 a3, .i .i64 a4]] 0, [], 0, 0, 0, 0⟩ (finK Tryz.prog Tryz.f6.results.toList (retX unr_circalaw14_YearformsCheck)) = circalaw14_YearformsCheck n a0 a1 a2 a3 a4 := by kernel_rfl
theorem pure_circalaw14_YearformsCheck (n : Nat) : ∀ a r, circalaw14_YearformsCheck n a.1 a.2.1 a.2.2.1 a.2.2.2.1 a.2.2.2.2 = some r → PureOK Tryz.prog 6 (arg_circalaw14_YearformsCheck a) (enc_circalaw14_YearformsCheck r) := fun a r h => pureX_ok unr_ok_circalaw14_YearformsCheck (Es_ok_circalaw14_YearformsCheck n) Tryz.func6 rfl (acOf_code _) (subs_circalaw14_YearformsCheck n) rfl ((cert_circalaw14_YearformsCheck n a.1 a.2.1 a.2.2.1 a.2.2.2.1 a.2.2.2.2).trans h)
theorem ok_circalaw14_YearformsCheck (n : Nat) : EntOK Tryz.prog (e_circalaw14_YearformsCheck n) := pureE_ok Tryz.call6 una_ok_circalaw14_YearformsCheck (fun _ => rfl) (pure_circalaw14_YearformsCheck n)

/-! circa/circalaw14.YearformsKnown -/
noncomputable def arg_circalaw14_YearformsKnown (_a : Unit) : List V := []
noncomputable def una_circalaw14_YearformsKnown (l : List V) : Option (Unit) := match l with
  | [] => some ()
  | _ => none
theorem una_ok_circalaw14_YearformsKnown : ∀ l a, una_circalaw14_YearformsKnown l = some a → l = arg_circalaw14_YearformsKnown a := by
  intro l a h
  unfold una_circalaw14_YearformsKnown at h
  split at h
  · cases h; rfl
  · cases h
noncomputable def enc_circalaw14_YearformsKnown (r : Bool) : V := .b r
noncomputable def unr_circalaw14_YearformsKnown (v : V) : Option (Bool) := match v with
  | .b r0 => some r0
  | _ => none
theorem unr_ok_circalaw14_YearformsKnown : ∀ v r, unr_circalaw14_YearformsKnown v = some r → v = enc_circalaw14_YearformsKnown r := by
  intro v r h
  unfold unr_circalaw14_YearformsKnown at h
  split at h
  · cases h; rfl
  · cases h
noncomputable def e_circalaw14_YearformsKnown (n : Nat) : Ent := pureE 7 una_circalaw14_YearformsKnown (fun _a => circalaw14_YearformsKnown n) enc_circalaw14_YearformsKnown
noncomputable def t_circalaw14_YearformsKnown (l : List V) (_ : List (Nat × Blk)) : Bool := isS (una_circalaw14_YearformsKnown l)
noncomputable def Es_circalaw14_YearformsKnown (n : Nat) : List Ent := [e_yearforms_Parse n, e_circalaw14_YearformsParse n, e_circalaw14_YearformsCheck n, e_yearforms_Span n, e_circaref14_Span n, e_circaref14_In n, e_circalaw14_lives n]
theorem Es_ok_circalaw14_YearformsKnown (n : Nat) : ∀ x ∈ Es_circalaw14_YearformsKnown n, EntOK Tryz.prog x := by
  intro x hx
  simp only [Es_circalaw14_YearformsKnown, List.mem_cons, List.not_mem_nil, or_false] at hx
  rcases hx with hx | hx | hx | hx | hx | hx | hx
  · rw [hx]; exact ok_yearforms_Parse n
  · rw [hx]; exact ok_circalaw14_YearformsParse n
  · rw [hx]; exact ok_circalaw14_YearformsCheck n
  · rw [hx]; exact ok_yearforms_Span n
  · rw [hx]; exact ok_circaref14_Span n
  · rw [hx]; exact ok_circaref14_In n
  · rw [hx]; exact ok_circalaw14_lives n
noncomputable def an_circalaw14_YearformsKnown_l0 : Ann := ⟨[1, 2, 3], [0, 1], 2, []⟩
noncomputable def emb_circalaw14_YearformsKnown_l0 (x : Int × List (List UInt8) × List (Bool)) : St := ⟨[(1, some (.ws 0)), (2, some (.ws 1)), (3, some (.i .i64 x.1))], [(0, .rows [.s] x.2.1), (1, .rows [.bo] x.2.2)], 2, 0, 0, 0⟩
noncomputable def un_circalaw14_YearformsKnown_l0 (s : St) : Option (Int × List (List UInt8) × List (Bool)) := match s with
  | ⟨[(1, some (.ws 0)), (2, some (.ws 1)), (3, some (.i .i64 x0))], [(0, .rows [.s] x1), (1, .rows [.bo] x2)], 2, 0, 0, 0⟩ => some (x0, x1, x2)
  | _ => none
theorem un_ok_circalaw14_YearformsKnown_l0 : ∀ s x, un_circalaw14_YearformsKnown_l0 s = some x → s = emb_circalaw14_YearformsKnown_l0 x := by
  intro s x h
  unfold un_circalaw14_YearformsKnown_l0 at h
  split at h
  · cases h; rfl
  · cases h
noncomputable def ax_circalaw14_YearformsKnown_l0 : Ex → Ann := fun ex => match ex with
  | .ret => ⟨[0], [], 2, []⟩
  | .exit 0 => ⟨[], [], 2, []⟩
  | _ => ⟨[], [], 0, []⟩
noncomputable def out_circalaw14_YearformsKnown_l0 (y : Bool ⊕ Unit) : Ex × St := (Sum.casesOn (motive := fun _ => Ex × St) y (fun a0 => (.ret, ⟨[(0, some (.b a0))], [], 2, 0, 0, 0⟩)) (fun b0 => (.exit 0, ⟨[], [], 2, 0, 0, 0⟩)))
noncomputable def outK_circalaw14_YearformsKnown_l0 (α : Type) (y : Bool ⊕ Unit) (k : Ex → St → Option α) : Option α := (Sum.casesOn (motive := fun _ => Option α) y (fun a0 => (k (.ret) ⟨[(0, some (.b a0))], [], 2, 0, 0, 0⟩)) (fun b0 => (k (.exit 0) ⟨[], [], 2, 0, 0, 0⟩)))
theorem outK_ok_circalaw14_YearformsKnown_l0 : ∀ α y k, outK_circalaw14_YearformsKnown_l0 α y k = k (out_circalaw14_YearformsKnown_l0 y).1 (out_circalaw14_YearformsKnown_l0 y).2 := by
  intro α y k
  rcases y with y | y <;> rfl
noncomputable def ux_circalaw14_YearformsKnown_l0 (ex : Ex) (s : St) : Option (Bool ⊕ Unit) := match ex, s with
  | .ret, ⟨[(0, some (.b y0))], [], 2, 0, 0, 0⟩ => some (.inl y0)
  | .exit 0, ⟨[], [], 2, 0, 0, 0⟩ => some (.inr ())
  | _, _ => none
theorem ux_ok_circalaw14_YearformsKnown_l0 : ∀ ex s y, ux_circalaw14_YearformsKnown_l0 ex s = some y → (ex, s) = out_circalaw14_YearformsKnown_l0 y := by
  intro ex s y h
  unfold ux_circalaw14_YearformsKnown_l0 at h
  split at h
  · cases h; rfl
  · cases h; rfl
  · cases h
noncomputable def an_circalaw14_YearformsKnown_l1 : Ann := ⟨[7], [], 2, []⟩
noncomputable def emb_circalaw14_YearformsKnown_l1 (x : Int) : St := ⟨[(7, some (.i .i64 x))], [], 2, 0, 0, 0⟩
noncomputable def un_circalaw14_YearformsKnown_l1 (s : St) : Option (Int) := match s with
  | ⟨[(7, some (.i .i64 x0))], [], 2, 0, 0, 0⟩ => some x0
  | _ => none
theorem un_ok_circalaw14_YearformsKnown_l1 : ∀ s x, un_circalaw14_YearformsKnown_l1 s = some x → s = emb_circalaw14_YearformsKnown_l1 x := by
  intro s x h
  unfold un_circalaw14_YearformsKnown_l1 at h
  split at h
  · cases h; rfl
  · cases h
noncomputable def ax_circalaw14_YearformsKnown_l1 : Ex → Ann := fun ex => match ex with
  | .ret => ⟨[0], [], 2, []⟩
  | .exit 2 => ⟨[], [], 2, []⟩
  | _ => ⟨[], [], 0, []⟩
noncomputable def out_circalaw14_YearformsKnown_l1 (y : Bool ⊕ Unit) : Ex × St := (Sum.casesOn (motive := fun _ => Ex × St) y (fun a0 => (.ret, ⟨[(0, some (.b a0))], [], 2, 0, 0, 0⟩)) (fun b0 => (.exit 2, ⟨[], [], 2, 0, 0, 0⟩)))
noncomputable def outK_circalaw14_YearformsKnown_l1 (α : Type) (y : Bool ⊕ Unit) (k : Ex → St → Option α) : Option α := (Sum.casesOn (motive := fun _ => Option α) y (fun a0 => (k (.ret) ⟨[(0, some (.b a0))], [], 2, 0, 0, 0⟩)) (fun b0 => (k (.exit 2) ⟨[], [], 2, 0, 0, 0⟩)))
theorem outK_ok_circalaw14_YearformsKnown_l1 : ∀ α y k, outK_circalaw14_YearformsKnown_l1 α y k = k (out_circalaw14_YearformsKnown_l1 y).1 (out_circalaw14_YearformsKnown_l1 y).2 := by
  intro α y k
  rcases y with y | y <;> rfl
noncomputable def ux_circalaw14_YearformsKnown_l1 (ex : Ex) (s : St) : Option (Bool ⊕ Unit) := match ex, s with
  | .ret, ⟨[(0, some (.b y0))], [], 2, 0, 0, 0⟩ => some (.inl y0)
  | .exit 2, ⟨[], [], 2, 0, 0, 0⟩ => some (.inr ())
  | _, _ => none
theorem ux_ok_circalaw14_YearformsKnown_l1 : ∀ ex s y, ux_circalaw14_YearformsKnown_l1 ex s = some y → (ex, s) = out_circalaw14_YearformsKnown_l1 y := by
  intro ex s y h
  unfold ux_circalaw14_YearformsKnown_l1 at h
  split at h
  · cases h; rfl
  · cases h; rfl
  · cases h
noncomputable def an_circalaw14_YearformsKnown_l3 : Ann := ⟨[8, 9, 10], [], 2, []⟩
noncomputable def emb_circalaw14_YearformsKnown_l3 (x : Int × List UInt8 × Int) : St := ⟨[(8, some (.i .i64 x.1)), (9, some (.s x.2.1)), (10, some (.i .i64 x.2.2))], [], 2, 0, 0, 0⟩
noncomputable def un_circalaw14_YearformsKnown_l3 (s : St) : Option (Int × List UInt8 × Int) := match s with
  | ⟨[(8, some (.i .i64 x0)), (9, some (.s x1)), (10, some (.i .i64 x2))], [], 2, 0, 0, 0⟩ => some (x0, x1, x2)
  | _ => none
theorem un_ok_circalaw14_YearformsKnown_l3 : ∀ s x, un_circalaw14_YearformsKnown_l3 s = some x → s = emb_circalaw14_YearformsKnown_l3 x := by
  intro s x h
  unfold un_circalaw14_YearformsKnown_l3 at h
  split at h
  · cases h; rfl
  · cases h
noncomputable def ax_circalaw14_YearformsKnown_l3 : Ex → Ann := fun ex => match ex with
  | .exit 6 => ⟨[8, 9], [], 2, []⟩
  | _ => ⟨[], [], 0, []⟩
noncomputable def out_circalaw14_YearformsKnown_l3 (y : (Int × List UInt8)) : Ex × St := (.exit 6, ⟨[(8, some (.i .i64 y.1)), (9, some (.s y.2))], [], 2, 0, 0, 0⟩)
noncomputable def outK_circalaw14_YearformsKnown_l3 (α : Type) (y : (Int × List UInt8)) (k : Ex → St → Option α) : Option α := (k (.exit 6) ⟨[(8, some (.i .i64 y.1)), (9, some (.s y.2))], [], 2, 0, 0, 0⟩)
theorem outK_ok_circalaw14_YearformsKnown_l3 : ∀ α y k, outK_circalaw14_YearformsKnown_l3 α y k = k (out_circalaw14_YearformsKnown_l3 y).1 (out_circalaw14_YearformsKnown_l3 y).2 := by
  intro α y k
  rfl
noncomputable def ux_circalaw14_YearformsKnown_l3 (ex : Ex) (s : St) : Option ((Int × List UInt8)) := match ex, s with
  | .exit 6, ⟨[(8, some (.i .i64 y0)), (9, some (.s y1))], [], 2, 0, 0, 0⟩ => some (y0, y1)
  | _, _ => none
theorem ux_ok_circalaw14_YearformsKnown_l3 : ∀ ex s y, ux_circalaw14_YearformsKnown_l3 ex s = some y → (ex, s) = out_circalaw14_YearformsKnown_l3 y := by
  intro ex s y h
  unfold ux_circalaw14_YearformsKnown_l3 at h
  split at h
  · cases h; rfl
  · cases h
noncomputable def an_circalaw14_YearformsKnown_l2 : Ann := ⟨[8], [], 2, []⟩
noncomputable def emb_circalaw14_YearformsKnown_l2 (x : Int) : St := ⟨[(8, some (.i .i64 x))], [], 2, 0, 0, 0⟩
noncomputable def un_circalaw14_YearformsKnown_l2 (s : St) : Option (Int) := match s with
  | ⟨[(8, some (.i .i64 x0))], [], 2, 0, 0, 0⟩ => some x0
  | _ => none
theorem un_ok_circalaw14_YearformsKnown_l2 : ∀ s x, un_circalaw14_YearformsKnown_l2 s = some x → s = emb_circalaw14_YearformsKnown_l2 x := by
  intro s x h
  unfold un_circalaw14_YearformsKnown_l2 at h
  split at h
  · cases h; rfl
  · cases h
noncomputable def ax_circalaw14_YearformsKnown_l2 : Ex → Ann := fun ex => match ex with
  | .ret => ⟨[0], [], 2, []⟩
  | .exit 4 => ⟨[], [], 2, []⟩
  | _ => ⟨[], [], 0, []⟩
noncomputable def out_circalaw14_YearformsKnown_l2 (y : Bool ⊕ Unit) : Ex × St := (Sum.casesOn (motive := fun _ => Ex × St) y (fun a0 => (.ret, ⟨[(0, some (.b a0))], [], 2, 0, 0, 0⟩)) (fun b0 => (.exit 4, ⟨[], [], 2, 0, 0, 0⟩)))
noncomputable def outK_circalaw14_YearformsKnown_l2 (α : Type) (y : Bool ⊕ Unit) (k : Ex → St → Option α) : Option α := (Sum.casesOn (motive := fun _ => Option α) y (fun a0 => (k (.ret) ⟨[(0, some (.b a0))], [], 2, 0, 0, 0⟩)) (fun b0 => (k (.exit 4) ⟨[], [], 2, 0, 0, 0⟩)))
theorem outK_ok_circalaw14_YearformsKnown_l2 : ∀ α y k, outK_circalaw14_YearformsKnown_l2 α y k = k (out_circalaw14_YearformsKnown_l2 y).1 (out_circalaw14_YearformsKnown_l2 y).2 := by
  intro α y k
  rcases y with y | y <;> rfl
noncomputable def ux_circalaw14_YearformsKnown_l2 (ex : Ex) (s : St) : Option (Bool ⊕ Unit) := match ex, s with
  | .ret, ⟨[(0, some (.b y0))], [], 2, 0, 0, 0⟩ => some (.inl y0)
  | .exit 4, ⟨[], [], 2, 0, 0, 0⟩ => some (.inr ())
  | _, _ => none
theorem ux_ok_circalaw14_YearformsKnown_l2 : ∀ ex s y, ux_circalaw14_YearformsKnown_l2 ex s = some y → (ex, s) = out_circalaw14_YearformsKnown_l2 y := by
  intro ex s y h
  unfold ux_circalaw14_YearformsKnown_l2 at h
  split at h
  · cases h; rfl
  · cases h; rfl
  · cases h
noncomputable def Ls_circalaw14_YearformsKnown (n : Nat) : List Sub := [subE 0 an_circalaw14_YearformsKnown_l0 un_circalaw14_YearformsKnown_l0 (fun x => iterL (circalaw14_YearformsKnown_l0 n) n x) outK_circalaw14_YearformsKnown_l0, subE 1 an_circalaw14_YearformsKnown_l1 un_circalaw14_YearformsKnown_l1 (fun x => iterL (circalaw14_YearformsKnown_l1 n) n x) outK_circalaw14_YearformsKnown_l1, subE 3 an_circalaw14_YearformsKnown_l3 un_circalaw14_YearformsKnown_l3 (fun x => iterL (circalaw14_YearformsKnown_l3 n) n x) outK_circalaw14_YearformsKnown_l3, subE 2 an_circalaw14_YearformsKnown_l2 un_circalaw14_YearformsKnown_l2 (fun x => iterL (circalaw14_YearformsKnown_l2 n) n x) outK_circalaw14_YearformsKnown_l2]
noncomputable def sac_circalaw14_YearformsKnown_l0 : AC := getS (subs (acOf Tryz.f7)) 0
noncomputable def ac_circalaw14_YearformsKnown_l0 : AC := AC.body sac_circalaw14_YearformsKnown_l0
theorem subs_circalaw14_YearformsKnown_l0 (n : Nat) : SubOK Tryz.prog 163 (Ls_circalaw14_YearformsKnown n) ac_circalaw14_YearformsKnown_l0 := SubOK_of _ (by
  have e : subs ac_circalaw14_YearformsKnown_l0 = [] := by kernel_rfl
  rw [e]; intro p hp; cases hp)
theorem body_circalaw14_YearformsKnown_l0 (n : Nat) : ∀ x, run Tryz.prog (Es_circalaw14_YearformsKnown n) (Ls_circalaw14_YearformsKnown n) 163 ac_circalaw14_YearformsKnown_l0 (emb_circalaw14_YearformsKnown_l0 x) (roundK an_circalaw14_YearformsKnown_l0 un_circalaw14_YearformsKnown_l0 ax_circalaw14_YearformsKnown_l0 ux_circalaw14_YearformsKnown_l0) = circalaw14_YearformsKnown_l0 n x := fun _ => by kernel_rfl
theorem sub1_circalaw14_YearformsKnown_l0 (n : Nat) : ∀ (α : Type) (s : St) (k : Ex → St → Option α) (z : α), (subE 0 an_circalaw14_YearformsKnown_l0 un_circalaw14_YearformsKnown_l0 (fun x => iterL (circalaw14_YearformsKnown_l0 n) n x) outK_circalaw14_YearformsKnown_l0).e α s k = some z → SemC Tryz.prog 163 (sac_circalaw14_YearformsKnown_l0).code s fun ex s' => k ex s' = some z := by
  intro α s k z h
  have e : sac_circalaw14_YearformsKnown_l0 = .loop ac_circalaw14_YearformsKnown_l0 := by kernel_rfl
  rw [e]
  exact subE_ok (m := 0) (f := fun x => iterL (circalaw14_YearformsKnown_l0 n) n x) (out := out_circalaw14_YearformsKnown_l0) outK_ok_circalaw14_YearformsKnown_l0 un_ok_circalaw14_YearformsKnown_l0 (fun x y hy => loop_ok (Es_ok_circalaw14_YearformsKnown n) (subs_circalaw14_YearformsKnown_l0 n) un_ok_circalaw14_YearformsKnown_l0 ux_ok_circalaw14_YearformsKnown_l0 (body_circalaw14_YearformsKnown_l0 n) n x y hy) h
theorem sub_circalaw14_YearformsKnown_l0 (n : Nat) : SubSt Tryz.prog 163 (Ls_circalaw14_YearformsKnown n) 0 sac_circalaw14_YearformsKnown_l0 := fun α s k z => sub1_circalaw14_YearformsKnown_l0 n α s k z
noncomputable def sac_circalaw14_YearformsKnown_l1 : AC := getS (subs (acOf Tryz.f7)) 1
noncomputable def ac_circalaw14_YearformsKnown_l1 : AC := AC.body sac_circalaw14_YearformsKnown_l1
theorem subs_circalaw14_YearformsKnown_l1 (n : Nat) : SubOK Tryz.prog 163 (Ls_circalaw14_YearformsKnown n) ac_circalaw14_YearformsKnown_l1 := SubOK_of _ (by
  have e : subs ac_circalaw14_YearformsKnown_l1 = [] := by kernel_rfl
  rw [e]; intro p hp; cases hp)
theorem body_circalaw14_YearformsKnown_l1 (n : Nat) : ∀ x, run Tryz.prog (Es_circalaw14_YearformsKnown n) (Ls_circalaw14_YearformsKnown n) 163 ac_circalaw14_YearformsKnown_l1 (emb_circalaw14_YearformsKnown_l1 x) (roundK an_circalaw14_YearformsKnown_l1 un_circalaw14_YearformsKnown_l1 ax_circalaw14_YearformsKnown_l1 ux_circalaw14_YearformsKnown_l1) = circalaw14_YearformsKnown_l1 n x := fun _ => by kernel_rfl
theorem sub1_circalaw14_YearformsKnown_l1 (n : Nat) : ∀ (α : Type) (s : St) (k : Ex → St → Option α) (z : α), (subE 1 an_circalaw14_YearformsKnown_l1 un_circalaw14_YearformsKnown_l1 (fun x => iterL (circalaw14_YearformsKnown_l1 n) n x) outK_circalaw14_YearformsKnown_l1).e α s k = some z → SemC Tryz.prog 163 (sac_circalaw14_YearformsKnown_l1).code s fun ex s' => k ex s' = some z := by
  intro α s k z h
  have e : sac_circalaw14_YearformsKnown_l1 = .loop ac_circalaw14_YearformsKnown_l1 := by kernel_rfl
  rw [e]
  exact subE_ok (m := 1) (f := fun x => iterL (circalaw14_YearformsKnown_l1 n) n x) (out := out_circalaw14_YearformsKnown_l1) outK_ok_circalaw14_YearformsKnown_l1 un_ok_circalaw14_YearformsKnown_l1 (fun x y hy => loop_ok (Es_ok_circalaw14_YearformsKnown n) (subs_circalaw14_YearformsKnown_l1 n) un_ok_circalaw14_YearformsKnown_l1 ux_ok_circalaw14_YearformsKnown_l1 (body_circalaw14_YearformsKnown_l1 n) n x y hy) h
theorem sub_circalaw14_YearformsKnown_l1 (n : Nat) : SubSt Tryz.prog 163 (Ls_circalaw14_YearformsKnown n) 1 sac_circalaw14_YearformsKnown_l1 := fun α s k z => sub1_circalaw14_YearformsKnown_l1 n α s k z
noncomputable def sac_circalaw14_YearformsKnown_l2 : AC := getS (subs (acOf Tryz.f7)) 2
noncomputable def ac_circalaw14_YearformsKnown_l2 : AC := AC.body sac_circalaw14_YearformsKnown_l2
noncomputable def sac_circalaw14_YearformsKnown_l3 : AC := getS (subs ac_circalaw14_YearformsKnown_l2) 3
noncomputable def ac_circalaw14_YearformsKnown_l3 : AC := AC.body sac_circalaw14_YearformsKnown_l3
theorem subs_circalaw14_YearformsKnown_l3 (n : Nat) : SubOK Tryz.prog 163 (Ls_circalaw14_YearformsKnown n) ac_circalaw14_YearformsKnown_l3 := SubOK_of _ (by
  have e : subs ac_circalaw14_YearformsKnown_l3 = [] := by kernel_rfl
  rw [e]; intro p hp; cases hp)
theorem body_circalaw14_YearformsKnown_l3 (n : Nat) : ∀ x, run Tryz.prog (Es_circalaw14_YearformsKnown n) (Ls_circalaw14_YearformsKnown n) 163 ac_circalaw14_YearformsKnown_l3 (emb_circalaw14_YearformsKnown_l3 x) (roundK an_circalaw14_YearformsKnown_l3 un_circalaw14_YearformsKnown_l3 ax_circalaw14_YearformsKnown_l3 ux_circalaw14_YearformsKnown_l3) = circalaw14_YearformsKnown_l3 n x := fun _ => by kernel_rfl
theorem sub1_circalaw14_YearformsKnown_l3 (n : Nat) : ∀ (α : Type) (s : St) (k : Ex → St → Option α) (z : α), (subE 3 an_circalaw14_YearformsKnown_l3 un_circalaw14_YearformsKnown_l3 (fun x => iterL (circalaw14_YearformsKnown_l3 n) n x) outK_circalaw14_YearformsKnown_l3).e α s k = some z → SemC Tryz.prog 163 (sac_circalaw14_YearformsKnown_l3).code s fun ex s' => k ex s' = some z := by
  intro α s k z h
  have e : sac_circalaw14_YearformsKnown_l3 = .loop ac_circalaw14_YearformsKnown_l3 := by kernel_rfl
  rw [e]
  exact subE_ok (m := 3) (f := fun x => iterL (circalaw14_YearformsKnown_l3 n) n x) (out := out_circalaw14_YearformsKnown_l3) outK_ok_circalaw14_YearformsKnown_l3 un_ok_circalaw14_YearformsKnown_l3 (fun x y hy => loop_ok (Es_ok_circalaw14_YearformsKnown n) (subs_circalaw14_YearformsKnown_l3 n) un_ok_circalaw14_YearformsKnown_l3 ux_ok_circalaw14_YearformsKnown_l3 (body_circalaw14_YearformsKnown_l3 n) n x y hy) h
theorem sub_circalaw14_YearformsKnown_l3 (n : Nat) : SubSt Tryz.prog 163 (Ls_circalaw14_YearformsKnown n) 3 sac_circalaw14_YearformsKnown_l3 := fun α s k z => sub1_circalaw14_YearformsKnown_l3 n α s k z
theorem subs_circalaw14_YearformsKnown_l2 (n : Nat) : SubOK Tryz.prog 163 (Ls_circalaw14_YearformsKnown n) ac_circalaw14_YearformsKnown_l2 := SubOK_of _ (by
  have e : subs ac_circalaw14_YearformsKnown_l2 = [(3, sac_circalaw14_YearformsKnown_l3)] := by kernel_rfl
  rw [e]; intro p hp
  simp only [List.mem_cons, List.not_mem_nil, or_false] at hp
  · rw [hp]; exact sub_circalaw14_YearformsKnown_l3 n
  )
theorem body_circalaw14_YearformsKnown_l2 (n : Nat) : ∀ x, run Tryz.prog (Es_circalaw14_YearformsKnown n) (Ls_circalaw14_YearformsKnown n) 163 ac_circalaw14_YearformsKnown_l2 (emb_circalaw14_YearformsKnown_l2 x) (roundK an_circalaw14_YearformsKnown_l2 un_circalaw14_YearformsKnown_l2 ax_circalaw14_YearformsKnown_l2 ux_circalaw14_YearformsKnown_l2) = circalaw14_YearformsKnown_l2 n x := fun _ => by kernel_rfl
theorem sub1_circalaw14_YearformsKnown_l2 (n : Nat) : ∀ (α : Type) (s : St) (k : Ex → St → Option α) (z : α), (subE 2 an_circalaw14_YearformsKnown_l2 un_circalaw14_YearformsKnown_l2 (fun x => iterL (circalaw14_YearformsKnown_l2 n) n x) outK_circalaw14_YearformsKnown_l2).e α s k = some z → SemC Tryz.prog 163 (sac_circalaw14_YearformsKnown_l2).code s fun ex s' => k ex s' = some z := by
  intro α s k z h
  have e : sac_circalaw14_YearformsKnown_l2 = .loop ac_circalaw14_YearformsKnown_l2 := by kernel_rfl
  rw [e]
  exact subE_ok (m := 2) (f := fun x => iterL (circalaw14_YearformsKnown_l2 n) n x) (out := out_circalaw14_YearformsKnown_l2) outK_ok_circalaw14_YearformsKnown_l2 un_ok_circalaw14_YearformsKnown_l2 (fun x y hy => loop_ok (Es_ok_circalaw14_YearformsKnown n) (subs_circalaw14_YearformsKnown_l2 n) un_ok_circalaw14_YearformsKnown_l2 ux_ok_circalaw14_YearformsKnown_l2 (body_circalaw14_YearformsKnown_l2 n) n x y hy) h
theorem sub_circalaw14_YearformsKnown_l2 (n : Nat) : SubSt Tryz.prog 163 (Ls_circalaw14_YearformsKnown n) 2 sac_circalaw14_YearformsKnown_l2 := fun α s k z => sub1_circalaw14_YearformsKnown_l2 n α s k z
theorem subs_circalaw14_YearformsKnown (n : Nat) : SubOK Tryz.prog 163 (Ls_circalaw14_YearformsKnown n) (acOf Tryz.f7) := SubOK_of _ (by
  have e : subs (acOf Tryz.f7) = [(0, sac_circalaw14_YearformsKnown_l0), (1, sac_circalaw14_YearformsKnown_l1), (2, sac_circalaw14_YearformsKnown_l2)] := by kernel_rfl
  rw [e]; intro p hp
  simp only [List.mem_cons, List.not_mem_nil, or_false] at hp
  rcases hp with hp | hp | hp
  · rw [hp]; exact sub_circalaw14_YearformsKnown_l0 n
  · rw [hp]; exact sub_circalaw14_YearformsKnown_l1 n
  · rw [hp]; exact sub_circalaw14_YearformsKnown_l2 n
  )
theorem cert_circalaw14_YearformsKnown (n : Nat) : run Tryz.prog (Es_circalaw14_YearformsKnown n) (Ls_circalaw14_YearformsKnown n) Tryz.f7.ntmps (acOf Tryz.f7) ⟨argsT [] 0, [], 0, 0, 0, 0⟩ (finK Tryz.prog Tryz.f7.results.toList (retX unr_circalaw14_YearformsKnown)) = circalaw14_YearformsKnown n := by kernel_rfl
theorem pure_circalaw14_YearformsKnown (n : Nat) : ∀ a r, circalaw14_YearformsKnown n = some r → PureOK Tryz.prog 7 (arg_circalaw14_YearformsKnown a) (enc_circalaw14_YearformsKnown r) := fun a r h => pureX_ok unr_ok_circalaw14_YearformsKnown (Es_ok_circalaw14_YearformsKnown n) Tryz.func7 rfl (acOf_code _) (subs_circalaw14_YearformsKnown n) rfl ((cert_circalaw14_YearformsKnown n).trans h)
theorem ok_circalaw14_YearformsKnown (n : Nat) : EntOK Tryz.prog (e_circalaw14_YearformsKnown n) := pureE_ok Tryz.call7 una_ok_circalaw14_YearformsKnown (fun _ => rfl) (pure_circalaw14_YearformsKnown n)

end Go.Sh
