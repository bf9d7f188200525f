/- Each function of the program computes its plain function: the certificates.
   Conditions: none. Printed by the bench tool gen.py. -/
import Derived.Test.YtldcbkbengjdiaaGreatDoorCeD
set_option linter.unusedVariables false
set_option linter.unusedSimpArgs false
set_option maxRecDepth 100000
set_option maxHeartbeats 4000000
namespace Go.Sh
open Go.Abs Go.Proofs

/-! strings.Index -/
noncomputable def arg_strings_Index (a : List UInt8) : List V := [.s a, .s [88]]
noncomputable def una_strings_Index (l : List V) : Option (List UInt8) := match l with
  | [.s a0, .s [88]] => some a0
  | _ => none
theorem una_ok_strings_Index : ∀ l a, una_strings_Index l = some a → l = arg_strings_Index a := by
  intro l a h
  unfold una_strings_Index at h
  split at h
  · cases h; rfl
  · cases h
noncomputable def enc_strings_Index (r : Int) : V := .i .i64 r
noncomputable def unr_strings_Index (v : V) : Option (Int) := match v with
  | .i .i64 r0 => some r0
  | _ => none
theorem unr_ok_strings_Index : ∀ v r, unr_strings_Index v = some r → v = enc_strings_Index r := by
  intro v r h
  unfold unr_strings_Index at h
  split at h
  · cases h; rfl
  · cases h
noncomputable def e_strings_Index (n : Nat) : Ent := pureE 137 una_strings_Index (fun a => strings_Index n a) enc_strings_Index
noncomputable def t_strings_Index (l : List V) (_ : List (Nat × Blk)) : Bool := isS (una_strings_Index l)
noncomputable def Es_strings_Index (n : Nat) : List Ent := [e_int_stringslite_Index n]
theorem Es_ok_strings_Index (n : Nat) : ∀ x ∈ Es_strings_Index n, EntOK Tryz.prog x := by
  intro x hx
  simp only [Es_strings_Index, List.mem_cons, List.not_mem_nil, or_false] at hx
  · rw [hx]; exact ok_int_stringslite_Index n
noncomputable def Ls_strings_Index (_n : Nat) : List Sub := []
theorem subs_strings_Index (n : Nat) : SubOK Tryz.prog 8 (Ls_strings_Index n) (acOf Tryz.f137) := SubOK_of _ (by
  have e : subs (acOf Tryz.f137) = [] := by kernel_rfl
  rw [e]; intro p hp; cases hp)
theorem cert_strings_Index (n : Nat) (a0 : List UInt8) : run Tryz.prog (Es_strings_Index n) (Ls_strings_Index n) Tryz.f137.ntmps (acOf Tryz.f137) ⟨argsT [.s a0, .s [88]] 0, [], 0, 0, 0, 0⟩ (finK Tryz.prog Tryz.f137.results.toList (retX unr_strings_Index)) = strings_Index n a0 := by kernel_rfl
theorem pure_strings_Index (n : Nat) : ∀ a r, strings_Index n a = some r → PureOK Tryz.prog 137 (arg_strings_Index a) (enc_strings_Index r) := fun a r h => pureX_ok unr_ok_strings_Index (Es_ok_strings_Index n) Tryz.func137 rfl (acOf_code _) (subs_strings_Index n) rfl ((cert_strings_Index n a).trans h)
theorem ok_strings_Index (n : Nat) : EntOK Tryz.prog (e_strings_Index n) := pureE_ok Tryz.call137 una_ok_strings_Index (fun _ => rfl) (pure_strings_Index n)

/-! strings.Contains -/
noncomputable def arg_strings_Contains (a : List UInt8) : List V := [.s a, .s [88]]
noncomputable def una_strings_Contains (l : List V) : Option (List UInt8) := match l with
  | [.s a0, .s [88]] => some a0
  | _ => none
theorem una_ok_strings_Contains : ∀ l a, una_strings_Contains l = some a → l = arg_strings_Contains a := by
  intro l a h
  unfold una_strings_Contains at h
  split at h
  · cases h; rfl
  · cases h
noncomputable def enc_strings_Contains (r : Bool) : V := .b r
noncomputable def unr_strings_Contains (v : V) : Option (Bool) := match v with
  | .b r0 => some r0
  | _ => none
theorem unr_ok_strings_Contains : ∀ v r, unr_strings_Contains v = some r → v = enc_strings_Contains r := by
  intro v r h
  unfold unr_strings_Contains at h
  split at h
  · cases h; rfl
  · cases h
noncomputable def e_strings_Contains (n : Nat) : Ent := pureE 77 una_strings_Contains (fun a => strings_Contains n a) enc_strings_Contains
noncomputable def t_strings_Contains (l : List V) (_ : List (Nat × Blk)) : Bool := isS (una_strings_Contains l)
noncomputable def Es_strings_Contains (n : Nat) : List Ent := [e_strings_Index n]
theorem Es_ok_strings_Contains (n : Nat) : ∀ x ∈ Es_strings_Contains n, EntOK Tryz.prog x := by
  intro x hx
  simp only [Es_strings_Contains, List.mem_cons, List.not_mem_nil, or_false] at hx
  · rw [hx]; exact ok_strings_Index n
noncomputable def Ls_strings_Contains (_n : Nat) : List Sub := []
theorem subs_strings_Contains (n : Nat) : SubOK Tryz.prog 9 (Ls_strings_Contains n) (acOf Tryz.f77) := SubOK_of _ (by
  have e : subs (acOf Tryz.f77) = [] := by kernel_rfl
  rw [e]; intro p hp; cases hp)
theorem cert_strings_Contains (n : Nat) (a0 : List UInt8) : run Tryz.prog (Es_strings_Contains n) (Ls_strings_Contains n) Tryz.f77.ntmps (acOf Tryz.f77) ⟨argsT [.s a0, .s [88]] 0, [], 0, 0, 0, 0⟩ (finK Tryz.prog Tryz.f77.results.toList (retX unr_strings_Contains)) = strings_Contains n a0 := by kernel_rfl
theorem pure_strings_Contains (n : Nat) : ∀ a r, strings_Contains n a = some r → PureOK Tryz.prog 77 (arg_strings_Contains a) (enc_strings_Contains r) := fun a r h => pureX_ok unr_ok_strings_Contains (Es_ok_strings_Contains n) Tryz.func77 rfl (acOf_code _) (subs_strings_Contains n) rfl ((cert_strings_Contains n a).trans h)
theorem ok_strings_Contains (n : Nat) : EntOK Tryz.prog (e_strings_Contains n) := pureE_ok Tryz.call77 una_ok_strings_Contains (fun _ => rfl) (pure_strings_Contains n)

/-! circa/yearforms.Masked -/
noncomputable def arg_yearforms_Masked (a : Bool × Bool × List UInt8 × Int × Int) : List V := [.ag [.b a.1, .b a.2.1, .s a.2.2.1, .i .i64 a.2.2.2.1, .i .i64 a.2.2.2.2]]
noncomputable def una_yearforms_Masked (l : List V) : Option (Bool × Bool × List UInt8 × Int × Int) := match l with
  | [.ag [.b a0, .b a1, .s a2, .i .i64 a3, .i .i64 a4]] => some (a0, a1, a2, a3, a4)
  | _ => none
theorem una_ok_yearforms_Masked : ∀ l a, una_yearforms_Masked l = some a → l = arg_yearforms_Masked a := by
  intro l a h
  unfold una_yearforms_Masked at h
  split at h
  · cases h; rfl
  · cases h
noncomputable def enc_yearforms_Masked (r : Bool) : V := .b r
noncomputable def unr_yearforms_Masked (v : V) : Option (Bool) := match v with
  | .b r0 => some r0
  | _ => none
theorem unr_ok_yearforms_Masked : ∀ v r, unr_yearforms_Masked v = some r → v = enc_yearforms_Masked r := by
  intro v r h
  unfold unr_yearforms_Masked at h
  split at h
  · cases h; rfl
  · cases h
noncomputable def e_yearforms_Masked (n : Nat) : Ent := pureE 122 una_yearforms_Masked (fun a => yearforms_Masked n a.1 a.2.1 a.2.2.1 a.2.2.2.1 a.2.2.2.2) enc_yearforms_Masked
noncomputable def t_yearforms_Masked (l : List V) (_ : List (Nat × Blk)) : Bool := isS (una_yearforms_Masked l)
noncomputable def Es_yearforms_Masked (n : Nat) : List Ent := [e_strings_Contains n]
theorem Es_ok_yearforms_Masked (n : Nat) : ∀ x ∈ Es_yearforms_Masked n, EntOK Tryz.prog x := by
  intro x hx
  simp only [Es_yearforms_Masked, List.mem_cons, List.not_mem_nil, or_false] at hx
  · rw [hx]; exact ok_strings_Contains n
noncomputable def Ls_yearforms_Masked (_n : Nat) : List Sub := []
theorem subs_yearforms_Masked (n : Nat) : SubOK Tryz.prog 6 (Ls_yearforms_Masked n) (acOf Tryz.f122) := SubOK_of _ (by
  have e : subs (acOf Tryz.f122) = [] := by kernel_rfl
  rw [e]; intro p hp; cases hp)
theorem cert_yearforms_Masked (n : Nat) (a0 : Bool) (a1 : Bool) (a2 : List UInt8) (a3 : Int) (a4 : Int) : run Tryz.prog (Es_yearforms_Masked n) (Ls_yearforms_Masked n) Tryz.f122.ntmps (acOf Tryz.f122) ⟨argsT [.ag [.b a0, .b a1, .s a2, .i .i64 a3, .i .i64 a4]] 0, [], 0, 0, 0, 0⟩ (finK Tryz.prog Tryz.f122.results.toList (retX unr_yearforms_Masked)) = yearforms_Masked n a0 a1 a2 a3 a4 := by kernel_rfl
theorem pure_yearforms_Masked (n : Nat) : ∀ a r, yearforms_Masked n a.1 a.2.1 a.2.2.1 a.2.2.2.1 a.2.2.2.2 = some r → PureOK Tryz.prog 122 (arg_yearforms_Masked a) (enc_yearforms_Masked r) := fun a r h => pureX_ok unr_ok_yearforms_Masked (Es_ok_yearforms_Masked n) Tryz.func122 rfl (acOf_code _) (subs_yearforms_Masked n) rfl ((cert_yearforms_Masked n a.1 a.2.1 a.2.2.1 a.2.2.2.1 a.2.2.2.2).trans h)
theorem ok_yearforms_Masked (n : Nat) : EntOK Tryz.prog (e_yearforms_Masked n) := pureE_ok Tryz.call122 una_ok_yearforms_Masked (fun _ => rfl) (pure_yearforms_Masked n)

noncomputable def e_lib_210 (_n : Nat) : Ent := parseE 210
theorem ok_lib_210 (n : Nat) : EntOK Tryz.prog (e_lib_210 n) := parseE_ok Tryz.call210 fun s h v hv w => (Tryz.strconv_ParseInt_10_at64_ok s h v hv w).mono fun e w' ⟨h1, h2⟩ => ⟨h1, h2.elim (fun h => h ▸ RowKit.Below.refl _ _) (fun ⟨t, h⟩ => h ▸ bytesWorld_below _ _ _)⟩

/-! circa/ints.Pow10 -/
noncomputable def arg_ints_Pow10 (a : Int) : List V := [.i .i64 a]
noncomputable def una_ints_Pow10 (l : List V) : Option (Int) := match l with
  | [.i .i64 a0] => some a0
  | _ => none
theorem una_ok_ints_Pow10 : ∀ l a, una_ints_Pow10 l = some a → l = arg_ints_Pow10 a := by
  intro l a h
  unfold una_ints_Pow10 at h
  split at h
  · cases h; rfl
  · cases h
noncomputable def enc_ints_Pow10 (r : Int × Int) : V := .tp [.i .i64 r.1, .i .i64 r.2]
noncomputable def unr_ints_Pow10 (v : V) : Option (Int × Int) := match v with
  | .tp [.i .i64 r0, .i .i64 r1] => some (r0, r1)
  | _ => none
theorem unr_ok_ints_Pow10 : ∀ v r, unr_ints_Pow10 v = some r → v = enc_ints_Pow10 r := by
  intro v r h
  unfold unr_ints_Pow10 at h
  split at h
  · cases h; rfl
  · cases h
noncomputable def e_ints_Pow10 (n : Nat) : Ent := pureE 211 una_ints_Pow10 (fun a => ints_Pow10 n a) enc_ints_Pow10
noncomputable def t_ints_Pow10 (l : List V) (_ : List (Nat × Blk)) : Bool := isS (una_ints_Pow10 l)
noncomputable def Es_ints_Pow10 (_n : Nat) : List Ent := []
theorem Es_ok_ints_Pow10 (n : Nat) : ∀ x ∈ Es_ints_Pow10 n, EntOK Tryz.prog x := by
  intro x hx
  simp [Es_ints_Pow10] at hx
noncomputable def an_ints_Pow10_l0 : Ann := ⟨[4, 9, 10], [], 0, []⟩
noncomputable def emb_ints_Pow10_l0 (x : Int × Int × Int) : St := ⟨[(4, some (.i .i64 x.1)), (9, some (.i .i64 x.2.1)), (10, some (.i .i64 x.2.2))], [], 0, 0, 0, 0⟩
noncomputable def un_ints_Pow10_l0 (s : St) : Option (Int × Int × Int) := match s with
  | ⟨[(4, some (.i .i64 x0)), (9, some (.i .i64 x1)), (10, some (.i .i64 x2))], [], 0, 0, 0, 0⟩ => some (x0, x1, x2)
  | _ => none
theorem un_ok_ints_Pow10_l0 : ∀ s x, un_ints_Pow10_l0 s = some x → s = emb_ints_Pow10_l0 x := by
  intro s x h
  unfold un_ints_Pow10_l0 at h
  split at h
  · cases h; rfl
  · cases h
noncomputable def ax_ints_Pow10_l0 : Ex → Ann := fun ex => match ex with
  | .exit 0 => ⟨[4], [], 0, []⟩
  | _ => ⟨[], [], 0, []⟩
noncomputable def out_ints_Pow10_l0 (y : Int) : Ex × St := (.exit 0, ⟨[(4, some (.i .i64 y))], [], 0, 0, 0, 0⟩)
noncomputable def outK_ints_Pow10_l0 (α : Type) (y : Int) (k : Ex → St → Option α) : Option α := (k (.exit 0) ⟨[(4, some (.i .i64 y))], [], 0, 0, 0, 0⟩)
theorem outK_ok_ints_Pow10_l0 : ∀ α y k, outK_ints_Pow10_l0 α y k = k (out_ints_Pow10_l0 y).1 (out_ints_Pow10_l0 y).2 := by
  intro α y k
  rfl
noncomputable def ux_ints_Pow10_l0 (ex : Ex) (s : St) : Option (Int) := match ex, s with
  | .exit 0, ⟨[(4, some (.i .i64 y0))], [], 0, 0, 0, 0⟩ => some y0
  | _, _ => none
theorem ux_ok_ints_Pow10_l0 : ∀ ex s y, ux_ints_Pow10_l0 ex s = some y → (ex, s) = out_ints_Pow10_l0 y := by
  intro ex s y h
  unfold ux_ints_Pow10_l0 at h
  split at h
  · cases h; rfl
  · cases h
noncomputable def Ls_ints_Pow10 (n : Nat) : List Sub := [subE 0 an_ints_Pow10_l0 un_ints_Pow10_l0 (fun x => iterL (ints_Pow10_l0 n) n x) outK_ints_Pow10_l0]
noncomputable def sac_ints_Pow10_l0 : AC := getS (subs (acOf Tryz.f211)) 0
noncomputable def ac_ints_Pow10_l0 : AC := AC.body sac_ints_Pow10_l0
theorem subs_ints_Pow10_l0 (n : Nat) : SubOK Tryz.prog 16 (Ls_ints_Pow10 n) ac_ints_Pow10_l0 := SubOK_of _ (by
  have e : subs ac_ints_Pow10_l0 = [] := by kernel_rfl
  rw [e]; intro p hp; cases hp)
theorem body_ints_Pow10_l0 (n : Nat) : ∀ x, run Tryz.prog (Es_ints_Pow10 n) (Ls_ints_Pow10 n) 16 ac_ints_Pow10_l0 (emb_ints_Pow10_l0 x) (roundK an_ints_Pow10_l0 un_ints_Pow10_l0 ax_ints_Pow10_l0 ux_ints_Pow10_l0) = ints_Pow10_l0 n x := fun _ => by kernel_rfl
theorem sub1_ints_Pow10_l0 (n : Nat) : ∀ (α : Type) (s : St) (k : Ex → St → Option α) (z : α), (subE 0 an_ints_Pow10_l0 un_ints_Pow10_l0 (fun x => iterL (ints_Pow10_l0 n) n x) outK_ints_Pow10_l0).e α s k = some z → SemC Tryz.prog 16 (sac_ints_Pow10_l0).code s fun ex s' => k ex s' = some z := by
  intro α s k z h
  have e : sac_ints_Pow10_l0 = .loop ac_ints_Pow10_l0 := by kernel_rfl
  rw [e]
  exact subE_ok (m := 0) (f := fun x => iterL (ints_Pow10_l0 n) n x) (out := out_ints_Pow10_l0) outK_ok_ints_Pow10_l0 un_ok_ints_Pow10_l0 (fun x y hy => loop_ok (Es_ok_ints_Pow10 n) (subs_ints_Pow10_l0 n) un_ok_ints_Pow10_l0 ux_ok_ints_Pow10_l0 (body_ints_Pow10_l0 n) n x y hy) h
theorem sub_ints_Pow10_l0 (n : Nat) : SubSt Tryz.prog 16 (Ls_ints_Pow10 n) 0 sac_ints_Pow10_l0 := fun α s k z => sub1_ints_Pow10_l0 n α s k z
theorem subs_ints_Pow10 (n : Nat) : SubOK Tryz.prog 16 (Ls_ints_Pow10 n) (acOf Tryz.f211) := SubOK_of _ (by
  have e : subs (acOf Tryz.f211) = [(0, sac_ints_Pow10_l0)] := by kernel_rfl
  rw [e]; intro p hp
  simp only [List.mem_cons, List.not_mem_nil, or_false] at hp
  · rw [hp]; exact sub_ints_Pow10_l0 n
  )
theorem cert_ints_Pow10 (n : Nat) (a0 : Int) : run Tryz.prog (Es_ints_Pow10 n) (Ls_ints_Pow10 n) Tryz.f211.ntmps (acOf Tryz.f211) ⟨argsT [.i .i64 a0] 0, [], 0, 0, 0, 0⟩ (finK Tryz.prog Tryz.f211.results.toList (retX unr_ints_Pow10)) = ints_Pow10 n a0 := by kernel_rfl
theorem pure_ints_Pow10 (n : Nat) : ∀ a r, ints_Pow10 n a = some r → PureOK Tryz.prog 211 (arg_ints_Pow10 a) (enc_ints_Pow10 r) := fun a r h => pureX_ok unr_ok_ints_Pow10 (Es_ok_ints_Pow10 n) Tryz.func211 rfl (acOf_code _) (subs_ints_Pow10 n) rfl ((cert_ints_Pow10 n a).trans h)
theorem ok_ints_Pow10 (n : Nat) : EntOK Tryz.prog (e_ints_Pow10 n) := pureE_ok Tryz.call211 una_ok_ints_Pow10 (fun _ => rfl) (pure_ints_Pow10 n)

/-! circa/ints.size -/
noncomputable def arg_ints_size (a : Int) : List V := [.i .i64 a]
noncomputable def una_ints_size (l : List V) : Option (Int) := match l with
  | [.i .i64 a0] => some a0
  | _ => none
theorem una_ok_ints_size : ∀ l a, una_ints_size l = some a → l = arg_ints_size a := by
  intro l a h
  unfold una_ints_size at h
  split at h
  · cases h; rfl
  · cases h
noncomputable def enc_ints_size (r : Int) : V := .i .u64 r
noncomputable def unr_ints_size (v : V) : Option (Int) := match v with
  | .i .u64 r0 => some r0
  | _ => none
theorem unr_ok_ints_size : ∀ v r, unr_ints_size v = some r → v = enc_ints_size r := by
  intro v r h
  unfold unr_ints_size at h
  split at h
  · cases h; rfl
  · cases h
noncomputable def e_ints_size (n : Nat) : Ent := pureE 250 una_ints_size (fun a => ints_size n a) enc_ints_size
noncomputable def t_ints_size (l : List V) (_ : List (Nat × Blk)) : Bool := isS (una_ints_size l)
noncomputable def Es_ints_size (_n : Nat) : List Ent := []
theorem Es_ok_ints_size (n : Nat) : ∀ x ∈ Es_ints_size n, EntOK Tryz.prog x := by
  intro x hx
  simp [Es_ints_size] at hx
noncomputable def Ls_ints_size (_n : Nat) : List Sub := []
theorem subs_ints_size (n : Nat) : SubOK Tryz.prog 10 (Ls_ints_size n) (acOf Tryz.f250) := SubOK_of _ (by
  have e : subs (acOf Tryz.f250) = [] := by kernel_rfl
  rw [e]; intro p hp; cases hp)
theorem cert_ints_size (n : Nat) (a0 : Int) : run Tryz.prog (Es_ints_size n) (Ls_ints_size n) Tryz.f250.ntmps (acOf Tryz.f250) ⟨argsT [.i .i64 a0] 0, [], 0, 0, 0, 0⟩ (finK Tryz.prog Tryz.f250.results.toList (retX unr_ints_size)) = ints_size n a0 := by kernel_rfl
theorem pure_ints_size (n : Nat) : ∀ a r, ints_size n a = some r → PureOK Tryz.prog 250 (arg_ints_size a) (enc_ints_size r) := fun a r h => pureX_ok unr_ok_ints_size (Es_ok_ints_size n) Tryz.func250 rfl (acOf_code _) (subs_ints_size n) rfl ((cert_ints_size n a).trans h)
theorem ok_ints_size (n : Nat) : EntOK Tryz.prog (e_ints_size n) := pureE_ok Tryz.call250 una_ok_ints_size (fun _ => rfl) (pure_ints_size n)

/-! math/bits.Mul64 -/
noncomputable def arg_math_bits_Mul64 (a : Int × Int) : List V := [.i .u64 a.1, .i .u64 a.2]
noncomputable def una_math_bits_Mul64 (l : List V) : Option (Int × Int) := match l with
  | [.i .u64 a0, .i .u64 a1] => some (a0, a1)
  | _ => none
theorem una_ok_math_bits_Mul64 : ∀ l a, una_math_bits_Mul64 l = some a → l = arg_math_bits_Mul64 a := by
  intro l a h
  unfold una_math_bits_Mul64 at h
  split at h
  · cases h; rfl
  · cases h
noncomputable def enc_math_bits_Mul64 (r : Int × Int) : V := .tp [.i .u64 r.1, .i .u64 r.2]
noncomputable def unr_math_bits_Mul64 (v : V) : Option (Int × Int) := match v with
  | .tp [.i .u64 r0, .i .u64 r1] => some (r0, r1)
  | _ => none
theorem unr_ok_math_bits_Mul64 : ∀ v r, unr_math_bits_Mul64 v = some r → v = enc_math_bits_Mul64 r := by
  intro v r h
  unfold unr_math_bits_Mul64 at h
  split at h
  · cases h; rfl
  · cases h
noncomputable def e_math_bits_Mul64 (n : Nat) : Ent := pureE 249 una_math_bits_Mul64 (fun a => math_bits_Mul64 n a.1 a.2) enc_math_bits_Mul64
noncomputable def t_math_bits_Mul64 (l : List V) (_ : List (Nat × Blk)) : Bool := isS (una_math_bits_Mul64 l)
noncomputable def Es_math_bits_Mul64 (_n : Nat) : List Ent := []
theorem Es_ok_math_bits_Mul64 (n : Nat) : ∀ x ∈ Es_math_bits_Mul64 n, EntOK Tryz.prog x := by
  intro x hx
  simp [Es_math_bits_Mul64] at hx
noncomputable def Ls_math_bits_Mul64 (_n : Nat) : List Sub := []
theorem subs_math_bits_Mul64 (n : Nat) : SubOK Tryz.prog 51 (Ls_math_bits_Mul64 n) (acOf Tryz.f249) := SubOK_of _ (by
  have e : subs (acOf Tryz.f249) = [] := by kernel_rfl
  rw [e]; intro p hp; cases hp)
theorem cert_math_bits_Mul64 (n : Nat) (a0 : Int) (a1 : Int) : run Tryz.prog (Es_math_bits_Mul64 n) (Ls_math_bits_Mul64 n) Tryz.f249.ntmps (acOf Tryz.f249) ⟨argsT [.i .u64 a0, .i .u64 a1] 0, [], 0, 0, 0, 0⟩ (finK Tryz.prog Tryz.f249.results.toList (retX unr_math_bits_Mul64)) = math_bits_Mul64 n a0 a1 := by kernel_rfl
theorem pure_math_bits_Mul64 (n : Nat) : ∀ a r, math_bits_Mul64 n a.1 a.2 = some r → PureOK Tryz.prog 249 (arg_math_bits_Mul64 a) (enc_math_bits_Mul64 r) := fun a r h => pureX_ok unr_ok_math_bits_Mul64 (Es_ok_math_bits_Mul64 n) Tryz.func249 rfl (acOf_code _) (subs_math_bits_Mul64 n) rfl ((cert_math_bits_Mul64 n a.1 a.2).trans h)
theorem ok_math_bits_Mul64 (n : Nat) : EntOK Tryz.prog (e_math_bits_Mul64 n) := pureE_ok Tryz.call249 una_ok_math_bits_Mul64 (fun _ => rfl) (pure_math_bits_Mul64 n)

/-! circa/ints.signed -/
noncomputable def arg_ints_signed (a : Int × Bool) : List V := [.i .u64 a.1, .b a.2]
noncomputable def una_ints_signed (l : List V) : Option (Int × Bool) := match l with
  | [.i .u64 a0, .b a1] => some (a0, a1)
  | _ => none
theorem una_ok_ints_signed : ∀ l a, una_ints_signed l = some a → l = arg_ints_signed a := by
  intro l a h
  unfold una_ints_signed at h
  split at h
  · cases h; rfl
  · cases h
noncomputable def enc_ints_signed (r : Int × Int) : V := .tp [.i .i64 r.1, .i .i64 r.2]
noncomputable def unr_ints_signed (v : V) : Option (Int × Int) := match v with
  | .tp [.i .i64 r0, .i .i64 r1] => some (r0, r1)
  | _ => none
theorem unr_ok_ints_signed : ∀ v r, unr_ints_signed v = some r → v = enc_ints_signed r := by
  intro v r h
  unfold unr_ints_signed at h
  split at h
  · cases h; rfl
  · cases h
noncomputable def e_ints_signed (n : Nat) : Ent := pureE 251 una_ints_signed (fun a => ints_signed n a.1 a.2) enc_ints_signed
noncomputable def t_ints_signed (l : List V) (_ : List (Nat × Blk)) : Bool := isS (una_ints_signed l)
noncomputable def Es_ints_signed (_n : Nat) : List Ent := []
theorem Es_ok_ints_signed (n : Nat) : ∀ x ∈ Es_ints_signed n, EntOK Tryz.prog x := by
  intro x hx
  simp [Es_ints_signed] at hx
noncomputable def Ls_ints_signed (_n : Nat) : List Sub := []
theorem subs_ints_signed (n : Nat) : SubOK Tryz.prog 24 (Ls_ints_signed n) (acOf Tryz.f251) := SubOK_of _ (by
  have e : subs (acOf Tryz.f251) = [] := by kernel_rfl
  rw [e]; intro p hp; cases hp)
theorem cert_ints_signed (n : Nat) (a0 : Int) (a1 : Bool) : run Tryz.prog (Es_ints_signed n) (Ls_ints_signed n) Tryz.f251.ntmps (acOf Tryz.f251) ⟨argsT [.i .u64 a0, .b a1] 0, [], 0, 0, 0, 0⟩ (finK Tryz.prog Tryz.f251.results.toList (retX unr_ints_signed)) = ints_signed n a0 a1 := by kernel_rfl
theorem pure_ints_signed (n : Nat) : ∀ a r, ints_signed n a.1 a.2 = some r → PureOK Tryz.prog 251 (arg_ints_signed a) (enc_ints_signed r) := fun a r h => pureX_ok unr_ok_ints_signed (Es_ok_ints_signed n) Tryz.func251 rfl (acOf_code _) (subs_ints_signed n) rfl ((cert_ints_signed n a.1 a.2).trans h)
theorem ok_ints_signed (n : Nat) : EntOK Tryz.prog (e_ints_signed n) := pureE_ok Tryz.call251 una_ok_ints_signed (fun _ => rfl) (pure_ints_signed n)

/-! circa/ints.Mul -/
noncomputable def arg_ints_Mul (a : Int × Int) : List V := [.i .i64 a.1, .i .i64 a.2]
noncomputable def una_ints_Mul (l : List V) : Option (Int × Int) := match l with
  | [.i .i64 a0, .i .i64 a1] => some (a0, a1)
  | _ => none
theorem una_ok_ints_Mul : ∀ l a, una_ints_Mul l = some a → l = arg_ints_Mul a := by
  intro l a h
  unfold una_ints_Mul at h
  split at h
  · cases h; rfl
  · cases h
noncomputable def enc_ints_Mul (r : Int × Int) : V := .tp [.i .i64 r.1, .i .i64 r.2]
noncomputable def unr_ints_Mul (v : V) : Option (Int × Int) := match v with
  | .tp [.i .i64 r0, .i .i64 r1] => some (r0, r1)
  | _ => none
theorem unr_ok_ints_Mul : ∀ v r, unr_ints_Mul v = some r → v = enc_ints_Mul r := by
  intro v r h
  unfold unr_ints_Mul at h
  split at h
  · cases h; rfl
  · cases h
noncomputable def e_ints_Mul (n : Nat) : Ent := pureE 212 una_ints_Mul (fun a => ints_Mul n a.1 a.2) enc_ints_Mul
noncomputable def t_ints_Mul (l : List V) (_ : List (Nat × Blk)) : Bool := isS (una_ints_Mul l)
noncomputable def Es_ints_Mul (n : Nat) : List Ent := [e_ints_size n, e_math_bits_Mul64 n, e_ints_signed n]
theorem Es_ok_ints_Mul (n : Nat) : ∀ x ∈ Es_ints_Mul n, EntOK Tryz.prog x := by
  intro x hx
  simp only [Es_ints_Mul, List.mem_cons, List.not_mem_nil, or_false] at hx
  rcases hx with hx | hx | hx
  · rw [hx]; exact ok_ints_size n
  · rw [hx]; exact ok_math_bits_Mul64 n
  · rw [hx]; exact ok_ints_signed n
noncomputable def Ls_ints_Mul (_n : Nat) : List Sub := []
theorem subs_ints_Mul (n : Nat) : SubOK Tryz.prog 30 (Ls_ints_Mul n) (acOf Tryz.f212) := SubOK_of _ (by
  have e : subs (acOf Tryz.f212) = [] := by kernel_rfl
  rw [e]; intro p hp; cases hp)
theorem cert_ints_Mul (n : Nat) (a0 : Int) (a1 : Int) : run Tryz.prog (Es_ints_Mul n) (Ls_ints_Mul n) Tryz.f212.ntmps (acOf Tryz.f212) ⟨argsT [.i .i64 a0, .i .i64 a1] 0, [], 0, 0, 0, 0⟩ (finK Tryz.prog Tryz.f212.results.toList (retX unr_ints_Mul)) = ints_Mul n a0 a1 := by kernel_rfl
theorem pure_ints_Mul (n : Nat) : ∀ a r, ints_Mul n a.1 a.2 = some r → PureOK Tryz.prog 212 (arg_ints_Mul a) (enc_ints_Mul r) := fun a r h => pureX_ok unr_ok_ints_Mul (Es_ok_ints_Mul n) Tryz.func212 rfl (acOf_code _) (subs_ints_Mul n) rfl ((cert_ints_Mul n a.1 a.2).trans h)
theorem ok_ints_Mul (n : Nat) : EntOK Tryz.prog (e_ints_Mul n) := pureE_ok Tryz.call212 una_ok_ints_Mul (fun _ => rfl) (pure_ints_Mul n)

/-! circa/yearforms.magnitude -/
noncomputable def arg_yearforms_magnitude (a : Bool × Bool × List UInt8 × Int × Int) : List V := [.ag [.b a.1, .b a.2.1, .s a.2.2.1, .i .i64 a.2.2.2.1, .i .i64 a.2.2.2.2]]
noncomputable def una_yearforms_magnitude (l : List V) : Option (Bool × Bool × List UInt8 × Int × Int) := match l with
  | [.ag [.b a0, .b a1, .s a2, .i .i64 a3, .i .i64 a4]] => some (a0, a1, a2, a3, a4)
  | _ => none
theorem una_ok_yearforms_magnitude : ∀ l a, una_yearforms_magnitude l = some a → l = arg_yearforms_magnitude a := by
  intro l a h
  unfold una_yearforms_magnitude at h
  split at h
  · cases h; rfl
  · cases h
noncomputable def enc_yearforms_magnitude (r : Int × Int) : V := .tp [.i .i64 r.1, .i .i64 r.2]
noncomputable def unr_yearforms_magnitude (v : V) : Option (Int × Int) := match v with
  | .tp [.i .i64 r0, .i .i64 r1] => some (r0, r1)
  | _ => none
theorem unr_ok_yearforms_magnitude : ∀ v r, unr_yearforms_magnitude v = some r → v = enc_yearforms_magnitude r := by
  intro v r h
  unfold unr_yearforms_magnitude at h
  split at h
  · cases h; rfl
  · cases h
noncomputable def e_yearforms_magnitude (n : Nat) : Ent := pureE 171 una_yearforms_magnitude (fun a => yearforms_magnitude n a.1 a.2.1 a.2.2.1 a.2.2.2.1 a.2.2.2.2) enc_yearforms_magnitude
noncomputable def t_yearforms_magnitude (l : List V) (_ : List (Nat × Blk)) : Bool := isS (una_yearforms_magnitude l)
noncomputable def Es_yearforms_magnitude (n : Nat) : List Ent := [e_lib_210 n, e_ints_Pow10 n, e_ints_Mul n]
theorem Es_ok_yearforms_magnitude (n : Nat) : ∀ x ∈ Es_yearforms_magnitude n, EntOK Tryz.prog x := by
  intro x hx
  simp only [Es_yearforms_magnitude, List.mem_cons, List.not_mem_nil, or_false] at hx
  rcases hx with hx | hx | hx
  · rw [hx]; exact ok_lib_210 n
  · rw [hx]; exact ok_ints_Pow10 n
  · rw [hx]; exact ok_ints_Mul n
noncomputable def Ls_yearforms_magnitude (_n : Nat) : List Sub := []
theorem subs_yearforms_magnitude (n : Nat) : SubOK Tryz.prog 40 (Ls_yearforms_magnitude n) (acOf Tryz.f171) := SubOK_of _ (by
  have e : subs (acOf Tryz.f171) = [] := by kernel_rfl
  rw [e]; intro p hp; cases hp)
theorem cert_yearforms_magnitude (n : Nat) (a0 : Bool) (a1 : Bool) (a2 : List UInt8) (a3 : Int) (a4 : Int) : run Tryz.prog (Es_yearforms_magnitude n) (Ls_yearforms_magnitude n) Tryz.f171.ntmps (acOf Tryz.f171) ⟨argsT [.ag [.b a0, .b a1, .s a2, .i .i64 a3, .i .i64 a4]] 0, [], 0, 0, 0, 0⟩ (finK Tryz.prog Tryz.f171.results.toList (retX unr_yearforms_magnitude)) = yearforms_magnitude n a0 a1 a2 a3 a4 := by kernel_rfl
theorem pure_yearforms_magnitude (n : Nat) : ∀ a r, yearforms_magnitude n a.1 a.2.1 a.2.2.1 a.2.2.2.1 a.2.2.2.2 = some r → PureOK Tryz.prog 171 (arg_yearforms_magnitude a) (enc_yearforms_magnitude r) := fun a r h => pureX_ok unr_ok_yearforms_magnitude (Es_ok_yearforms_magnitude n) Tryz.func171 rfl (acOf_code _) (subs_yearforms_magnitude n) rfl ((cert_yearforms_magnitude n a.1 a.2.1 a.2.2.1 a.2.2.2.1 a.2.2.2.2).trans h)
theorem ok_yearforms_magnitude (n : Nat) : EntOK Tryz.prog (e_yearforms_magnitude n) := pureE_ok Tryz.call171 una_ok_yearforms_magnitude (fun _ => rfl) (pure_yearforms_magnitude n)

/-! circa/yearforms.checkLong -/
noncomputable def arg_yearforms_checkLong (a : Bool × Bool × List UInt8 × Int × Int) : List V := [.ag [.b a.1, .b a.2.1, .s a.2.2.1, .i .i64 a.2.2.2.1, .i .i64 a.2.2.2.2]]
noncomputable def una_yearforms_checkLong (l : List V) : Option (Bool × Bool × List UInt8 × Int × Int) := match l with
  | [.ag [.b a0, .b a1, .s a2, .i .i64 a3, .i .i64 a4]] => some (a0, a1, a2, a3, a4)
  | _ => none
theorem una_ok_yearforms_checkLong : ∀ l a, una_yearforms_checkLong l = some a → l = arg_yearforms_checkLong a := by
  intro l a h
  unfold una_yearforms_checkLong at h
  split at h
  · cases h; rfl
  · cases h
noncomputable def enc_yearforms_checkLong (r : Bool) : V := .b r
noncomputable def unr_yearforms_checkLong (v : V) : Option (Bool) := match v with
  | .b r0 => some r0
  | _ => none
theorem unr_ok_yearforms_checkLong : ∀ v r, unr_yearforms_checkLong v = some r → v = enc_yearforms_checkLong r := by
  intro v r h
  unfold unr_yearforms_checkLong at h
  split at h
  · cases h; rfl
  · cases h
noncomputable def e_yearforms_checkLong (n : Nat) : Ent := pureE 167 una_yearforms_checkLong (fun a => yearforms_checkLong n a.1 a.2.1 a.2.2.1 a.2.2.2.1 a.2.2.2.2) enc_yearforms_checkLong
noncomputable def t_yearforms_checkLong (l : List V) (_ : List (Nat × Blk)) : Bool := isS (una_yearforms_checkLong l)
noncomputable def Es_yearforms_checkLong (n : Nat) : List Ent := [e_yearforms_only n, e_yearforms_magnitude n]
theorem Es_ok_yearforms_checkLong (n : Nat) : ∀ x ∈ Es_yearforms_checkLong n, EntOK Tryz.prog x := by
  intro x hx
  simp only [Es_yearforms_checkLong, List.mem_cons, List.not_mem_nil, or_false] at hx
  rcases hx with hx | hx
  · rw [hx]; exact ok_yearforms_only n
  · rw [hx]; exact ok_yearforms_magnitude n
noncomputable def Ls_yearforms_checkLong (_n : Nat) : List Sub := []
theorem subs_yearforms_checkLong (n : Nat) : SubOK Tryz.prog 53 (Ls_yearforms_checkLong n) (acOf Tryz.f167) := SubOK_of _ (by
  have e : subs (acOf Tryz.f167) = [] := by kernel_rfl
  rw [e]; intro p hp; cases hp)
theorem cert_yearforms_checkLong (n : Nat) (a0 : Bool) (a1 : Bool) (a2 : List UInt8) (a3 : Int) (a4 : Int) : run Tryz.prog (Es_yearforms_checkLong n) (Ls_yearforms_checkLong n) Tryz.f167.ntmps (acOf Tryz.f167) ⟨argsT [.ag [.b a0, .b a1, .s a2, .i .i64 a3, .i .i64 a4]] 0, [], 0, 0, 0, 0⟩ (finK Tryz.prog Tryz.f167.results.toList (retX unr_yearforms_checkLong)) = yearforms_checkLong n a0 a1 a2 a3 a4 := by kernel_rfl
theorem pure_yearforms_checkLong (n : Nat) : ∀ a r, yearforms_checkLong n a.1 a.2.1 a.2.2.1 a.2.2.2.1 a.2.2.2.2 = some r → PureOK Tryz.prog 167 (arg_yearforms_checkLong a) (enc_yearforms_checkLong r) := fun a r h => pureX_ok unr_ok_yearforms_checkLong (Es_ok_yearforms_checkLong n) Tryz.func167 rfl (acOf_code _) (subs_yearforms_checkLong n) rfl ((cert_yearforms_checkLong n a.1 a.2.1 a.2.2.1 a.2.2.2.1 a.2.2.2.2).trans h)
theorem ok_yearforms_checkLong (n : Nat) : EntOK Tryz.prog (e_yearforms_checkLong n) := pureE_ok Tryz.call167 una_ok_yearforms_checkLong (fun _ => rfl) (pure_yearforms_checkLong n)

/-! circa/yearforms.Check -/
noncomputable def arg_yearforms_Check (a : Bool × Bool × List UInt8 × Int × Int) : List V := [.ag [.b a.1, .b a.2.1, .s a.2.2.1, .i .i64 a.2.2.2.1, .i .i64 a.2.2.2.2]]
noncomputable def una_yearforms_Check (l : List V) : Option (Bool × Bool × List UInt8 × Int × Int) := match l with
  | [.ag [.b a0, .b a1, .s a2, .i .i64 a3, .i .i64 a4]] => some (a0, a1, a2, a3, a4)
  | _ => none
theorem una_ok_yearforms_Check : ∀ l a, una_yearforms_Check l = some a → l = arg_yearforms_Check a := by
  intro l a h
  unfold una_yearforms_Check at h
  split at h
  · cases h; rfl
  · cases h
noncomputable def enc_yearforms_Check (r : Int) : V := .i .i64 r
noncomputable def unr_yearforms_Check (v : V) : Option (Int) := match v with
  | .i .i64 r0 => some r0
  | _ => none
theorem unr_ok_yearforms_Check : ∀ v r, unr_yearforms_Check v = some r → v = enc_yearforms_Check r := by
  intro v r h
  unfold unr_yearforms_Check at h
  split at h
  · cases h; rfl
  · cases h
noncomputable def e_yearforms_Check (n : Nat) : Ent := pureE 114 una_yearforms_Check (fun a => yearforms_Check n a.1 a.2.1 a.2.2.1 a.2.2.2.1 a.2.2.2.2) enc_yearforms_Check
noncomputable def t_yearforms_Check (l : List V) (_ : List (Nat × Blk)) : Bool := isS (una_yearforms_Check l)
noncomputable def Es_yearforms_Check (n : Nat) : List Ent := [e_yearforms_only n, e_strings_Trim n, e_yearforms_Masked n, e_yearforms_checkLong n]
theorem Es_ok_yearforms_Check (n : Nat) : ∀ x ∈ Es_yearforms_Check n, EntOK Tryz.prog x := by
  intro x hx
  simp only [Es_yearforms_Check, List.mem_cons, List.not_mem_nil, or_false] at hx
  rcases hx with hx | hx | hx | hx
  · rw [hx]; exact ok_yearforms_only n
  · rw [hx]; exact ok_strings_Trim n
  · rw [hx]; exact ok_yearforms_Masked n
  · rw [hx]; exact ok_yearforms_checkLong n
noncomputable def Ls_yearforms_Check (_n : Nat) : List Sub := []
theorem subs_yearforms_Check (n : Nat) : SubOK Tryz.prog 61 (Ls_yearforms_Check n) (acOf Tryz.f114) := SubOK_of _ (by
  have e : subs (acOf Tryz.f114) = [] := by kernel_rfl
  rw [e]; intro p hp; cases hp)
theorem cert_yearforms_Check (n : Nat) (a0 : Bool) (a1 : Bool) (a2 : List UInt8) (a3 : Int) (a4 : Int) : run Tryz.prog (Es_yearforms_Check n) (Ls_yearforms_Check n) Tryz.f114.ntmps (acOf Tryz.f114) ⟨argsT [.ag [.b a0, .b a1, .s a2, .i .i64 a3, .i .i64 a4]] 0, [], 0, 0, 0, 0⟩ (finK Tryz.prog Tryz.f114.results.toList (retX unr_yearforms_Check)) = yearforms_Check n a0 a1 a2 a3 a4 := by kernel_rfl
theorem pure_yearforms_Check (n : Nat) : ∀ a r, yearforms_Check n a.1 a.2.1 a.2.2.1 a.2.2.2.1 a.2.2.2.2 = some r → PureOK Tryz.prog 114 (arg_yearforms_Check a) (enc_yearforms_Check r) := fun a r h => pureX_ok unr_ok_yearforms_Check (Es_ok_yearforms_Check n) Tryz.func114 rfl (acOf_code _) (subs_yearforms_Check n) rfl ((cert_yearforms_Check n a.1 a.2.1 a.2.2.1 a.2.2.2.1 a.2.2.2.2).trans h)
theorem ok_yearforms_Check (n : Nat) : EntOK Tryz.prog (e_yearforms_Check n) := pureE_ok Tryz.call114 una_ok_yearforms_Check (fun _ => rfl) (pure_yearforms_Check n)

/-! circa/yearforms.Value -/
noncomputable def arg_yearforms_Value (a : Bool × Bool × List UInt8 × Int × Int) : List V := [.ag [.b a.1, .b a.2.1, .s a.2.2.1, .i .i64 a.2.2.2.1, .i .i64 a.2.2.2.2]]
noncomputable def una_yearforms_Value (l : List V) : Option (Bool × Bool × List UInt8 × Int × Int) := match l with
  | [.ag [.b a0, .b a1, .s a2, .i .i64 a3, .i .i64 a4]] => some (a0, a1, a2, a3, a4)
  | _ => none
theorem una_ok_yearforms_Value : ∀ l a, una_yearforms_Value l = some a → l = arg_yearforms_Value a := by
  intro l a h
  unfold una_yearforms_Value at h
  split at h
  · cases h; rfl
  · cases h
noncomputable def enc_yearforms_Value (r : Int × Int) : V := .tp [.i .i64 r.1, .i .i64 r.2]
noncomputable def unr_yearforms_Value (v : V) : Option (Int × Int) := match v with
  | .tp [.i .i64 r0, .i .i64 r1] => some (r0, r1)
  | _ => none
theorem unr_ok_yearforms_Value : ∀ v r, unr_yearforms_Value v = some r → v = enc_yearforms_Value r := by
  intro v r h
  unfold unr_yearforms_Value at h
  split at h
  · cases h; rfl
  · cases h
noncomputable def e_yearforms_Value (n : Nat) : Ent := pureE 123 una_yearforms_Value (fun a => yearforms_Value n a.1 a.2.1 a.2.2.1 a.2.2.2.1 a.2.2.2.2) enc_yearforms_Value
noncomputable def t_yearforms_Value (l : List V) (_ : List (Nat × Blk)) : Bool := isS (una_yearforms_Value l)
noncomputable def Es_yearforms_Value (n : Nat) : List Ent := [e_yearforms_Check n, e_yearforms_Masked n, e_yearforms_magnitude n]
theorem Es_ok_yearforms_Value (n : Nat) : ∀ x ∈ Es_yearforms_Value n, EntOK Tryz.prog x := by
  intro x hx
  simp only [Es_yearforms_Value, List.mem_cons, List.not_mem_nil, or_false] at hx
  rcases hx with hx | hx | hx
  · rw [hx]; exact ok_yearforms_Check n
  · rw [hx]; exact ok_yearforms_Masked n
  · rw [hx]; exact ok_yearforms_magnitude n
noncomputable def Ls_yearforms_Value (_n : Nat) : List Sub := []
theorem subs_yearforms_Value (n : Nat) : SubOK Tryz.prog 24 (Ls_yearforms_Value n) (acOf Tryz.f123) := SubOK_of _ (by
  have e : subs (acOf Tryz.f123) = [] := by kernel_rfl
  rw [e]; intro p hp; cases hp)
theorem cert_yearforms_Value (n : Nat) (a0 : Bool) (a1 : Bool) (a2 : List UInt8) (a3 : Int) (a4 : Int) : run Tryz.prog (Es_yearforms_Value n) (Ls_yearforms_Value n) Tryz.f123.ntmps (acOf Tryz.f123) ⟨argsT [.ag [.b a0, .b a1, .s a2, .i .i64 a3, .i .i64 a4]] 0, [], 0, 0, 0, 0⟩ (finK Tryz.prog Tryz.f123.results.toList (retX unr_yearforms_Value)) = yearforms_Value n a0 a1 a2 a3 a4 := by kernel_rfl
theorem pure_yearforms_Value (n : Nat) : ∀ a r, yearforms_Value n a.1 a.2.1 a.2.2.1 a.2.2.2.1 a.2.2.2.2 = some r → PureOK Tryz.prog 123 (arg_yearforms_Value a) (enc_yearforms_Value r) := fun a r h => pureX_ok unr_ok_yearforms_Value (Es_ok_yearforms_Value n) Tryz.func123 rfl (acOf_code _) (subs_yearforms_Value n) rfl ((cert_yearforms_Value n a.1 a.2.1 a.2.2.1 a.2.2.2.1 a.2.2.2.2).trans h)
theorem ok_yearforms_Value (n : Nat) : EntOK Tryz.prog (e_yearforms_Value n) := pureE_ok Tryz.call123 una_ok_yearforms_Value (fun _ => rfl) (pure_yearforms_Value n)

noncomputable def un_lib_172 (l : List V) : Option (Int) := match l with
  | [.i .i64 a0] => some (a0)
  | _ => none
noncomputable def e_lib_172 (n : Nat) : Ent := pureE 172 un_lib_172 (fun a => seasons_Months n a) (fun r => .tp [.i .i64 r.1, .i .i64 r.2.1, .i .i64 r.2.2])
theorem ok_lib_172 (n : Nat) : EntOK Tryz.prog (e_lib_172 n) := pureE_ok (arg := fun a => [.i .i64 a]) Tryz.call172 (fun l a h => by
  unfold un_lib_172 at h
  split at h
  · cases h; rfl
  · cases h) (fun a => rfl) (fun a r h => hand_seasons_Months n (fun x r h => pure_seasons_Check n x r h) a r h)

/-! circa/years.Check -/
noncomputable def arg_years_Check (a : Int) : List V := [.i .i64 a]
noncomputable def una_years_Check (l : List V) : Option (Int) := match l with
  | [.i .i64 a0] => some a0
  | _ => none
theorem una_ok_years_Check : ∀ l a, una_years_Check l = some a → l = arg_years_Check a := by
  intro l a h
  unfold una_years_Check at h
  split at h
  · cases h; rfl
  · cases h
noncomputable def enc_years_Check (r : Int) : V := .i .i64 r
noncomputable def unr_years_Check (v : V) : Option (Int) := match v with
  | .i .i64 r0 => some r0
  | _ => none
theorem unr_ok_years_Check : ∀ v r, unr_years_Check v = some r → v = enc_years_Check r := by
  intro v r h
  unfold unr_years_Check at h
  split at h
  · cases h; rfl
  · cases h
noncomputable def e_years_Check (n : Nat) : Ent := pureE 219 una_years_Check (fun a => years_Check n a) enc_years_Check
noncomputable def t_years_Check (l : List V) (_ : List (Nat × Blk)) : Bool := isS (una_years_Check l)
noncomputable def Es_years_Check (_n : Nat) : List Ent := []
theorem Es_ok_years_Check (n : Nat) : ∀ x ∈ Es_years_Check n, EntOK Tryz.prog x := by
  intro x hx
  simp [Es_years_Check] at hx
noncomputable def Ls_years_Check (_n : Nat) : List Sub := []
theorem subs_years_Check (n : Nat) : SubOK Tryz.prog 9 (Ls_years_Check n) (acOf Tryz.f219) := SubOK_of _ (by
  have e : subs (acOf Tryz.f219) = [] := by kernel_rfl
  rw [e]; intro p hp; cases hp)
theorem cert_years_Check (n : Nat) (a0 : Int) : run Tryz.prog (Es_years_Check n) (Ls_years_Check n) Tryz.f219.ntmps (acOf Tryz.f219) ⟨argsT [.i .i64 a0] 0, [], 0, 0, 0, 0⟩ (finK Tryz.prog Tryz.f219.results.toList (retX unr_years_Check)) = years_Check n a0 := by kernel_rfl
theorem pure_years_Check (n : Nat) : ∀ a r, years_Check n a = some r → PureOK Tryz.prog 219 (arg_years_Check a) (enc_years_Check r) := fun a r h => pureX_ok unr_ok_years_Check (Es_ok_years_Check n) Tryz.func219 rfl (acOf_code _) (subs_years_Check n) rfl ((cert_years_Check n a).trans h)
theorem ok_years_Check (n : Nat) : EntOK Tryz.prog (e_years_Check n) := pureE_ok Tryz.call219 una_ok_years_Check (fun _ => rfl) (pure_years_Check n)

/-! circa/months.Check -/
noncomputable def arg_months_Check (a : Int × Int) : List V := [.i .i64 a.1, .i .i64 a.2]
noncomputable def una_months_Check (l : List V) : Option (Int × Int) := match l with
  | [.i .i64 a0, .i .i64 a1] => some (a0, a1)
  | _ => none
theorem una_ok_months_Check : ∀ l a, una_months_Check l = some a → l = arg_months_Check a := by
  intro l a h
  unfold una_months_Check at h
  split at h
  · cases h; rfl
  · cases h
noncomputable def enc_months_Check (r : Int) : V := .i .i64 r
noncomputable def unr_months_Check (v : V) : Option (Int) := match v with
  | .i .i64 r0 => some r0
  | _ => none
theorem unr_ok_months_Check : ∀ v r, unr_months_Check v = some r → v = enc_months_Check r := by
  intro v r h
  unfold unr_months_Check at h
  split at h
  · cases h; rfl
  · cases h
noncomputable def e_months_Check (n : Nat) : Ent := pureE 213 una_months_Check (fun a => months_Check n a.1 a.2) enc_months_Check
noncomputable def t_months_Check (l : List V) (_ : List (Nat × Blk)) : Bool := isS (una_months_Check l)
noncomputable def Es_months_Check (n : Nat) : List Ent := [e_years_Check n]
theorem Es_ok_months_Check (n : Nat) : ∀ x ∈ Es_months_Check n, EntOK Tryz.prog x := by
  intro x hx
  simp only [Es_months_Check, List.mem_cons, List.not_mem_nil, or_false] at hx
  · rw [hx]; exact ok_years_Check n
noncomputable def Ls_months_Check (_n : Nat) : List Sub := []
theorem subs_months_Check (n : Nat) : SubOK Tryz.prog 17 (Ls_months_Check n) (acOf Tryz.f213) := SubOK_of _ (by
  have e : subs (acOf Tryz.f213) = [] := by kernel_rfl
  rw [e]; intro p hp; cases hp)
theorem cert_months_Check (n : Nat) (a0 : Int) (a1 : Int) : run Tryz.prog (Es_months_Check n) (Ls_months_Check n) Tryz.f213.ntmps (acOf Tryz.f213) ⟨argsT [.i .i64 a0, .i .i64 a1] 0, [], 0, 0, 0, 0⟩ (finK Tryz.prog Tryz.f213.results.toList (retX unr_months_Check)) = months_Check n a0 a1 := by kernel_rfl
theorem pure_months_Check (n : Nat) : ∀ a r, months_Check n a.1 a.2 = some r → PureOK Tryz.prog 213 (arg_months_Check a) (enc_months_Check r) := fun a r h => pureX_ok unr_ok_months_Check (Es_ok_months_Check n) Tryz.func213 rfl (acOf_code _) (subs_months_Check n) rfl ((cert_months_Check n a.1 a.2).trans h)
theorem ok_months_Check (n : Nat) : EntOK Tryz.prog (e_months_Check n) := pureE_ok Tryz.call213 una_ok_months_Check (fun _ => rfl) (pure_months_Check n)

/-! circa/ints.Sub -/
noncomputable def arg_ints_Sub (a : Int × Int) : List V := [.i .i64 a.1, .i .i64 a.2]
noncomputable def una_ints_Sub (l : List V) : Option (Int × Int) := match l with
  | [.i .i64 a0, .i .i64 a1] => some (a0, a1)
  | _ => none
theorem una_ok_ints_Sub : ∀ l a, una_ints_Sub l = some a → l = arg_ints_Sub a := by
  intro l a h
  unfold una_ints_Sub at h
  split at h
  · cases h; rfl
  · cases h
noncomputable def enc_ints_Sub (r : Int × Int) : V := .tp [.i .i64 r.1, .i .i64 r.2]
noncomputable def unr_ints_Sub (v : V) : Option (Int × Int) := match v with
  | .tp [.i .i64 r0, .i .i64 r1] => some (r0, r1)
  | _ => none
theorem unr_ok_ints_Sub : ∀ v r, unr_ints_Sub v = some r → v = enc_ints_Sub r := by
  intro v r h
  unfold unr_ints_Sub at h
  split at h
  · cases h; rfl
  · cases h
noncomputable def e_ints_Sub (n : Nat) : Ent := pureE 255 una_ints_Sub (fun a => ints_Sub n a.1 a.2) enc_ints_Sub
noncomputable def t_ints_Sub (l : List V) (_ : List (Nat × Blk)) : Bool := isS (una_ints_Sub l)
noncomputable def Es_ints_Sub (_n : Nat) : List Ent := []
theorem Es_ok_ints_Sub (n : Nat) : ∀ x ∈ Es_ints_Sub n, EntOK Tryz.prog x := by
  intro x hx
  simp [Es_ints_Sub] at hx
noncomputable def Ls_ints_Sub (_n : Nat) : List Sub := []
theorem subs_ints_Sub (n : Nat) : SubOK Tryz.prog 17 (Ls_ints_Sub n) (acOf Tryz.f255) := SubOK_of _ (by
  have e : subs (acOf Tryz.f255) = [] := by kernel_rfl
  rw [e]; intro p hp; cases hp)
theorem cert_ints_Sub (n : Nat) (a0 : Int) (a1 : Int) : run Tryz.prog (Es_ints_Sub n) (Ls_ints_Sub n) Tryz.f255.ntmps (acOf Tryz.f255) ⟨argsT [.i .i64 a0, .i .i64 a1] 0, [], 0, 0, 0, 0⟩ (finK Tryz.prog Tryz.f255.results.toList (retX unr_ints_Sub)) = ints_Sub n a0 a1 := by kernel_rfl
theorem pure_ints_Sub (n : Nat) : ∀ a r, ints_Sub n a.1 a.2 = some r → PureOK Tryz.prog 255 (arg_ints_Sub a) (enc_ints_Sub r) := fun a r h => pureX_ok unr_ok_ints_Sub (Es_ok_ints_Sub n) Tryz.func255 rfl (acOf_code _) (subs_ints_Sub n) rfl ((cert_ints_Sub n a.1 a.2).trans h)
theorem ok_ints_Sub (n : Nat) : EntOK Tryz.prog (e_ints_Sub n) := pureE_ok Tryz.call255 una_ok_ints_Sub (fun _ => rfl) (pure_ints_Sub n)

/-! circa/ints.Div -/
noncomputable def arg_ints_Div (a : Int × Int) : List V := [.i .i64 a.1, .i .i64 a.2]
noncomputable def una_ints_Div (l : List V) : Option (Int × Int) := match l with
  | [.i .i64 a0, .i .i64 a1] => some (a0, a1)
  | _ => none
theorem una_ok_ints_Div : ∀ l a, una_ints_Div l = some a → l = arg_ints_Div a := by
  intro l a h
  unfold una_ints_Div at h
  split at h
  · cases h; rfl
  · cases h
noncomputable def enc_ints_Div (r : Int × Int) : V := .tp [.i .i64 r.1, .i .i64 r.2]
noncomputable def unr_ints_Div (v : V) : Option (Int × Int) := match v with
  | .tp [.i .i64 r0, .i .i64 r1] => some (r0, r1)
  | _ => none
theorem unr_ok_ints_Div : ∀ v r, unr_ints_Div v = some r → v = enc_ints_Div r := by
  intro v r h
  unfold unr_ints_Div at h
  split at h
  · cases h; rfl
  · cases h
noncomputable def e_ints_Div (n : Nat) : Ent := pureE 217 una_ints_Div (fun a => ints_Div n a.1 a.2) enc_ints_Div
noncomputable def t_ints_Div (l : List V) (_ : List (Nat × Blk)) : Bool := isS (una_ints_Div l)
noncomputable def Es_ints_Div (n : Nat) : List Ent := [e_ints_Sub n]
theorem Es_ok_ints_Div (n : Nat) : ∀ x ∈ Es_ints_Div n, EntOK Tryz.prog x := by
  intro x hx
  simp only [Es_ints_Div, List.mem_cons, List.not_mem_nil, or_false] at hx
  · rw [hx]; exact ok_ints_Sub n
noncomputable def Ls_ints_Div (_n : Nat) : List Sub := []
theorem subs_ints_Div (n : Nat) : SubOK Tryz.prog 34 (Ls_ints_Div n) (acOf Tryz.f217) := SubOK_of _ (by
  have e : subs (acOf Tryz.f217) = [] := by kernel_rfl
  rw [e]; intro p hp; cases hp)
theorem cert_ints_Div (n : Nat) (a0 : Int) (a1 : Int) : run Tryz.prog (Es_ints_Div n) (Ls_ints_Div n) Tryz.f217.ntmps (acOf Tryz.f217) ⟨argsT [.i .i64 a0, .i .i64 a1] 0, [], 0, 0, 0, 0⟩ (finK Tryz.prog Tryz.f217.results.toList (retX unr_ints_Div)) = ints_Div n a0 a1 := by kernel_rfl
theorem pure_ints_Div (n : Nat) : ∀ a r, ints_Div n a.1 a.2 = some r → PureOK Tryz.prog 217 (arg_ints_Div a) (enc_ints_Div r) := fun a r h => pureX_ok unr_ok_ints_Div (Es_ok_ints_Div n) Tryz.func217 rfl (acOf_code _) (subs_ints_Div n) rfl ((cert_ints_Div n a.1 a.2).trans h)
theorem ok_ints_Div (n : Nat) : EntOK Tryz.prog (e_ints_Div n) := pureE_ok Tryz.call217 una_ok_ints_Div (fun _ => rfl) (pure_ints_Div n)

noncomputable def un_lib_274 (l : List V) : Option (Int) := match l with
  | [.i .i64 a0] => some (a0)
  | _ => none
noncomputable def e_lib_274 (n : Nat) : Ent := pureE 274 un_lib_274 (fun a => years_before n a) (fun r => .i .i64 r)
theorem ok_lib_274 (n : Nat) : EntOK Tryz.prog (e_lib_274 n) := pureE_ok (arg := fun a => [.i .i64 a]) Tryz.call274 (fun l a h => by
  unfold un_lib_274 at h
  split at h
  · cases h; rfl
  · cases h) (fun a => rfl) (fun a r h => hand_years_before n (fun x y r h => pure_ints_Div n (x, y) r h) a r h)

/-! circa/years.start -/
noncomputable def arg_years_start (a : Int) : List V := [.i .i64 a]
noncomputable def una_years_start (l : List V) : Option (Int) := match l with
  | [.i .i64 a0] => some a0
  | _ => none
theorem una_ok_years_start : ∀ l a, una_years_start l = some a → l = arg_years_start a := by
  intro l a h
  unfold una_years_start at h
  split at h
  · cases h; rfl
  · cases h
noncomputable def enc_years_start (r : Int) : V := .i .i64 r
noncomputable def unr_years_start (v : V) : Option (Int) := match v with
  | .i .i64 r0 => some r0
  | _ => none
theorem unr_ok_years_start : ∀ v r, unr_years_start v = some r → v = enc_years_start r := by
  intro v r h
  unfold unr_years_start at h
  split at h
  · cases h; rfl
  · cases h
noncomputable def e_years_start (n : Nat) : Ent := pureE 252 una_years_start (fun a => years_start n a) enc_years_start
noncomputable def t_years_start (l : List V) (_ : List (Nat × Blk)) : Bool := isS (una_years_start l)
noncomputable def Es_years_start (n : Nat) : List Ent := [e_lib_274 n]
theorem Es_ok_years_start (n : Nat) : ∀ x ∈ Es_years_start n, EntOK Tryz.prog x := by
  intro x hx
  simp only [Es_years_start, List.mem_cons, List.not_mem_nil, or_false] at hx
  · rw [hx]; exact ok_lib_274 n
noncomputable def Ls_years_start (_n : Nat) : List Sub := []
theorem subs_years_start (n : Nat) : SubOK Tryz.prog 8 (Ls_years_start n) (acOf Tryz.f252) := SubOK_of _ (by
  have e : subs (acOf Tryz.f252) = [] := by kernel_rfl
  rw [e]; intro p hp; cases hp)
theorem cert_years_start (n : Nat) (a0 : Int) : run Tryz.prog (Es_years_start n) (Ls_years_start n) Tryz.f252.ntmps (acOf Tryz.f252) ⟨argsT [.i .i64 a0] 0, [], 0, 0, 0, 0⟩ (finK Tryz.prog Tryz.f252.results.toList (retX unr_years_start)) = years_start n a0 := by kernel_rfl
theorem pure_years_start (n : Nat) : ∀ a r, years_start n a = some r → PureOK Tryz.prog 252 (arg_years_start a) (enc_years_start r) := fun a r h => pureX_ok unr_ok_years_start (Es_ok_years_start n) Tryz.func252 rfl (acOf_code _) (subs_years_start n) rfl ((cert_years_start n a).trans h)
theorem ok_years_start (n : Nat) : EntOK Tryz.prog (e_years_start n) := pureE_ok Tryz.call252 una_ok_years_start (fun _ => rfl) (pure_years_start n)

/-! circa/years.Start -/
noncomputable def arg_years_Start (a : Int) : List V := [.i .i64 a]
noncomputable def una_years_Start (l : List V) : Option (Int) := match l with
  | [.i .i64 a0] => some a0
  | _ => none
theorem una_ok_years_Start : ∀ l a, una_years_Start l = some a → l = arg_years_Start a := by
  intro l a h
  unfold una_years_Start at h
  split at h
  · cases h; rfl
  · cases h
noncomputable def enc_years_Start (r : Int × Int) : V := .tp [.i .i64 r.1, .i .i64 r.2]
noncomputable def unr_years_Start (v : V) : Option (Int × Int) := match v with
  | .tp [.i .i64 r0, .i .i64 r1] => some (r0, r1)
  | _ => none
theorem unr_ok_years_Start : ∀ v r, unr_years_Start v = some r → v = enc_years_Start r := by
  intro v r h
  unfold unr_years_Start at h
  split at h
  · cases h; rfl
  · cases h
noncomputable def e_years_Start (n : Nat) : Ent := pureE 214 una_years_Start (fun a => years_Start n a) enc_years_Start
noncomputable def t_years_Start (l : List V) (_ : List (Nat × Blk)) : Bool := isS (una_years_Start l)
noncomputable def Es_years_Start (n : Nat) : List Ent := [e_years_Check n, e_years_start n]
theorem Es_ok_years_Start (n : Nat) : ∀ x ∈ Es_years_Start n, EntOK Tryz.prog x := by
  intro x hx
  simp only [Es_years_Start, List.mem_cons, List.not_mem_nil, or_false] at hx
  rcases hx with hx | hx
  · rw [hx]; exact ok_years_Check n
  · rw [hx]; exact ok_years_start n
noncomputable def Ls_years_Start (_n : Nat) : List Sub := []
theorem subs_years_Start (n : Nat) : SubOK Tryz.prog 12 (Ls_years_Start n) (acOf Tryz.f214) := SubOK_of _ (by
  have e : subs (acOf Tryz.f214) = [] := by kernel_rfl
  rw [e]; intro p hp; cases hp)
theorem cert_years_Start (n : Nat) (a0 : Int) : run Tryz.prog (Es_years_Start n) (Ls_years_Start n) Tryz.f214.ntmps (acOf Tryz.f214) ⟨argsT [.i .i64 a0] 0, [], 0, 0, 0, 0⟩ (finK Tryz.prog Tryz.f214.results.toList (retX unr_years_Start)) = years_Start n a0 := by kernel_rfl
theorem pure_years_Start (n : Nat) : ∀ a r, years_Start n a = some r → PureOK Tryz.prog 214 (arg_years_Start a) (enc_years_Start r) := fun a r h => pureX_ok unr_ok_years_Start (Es_ok_years_Start n) Tryz.func214 rfl (acOf_code _) (subs_years_Start n) rfl ((cert_years_Start n a).trans h)
theorem ok_years_Start (n : Nat) : EntOK Tryz.prog (e_years_Start n) := pureE_ok Tryz.call214 una_ok_years_Start (fun _ => rfl) (pure_years_Start n)

/-! circa/years.Leap -/
noncomputable def arg_years_Leap (a : Int) : List V := [.i .i64 a]
noncomputable def una_years_Leap (l : List V) : Option (Int) := match l with
  | [.i .i64 a0] => some a0
  | _ => none
theorem una_ok_years_Leap : ∀ l a, una_years_Leap l = some a → l = arg_years_Leap a := by
  intro l a h
  unfold una_years_Leap at h
  split at h
  · cases h; rfl
  · cases h
noncomputable def enc_years_Leap (r : Bool × Int) : V := .tp [.b r.1, .i .i64 r.2]
noncomputable def unr_years_Leap (v : V) : Option (Bool × Int) := match v with
  | .tp [.b r0, .i .i64 r1] => some (r0, r1)
  | _ => none
theorem unr_ok_years_Leap : ∀ v r, unr_years_Leap v = some r → v = enc_years_Leap r := by
  intro v r h
  unfold unr_years_Leap at h
  split at h
  · cases h; rfl
  · cases h
noncomputable def e_years_Leap (n : Nat) : Ent := pureE 253 una_years_Leap (fun a => years_Leap n a) enc_years_Leap
noncomputable def t_years_Leap (l : List V) (_ : List (Nat × Blk)) : Bool := isS (una_years_Leap l)
noncomputable def Es_years_Leap (n : Nat) : List Ent := [e_years_Check n, e_lib_274 n]
theorem Es_ok_years_Leap (n : Nat) : ∀ x ∈ Es_years_Leap n, EntOK Tryz.prog x := by
  intro x hx
  simp only [Es_years_Leap, List.mem_cons, List.not_mem_nil, or_false] at hx
  rcases hx with hx | hx
  · rw [hx]; exact ok_years_Check n
  · rw [hx]; exact ok_lib_274 n
noncomputable def Ls_years_Leap (_n : Nat) : List Sub := []
theorem subs_years_Leap (n : Nat) : SubOK Tryz.prog 16 (Ls_years_Leap n) (acOf Tryz.f253) := SubOK_of _ (by
  have e : subs (acOf Tryz.f253) = [] := by kernel_rfl
  rw [e]; intro p hp; cases hp)
theorem cert_years_Leap (n : Nat) (a0 : Int) : run Tryz.prog (Es_years_Leap n) (Ls_years_Leap n) Tryz.f253.ntmps (acOf Tryz.f253) ⟨argsT [.i .i64 a0] 0, [], 0, 0, 0, 0⟩ (finK Tryz.prog Tryz.f253.results.toList (retX unr_years_Leap)) = years_Leap n a0 := by kernel_rfl
theorem pure_years_Leap (n : Nat) : ∀ a r, years_Leap n a = some r → PureOK Tryz.prog 253 (arg_years_Leap a) (enc_years_Leap r) := fun a r h => pureX_ok unr_ok_years_Leap (Es_ok_years_Leap n) Tryz.func253 rfl (acOf_code _) (subs_years_Leap n) rfl ((cert_years_Leap n a).trans h)
theorem ok_years_Leap (n : Nat) : EntOK Tryz.prog (e_years_Leap n) := pureE_ok Tryz.call253 una_ok_years_Leap (fun _ => rfl) (pure_years_Leap n)

noncomputable def un_lib_215 (l : List V) : Option (Int × Int) := match l with
  | [.i .i64 a0, .i .i64 a1] => some (a0, a1)
  | _ => none
noncomputable def e_lib_215 (n : Nat) : Ent := pureE 215 un_lib_215 (fun a => months_length n a.1 a.2) (fun r => .i .i64 r)
theorem ok_lib_215 (n : Nat) : EntOK Tryz.prog (e_lib_215 n) := pureE_ok (arg := fun a => [.i .i64 a.1, .i .i64 a.2]) Tryz.call215 (fun l a h => by
  unfold un_lib_215 at h
  split at h
  · cases h; rfl
  · cases h) (fun a => rfl) (fun a r h => hand_months_length n (fun x r h => pure_years_Leap n x r h) a.1 a.2 r h)

/-! circa/months.Start -/
noncomputable def arg_months_Start (a : Int × Int) : List V := [.i .i64 a.1, .i .i64 a.2]
noncomputable def una_months_Start (l : List V) : Option (Int × Int) := match l with
  | [.i .i64 a0, .i .i64 a1] => some (a0, a1)
  | _ => none
theorem una_ok_months_Start : ∀ l a, una_months_Start l = some a → l = arg_months_Start a := by
  intro l a h
  unfold una_months_Start at h
  split at h
  · cases h; rfl
  · cases h
noncomputable def enc_months_Start (r : Int × Int) : V := .tp [.i .i64 r.1, .i .i64 r.2]
noncomputable def unr_months_Start (v : V) : Option (Int × Int) := match v with
  | .tp [.i .i64 r0, .i .i64 r1] => some (r0, r1)
  | _ => none
theorem unr_ok_months_Start : ∀ v r, unr_months_Start v = some r → v = enc_months_Start r := by
  intro v r h
  unfold unr_months_Start at h
  split at h
  · cases h; rfl
  · cases h
noncomputable def e_months_Start (n : Nat) : Ent := pureE 173 una_months_Start (fun a => months_Start n a.1 a.2) enc_months_Start
noncomputable def t_months_Start (l : List V) (_ : List (Nat × Blk)) : Bool := isS (una_months_Start l)
noncomputable def Es_months_Start (n : Nat) : List Ent := [e_months_Check n, e_years_Start n, e_lib_215 n]
theorem Es_ok_months_Start (n : Nat) : ∀ x ∈ Es_months_Start n, EntOK Tryz.prog x := by
  intro x hx
  simp only [Es_months_Start, List.mem_cons, List.not_mem_nil, or_false] at hx
  rcases hx with hx | hx | hx
  · rw [hx]; exact ok_months_Check n
  · rw [hx]; exact ok_years_Start n
  · rw [hx]; exact ok_lib_215 n
noncomputable def an_months_Start_l0 : Ann := ⟨[0, 7, 22, 23], [], 0, []⟩
noncomputable def emb_months_Start_l0 (x : Int × Int × Int × Int) : St := ⟨[(0, some (.i .i64 x.1)), (7, some (.i .i64 x.2.1)), (22, some (.i .i64 x.2.2.1)), (23, some (.i .i64 x.2.2.2))], [], 0, 0, 0, 0⟩
noncomputable def un_months_Start_l0 (s : St) : Option (Int × Int × Int × Int) := match s with
  | ⟨[(0, some (.i .i64 x0)), (7, some (.i .i64 x1)), (22, some (.i .i64 x2)), (23, some (.i .i64 x3))], [], 0, 0, 0, 0⟩ => some (x0, x1, x2, x3)
  | _ => none
theorem un_ok_months_Start_l0 : ∀ s x, un_months_Start_l0 s = some x → s = emb_months_Start_l0 x := by
  intro s x h
  unfold un_months_Start_l0 at h
  split at h
  · cases h; rfl
  · cases h
noncomputable def ax_months_Start_l0 : Ex → Ann := fun ex => match ex with
  | .exit 0 => ⟨[7], [], 0, []⟩
  | _ => ⟨[], [], 0, []⟩
noncomputable def out_months_Start_l0 (y : Int) : Ex × St := (.exit 0, ⟨[(7, some (.i .i64 y))], [], 0, 0, 0, 0⟩)
noncomputable def outK_months_Start_l0 (α : Type) (y : Int) (k : Ex → St → Option α) : Option α := (k (.exit 0) ⟨[(7, some (.i .i64 y))], [], 0, 0, 0, 0⟩)
theorem outK_ok_months_Start_l0 : ∀ α y k, outK_months_Start_l0 α y k = k (out_months_Start_l0 y).1 (out_months_Start_l0 y).2 := by
  intro α y k
  rfl
noncomputable def ux_months_Start_l0 (ex : Ex) (s : St) : Option (Int) := match ex, s with
  | .exit 0, ⟨[(7, some (.i .i64 y0))], [], 0, 0, 0, 0⟩ => some y0
  | _, _ => none
theorem ux_ok_months_Start_l0 : ∀ ex s y, ux_months_Start_l0 ex s = some y → (ex, s) = out_months_Start_l0 y := by
  intro ex s y h
  unfold ux_months_Start_l0 at h
  split at h
  · cases h; rfl
  · cases h
noncomputable def Ls_months_Start (n : Nat) : List Sub := [subE 0 an_months_Start_l0 un_months_Start_l0 (fun x => iterL (months_Start_l0 n) n x) outK_months_Start_l0]
noncomputable def sac_months_Start_l0 : AC := getS (subs (acOf Tryz.f173)) 0
noncomputable def ac_months_Start_l0 : AC := AC.body sac_months_Start_l0
theorem subs_months_Start_l0 (n : Nat) : SubOK Tryz.prog 34 (Ls_months_Start n) ac_months_Start_l0 := SubOK_of _ (by
  have e : subs ac_months_Start_l0 = [] := by kernel_rfl
  rw [e]; intro p hp; cases hp)
theorem body_months_Start_l0 (n : Nat) : ∀ x, run Tryz.prog (Es_months_Start n) (Ls_months_Start n) 34 ac_months_Start_l0 (emb_months_Start_l0 x) (roundK an_months_Start_l0 un_months_Start_l0 ax_months_Start_l0 ux_months_Start_l0) = months_Start_l0 n x := fun _ => by kernel_rfl
theorem sub1_months_Start_l0 (n : Nat) : ∀ (α : Type) (s : St) (k : Ex → St → Option α) (z : α), (subE 0 an_months_Start_l0 un_months_Start_l0 (fun x => iterL (months_Start_l0 n) n x) outK_months_Start_l0).e α s k = some z → SemC Tryz.prog 34 (sac_months_Start_l0).code s fun ex s' => k ex s' = some z := by
  intro α s k z h
  have e : sac_months_Start_l0 = .loop ac_months_Start_l0 := by kernel_rfl
  rw [e]
  exact subE_ok (m := 0) (f := fun x => iterL (months_Start_l0 n) n x) (out := out_months_Start_l0) outK_ok_months_Start_l0 un_ok_months_Start_l0 (fun x y hy => loop_ok (Es_ok_months_Start n) (subs_months_Start_l0 n) un_ok_months_Start_l0 ux_ok_months_Start_l0 (body_months_Start_l0 n) n x y hy) h
theorem sub_months_Start_l0 (n : Nat) : SubSt Tryz.prog 34 (Ls_months_Start n) 0 sac_months_Start_l0 := fun α s k z => sub1_months_Start_l0 n α s k z
theorem subs_months_Start (n : Nat) : SubOK Tryz.prog 34 (Ls_months_Start n) (acOf Tryz.f173) := SubOK_of _ (by
  have e : subs (acOf Tryz.f173) = [(0, sac_months_Start_l0)] := by kernel_rfl
  rw [e]; intro p hp
  simp only [List.mem_cons, List.not_mem_nil, or_false] at hp
  · rw [hp]; exact sub_months_Start_l0 n
  )
theorem cert_months_Start (n : Nat) (a0 : Int) (a1 : Int) : run Tryz.prog (Es_months_Start n) (Ls_months_Start n) Tryz.f173.ntmps (acOf Tryz.f173) ⟨argsT [.i .i64 a0, .i .i64 a1] 0, [], 0, 0, 0, 0⟩ (finK Tryz.prog Tryz.f173.results.toList (retX unr_months_Start)) = months_Start n a0 a1 := by kernel_rfl
theorem pure_months_Start (n : Nat) : ∀ a r, months_Start n a.1 a.2 = some r → PureOK Tryz.prog 173 (arg_months_Start a) (enc_months_Start r) := fun a r h => pureX_ok unr_ok_months_Start (Es_ok_months_Start n) Tryz.func173 rfl (acOf_code _) (subs_months_Start n) rfl ((cert_months_Start n a.1 a.2).trans h)
theorem ok_months_Start (n : Nat) : EntOK Tryz.prog (e_months_Start n) := pureE_ok Tryz.call173 una_ok_months_Start (fun _ => rfl) (pure_months_Start n)

noncomputable def un_lib_216 (l : List V) : Option (Int × Int) := match l with
  | [.i .i64 a0, .i .i64 a1] => some (a0, a1)
  | _ => none
noncomputable def e_lib_216 (n : Nat) : Ent := pureE 216 un_lib_216 (fun a => ints_Add n a.1 a.2) (fun r => .tp [.i .i64 r.1, .i .i64 r.2])
theorem ok_lib_216 (n : Nat) : EntOK Tryz.prog (e_lib_216 n) := pureE_ok (arg := fun a => [.i .i64 a.1, .i .i64 a.2]) Tryz.call216 (fun l a h => by
  unfold un_lib_216 at h
  split at h
  · cases h; rfl
  · cases h) (fun a => rfl) (fun a r h => hand_ints_Add n a.1 a.2 r h)

/-! circa/ints.Mod -/
noncomputable def arg_ints_Mod (a : Int × Int) : List V := [.i .i64 a.1, .i .i64 a.2]
noncomputable def una_ints_Mod (l : List V) : Option (Int × Int) := match l with
  | [.i .i64 a0, .i .i64 a1] => some (a0, a1)
  | _ => none
theorem una_ok_ints_Mod : ∀ l a, una_ints_Mod l = some a → l = arg_ints_Mod a := by
  intro l a h
  unfold una_ints_Mod at h
  split at h
  · cases h; rfl
  · cases h
noncomputable def enc_ints_Mod (r : Int × Int) : V := .tp [.i .i64 r.1, .i .i64 r.2]
noncomputable def unr_ints_Mod (v : V) : Option (Int × Int) := match v with
  | .tp [.i .i64 r0, .i .i64 r1] => some (r0, r1)
  | _ => none
theorem unr_ok_ints_Mod : ∀ v r, unr_ints_Mod v = some r → v = enc_ints_Mod r := by
  intro v r h
  unfold unr_ints_Mod at h
  split at h
  · cases h; rfl
  · cases h
noncomputable def e_ints_Mod (n : Nat) : Ent := pureE 218 una_ints_Mod (fun a => ints_Mod n a.1 a.2) enc_ints_Mod
noncomputable def t_ints_Mod (l : List V) (_ : List (Nat × Blk)) : Bool := isS (una_ints_Mod l)
noncomputable def Es_ints_Mod (_n : Nat) : List Ent := []
theorem Es_ok_ints_Mod (n : Nat) : ∀ x ∈ Es_ints_Mod n, EntOK Tryz.prog x := by
  intro x hx
  simp [Es_ints_Mod] at hx
noncomputable def Ls_ints_Mod (_n : Nat) : List Sub := []
theorem subs_ints_Mod (n : Nat) : SubOK Tryz.prog 28 (Ls_ints_Mod n) (acOf Tryz.f218) := SubOK_of _ (by
  have e : subs (acOf Tryz.f218) = [] := by kernel_rfl
  rw [e]; intro p hp; cases hp)
theorem cert_ints_Mod (n : Nat) (a0 : Int) (a1 : Int) : run Tryz.prog (Es_ints_Mod n) (Ls_ints_Mod n) Tryz.f218.ntmps (acOf Tryz.f218) ⟨argsT [.i .i64 a0, .i .i64 a1] 0, [], 0, 0, 0, 0⟩ (finK Tryz.prog Tryz.f218.results.toList (retX unr_ints_Mod)) = ints_Mod n a0 a1 := by kernel_rfl
theorem pure_ints_Mod (n : Nat) : ∀ a r, ints_Mod n a.1 a.2 = some r → PureOK Tryz.prog 218 (arg_ints_Mod a) (enc_ints_Mod r) := fun a r h => pureX_ok unr_ok_ints_Mod (Es_ok_ints_Mod n) Tryz.func218 rfl (acOf_code _) (subs_ints_Mod n) rfl ((cert_ints_Mod n a.1 a.2).trans h)
theorem ok_ints_Mod (n : Nat) : EntOK Tryz.prog (e_ints_Mod n) := pureE_ok Tryz.call218 una_ok_ints_Mod (fun _ => rfl) (pure_ints_Mod n)

/-! circa/months.Add -/
noncomputable def arg_months_Add (a : Int × Int × Int) : List V := [.i .i64 a.1, .i .i64 a.2.1, .i .i64 a.2.2]
noncomputable def una_months_Add (l : List V) : Option (Int × Int × Int) := match l with
  | [.i .i64 a0, .i .i64 a1, .i .i64 a2] => some (a0, a1, a2)
  | _ => none
theorem una_ok_months_Add : ∀ l a, una_months_Add l = some a → l = arg_months_Add a := by
  intro l a h
  unfold una_months_Add at h
  split at h
  · cases h; rfl
  · cases h
noncomputable def enc_months_Add (r : Int × Int × Int) : V := .tp [.i .i64 r.1, .i .i64 r.2.1, .i .i64 r.2.2]
noncomputable def unr_months_Add (v : V) : Option (Int × Int × Int) := match v with
  | .tp [.i .i64 r0, .i .i64 r1, .i .i64 r2] => some (r0, r1, r2)
  | _ => none
theorem unr_ok_months_Add : ∀ v r, unr_months_Add v = some r → v = enc_months_Add r := by
  intro v r h
  unfold unr_months_Add at h
  split at h
  · cases h; rfl
  · cases h
noncomputable def e_months_Add (n : Nat) : Ent := pureE 174 una_months_Add (fun a => months_Add n a.1 a.2.1 a.2.2) enc_months_Add
noncomputable def t_months_Add (l : List V) (_ : List (Nat × Blk)) : Bool := isS (una_months_Add l)
noncomputable def Es_months_Add (n : Nat) : List Ent := [e_months_Check n, e_lib_216 n, e_ints_Div n, e_ints_Mod n, e_years_Check n]
theorem Es_ok_months_Add (n : Nat) : ∀ x ∈ Es_months_Add n, EntOK Tryz.prog x := by
  intro x hx
  simp only [Es_months_Add, List.mem_cons, List.not_mem_nil, or_false] at hx
  rcases hx with hx | hx | hx | hx | hx
  · rw [hx]; exact ok_months_Check n
  · rw [hx]; exact ok_lib_216 n
  · rw [hx]; exact ok_ints_Div n
  · rw [hx]; exact ok_ints_Mod n
  · rw [hx]; exact ok_years_Check n
noncomputable def Ls_months_Add (_n : Nat) : List Sub := []
theorem subs_months_Add (n : Nat) : SubOK Tryz.prog 50 (Ls_months_Add n) (acOf Tryz.f174) := SubOK_of _ (by
  have e : subs (acOf Tryz.f174) = [] := by kernel_rfl
  rw [e]; intro p hp; cases hp)
theorem cert_months_Add (n : Nat) (a0 : Int) (a1 : Int) (a2 : Int) : run Tryz.prog (Es_months_Add n) (Ls_months_Add n) Tryz.f174.ntmps (acOf Tryz.f174) ⟨argsT [.i .i64 a0, .i .i64 a1, .i .i64 a2] 0, [], 0, 0, 0, 0⟩ (finK Tryz.prog Tryz.f174.results.toList (retX unr_months_Add)) = months_Add n a0 a1 a2 := by kernel_rfl
theorem pure_months_Add (n : Nat) : ∀ a r, months_Add n a.1 a.2.1 a.2.2 = some r → PureOK Tryz.prog 174 (arg_months_Add a) (enc_months_Add r) := fun a r h => pureX_ok unr_ok_months_Add (Es_ok_months_Add n) Tryz.func174 rfl (acOf_code _) (subs_months_Add n) rfl ((cert_months_Add n a.1 a.2.1 a.2.2).trans h)
theorem ok_months_Add (n : Nat) : EntOK Tryz.prog (e_months_Add n) := pureE_ok Tryz.call174 una_ok_months_Add (fun _ => rfl) (pure_months_Add n)

/-! circa/months.End -/
noncomputable def arg_months_End (a : Int × Int) : List V := [.i .i64 a.1, .i .i64 a.2]
noncomputable def una_months_End (l : List V) : Option (Int × Int) := match l with
  | [.i .i64 a0, .i .i64 a1] => some (a0, a1)
  | _ => none
theorem una_ok_months_End : ∀ l a, una_months_End l = some a → l = arg_months_End a := by
  intro l a h
  unfold una_months_End at h
  split at h
  · cases h; rfl
  · cases h
noncomputable def enc_months_End (r : Int × Int) : V := .tp [.i .i64 r.1, .i .i64 r.2]
noncomputable def unr_months_End (v : V) : Option (Int × Int) := match v with
  | .tp [.i .i64 r0, .i .i64 r1] => some (r0, r1)
  | _ => none
theorem unr_ok_months_End : ∀ v r, unr_months_End v = some r → v = enc_months_End r := by
  intro v r h
  unfold unr_months_End at h
  split at h
  · cases h; rfl
  · cases h
noncomputable def e_months_End (n : Nat) : Ent := pureE 175 una_months_End (fun a => months_End n a.1 a.2) enc_months_End
noncomputable def t_months_End (l : List V) (_ : List (Nat × Blk)) : Bool := isS (una_months_End l)
noncomputable def Es_months_End (n : Nat) : List Ent := [e_months_Start n, e_lib_215 n]
theorem Es_ok_months_End (n : Nat) : ∀ x ∈ Es_months_End n, EntOK Tryz.prog x := by
  intro x hx
  simp only [Es_months_End, List.mem_cons, List.not_mem_nil, or_false] at hx
  rcases hx with hx | hx
  · rw [hx]; exact ok_months_Start n
  · rw [hx]; exact ok_lib_215 n
noncomputable def Ls_months_End (_n : Nat) : List Sub := []
theorem subs_months_End (n : Nat) : SubOK Tryz.prog 23 (Ls_months_End n) (acOf Tryz.f175) := SubOK_of _ (by
  have e : subs (acOf Tryz.f175) = [] := by kernel_rfl
  rw [e]; intro p hp; cases hp)
theorem cert_months_End (n : Nat) (a0 : Int) (a1 : Int) : run Tryz.prog (Es_months_End n) (Ls_months_End n) Tryz.f175.ntmps (acOf Tryz.f175) ⟨argsT [.i .i64 a0, .i .i64 a1] 0, [], 0, 0, 0, 0⟩ (finK Tryz.prog Tryz.f175.results.toList (retX unr_months_End)) = months_End n a0 a1 := by kernel_rfl
theorem pure_months_End (n : Nat) : ∀ a r, months_End n a.1 a.2 = some r → PureOK Tryz.prog 175 (arg_months_End a) (enc_months_End r) := fun a r h => pureX_ok unr_ok_months_End (Es_ok_months_End n) Tryz.func175 rfl (acOf_code _) (subs_months_End n) rfl ((cert_months_End n a.1 a.2).trans h)
theorem ok_months_End (n : Nat) : EntOK Tryz.prog (e_months_End n) := pureE_ok Tryz.call175 una_ok_months_End (fun _ => rfl) (pure_months_End n)

/-! circa/seasons.Run -/
noncomputable def arg_seasons_Run (a : Int × Int) : List V := [.i .i64 a.1, .i .i64 a.2]
noncomputable def una_seasons_Run (l : List V) : Option (Int × Int) := match l with
  | [.i .i64 a0, .i .i64 a1] => some (a0, a1)
  | _ => none
theorem una_ok_seasons_Run : ∀ l a, una_seasons_Run l = some a → l = arg_seasons_Run a := by
  intro l a h
  unfold una_seasons_Run at h
  split at h
  · cases h; rfl
  · cases h
noncomputable def enc_seasons_Run (r : Int × Int × Int × Int × Int) : V := .tp [.ag [.i .i8 r.1, .i .i64 r.2.1, .i .i8 r.2.2.1, .i .i64 r.2.2.2.1], .i .i64 r.2.2.2.2]
noncomputable def unr_seasons_Run (v : V) : Option (Int × Int × Int × Int × Int) := match v with
  | .tp [.ag [.i .i8 r0, .i .i64 r1, .i .i8 r2, .i .i64 r3], .i .i64 r4] => some (r0, r1, r2, r3, r4)
  | _ => none
theorem unr_ok_seasons_Run : ∀ v r, unr_seasons_Run v = some r → v = enc_seasons_Run r := by
  intro v r h
  unfold unr_seasons_Run at h
  split at h
  · cases h; rfl
  · cases h
noncomputable def e_seasons_Run (n : Nat) : Ent := pureE 124 una_seasons_Run (fun a => seasons_Run n a.1 a.2) enc_seasons_Run
noncomputable def t_seasons_Run (l : List V) (_ : List (Nat × Blk)) : Bool := isS (una_seasons_Run l)
noncomputable def Es_seasons_Run (n : Nat) : List Ent := [e_lib_172 n, e_months_Start n, e_months_Add n, e_months_End n]
theorem Es_ok_seasons_Run (n : Nat) : ∀ x ∈ Es_seasons_Run n, EntOK Tryz.prog x := by
  intro x hx
  simp only [Es_seasons_Run, List.mem_cons, List.not_mem_nil, or_false] at hx
  rcases hx with hx | hx | hx | hx
  · rw [hx]; exact ok_lib_172 n
  · rw [hx]; exact ok_months_Start n
  · rw [hx]; exact ok_months_Add n
  · rw [hx]; exact ok_months_End n
noncomputable def Ls_seasons_Run (_n : Nat) : List Sub := []
theorem subs_seasons_Run (n : Nat) : SubOK Tryz.prog 58 (Ls_seasons_Run n) (acOf Tryz.f124) := SubOK_of _ (by
  have e : subs (acOf Tryz.f124) = [] := by kernel_rfl
  rw [e]; intro p hp; cases hp)
theorem cert_seasons_Run (n : Nat) (a0 : Int) (a1 : Int) : run Tryz.prog (Es_seasons_Run n) (Ls_seasons_Run n) Tryz.f124.ntmps (acOf Tryz.f124) ⟨argsT [.i .i64 a0, .i .i64 a1] 0, [], 0, 0, 0, 0⟩ (finK Tryz.prog Tryz.f124.results.toList (retX unr_seasons_Run)) = seasons_Run n a0 a1 := by kernel_rfl
theorem pure_seasons_Run (n : Nat) : ∀ a r, seasons_Run n a.1 a.2 = some r → PureOK Tryz.prog 124 (arg_seasons_Run a) (enc_seasons_Run r) := fun a r h => pureX_ok unr_ok_seasons_Run (Es_ok_seasons_Run n) Tryz.func124 rfl (acOf_code _) (subs_seasons_Run n) rfl ((cert_seasons_Run n a.1 a.2).trans h)
theorem ok_seasons_Run (n : Nat) : EntOK Tryz.prog (e_seasons_Run n) := pureE_ok Tryz.call124 una_ok_seasons_Run (fun _ => rfl) (pure_seasons_Run n)

/-! circa/dateforms.checkYear -/
noncomputable def arg_dateforms_checkYear (a : Bool × Bool × List UInt8 × Int × Int × List UInt8 × List UInt8 × Int × Int × Int) : List V := [.ag [.b a.1, .b a.2.1, .s a.2.2.1, .i .i64 a.2.2.2.1, .i .i64 a.2.2.2.2.1, .s a.2.2.2.2.2.1, .s a.2.2.2.2.2.2.1, .i .u8 a.2.2.2.2.2.2.2.1, .i .u8 a.2.2.2.2.2.2.2.2.1, .i .u8 a.2.2.2.2.2.2.2.2.2]]
noncomputable def una_dateforms_checkYear (l : List V) : Option (Bool × Bool × List UInt8 × Int × Int × List UInt8 × List UInt8 × Int × Int × Int) := match l with
  | [.ag [.b a0, .b a1, .s a2, .i .i64 a3, .i .i64 a4, .s a5, .s a6, .i .u8 a7, .i .u8 a8, .i .u8 a9]] => some (a0, a1, a2, a3, a4, a5, a6, a7, a8, a9)
  | _ => none
theorem una_ok_dateforms_checkYear : ∀ l a, una_dateforms_checkYear l = some a → l = arg_dateforms_checkYear a := by
  intro l a h
  unfold una_dateforms_checkYear at h
  split at h
  · cases h; rfl
  · cases h
noncomputable def enc_dateforms_checkYear (r : Bool) : V := .b r
noncomputable def unr_dateforms_checkYear (v : V) : Option (Bool) := match v with
  | .b r0 => some r0
  | _ => none
theorem unr_ok_dateforms_checkYear : ∀ v r, unr_dateforms_checkYear v = some r → v = enc_dateforms_checkYear r := by
  intro v r h
  unfold unr_dateforms_checkYear at h
  split at h
  · cases h; rfl
  · cases h
noncomputable def e_dateforms_checkYear (n : Nat) : Ent := pureE 56 una_dateforms_checkYear (fun a => dateforms_checkYear n a.1 a.2.1 a.2.2.1 a.2.2.2.1 a.2.2.2.2.1 a.2.2.2.2.2.1 a.2.2.2.2.2.2.1 a.2.2.2.2.2.2.2.1 a.2.2.2.2.2.2.2.2.1 a.2.2.2.2.2.2.2.2.2) enc_dateforms_checkYear
noncomputable def t_dateforms_checkYear (l : List V) (_ : List (Nat × Blk)) : Bool := isS (una_dateforms_checkYear l)
noncomputable def Es_dateforms_checkYear (n : Nat) : List Ent := [e_yearforms_Check n, e_dateforms_Season n, e_yearforms_Masked n, e_yearforms_Value n, e_seasons_Run n]
theorem Es_ok_dateforms_checkYear (n : Nat) : ∀ x ∈ Es_dateforms_checkYear n, EntOK Tryz.prog x := by
  intro x hx
  simp only [Es_dateforms_checkYear, List.mem_cons, List.not_mem_nil, or_false] at hx
  rcases hx with hx | hx | hx | hx | hx
  · rw [hx]; exact ok_yearforms_Check n
  · rw [hx]; exact ok_dateforms_Season n
  · rw [hx]; exact ok_yearforms_Masked n
  · rw [hx]; exact ok_yearforms_Value n
  · rw [hx]; exact ok_seasons_Run n
noncomputable def Ls_dateforms_checkYear (_n : Nat) : List Sub := []
theorem subs_dateforms_checkYear (n : Nat) : SubOK Tryz.prog 50 (Ls_dateforms_checkYear n) (acOf Tryz.f56) := SubOK_of _ (by
  have e : subs (acOf Tryz.f56) = [] := by kernel_rfl
  rw [e]; intro p hp; cases hp)
theorem cert_dateforms_checkYear (n : Nat) (a0 : Bool) (a1 : Bool) (a2 : List UInt8) (a3 : Int) (a4 : Int) (a5 : List UInt8) (a6 : List UInt8) (a7 : Int) (a8 : Int) (a9 : Int) : run Tryz.prog (Es_dateforms_checkYear n) (Ls_dateforms_checkYear n) Tryz.f56.ntmps (acOf Tryz.f56) ⟨argsT [.ag [.b a0, .b a1, .s a2, .i .i64 a3, .i .i64 a4, .s a5, .s a6, .i .u8 a7, .i .u8 a8, .i .u8 a9]] 0, [], 0, 0, 0, 0⟩ (finK Tryz.prog Tryz.f56.results.toList (retX unr_dateforms_checkYear)) = dateforms_checkYear n a0 a1 a2 a3 a4 a5 a6 a7 a8 a9 := by kernel_rfl
theorem pure_dateforms_checkYear (n : Nat) : ∀ a r, dateforms_checkYear n a.1 a.2.1 a.2.2.1 a.2.2.2.1 a.2.2.2.2.1 a.2.2.2.2.2.1 a.2.2.2.2.2.2.1 a.2.2.2.2.2.2.2.1 a.2.2.2.2.2.2.2.2.1 a.2.2.2.2.2.2.2.2.2 = some r → PureOK Tryz.prog 56 (arg_dateforms_checkYear a) (enc_dateforms_checkYear r) := fun a r h => pureX_ok unr_ok_dateforms_checkYear (Es_ok_dateforms_checkYear n) Tryz.func56 rfl (acOf_code _) (subs_dateforms_checkYear n) rfl ((cert_dateforms_checkYear n a.1 a.2.1 a.2.2.1 a.2.2.2.1 a.2.2.2.2.1 a.2.2.2.2.2.1 a.2.2.2.2.2.2.1 a.2.2.2.2.2.2.2.1 a.2.2.2.2.2.2.2.2.1 a.2.2.2.2.2.2.2.2.2).trans h)
theorem ok_dateforms_checkYear (n : Nat) : EntOK Tryz.prog (e_dateforms_checkYear n) := pureE_ok Tryz.call56 una_ok_dateforms_checkYear (fun _ => rfl) (pure_dateforms_checkYear n)

/-! circa/dateforms.agrees -/
noncomputable def arg_dateforms_agrees (a : List UInt8 × Int) : List V := [.s a.1, .i .i64 a.2]
noncomputable def una_dateforms_agrees (l : List V) : Option (List UInt8 × Int) := match l with
  | [.s a0, .i .i64 a1] => some (a0, a1)
  | _ => none
theorem una_ok_dateforms_agrees : ∀ l a, una_dateforms_agrees l = some a → l = arg_dateforms_agrees a := by
  intro l a h
  unfold una_dateforms_agrees at h
  split at h
  · cases h; rfl
  · cases h
noncomputable def enc_dateforms_agrees (r : Bool) : V := .b r
noncomputable def unr_dateforms_agrees (v : V) : Option (Bool) := match v with
  | .b r0 => some r0
  | _ => none
theorem unr_ok_dateforms_agrees : ∀ v r, unr_dateforms_agrees v = some r → v = enc_dateforms_agrees r := by
  intro v r h
  unfold unr_dateforms_agrees at h
  split at h
  · cases h; rfl
  · cases h
noncomputable def e_dateforms_agrees (n : Nat) : Ent := pureE 57 una_dateforms_agrees (fun a => dateforms_agrees n a.1 a.2) enc_dateforms_agrees
noncomputable def t_dateforms_agrees (l : List V) (_ : List (Nat × Blk)) : Bool := isS (una_dateforms_agrees l)
noncomputable def Es_dateforms_agrees (_n : Nat) : List Ent := []
theorem Es_ok_dateforms_agrees (n : Nat) : ∀ x ∈ Es_dateforms_agrees n, EntOK Tryz.prog x := by
  intro x hx
  simp [Es_dateforms_agrees] at hx
noncomputable def an_dateforms_agrees_l0 : Ann := ⟨[0, 1, 5], [], 0, []⟩
noncomputable def emb_dateforms_agrees_l0 (x : List UInt8 × Int × Int) : St := ⟨[(0, some (.s x.1)), (1, some (.i .i64 x.2.1)), (5, some (.i .i64 x.2.2))], [], 0, 0, 0, 0⟩
noncomputable def un_dateforms_agrees_l0 (s : St) : Option (List UInt8 × Int × Int) := match s with
  | ⟨[(0, some (.s x0)), (1, some (.i .i64 x1)), (5, some (.i .i64 x2))], [], 0, 0, 0, 0⟩ => some (x0, x1, x2)
  | _ => none
theorem un_ok_dateforms_agrees_l0 : ∀ s x, un_dateforms_agrees_l0 s = some x → s = emb_dateforms_agrees_l0 x := by
  intro s x h
  unfold un_dateforms_agrees_l0 at h
  split at h
  · cases h; rfl
  · cases h
noncomputable def ax_dateforms_agrees_l0 : Ex → Ann := fun ex => match ex with
  | .ret => ⟨[4], [], 0, []⟩
  | .exit 0 => ⟨[], [], 0, []⟩
  | _ => ⟨[], [], 0, []⟩
noncomputable def out_dateforms_agrees_l0 (y : Bool ⊕ Unit) : Ex × St := (Sum.casesOn (motive := fun _ => Ex × St) y (fun a0 => (.ret, ⟨[(4, some (.b a0))], [], 0, 0, 0, 0⟩)) (fun b0 => (.exit 0, ⟨[], [], 0, 0, 0, 0⟩)))
noncomputable def outK_dateforms_agrees_l0 (α : Type) (y : Bool ⊕ Unit) (k : Ex → St → Option α) : Option α := (Sum.casesOn (motive := fun _ => Option α) y (fun a0 => (k (.ret) ⟨[(4, some (.b a0))], [], 0, 0, 0, 0⟩)) (fun b0 => (k (.exit 0) ⟨[], [], 0, 0, 0, 0⟩)))
theorem outK_ok_dateforms_agrees_l0 : ∀ α y k, outK_dateforms_agrees_l0 α y k = k (out_dateforms_agrees_l0 y).1 (out_dateforms_agrees_l0 y).2 := by
  intro α y k
  rcases y with y | y <;> rfl
noncomputable def ux_dateforms_agrees_l0 (ex : Ex) (s : St) : Option (Bool ⊕ Unit) := match ex, s with
  | .ret, ⟨[(4, some (.b y0))], [], 0, 0, 0, 0⟩ => some (.inl y0)
  | .exit 0, ⟨[], [], 0, 0, 0, 0⟩ => some (.inr ())
  | _, _ => none
theorem ux_ok_dateforms_agrees_l0 : ∀ ex s y, ux_dateforms_agrees_l0 ex s = some y → (ex, s) = out_dateforms_agrees_l0 y := by
  intro ex s y h
  unfold ux_dateforms_agrees_l0 at h
  split at h
  · cases h; rfl
  · cases h; rfl
  · cases h
noncomputable def Ls_dateforms_agrees (n : Nat) : List Sub := [subE 0 an_dateforms_agrees_l0 un_dateforms_agrees_l0 (fun x => iterL (dateforms_agrees_l0 n) n x) outK_dateforms_agrees_l0]
noncomputable def sac_dateforms_agrees_l0 : AC := getS (subs (acOf Tryz.f57)) 0
noncomputable def ac_dateforms_agrees_l0 : AC := AC.body sac_dateforms_agrees_l0
theorem subs_dateforms_agrees_l0 (n : Nat) : SubOK Tryz.prog 46 (Ls_dateforms_agrees n) ac_dateforms_agrees_l0 := SubOK_of _ (by
  have e : subs ac_dateforms_agrees_l0 = [] := by kernel_rfl
  rw [e]; intro p hp; cases hp)
theorem body_dateforms_agrees_l0 (n : Nat) : ∀ x, run Tryz.prog (Es_dateforms_agrees n) (Ls_dateforms_agrees n) 46 ac_dateforms_agrees_l0 (emb_dateforms_agrees_l0 x) (roundK an_dateforms_agrees_l0 un_dateforms_agrees_l0 ax_dateforms_agrees_l0 ux_dateforms_agrees_l0) = dateforms_agrees_l0 n x := fun _ => by kernel_rfl
theorem sub1_dateforms_agrees_l0 (n : Nat) : ∀ (α : Type) (s : St) (k : Ex → St → Option α) (z : α), (subE 0 an_dateforms_agrees_l0 un_dateforms_agrees_l0 (fun x => iterL (dateforms_agrees_l0 n) n x) outK_dateforms_agrees_l0).e α s k = some z → SemC Tryz.prog 46 (sac_dateforms_agrees_l0).code s fun ex s' => k ex s' = some z := by
  intro α s k z h
  have e : sac_dateforms_agrees_l0 = .loop ac_dateforms_agrees_l0 := by kernel_rfl
  rw [e]
  exact subE_ok (m := 0) (f := fun x => iterL (dateforms_agrees_l0 n) n x) (out := out_dateforms_agrees_l0) outK_ok_dateforms_agrees_l0 un_ok_dateforms_agrees_l0 (fun x y hy => loop_ok (Es_ok_dateforms_agrees n) (subs_dateforms_agrees_l0 n) un_ok_dateforms_agrees_l0 ux_ok_dateforms_agrees_l0 (body_dateforms_agrees_l0 n) n x y hy) h
theorem sub_dateforms_agrees_l0 (n : Nat) : SubSt Tryz.prog 46 (Ls_dateforms_agrees n) 0 sac_dateforms_agrees_l0 := fun α s k z => sub1_dateforms_agrees_l0 n α s k z
theorem subs_dateforms_agrees (n : Nat) : SubOK Tryz.prog 46 (Ls_dateforms_agrees n) (acOf Tryz.f57) := SubOK_of _ (by
  have e : subs (acOf Tryz.f57) = [(0, sac_dateforms_agrees_l0)] := by kernel_rfl
  rw [e]; intro p hp
  simp only [List.mem_cons, List.not_mem_nil, or_false] at hp
  · rw [hp]; exact sub_dateforms_agrees_l0 n
  )
theorem cert_dateforms_agrees (n : Nat) (a0 : List UInt8) (a1 : Int) : run Tryz.prog (Es_dateforms_agrees n) (Ls_dateforms_agrees n) Tryz.f57.ntmps (acOf Tryz.f57) ⟨argsT [.s a0, .i .i64 a1] 0, [], 0, 0, 0, 0⟩ (finK Tryz.prog Tryz.f57.results.toList (retX unr_dateforms_agrees)) = dateforms_agrees n a0 a1 := by kernel_rfl
theorem pure_dateforms_agrees (n : Nat) : ∀ a r, dateforms_agrees n a.1 a.2 = some r → PureOK Tryz.prog 57 (arg_dateforms_agrees a) (enc_dateforms_agrees r) := fun a r h => pureX_ok unr_ok_dateforms_agrees (Es_ok_dateforms_agrees n) Tryz.func57 rfl (acOf_code _) (subs_dateforms_agrees n) rfl ((cert_dateforms_agrees n a.1 a.2).trans h)
theorem ok_dateforms_agrees (n : Nat) : EntOK Tryz.prog (e_dateforms_agrees n) := pureE_ok Tryz.call57 una_ok_dateforms_agrees (fun _ => rfl) (pure_dateforms_agrees n)

/-! circa/dateforms.Components -/
noncomputable def arg_dateforms_Components (a : Bool × Bool × List UInt8 × Int × Int × List UInt8 × List UInt8 × Int × Int × Int) : List V := [.ag [.b a.1, .b a.2.1, .s a.2.2.1, .i .i64 a.2.2.2.1, .i .i64 a.2.2.2.2.1, .s a.2.2.2.2.2.1, .s a.2.2.2.2.2.2.1, .i .u8 a.2.2.2.2.2.2.2.1, .i .u8 a.2.2.2.2.2.2.2.2.1, .i .u8 a.2.2.2.2.2.2.2.2.2]]
noncomputable def una_dateforms_Components (l : List V) : Option (Bool × Bool × List UInt8 × Int × Int × List UInt8 × List UInt8 × Int × Int × Int) := match l with
  | [.ag [.b a0, .b a1, .s a2, .i .i64 a3, .i .i64 a4, .s a5, .s a6, .i .u8 a7, .i .u8 a8, .i .u8 a9]] => some (a0, a1, a2, a3, a4, a5, a6, a7, a8, a9)
  | _ => none
theorem una_ok_dateforms_Components : ∀ l a, una_dateforms_Components l = some a → l = arg_dateforms_Components a := by
  intro l a h
  unfold una_dateforms_Components at h
  split at h
  · cases h; rfl
  · cases h
noncomputable def enc_dateforms_Components (r : Int) : V := .i .i64 r
noncomputable def unr_dateforms_Components (v : V) : Option (Int) := match v with
  | .i .i64 r0 => some r0
  | _ => none
theorem unr_ok_dateforms_Components : ∀ v r, unr_dateforms_Components v = some r → v = enc_dateforms_Components r := by
  intro v r h
  unfold unr_dateforms_Components at h
  split at h
  · cases h; rfl
  · cases h
noncomputable def e_dateforms_Components (n : Nat) : Ent := pureE 21 una_dateforms_Components (fun a => dateforms_Components n a.1 a.2.1 a.2.2.1 a.2.2.2.1 a.2.2.2.2.1 a.2.2.2.2.2.1 a.2.2.2.2.2.2.1 a.2.2.2.2.2.2.2.1 a.2.2.2.2.2.2.2.2.1 a.2.2.2.2.2.2.2.2.2) enc_dateforms_Components
noncomputable def t_dateforms_Components (l : List V) (_ : List (Nat × Blk)) : Bool := isS (una_dateforms_Components l)
noncomputable def Es_dateforms_Components (_n : Nat) : List Ent := []
theorem Es_ok_dateforms_Components (n : Nat) : ∀ x ∈ Es_dateforms_Components n, EntOK Tryz.prog x := by
  intro x hx
  simp [Es_dateforms_Components] at hx
noncomputable def an_dateforms_Components_l0 : Ann := ⟨[3, 10, 11], [], 1, []⟩
noncomputable def emb_dateforms_Components_l0 (x : Int × List UInt8 × List UInt8 × Int) : St := ⟨[(3, some (.i .i64 x.1)), (10, some (.ag [.s x.2.1, .s x.2.2.1])), (11, some (.i .i64 x.2.2.2))], [], 1, 0, 0, 0⟩
noncomputable def un_dateforms_Components_l0 (s : St) : Option (Int × List UInt8 × List UInt8 × Int) := match s with
  | ⟨[(3, some (.i .i64 x0)), (10, some (.ag [.s x1, .s x2])), (11, some (.i .i64 x3))], [], 1, 0, 0, 0⟩ => some (x0, x1, x2, x3)
  | _ => none
theorem un_ok_dateforms_Components_l0 : ∀ s x, un_dateforms_Components_l0 s = some x → s = emb_dateforms_Components_l0 x := by
  intro s x h
  unfold un_dateforms_Components_l0 at h
  split at h
  · cases h; rfl
  · cases h
noncomputable def ax_dateforms_Components_l0 : Ex → Ann := fun ex => match ex with
  | .exit 0 => ⟨[3], [], 1, []⟩
  | _ => ⟨[], [], 0, []⟩
noncomputable def out_dateforms_Components_l0 (y : Int) : Ex × St := (.exit 0, ⟨[(3, some (.i .i64 y))], [], 1, 0, 0, 0⟩)
noncomputable def outK_dateforms_Components_l0 (α : Type) (y : Int) (k : Ex → St → Option α) : Option α := (k (.exit 0) ⟨[(3, some (.i .i64 y))], [], 1, 0, 0, 0⟩)
theorem outK_ok_dateforms_Components_l0 : ∀ α y k, outK_dateforms_Components_l0 α y k = k (out_dateforms_Components_l0 y).1 (out_dateforms_Components_l0 y).2 := by
  intro α y k
  rfl
noncomputable def ux_dateforms_Components_l0 (ex : Ex) (s : St) : Option (Int) := match ex, s with
  | .exit 0, ⟨[(3, some (.i .i64 y0))], [], 1, 0, 0, 0⟩ => some y0
  | _, _ => none
theorem ux_ok_dateforms_Components_l0 : ∀ ex s y, ux_dateforms_Components_l0 ex s = some y → (ex, s) = out_dateforms_Components_l0 y := by
  intro ex s y h
  unfold ux_dateforms_Components_l0 at h
  split at h
  · cases h; rfl
  · cases h
noncomputable def Ls_dateforms_Components (n : Nat) : List Sub := [subE 0 an_dateforms_Components_l0 un_dateforms_Components_l0 (fun x => iterL (dateforms_Components_l0 n) n x) outK_dateforms_Components_l0]
noncomputable def sac_dateforms_Components_l0 : AC := getS (subs (acOf Tryz.f21)) 0
noncomputable def ac_dateforms_Components_l0 : AC := AC.body sac_dateforms_Components_l0
theorem subs_dateforms_Components_l0 (n : Nat) : SubOK Tryz.prog 20 (Ls_dateforms_Components n) ac_dateforms_Components_l0 := SubOK_of _ (by
  have e : subs ac_dateforms_Components_l0 = [] := by kernel_rfl
  rw [e]; intro p hp; cases hp)
theorem body_dateforms_Components_l0 (n : Nat) : ∀ x, run Tryz.prog (Es_dateforms_Components n) (Ls_dateforms_Components n) 20 ac_dateforms_Components_l0 (emb_dateforms_Components_l0 x) (roundK an_dateforms_Components_l0 un_dateforms_Components_l0 ax_dateforms_Components_l0 ux_dateforms_Components_l0) = dateforms_Components_l0 n x := fun _ => by kernel_rfl
theorem sub1_dateforms_Components_l0 (n : Nat) : ∀ (α : Type) (s : St) (k : Ex → St → Option α) (z : α), (subE 0 an_dateforms_Components_l0 un_dateforms_Components_l0 (fun x => iterL (dateforms_Components_l0 n) n x) outK_dateforms_Components_l0).e α s k = some z → SemC Tryz.prog 20 (sac_dateforms_Components_l0).code s fun ex s' => k ex s' = some z := by
  intro α s k z h
  have e : sac_dateforms_Components_l0 = .loop ac_dateforms_Components_l0 := by kernel_rfl
  rw [e]
  exact subE_ok (m := 0) (f := fun x => iterL (dateforms_Components_l0 n) n x) (out := out_dateforms_Components_l0) outK_ok_dateforms_Components_l0 un_ok_dateforms_Components_l0 (fun x y hy => loop_ok (Es_ok_dateforms_Components n) (subs_dateforms_Components_l0 n) un_ok_dateforms_Components_l0 ux_ok_dateforms_Components_l0 (body_dateforms_Components_l0 n) n x y hy) h
theorem sub_dateforms_Components_l0 (n : Nat) : SubSt Tryz.prog 20 (Ls_dateforms_Components n) 0 sac_dateforms_Components_l0 := fun α s k z => sub1_dateforms_Components_l0 n α s k z
theorem subs_dateforms_Components (n : Nat) : SubOK Tryz.prog 20 (Ls_dateforms_Components n) (acOf Tryz.f21) := SubOK_of _ (by
  have e : subs (acOf Tryz.f21) = [(0, sac_dateforms_Components_l0)] := by kernel_rfl
  rw [e]; intro p hp
  simp only [List.mem_cons, List.not_mem_nil, or_false] at hp
  · rw [hp]; exact sub_dateforms_Components_l0 n
  )
theorem cert_dateforms_Components (n : Nat) (a0 : Bool) (a1 : Bool) (a2 : List UInt8) (a3 : Int) (a4 : Int) (a5 : List UInt8) (a6 : List UInt8) (a7 : Int) (a8 : Int) (a9 : Int) : run Tryz.prog (Es_dateforms_Components n) (Ls_dateforms_Components n) Tryz.f21.ntmps (acOf Tryz.f21) ⟨argsT [.ag [.b a0, .b a1, .s a2, .i .i64 a3, .i .i64 a4, .s a5, .s a6, .i .u8 a7, .i .u8 a8, .i .u8 a9]] 0, [], 0, 0, 0, 0⟩ (finK Tryz.prog Tryz.f21.results.toList (retX unr_dateforms_Components)) = dateforms_Components n a0 a1 a2 a3 a4 a5 a6 a7 a8 a9 := by kernel_rfl
theorem pure_dateforms_Components (n : Nat) : ∀ a r, dateforms_Components n a.1 a.2.1 a.2.2.1 a.2.2.2.1 a.2.2.2.2.1 a.2.2.2.2.2.1 a.2.2.2.2.2.2.1 a.2.2.2.2.2.2.2.1 a.2.2.2.2.2.2.2.2.1 a.2.2.2.2.2.2.2.2.2 = some r → PureOK Tryz.prog 21 (arg_dateforms_Components a) (enc_dateforms_Components r) := fun a r h => pureX_ok unr_ok_dateforms_Components (Es_ok_dateforms_Components n) Tryz.func21 rfl (acOf_code _) (subs_dateforms_Components n) rfl ((cert_dateforms_Components n a.1 a.2.1 a.2.2.1 a.2.2.2.1 a.2.2.2.2.1 a.2.2.2.2.2.1 a.2.2.2.2.2.2.1 a.2.2.2.2.2.2.2.1 a.2.2.2.2.2.2.2.2.1 a.2.2.2.2.2.2.2.2.2).trans h)
theorem ok_dateforms_Components (n : Nat) : EntOK Tryz.prog (e_dateforms_Components n) := pureE_ok Tryz.call21 una_ok_dateforms_Components (fun _ => rfl) (pure_dateforms_Components n)

/-! circa/dateforms.Check -/
noncomputable def arg_dateforms_Check (a : Bool × Bool × List UInt8 × Int × Int × List UInt8 × List UInt8 × Int × Int × Int) : List V := [.ag [.b a.1, .b a.2.1, .s a.2.2.1, .i .i64 a.2.2.2.1, .i .i64 a.2.2.2.2.1, .s a.2.2.2.2.2.1, .s a.2.2.2.2.2.2.1, .i .u8 a.2.2.2.2.2.2.2.1, .i .u8 a.2.2.2.2.2.2.2.2.1, .i .u8 a.2.2.2.2.2.2.2.2.2]]
noncomputable def una_dateforms_Check (l : List V) : Option (Bool × Bool × List UInt8 × Int × Int × List UInt8 × List UInt8 × Int × Int × Int) := match l with
  | [.ag [.b a0, .b a1, .s a2, .i .i64 a3, .i .i64 a4, .s a5, .s a6, .i .u8 a7, .i .u8 a8, .i .u8 a9]] => some (a0, a1, a2, a3, a4, a5, a6, a7, a8, a9)
  | _ => none
theorem una_ok_dateforms_Check : ∀ l a, una_dateforms_Check l = some a → l = arg_dateforms_Check a := by
  intro l a h
  unfold una_dateforms_Check at h
  split at h
  · cases h; rfl
  · cases h
noncomputable def enc_dateforms_Check (r : Int) : V := .i .i64 r
noncomputable def unr_dateforms_Check (v : V) : Option (Int) := match v with
  | .i .i64 r0 => some r0
  | _ => none
theorem unr_ok_dateforms_Check : ∀ v r, unr_dateforms_Check v = some r → v = enc_dateforms_Check r := by
  intro v r h
  unfold unr_dateforms_Check at h
  split at h
  · cases h; rfl
  · cases h
noncomputable def e_dateforms_Check (n : Nat) : Ent := pureE 16 una_dateforms_Check (fun a => dateforms_Check n a.1 a.2.1 a.2.2.1 a.2.2.2.1 a.2.2.2.2.1 a.2.2.2.2.2.1 a.2.2.2.2.2.2.1 a.2.2.2.2.2.2.2.1 a.2.2.2.2.2.2.2.2.1 a.2.2.2.2.2.2.2.2.2) enc_dateforms_Check
noncomputable def t_dateforms_Check (l : List V) (_ : List (Nat × Blk)) : Bool := isS (una_dateforms_Check l)
noncomputable def Es_dateforms_Check (n : Nat) : List Ent := [e_dateforms_Season n, e_dateforms_checkYear n, e_dateforms_agrees n, e_dateforms_Components n, e_marks_All n]
theorem Es_ok_dateforms_Check (n : Nat) : ∀ x ∈ Es_dateforms_Check n, EntOK Tryz.prog x := by
  intro x hx
  simp only [Es_dateforms_Check, List.mem_cons, List.not_mem_nil, or_false] at hx
  rcases hx with hx | hx | hx | hx | hx
  · rw [hx]; exact ok_dateforms_Season n
  · rw [hx]; exact ok_dateforms_checkYear n
  · rw [hx]; exact ok_dateforms_agrees n
  · rw [hx]; exact ok_dateforms_Components n
  · rw [hx]; exact ok_marks_All n
noncomputable def Ls_dateforms_Check (_n : Nat) : List Sub := []
theorem subs_dateforms_Check (n : Nat) : SubOK Tryz.prog 51 (Ls_dateforms_Check n) (acOf Tryz.f16) := SubOK_of _ (by
  have e : subs (acOf Tryz.f16) = [] := by kernel_rfl
  rw [e]; intro p hp; cases hp)
theorem cert_dateforms_Check (n : Nat) (a0 : Bool) (a1 : Bool) (a2 : List UInt8) (a3 : Int) (a4 : Int) (a5 : List UInt8) (a6 : List UInt8) (a7 : Int) (a8 : Int) (a9 : Int) : run Tryz.prog (Es_dateforms_Check n) (Ls_dateforms_Check n) Tryz.f16.ntmps (acOf Tryz.f16) ⟨argsT [.ag [.b a0, .b a1, .s a2, .i .i64 a3, .i .i64 a4, .s a5, .s a6, .i .u8 a7, .i .u8 a8, .i .u8 a9]] 0, [], 0, 0, 0, 0⟩ (finK Tryz.prog Tryz.f16.results.toList (retX unr_dateforms_Check)) = dateforms_Check n a0 a1 a2 a3 a4 a5 a6 a7 a8 a9 := by kernel_rfl
theorem pure_dateforms_Check (n : Nat) : ∀ a r, dateforms_Check n a.1 a.2.1 a.2.2.1 a.2.2.2.1 a.2.2.2.2.1 a.2.2.2.2.2.1 a.2.2.2.2.2.2.1 a.2.2.2.2.2.2.2.1 a.2.2.2.2.2.2.2.2.1 a.2.2.2.2.2.2.2.2.2 = some r → PureOK Tryz.prog 16 (arg_dateforms_Check a) (enc_dateforms_Check r) := fun a r h => pureX_ok unr_ok_dateforms_Check (Es_ok_dateforms_Check n) Tryz.func16 rfl (acOf_code _) (subs_dateforms_Check n) rfl ((cert_dateforms_Check n a.1 a.2.1 a.2.2.1 a.2.2.2.1 a.2.2.2.2.1 a.2.2.2.2.2.1 a.2.2.2.2.2.2.1 a.2.2.2.2.2.2.2.1 a.2.2.2.2.2.2.2.2.1 a.2.2.2.2.2.2.2.2.2).trans h)
theorem ok_dateforms_Check (n : Nat) : EntOK Tryz.prog (e_dateforms_Check n) := pureE_ok Tryz.call16 una_ok_dateforms_Check (fun _ => rfl) (pure_dateforms_Check n)

/-! circa/dateforms.Parse -/
noncomputable def arg_dateforms_Parse (a : List UInt8) : List V := [.s a]
noncomputable def una_dateforms_Parse (l : List V) : Option (List UInt8) := match l with
  | [.s a0] => some a0
  | _ => none
theorem una_ok_dateforms_Parse : ∀ l a, una_dateforms_Parse l = some a → l = arg_dateforms_Parse a := by
  intro l a h
  unfold una_dateforms_Parse at h
  split at h
  · cases h; rfl
  · cases h
noncomputable def enc_dateforms_Parse (r : Bool × Bool × List UInt8 × Int × Int × List UInt8 × List UInt8 × Int × Int × Int × Int × Int) : V := .tp [.ag [.b r.1, .b r.2.1, .s r.2.2.1, .i .i64 r.2.2.2.1, .i .i64 r.2.2.2.2.1, .s r.2.2.2.2.2.1, .s r.2.2.2.2.2.2.1, .i .u8 r.2.2.2.2.2.2.2.1, .i .u8 r.2.2.2.2.2.2.2.2.1, .i .u8 r.2.2.2.2.2.2.2.2.2.1], .i .i64 r.2.2.2.2.2.2.2.2.2.2.1, .i .i64 r.2.2.2.2.2.2.2.2.2.2.2]
noncomputable def unr_dateforms_Parse (v : V) : Option (Bool × Bool × List UInt8 × Int × Int × List UInt8 × List UInt8 × Int × Int × Int × Int × Int) := match v with
  | .tp [.ag [.b r0, .b r1, .s r2, .i .i64 r3, .i .i64 r4, .s r5, .s r6, .i .u8 r7, .i .u8 r8, .i .u8 r9], .i .i64 r10, .i .i64 r11] => some (r0, r1, r2, r3, r4, r5, r6, r7, r8, r9, r10, r11)
  | _ => none
theorem unr_ok_dateforms_Parse : ∀ v r, unr_dateforms_Parse v = some r → v = enc_dateforms_Parse r := by
  intro v r h
  unfold unr_dateforms_Parse at h
  split at h
  · cases h; rfl
  · cases h
noncomputable def e_dateforms_Parse (n : Nat) : Ent := pureE 13 una_dateforms_Parse (fun a => dateforms_Parse n a) enc_dateforms_Parse
noncomputable def t_dateforms_Parse (l : List V) (_ : List (Nat × Blk)) : Bool := isS (una_dateforms_Parse l)
noncomputable def Es_dateforms_Parse (n : Nat) : List Ent := [e_cursors_Run n, e_dateforms_Check n]
theorem Es_ok_dateforms_Parse (n : Nat) : ∀ x ∈ Es_dateforms_Parse n, EntOK Tryz.prog x := by
  intro x hx
  simp only [Es_dateforms_Parse, List.mem_cons, List.not_mem_nil, or_false] at hx
  rcases hx with hx | hx
  · rw [hx]; exact ok_cursors_Run n
  · rw [hx]; exact ok_dateforms_Check n
noncomputable def Ls_dateforms_Parse (_n : Nat) : List Sub := []
theorem subs_dateforms_Parse (n : Nat) : SubOK Tryz.prog 32 (Ls_dateforms_Parse n) (acOf Tryz.f13) := SubOK_of _ (by
  have e : subs (acOf Tryz.f13) = [] := by kernel_rfl
  rw [e]; intro p hp; cases hp)
theorem cert_dateforms_Parse (n : Nat) (a0 : List UInt8) : run Tryz.prog (Es_dateforms_Parse n) (Ls_dateforms_Parse n) Tryz.f13.ntmps (acOf Tryz.f13) ⟨argsT [.s a0] 0, [], 0, 0, 0, 0⟩ (finK Tryz.prog Tryz.f13.results.toList (retX unr_dateforms_Parse)) = dateforms_Parse n a0 := by kernel_rfl
theorem pure_dateforms_Parse (n : Nat) : ∀ a r, dateforms_Parse n a = some r → PureOK Tryz.prog 13 (arg_dateforms_Parse a) (enc_dateforms_Parse r) := fun a r h => pureX_ok unr_ok_dateforms_Parse (Es_ok_dateforms_Parse n) Tryz.func13 rfl (acOf_code _) (subs_dateforms_Parse n) rfl ((cert_dateforms_Parse n a).trans h)
theorem ok_dateforms_Parse (n : Nat) : EntOK Tryz.prog (e_dateforms_Parse n) := pureE_ok Tryz.call13 una_ok_dateforms_Parse (fun _ => rfl) (pure_dateforms_Parse n)

/-! slices.Min[[]uint8,uint8] -/
noncomputable def arg_slices_Min_uint8_uint8 (a : Nat × Nat × List Int) : List V := [.sl 0 0 a.1 (some a.2.1)]
noncomputable def H0_slices_Min_uint8_uint8 (a : Nat × Nat × List Int) : List (Nat × Blk) := [(0, .ints .u8 3 a.2.2)]
noncomputable def una_slices_Min_uint8_uint8 (l : List V) (H : List (Nat × Blk)) : Option ((Nat × Nat × List Int) × List Nat) := match l with
  | [.sl b0 0 a0 (some a1)] => (match Abs.look H b0 with
    | some (.ints .u8 3 a2) => (cond (Abs.distinct [b0] && true) (some ((a0, a1, a2), [b0])) none)
    | _ => none)
  | _ => none
theorem una_ok_slices_Min_uint8_uint8 : ∀ l H a ρ, una_slices_Min_uint8_uint8 l H = some (a, ρ) → ρ.length = 1 ∧ ρ.Nodup ∧ l = V.rens ρ (arg_slices_Min_uint8_uint8 a) ∧ ∀ b blk, Abs.look (H0_slices_Min_uint8_uint8 a) b = some blk → Abs.look H (getN ρ b) = some (blk.ren ρ) := by
  intro l H a ρ h
  unfold una_slices_Min_uint8_uint8 at h
  split at h
  · split at h
    · rename_i e0
      obtain ⟨hd, h⟩ := cond_some h
      simp only [Bool.and_eq_true] at hd
      obtain ⟨hd, _⟩ := hd
      cases h
      exact ⟨rfl, distinct_ok hd, rfl, eachH_look ⟨e0, trivial⟩⟩
    · cases h
  · cases h
noncomputable def out_slices_Min_uint8_uint8 (r : List UInt8 ⊕ Int) : FOut := (Sum.casesOn (motive := fun _ => FOut) r (fun a0 => (⟨true, .it 9 (.s a0), [], []⟩ : FOut)) (fun b0 => (⟨false, .i .u8 b0, [], []⟩ : FOut)))
noncomputable def outK_slices_Min_uint8_uint8 (α : Type) (r : List UInt8 ⊕ Int) (k : FOut → Option α) : Option α := (Sum.casesOn (motive := fun _ => Option α) r (fun a0 => (k ⟨true, .it 9 (.s a0), [], []⟩)) (fun b0 => (k ⟨false, .i .u8 b0, [], []⟩)))
theorem outK_ok_slices_Min_uint8_uint8 : ∀ α r k, outK_slices_Min_uint8_uint8 α r k = k (out_slices_Min_uint8_uint8 r) := by
  intro α r k
  rcases r with r | r <;> rfl
noncomputable def unr_slices_Min_uint8_uint8 (pan : Bool) (v : V) (H : List (Nat × Blk)) (nw : List Nat) : Option (List UInt8 ⊕ Int) := match pan, v, H, nw with
  | true, .it 9 (.s r0), [], [] => some (.inl r0)
  | false, .i .u8 r0, [], [] => some (.inr r0)
  | _, _, _, _ => none
theorem unr_ok_slices_Min_uint8_uint8 : ∀ pan v H nw r, unr_slices_Min_uint8_uint8 pan v H nw = some r → (out_slices_Min_uint8_uint8 r).pan = pan ∧ (out_slices_Min_uint8_uint8 r).news = nw ∧ v = V.ren (upTo 0 1 ++ (out_slices_Min_uint8_uint8 r).news) (out_slices_Min_uint8_uint8 r).val ∧ H = renH (upTo 0 1 ++ (out_slices_Min_uint8_uint8 r).news) (out_slices_Min_uint8_uint8 r).H := by
  intro pan v H nw r h
  unfold unr_slices_Min_uint8_uint8 at h
  split at h
  · cases h; exact ⟨rfl, rfl, rfl, rfl⟩
  · cases h; exact ⟨rfl, rfl, rfl, rfl⟩
  · cases h
theorem hv_slices_Min_uint8_uint8 : ∀ r, V.lt (1 + (out_slices_Min_uint8_uint8 r).news.length) (out_slices_Min_uint8_uint8 r).val = true := fun r => (by rcases r with r | r <;> rfl)
theorem hc_slices_Min_uint8_uint8 : ∀ r, chkH (1 + (out_slices_Min_uint8_uint8 r).news.length) (out_slices_Min_uint8_uint8 r).H = true := fun r => (by rcases r with r | r <;> rfl)
theorem hk_slices_Min_uint8_uint8 : ∀ r, hasKeys (out_slices_Min_uint8_uint8 r).H 1 (0 + (out_slices_Min_uint8_uint8 r).news.length) = true := fun r => (by rcases r with r | r <;> rfl)
noncomputable def e_slices_Min_uint8_uint8 (n : Nat) : Ent := funE 112 1 una_slices_Min_uint8_uint8 (fun a => slices_Min_uint8_uint8 n a.1 a.2.1 a.2.2) outK_slices_Min_uint8_uint8
noncomputable def t_slices_Min_uint8_uint8 (l : List V) (H : List (Nat × Blk)) : Bool := isS (una_slices_Min_uint8_uint8 l H)
noncomputable def Es_slices_Min_uint8_uint8 (_n : Nat) : List Ent := []
theorem Es_ok_slices_Min_uint8_uint8 (n : Nat) : ∀ x ∈ Es_slices_Min_uint8_uint8 n, EntOK Tryz.prog x := by
  intro x hx
  simp [Es_slices_Min_uint8_uint8] at hx
noncomputable def an_slices_Min_uint8_uint8_l0 : Ann := ⟨[0, 3, 4], [0], 1, []⟩
noncomputable def emb_slices_Min_uint8_uint8_l0 (x : Nat × Nat × Int × Int × List Int) : St := ⟨[(0, some (.sl 0 0 x.1 (some x.2.1))), (3, some (.i .u8 x.2.2.1)), (4, some (.i .i64 x.2.2.2.1))], [(0, .ints .u8 3 x.2.2.2.2)], 1, 1, 1, 1⟩
noncomputable def un_slices_Min_uint8_uint8_l0 (s : St) : Option (Nat × Nat × Int × Int × List Int) := match s with
  | ⟨[(0, some (.sl 0 0 x0 (some x1))), (3, some (.i .u8 x2)), (4, some (.i .i64 x3))], [(0, .ints .u8 3 x4)], 1, 1, 1, 1⟩ => some (x0, x1, x2, x3, x4)
  | _ => none
theorem un_ok_slices_Min_uint8_uint8_l0 : ∀ s x, un_slices_Min_uint8_uint8_l0 s = some x → s = emb_slices_Min_uint8_uint8_l0 x := by
  intro s x h
  unfold un_slices_Min_uint8_uint8_l0 at h
  split at h
  · cases h; rfl
  · cases h
noncomputable def ax_slices_Min_uint8_uint8_l0 : Ex → Ann := fun ex => match ex with
  | .exit 0 => ⟨[3], [], 1, []⟩
  | _ => ⟨[], [], 0, []⟩
noncomputable def out_slices_Min_uint8_uint8_l0 (y : Int) : Ex × St := (.exit 0, ⟨[(3, some (.i .u8 y))], [], 1, 1, 1, 1⟩)
noncomputable def outK_slices_Min_uint8_uint8_l0 (α : Type) (y : Int) (k : Ex → St → Option α) : Option α := (k (.exit 0) ⟨[(3, some (.i .u8 y))], [], 1, 1, 1, 1⟩)
theorem outK_ok_slices_Min_uint8_uint8_l0 : ∀ α y k, outK_slices_Min_uint8_uint8_l0 α y k = k (out_slices_Min_uint8_uint8_l0 y).1 (out_slices_Min_uint8_uint8_l0 y).2 := by
  intro α y k
  rfl
noncomputable def ux_slices_Min_uint8_uint8_l0 (ex : Ex) (s : St) : Option (Int) := match ex, s with
  | .exit 0, ⟨[(3, some (.i .u8 y0))], [], 1, 1, 1, 1⟩ => some y0
  | _, _ => none
theorem ux_ok_slices_Min_uint8_uint8_l0 : ∀ ex s y, ux_slices_Min_uint8_uint8_l0 ex s = some y → (ex, s) = out_slices_Min_uint8_uint8_l0 y := by
  intro ex s y h
  unfold ux_slices_Min_uint8_uint8_l0 at h
  split at h
  · cases h; rfl
  · cases h
noncomputable def Ls_slices_Min_uint8_uint8 (n : Nat) : List Sub := [subE 0 an_slices_Min_uint8_uint8_l0 un_slices_Min_uint8_uint8_l0 (fun x => iterL (slices_Min_uint8_uint8_l0 n) n x) outK_slices_Min_uint8_uint8_l0]
noncomputable def sac_slices_Min_uint8_uint8_l0 : AC := getS (subs (acOf Tryz.f112)) 0
noncomputable def ac_slices_Min_uint8_uint8_l0 : AC := AC.body sac_slices_Min_uint8_uint8_l0
theorem subs_slices_Min_uint8_uint8_l0 (n : Nat) : SubOK Tryz.prog 25 (Ls_slices_Min_uint8_uint8 n) ac_slices_Min_uint8_uint8_l0 := SubOK_of _ (by
  have e : subs ac_slices_Min_uint8_uint8_l0 = [] := by kernel_rfl
  rw [e]; intro p hp; cases hp)
theorem body_slices_Min_uint8_uint8_l0 (n : Nat) : ∀ x, run Tryz.prog (Es_slices_Min_uint8_uint8 n) (Ls_slices_Min_uint8_uint8 n) 25 ac_slices_Min_uint8_uint8_l0 (emb_slices_Min_uint8_uint8_l0 x) (roundK an_slices_Min_uint8_uint8_l0 un_slices_Min_uint8_uint8_l0 ax_slices_Min_uint8_uint8_l0 ux_slices_Min_uint8_uint8_l0) = slices_Min_uint8_uint8_l0 n x := fun _ => by kernel_rfl
theorem sub1_slices_Min_uint8_uint8_l0 (n : Nat) : ∀ (α : Type) (s : St) (k : Ex → St → Option α) (z : α), (subE 0 an_slices_Min_uint8_uint8_l0 un_slices_Min_uint8_uint8_l0 (fun x => iterL (slices_Min_uint8_uint8_l0 n) n x) outK_slices_Min_uint8_uint8_l0).e α s k = some z → SemC Tryz.prog 25 (sac_slices_Min_uint8_uint8_l0).code s fun ex s' => k ex s' = some z := by
  intro α s k z h
  have e : sac_slices_Min_uint8_uint8_l0 = .loop ac_slices_Min_uint8_uint8_l0 := by kernel_rfl
  rw [e]
  exact subE_ok (m := 0) (f := fun x => iterL (slices_Min_uint8_uint8_l0 n) n x) (out := out_slices_Min_uint8_uint8_l0) outK_ok_slices_Min_uint8_uint8_l0 un_ok_slices_Min_uint8_uint8_l0 (fun x y hy => loop_ok (Es_ok_slices_Min_uint8_uint8 n) (subs_slices_Min_uint8_uint8_l0 n) un_ok_slices_Min_uint8_uint8_l0 ux_ok_slices_Min_uint8_uint8_l0 (body_slices_Min_uint8_uint8_l0 n) n x y hy) h
theorem sub_slices_Min_uint8_uint8_l0 (n : Nat) : SubSt Tryz.prog 25 (Ls_slices_Min_uint8_uint8 n) 0 sac_slices_Min_uint8_uint8_l0 := fun α s k z => sub1_slices_Min_uint8_uint8_l0 n α s k z
theorem subs_slices_Min_uint8_uint8 (n : Nat) : SubOK Tryz.prog 25 (Ls_slices_Min_uint8_uint8 n) (acOf Tryz.f112) := SubOK_of _ (by
  have e : subs (acOf Tryz.f112) = [(0, sac_slices_Min_uint8_uint8_l0)] := by kernel_rfl
  rw [e]; intro p hp
  simp only [List.mem_cons, List.not_mem_nil, or_false] at hp
  · rw [hp]; exact sub_slices_Min_uint8_uint8_l0 n
  )
theorem cert_slices_Min_uint8_uint8 (n : Nat) (a0 : Nat) (a1 : Nat) (a2 : List Int) : run Tryz.prog (Es_slices_Min_uint8_uint8 n) (Ls_slices_Min_uint8_uint8 n) Tryz.f112.ntmps (acOf Tryz.f112) ⟨argsT [.sl 0 0 a0 (some a1)] 0, [(0, .ints .u8 3 a2)], 1, 1, 1, 1⟩ (finK Tryz.prog Tryz.f112.results.toList (funX [] 1 1 1 unr_slices_Min_uint8_uint8)) = slices_Min_uint8_uint8 n a0 a1 a2 := by kernel_rfl
theorem fun_slices_Min_uint8_uint8 (n : Nat) : ∀ a r, slices_Min_uint8_uint8 n a.1 a.2.1 a.2.2 = some r → FunOK Tryz.prog 112 (arg_slices_Min_uint8_uint8 a) (H0_slices_Min_uint8_uint8 a) 1 1 1 (out_slices_Min_uint8_uint8 r) := fun a r h => funX_ok (ws := []) unr_ok_slices_Min_uint8_uint8 hv_slices_Min_uint8_uint8 (fun r b blk hl => (chkH_look (hc_slices_Min_uint8_uint8 r) b blk hl).2) (fun r => chkH_keys (hc_slices_Min_uint8_uint8 r)) (by decide) (Es_ok_slices_Min_uint8_uint8 n) Tryz.func112 rfl (acOf_code _) (subs_slices_Min_uint8_uint8 n) rfl rfl ((cert_slices_Min_uint8_uint8 n a.1 a.2.1 a.2.2).trans h)
theorem ok_slices_Min_uint8_uint8 (n : Nat) : EntOK Tryz.prog (e_slices_Min_uint8_uint8 n) := funE_ok (m := 1) (ro := 1) (rb := 1) (out := out_slices_Min_uint8_uint8) (arg := arg_slices_Min_uint8_uint8) (H0 := H0_slices_Min_uint8_uint8) Tryz.call112 (by decide) (by decide) outK_ok_slices_Min_uint8_uint8 una_ok_slices_Min_uint8_uint8 (fun _ => rfl) (fun a => chkH_look (m := 1) (H := H0_slices_Min_uint8_uint8 a) rfl) (fun _ => rfl) (fun r => chkH_keys (hc_slices_Min_uint8_uint8 r)) (fun r b blk h => (chkH_look (hc_slices_Min_uint8_uint8 r) b blk h).2) (fun r b h1 h2 => hasKeys_ok (hk_slices_Min_uint8_uint8 r) b h1 (by omega)) hv_slices_Min_uint8_uint8 (fun_slices_Min_uint8_uint8 n)

/-! slices.Max[[]uint8,uint8] -/
noncomputable def arg_slices_Max_uint8_uint8 (a : Nat × Nat × List Int) : List V := [.sl 0 0 a.1 (some a.2.1)]
noncomputable def H0_slices_Max_uint8_uint8 (a : Nat × Nat × List Int) : List (Nat × Blk) := [(0, .ints .u8 3 a.2.2)]
noncomputable def una_slices_Max_uint8_uint8 (l : List V) (H : List (Nat × Blk)) : Option ((Nat × Nat × List Int) × List Nat) := match l with
  | [.sl b0 0 a0 (some a1)] => (match Abs.look H b0 with
    | some (.ints .u8 3 a2) => (cond (Abs.distinct [b0] && true) (some ((a0, a1, a2), [b0])) none)
    | _ => none)
  | _ => none
theorem una_ok_slices_Max_uint8_uint8 : ∀ l H a ρ, una_slices_Max_uint8_uint8 l H = some (a, ρ) → ρ.length = 1 ∧ ρ.Nodup ∧ l = V.rens ρ (arg_slices_Max_uint8_uint8 a) ∧ ∀ b blk, Abs.look (H0_slices_Max_uint8_uint8 a) b = some blk → Abs.look H (getN ρ b) = some (blk.ren ρ) := by
  intro l H a ρ h
  unfold una_slices_Max_uint8_uint8 at h
  split at h
  · split at h
    · rename_i e0
      obtain ⟨hd, h⟩ := cond_some h
      simp only [Bool.and_eq_true] at hd
      obtain ⟨hd, _⟩ := hd
      cases h
      exact ⟨rfl, distinct_ok hd, rfl, eachH_look ⟨e0, trivial⟩⟩
    · cases h
  · cases h
noncomputable def out_slices_Max_uint8_uint8 (r : List UInt8 ⊕ Int) : FOut := (Sum.casesOn (motive := fun _ => FOut) r (fun a0 => (⟨true, .it 9 (.s a0), [], []⟩ : FOut)) (fun b0 => (⟨false, .i .u8 b0, [], []⟩ : FOut)))
noncomputable def outK_slices_Max_uint8_uint8 (α : Type) (r : List UInt8 ⊕ Int) (k : FOut → Option α) : Option α := (Sum.casesOn (motive := fun _ => Option α) r (fun a0 => (k ⟨true, .it 9 (.s a0), [], []⟩)) (fun b0 => (k ⟨false, .i .u8 b0, [], []⟩)))
theorem outK_ok_slices_Max_uint8_uint8 : ∀ α r k, outK_slices_Max_uint8_uint8 α r k = k (out_slices_Max_uint8_uint8 r) := by
  intro α r k
  rcases r with r | r <;> rfl
noncomputable def unr_slices_Max_uint8_uint8 (pan : Bool) (v : V) (H : List (Nat × Blk)) (nw : List Nat) : Option (List UInt8 ⊕ Int) := match pan, v, H, nw with
  | true, .it 9 (.s r0), [], [] => some (.inl r0)
  | false, .i .u8 r0, [], [] => some (.inr r0)
  | _, _, _, _ => none
theorem unr_ok_slices_Max_uint8_uint8 : ∀ pan v H nw r, unr_slices_Max_uint8_uint8 pan v H nw = some r → (out_slices_Max_uint8_uint8 r).pan = pan ∧ (out_slices_Max_uint8_uint8 r).news = nw ∧ v = V.ren (upTo 0 1 ++ (out_slices_Max_uint8_uint8 r).news) (out_slices_Max_uint8_uint8 r).val ∧ H = renH (upTo 0 1 ++ (out_slices_Max_uint8_uint8 r).news) (out_slices_Max_uint8_uint8 r).H := by
  intro pan v H nw r h
  unfold unr_slices_Max_uint8_uint8 at h
  split at h
  · cases h; exact ⟨rfl, rfl, rfl, rfl⟩
  · cases h; exact ⟨rfl, rfl, rfl, rfl⟩
  · cases h
theorem hv_slices_Max_uint8_uint8 : ∀ r, V.lt (1 + (out_slices_Max_uint8_uint8 r).news.length) (out_slices_Max_uint8_uint8 r).val = true := fun r => (by rcases r with r | r <;> rfl)
theorem hc_slices_Max_uint8_uint8 : ∀ r, chkH (1 + (out_slices_Max_uint8_uint8 r).news.length) (out_slices_Max_uint8_uint8 r).H = true := fun r => (by rcases r with r | r <;> rfl)
theorem hk_slices_Max_uint8_uint8 : ∀ r, hasKeys (out_slices_Max_uint8_uint8 r).H 1 (0 + (out_slices_Max_uint8_uint8 r).news.length) = true := fun r => (by rcases r with r | r <;> rfl)
noncomputable def e_slices_Max_uint8_uint8 (n : Nat) : Ent := funE 113 1 una_slices_Max_uint8_uint8 (fun a => slices_Max_uint8_uint8 n a.1 a.2.1 a.2.2) outK_slices_Max_uint8_uint8
noncomputable def t_slices_Max_uint8_uint8 (l : List V) (H : List (Nat × Blk)) : Bool := isS (una_slices_Max_uint8_uint8 l H)
noncomputable def Es_slices_Max_uint8_uint8 (_n : Nat) : List Ent := []
theorem Es_ok_slices_Max_uint8_uint8 (n : Nat) : ∀ x ∈ Es_slices_Max_uint8_uint8 n, EntOK Tryz.prog x := by
  intro x hx
  simp [Es_slices_Max_uint8_uint8] at hx
noncomputable def an_slices_Max_uint8_uint8_l0 : Ann := ⟨[0, 3, 4], [0], 1, []⟩
noncomputable def emb_slices_Max_uint8_uint8_l0 (x : Nat × Nat × Int × Int × List Int) : St := ⟨[(0, some (.sl 0 0 x.1 (some x.2.1))), (3, some (.i .u8 x.2.2.1)), (4, some (.i .i64 x.2.2.2.1))], [(0, .ints .u8 3 x.2.2.2.2)], 1, 1, 1, 1⟩
noncomputable def un_slices_Max_uint8_uint8_l0 (s : St) : Option (Nat × Nat × Int × Int × List Int) := match s with
  | ⟨[(0, some (.sl 0 0 x0 (some x1))), (3, some (.i .u8 x2)), (4, some (.i .i64 x3))], [(0, .ints .u8 3 x4)], 1, 1, 1, 1⟩ => some (x0, x1, x2, x3, x4)
  | _ => none
theorem un_ok_slices_Max_uint8_uint8_l0 : ∀ s x, un_slices_Max_uint8_uint8_l0 s = some x → s = emb_slices_Max_uint8_uint8_l0 x := by
  intro s x h
  unfold un_slices_Max_uint8_uint8_l0 at h
  split at h
  · cases h; rfl
  · cases h
noncomputable def ax_slices_Max_uint8_uint8_l0 : Ex → Ann := fun ex => match ex with
  | .exit 0 => ⟨[3], [], 1, []⟩
  | _ => ⟨[], [], 0, []⟩
noncomputable def out_slices_Max_uint8_uint8_l0 (y : Int) : Ex × St := (.exit 0, ⟨[(3, some (.i .u8 y))], [], 1, 1, 1, 1⟩)
noncomputable def outK_slices_Max_uint8_uint8_l0 (α : Type) (y : Int) (k : Ex → St → Option α) : Option α := (k (.exit 0) ⟨[(3, some (.i .u8 y))], [], 1, 1, 1, 1⟩)
theorem outK_ok_slices_Max_uint8_uint8_l0 : ∀ α y k, outK_slices_Max_uint8_uint8_l0 α y k = k (out_slices_Max_uint8_uint8_l0 y).1 (out_slices_Max_uint8_uint8_l0 y).2 := by
  intro α y k
  rfl
noncomputable def ux_slices_Max_uint8_uint8_l0 (ex : Ex) (s : St) : Option (Int) := match ex, s with
  | .exit 0, ⟨[(3, some (.i .u8 y0))], [], 1, 1, 1, 1⟩ => some y0
  | _, _ => none
theorem ux_ok_slices_Max_uint8_uint8_l0 : ∀ ex s y, ux_slices_Max_uint8_uint8_l0 ex s = some y → (ex, s) = out_slices_Max_uint8_uint8_l0 y := by
  intro ex s y h
  unfold ux_slices_Max_uint8_uint8_l0 at h
  split at h
  · cases h; rfl
  · cases h
noncomputable def Ls_slices_Max_uint8_uint8 (n : Nat) : List Sub := [subE 0 an_slices_Max_uint8_uint8_l0 un_slices_Max_uint8_uint8_l0 (fun x => iterL (slices_Max_uint8_uint8_l0 n) n x) outK_slices_Max_uint8_uint8_l0]
noncomputable def sac_slices_Max_uint8_uint8_l0 : AC := getS (subs (acOf Tryz.f113)) 0
noncomputable def ac_slices_Max_uint8_uint8_l0 : AC := AC.body sac_slices_Max_uint8_uint8_l0
theorem subs_slices_Max_uint8_uint8_l0 (n : Nat) : SubOK Tryz.prog 25 (Ls_slices_Max_uint8_uint8 n) ac_slices_Max_uint8_uint8_l0 := SubOK_of _ (by
  have e : subs ac_slices_Max_uint8_uint8_l0 = [] := by kernel_rfl
  rw [e]; intro p hp; cases hp)
theorem body_slices_Max_uint8_uint8_l0 (n : Nat) : ∀ x, run Tryz.prog (Es_slices_Max_uint8_uint8 n) (Ls_slices_Max_uint8_uint8 n) 25 ac_slices_Max_uint8_uint8_l0 (emb_slices_Max_uint8_uint8_l0 x) (roundK an_slices_Max_uint8_uint8_l0 un_slices_Max_uint8_uint8_l0 ax_slices_Max_uint8_uint8_l0 ux_slices_Max_uint8_uint8_l0) = slices_Max_uint8_uint8_l0 n x := fun _ => by kernel_rfl
theorem sub1_slices_Max_uint8_uint8_l0 (n : Nat) : ∀ (α : Type) (s : St) (k : Ex → St → Option α) (z : α), (subE 0 an_slices_Max_uint8_uint8_l0 un_slices_Max_uint8_uint8_l0 (fun x => iterL (slices_Max_uint8_uint8_l0 n) n x) outK_slices_Max_uint8_uint8_l0).e α s k = some z → SemC Tryz.prog 25 (sac_slices_Max_uint8_uint8_l0).code s fun ex s' => k ex s' = some z := by
  intro α s k z h
  have e : sac_slices_Max_uint8_uint8_l0 = .loop ac_slices_Max_uint8_uint8_l0 := by kernel_rfl
  rw [e]
  exact subE_ok (m := 0) (f := fun x => iterL (slices_Max_uint8_uint8_l0 n) n x) (out := out_slices_Max_uint8_uint8_l0) outK_ok_slices_Max_uint8_uint8_l0 un_ok_slices_Max_uint8_uint8_l0 (fun x y hy => loop_ok (Es_ok_slices_Max_uint8_uint8 n) (subs_slices_Max_uint8_uint8_l0 n) un_ok_slices_Max_uint8_uint8_l0 ux_ok_slices_Max_uint8_uint8_l0 (body_slices_Max_uint8_uint8_l0 n) n x y hy) h
theorem sub_slices_Max_uint8_uint8_l0 (n : Nat) : SubSt Tryz.prog 25 (Ls_slices_Max_uint8_uint8 n) 0 sac_slices_Max_uint8_uint8_l0 := fun α s k z => sub1_slices_Max_uint8_uint8_l0 n α s k z
theorem subs_slices_Max_uint8_uint8 (n : Nat) : SubOK Tryz.prog 25 (Ls_slices_Max_uint8_uint8 n) (acOf Tryz.f113) := SubOK_of _ (by
  have e : subs (acOf Tryz.f113) = [(0, sac_slices_Max_uint8_uint8_l0)] := by kernel_rfl
  rw [e]; intro p hp
  simp only [List.mem_cons, List.not_mem_nil, or_false] at hp
  · rw [hp]; exact sub_slices_Max_uint8_uint8_l0 n
  )
theorem cert_slices_Max_uint8_uint8 (n : Nat) (a0 : Nat) (a1 : Nat) (a2 : List Int) : run Tryz.prog (Es_slices_Max_uint8_uint8 n) (Ls_slices_Max_uint8_uint8 n) Tryz.f113.ntmps (acOf Tryz.f113) ⟨argsT [.sl 0 0 a0 (some a1)] 0, [(0, .ints .u8 3 a2)], 1, 1, 1, 1⟩ (finK Tryz.prog Tryz.f113.results.toList (funX [] 1 1 1 unr_slices_Max_uint8_uint8)) = slices_Max_uint8_uint8 n a0 a1 a2 := by kernel_rfl
theorem fun_slices_Max_uint8_uint8 (n : Nat) : ∀ a r, slices_Max_uint8_uint8 n a.1 a.2.1 a.2.2 = some r → FunOK Tryz.prog 113 (arg_slices_Max_uint8_uint8 a) (H0_slices_Max_uint8_uint8 a) 1 1 1 (out_slices_Max_uint8_uint8 r) := fun a r h => funX_ok (ws := []) unr_ok_slices_Max_uint8_uint8 hv_slices_Max_uint8_uint8 (fun r b blk hl => (chkH_look (hc_slices_Max_uint8_uint8 r) b blk hl).2) (fun r => chkH_keys (hc_slices_Max_uint8_uint8 r)) (by decide) (Es_ok_slices_Max_uint8_uint8 n) Tryz.func113 rfl (acOf_code _) (subs_slices_Max_uint8_uint8 n) rfl rfl ((cert_slices_Max_uint8_uint8 n a.1 a.2.1 a.2.2).trans h)
theorem ok_slices_Max_uint8_uint8 (n : Nat) : EntOK Tryz.prog (e_slices_Max_uint8_uint8 n) := funE_ok (m := 1) (ro := 1) (rb := 1) (out := out_slices_Max_uint8_uint8) (arg := arg_slices_Max_uint8_uint8) (H0 := H0_slices_Max_uint8_uint8) Tryz.call113 (by decide) (by decide) outK_ok_slices_Max_uint8_uint8 una_ok_slices_Max_uint8_uint8 (fun _ => rfl) (fun a => chkH_look (m := 1) (H := H0_slices_Max_uint8_uint8 a) rfl) (fun _ => rfl) (fun r => chkH_keys (hc_slices_Max_uint8_uint8 r)) (fun r b blk h => (chkH_look (hc_slices_Max_uint8_uint8 r) b blk h).2) (fun r b h1 h2 => hasKeys_ok (hk_slices_Max_uint8_uint8 r) b h1 (by omega)) hv_slices_Max_uint8_uint8 (fun_slices_Max_uint8_uint8 n)

/-! circa/marks.Plain -/
noncomputable def arg_marks_Plain (a : List Int × Int) : List V := [.ai .u8 3 a.1, .i .i64 a.2]
noncomputable def una_marks_Plain (l : List V) : Option (List Int × Int) := match l with
  | [.ai .u8 3 a0, .i .i64 a1] => some (a0, a1)
  | _ => none
theorem una_ok_marks_Plain : ∀ l a, una_marks_Plain l = some a → l = arg_marks_Plain a := by
  intro l a h
  unfold una_marks_Plain at h
  split at h
  · cases h; rfl
  · cases h
noncomputable def enc_marks_Plain (r : List Int × List Int × Int) : V := .tp [.ai .u8 3 r.1, .ai .u8 3 r.2.1, .i .i64 r.2.2]
noncomputable def unr_marks_Plain (v : V) : Option (List Int × List Int × Int) := match v with
  | .tp [.ai .u8 3 r0, .ai .u8 3 r1, .i .i64 r2] => some (r0, r1, r2)
  | _ => none
theorem unr_ok_marks_Plain : ∀ v r, unr_marks_Plain v = some r → v = enc_marks_Plain r := by
  intro v r h
  unfold unr_marks_Plain at h
  split at h
  · cases h; rfl
  · cases h
noncomputable def e_marks_Plain (n : Nat) : Ent := pureE 52 una_marks_Plain (fun a => marks_Plain n a.1 a.2) enc_marks_Plain
noncomputable def t_marks_Plain (l : List V) (_ : List (Nat × Blk)) : Bool := isS (una_marks_Plain l)
noncomputable def Es_marks_Plain (n : Nat) : List Ent := [e_marks_All n, e_slices_Min_uint8_uint8 n, e_slices_Max_uint8_uint8 n]
theorem Es_ok_marks_Plain (n : Nat) : ∀ x ∈ Es_marks_Plain n, EntOK Tryz.prog x := by
  intro x hx
  simp only [Es_marks_Plain, List.mem_cons, List.not_mem_nil, or_false] at hx
  rcases hx with hx | hx | hx
  · rw [hx]; exact ok_marks_All n
  · rw [hx]; exact ok_slices_Min_uint8_uint8 n
  · rw [hx]; exact ok_slices_Max_uint8_uint8 n
noncomputable def Ls_marks_Plain (_n : Nat) : List Sub := []
theorem subs_marks_Plain (n : Nat) : SubOK Tryz.prog 33 (Ls_marks_Plain n) (acOf Tryz.f52) := SubOK_of _ (by
  have e : subs (acOf Tryz.f52) = [] := by kernel_rfl
  rw [e]; intro p hp; cases hp)
theorem cert_marks_Plain (n : Nat) (a0 : List Int) (a1 : Int) : run Tryz.prog (Es_marks_Plain n) (Ls_marks_Plain n) Tryz.f52.ntmps (acOf Tryz.f52) ⟨argsT [.ai .u8 3 a0, .i .i64 a1] 0, [], 0, 0, 0, 0⟩ (finK Tryz.prog Tryz.f52.results.toList (retX unr_marks_Plain)) = marks_Plain n a0 a1 := by kernel_rfl
theorem pure_marks_Plain (n : Nat) : ∀ a r, marks_Plain n a.1 a.2 = some r → PureOK Tryz.prog 52 (arg_marks_Plain a) (enc_marks_Plain r) := fun a r h => pureX_ok unr_ok_marks_Plain (Es_ok_marks_Plain n) Tryz.func52 rfl (acOf_code _) (subs_marks_Plain n) rfl ((cert_marks_Plain n a.1 a.2).trans h)
theorem ok_marks_Plain (n : Nat) : EntOK Tryz.prog (e_marks_Plain n) := pureE_ok Tryz.call52 una_ok_marks_Plain (fun _ => rfl) (pure_marks_Plain n)

end Go.Sh
