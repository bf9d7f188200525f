/- Plain proofs, kept as far as they are needed here (printed by prune.py).
   Conditions: none. -/
import Derived.Test.YtfpfdfkhnecdjaaGreatDoorAbsX
import Derived.Laws.RangeString
import Derived.Laws.RangeAny
import Derived.Test.YtfpfdfkhnecdjaaGreatDoorShF
import Derived.Lib.Atoi
import Derived.KernelRfl
import Derived.Lib.IndexLaws
set_option linter.unusedVariables false
set_option linter.unusedSimpArgs false
set_option maxRecDepth 100000
namespace Go.Sh
open Go.Abs
theorem iterL_inv {X Y : Type} {step : X → Option (X ⊕ Y)} (I : X → Prop) (μ : X → Nat) (G : X → Y)
    (h : ∀ x, I x → (∃ x', step x = some (.inl x') ∧ I x' ∧ μ x' < μ x ∧ G x' = G x) ∨ step x = some (.inr (G x))) :
    ∀ (n : Nat) (x : X), I x → μ x < n → iterL step n x = some (G x)
  | 0, x, _, hm => by omega
  | n + 1, x, hx, hm => by
    rcases h x hx with ⟨x', h1, h2, h3, h4⟩ | h1
    · simp only [iterL, h1]
      rw [iterL_inv I μ G h n x' h2 (by omega), h4]
    · simp only [iterL, h1]
theorem iterL_prop {X Y : Type} {step : X → Option (X ⊕ Y)} (I : X → Prop) (μ : X → Nat) (Q : Y → Prop)
    (h : ∀ x, I x → (∃ x', step x = some (.inl x') ∧ I x' ∧ μ x' < μ x) ∨ ∃ y, step x = some (.inr y) ∧ Q y) :
    ∀ (n : Nat) (x : X), I x → μ x < n → ∃ y, iterL step n x = some y ∧ Q y
  | 0, x, _, hm => by omega
  | n + 1, x, hx, hm => by
    rcases h x hx with ⟨x', h1, h2, h3⟩ | ⟨y, h1, h2⟩
    · simp only [iterL, h1]
      exact iterL_prop I μ Q h n x' h2 (by omega)
    · exact ⟨y, by simp only [iterL, h1], h2⟩
theorem wrap_u8_range (x : Int) : 0 ≤ IntKind.wrap .u8 x ∧ IntKind.wrap .u8 x < 256 := by
  show 0 ≤ x % 256 ∧ x % 256 < 256
  omega
theorem wrap_u8 (x : Int) (h0 : 0 ≤ x) (h1 : x < 256) : IntKind.wrap .u8 x = x := by
  show x % 256 = x
  omega
theorem wrap_u8_eq (x : Int) : IntKind.wrap .u8 x = x % 256 := rfl
theorem wrap_i64 (x : Int) (h0 : -9223372036854775808 ≤ x) (h1 : x < 9223372036854775808) : IntKind.wrap .i64 x = x := by
  simp only [IntKind.wrap, IntKind.signed, IntKind.bits]
  simp
  omega
theorem sx_nat {l : List UInt8} {i : Nat} {c : UInt8} (h : l[i]? = some c) : sx l (i : Int) = some c := by
  simp [sx, h]
theorem ix_nat {n i : Nat} (h : i < n) : ix n (i : Int) = some i := by
  simp [ix]; omega
theorem bx_nat {n i : Nat} (h : i ≤ n) : bx n (i : Int) = some i := by
  simp [bx]; omega
theorem dec_low {l : List UInt8} {i : Nat} {c : UInt8} (h : l[i]? = some c) (hc : c.toNat < 128) : dec l i = (c.toNat, 1) := by
  have hlt : i < l.length := by
    rcases Nat.lt_or_ge i l.length with h' | h'
    · exact h'
    · rw [List.getElem?_eq_none h'] at h; cases h
  have hs : i < (ByteArray.mk l.toArray).size := hlt
  have hg : (ByteArray.mk l.toArray)[i]'hs = c := by
    rw [List.getElem?_eq_getElem hlt] at h
    simp only [Option.some.injEq] at h
    exact h
  unfold dec
  rw [decode_ascii _ i hs (by rw [hg]; exact hc), hg]
theorem dec_high {l : List UInt8} {i : Nat} {c : UInt8} (h : l[i]? = some c) (hc : 128 ≤ c.toNat) : 128 ≤ (dec l i).1 ∧ 1 ≤ (dec l i).2 := by
  have hlt : i < l.length := by
    rcases Nat.lt_or_ge i l.length with h' | h'
    · exact h'
    · rw [List.getElem?_eq_none h'] at h; cases h
  have hs : i < (ByteArray.mk l.toArray).size := hlt
  have hg : (ByteArray.mk l.toArray)[i]'hs = c := by
    rw [List.getElem?_eq_getElem hlt] at h
    simp only [Option.some.injEq] at h
    exact h
  unfold dec
  exact decode_high _ i hs (by rw [hg]; exact hc)
theorem lt_of_get {α : Type} {l : List α} {i : Nat} {c : α} (h : l[i]? = some c) : i < l.length := by
  rcases Nat.lt_or_ge i l.length with h' | h'
  · exact h'
  · rw [List.getElem?_eq_none h'] at h; cases h
theorem drop_get {α : Type} {l : List α} {i : Nat} {c : α} (h : l[i]? = some c) : l.drop i = c :: l.drop (i + 1) := by
  have hlt := lt_of_get h
  rw [List.getElem?_eq_getElem hlt] at h
  simp only [Option.some.injEq] at h
  rw [← h, List.drop_eq_getElem_cons hlt]
theorem cond_beq {α β : Type} [BEq α] [LawfulBEq α] [DecidableEq α] (a b : α) (x y : β) : (cond (a == b) x y) = if a = b then x else y := by
  by_cases h : a = b
  · subst h; simp
  · rw [beq_eq_false_iff_ne.2 h]; simp [h]
theorem cond_bne {α β : Type} [BEq α] [LawfulBEq α] [DecidableEq α] (a b : α) (x y : β) : (cond (a != b) x y) = if a = b then y else x := by
  by_cases h : a = b
  · subst h; simp
  · rw [bne, beq_eq_false_iff_ne.2 h]; simp [h]
theorem cond_dec {β : Type} (p : Prop) [Decidable p] (x y : β) : (cond (decide p) x y) = if p then x else y := by
  by_cases h : p <;> simp [h]
theorem cond_neg {β : Type} (b : Bool) (x y : β) : (cond (!b) x y) = cond b y x := by cases b <;> rfl
theorem nat_dec_lt (a b : Nat) : (decide (((a : Nat) : Int) < ((b : Nat) : Int))) = decide (a < b) := by
  by_cases h : a < b <;> simp [h]
theorem nat_dec_ge (a b : Nat) : (decide (((a : Nat) : Int) ≥ ((b : Nat) : Int))) = decide (b ≤ a) := by
  by_cases h : b ≤ a <;> simp [h]
theorem u8_beq (c d : UInt8) : ((((c.toNat : Nat) : Int)) == ((d.toNat : Nat) : Int)) = (c == d) := by
  by_cases h : c = d
  · subst h; simp
  · have h1 : c.toNat ≠ d.toNat := fun e => h (UInt8.toNat_inj.1 e)
    have h2 : ((c.toNat : Nat) : Int) ≠ ((d.toNat : Nat) : Int) := by omega
    rw [beq_eq_false_iff_ne.2 h2, beq_eq_false_iff_ne.2 h]
theorem u8_of (c : UInt8) : UInt8.ofNat (Int.toNat ((c.toNat : Nat) : Int)) = c := by simp
def two (c : Nat) : List UInt8 := [UInt8.ofNat (48 + c / 10), UInt8.ofNat (48 + c % 10)]
def sea (m : List UInt8) : Int := match (List.range 21).find? (fun j => m == two (21 + j)) with | some j => ((21 + j : Nat) : Int) | none => 0
theorem sea_two {j : Nat} (hj : j < 21) : sea (two (21 + j)) = ((21 + j : Nat) : Int) := by
  have : ((List.range 21).all fun j => sea (two (21 + j)) == ((21 + j : Nat) : Int)) = true := by decide +kernel
  simpa using (List.all_eq_true.1 this) j (by simpa using hj)
theorem sea_cases (m : List UInt8) : sea m = 0 ∨ ∃ j, j < 21 ∧ m = two (21 + j) := by
  unfold sea
  split
  · rename_i j h
    have h1 := List.find?_some h
    have h2 := List.mem_of_find?_eq_some h
    exact .inr ⟨j, by simpa using h2, by simpa using h1⟩
  · exact .inl rfl
theorem digitVal_some {b : UInt8} {d : Nat} (h : Lib.digitVal b = some d) : d < 10 ∧ b.toNat = 48 + d := by
  unfold Lib.digitVal at h
  split at h
  · cases h; omega
  · cases h
theorem atoi_sea {a b : UInt8} {v : Int} (h : Lib.atoi [a, b] = some v) (h1 : 21 ≤ v) (h2 : v < 42) : ∃ j, j < 21 ∧ [a, b] = two (21 + j) ∧ v = ((21 + j : Nat) : Int) := by
  obtain ⟨b0, r, e, h3⟩ := Lib.atoi_cases h
  cases e
  rcases h3 with ⟨_, m, _, _, h4⟩ | ⟨_, m, _, h5, h4⟩ | ⟨_, _, m, h5, h4⟩
  · omega
  · simp only [Lib.decFrom] at h5
    split at h5
    · rename_i d hd
      have := (digitVal_some hd).1
      simp only [Option.some.injEq] at h5
      omega
    · cases h5
  · simp only [Lib.decFrom] at h5
    split at h5
    · rename_i d hd
      split at h5
      · rename_i d' hd'
        obtain ⟨k1, k2⟩ := digitVal_some hd
        obtain ⟨k3, k4⟩ := digitVal_some hd'
        simp only [Option.some.injEq] at h5
        refine ⟨m - 21, by omega, ?_, by omega⟩
        have e0 : (21 + (m - 21)) / 10 = d := by omega
        have e1 : (21 + (m - 21)) % 10 = d' := by omega
        unfold two
        rw [e0, e1, ← k2, ← k4]
        simp
      · cases h5
    · cases h5
theorem atoi_of_two {j : Nat} (hj : j < 21) : Lib.atoi (two (21 + j)) = some ((21 + j : Nat) : Int) := by
  have : ((List.range 21).all fun j => Lib.atoi (two (21 + j)) == some ((21 + j : Nat) : Int)) = true := by decide +kernel
  simpa using (List.all_eq_true.1 this) j (by simpa using hj)
theorem df_Season (n : Nat) (g l : Bool) (dg : List UInt8) (x q : Int) (m d : List UInt8) (k0 k1 k2 : Int) (hm : m.length ≤ 18) : dateforms_Season n g l dg x q m d k0 k1 k2 = some (sea m, decide (0 < sea m)) := by
  have hb : Nat.ble m.length 18 = true := Nat.ble_eq_true_of_le hm
  rcases sea_cases m with h0 | ⟨j, hj, rfl⟩
  · unfold dateforms_Season
    rw [hb, h0]
    show opt (Lib.atoi m) _ _ = _
    cases ha : Lib.atoi m with
    | none => rfl
    | some v =>
      show cond _ _ _ = _
      by_cases hl : m.length = 2
      · rw [hl]
        obtain ⟨a, b, rfl⟩ : ∃ a b, m = [a, b] := by
          match m, hl with
          | [a, b], _ => exact ⟨a, b, rfl⟩
        show ob (seasons_Check n v) _ = _
        unfold seasons_Check
        rw [cond_dec, cond_dec]
        split
        · rfl
        · split
          · rfl
          · exfalso
            obtain ⟨j, hj, e, _⟩ := atoi_sea ha (by omega) (by omega)
            rw [e, sea_two hj] at h0
            omega
      · rw [show (((m.length : Nat) : Int) != 2) = true by simp; omega]
        rfl
  · rw [sea_two hj]
    have e : dateforms_Season n g l dg x q (two (21 + j)) d k0 k1 k2 = some (((21 + j : Nat) : Int), true) := by
      unfold dateforms_Season
      rw [hb, atoi_of_two hj]
      show ob (seasons_Check n ((21 + j : Nat) : Int)) _ = _
      unfold seasons_Check
      rw [cond_dec, cond_dec, if_neg (by omega), if_neg (by omega)]
      rfl
    rw [e]
    have : decide (0 < ((21 + j : Nat) : Int)) = true := by simp; omega
    rw [this]
theorem two_eq (n : Nat) {c : Nat} (hc : c < 100) : circaref15_Two n (c : Int) = some (two c) := by
  have e1 : Int.tdiv (c : Int) 10 = ((c / 10 : Nat) : Int) := by
    rw [show (10 : Int) = ((10 : Nat) : Int) from rfl, ← Int.ofNat_tdiv]
  have e2 : Int.tmod (c : Int) 10 = ((c % 10 : Nat) : Int) := by
    rw [show (10 : Int) = ((10 : Nat) : Int) from rfl, ← Int.ofNat_tmod]
  have h1 : c / 10 < 10 := by omega
  have h2 : c % 10 < 10 := by omega
  unfold circaref15_Two
  rw [e1, e2]
  have w1 : IntKind.wrap .i64 ((c / 10 : Nat) : Int) = ((c / 10 : Nat) : Int) := wrap_i64 _ (by omega) (by omega)
  have w2 : IntKind.wrap .i64 (((c / 10 : Nat) : Int) + 1) = ((c / 10 + 1 : Nat) : Int) := by rw [wrap_i64 _ (by omega) (by omega)]; omega
  have w3 : IntKind.wrap .i64 (((c % 10 : Nat) : Int) + 1) = ((c % 10 + 1 : Nat) : Int) := by rw [wrap_i64 _ (by omega) (by omega)]; omega
  rw [w1, w2, w3, bx_nat (by omega), bx_nat (by omega)]
  show ob (bx (c / 10 + 1) ((c / 10 : Nat) : Int)) _ = _
  rw [bx_nat (by omega)]
  show ob (bx (c % 10 + 1) ((c % 10 : Nat) : Int)) _ = _
  rw [bx_nat (by omega)]
  unfold two
  generalize c / 10 = a at *
  generalize c % 10 = b at *
  have : ((List.range 10).all fun a => (List.range 10).all fun b => ob (cat (List.drop a (List.take (a + 1) ([48, 49, 50, 51, 52, 53, 54, 55, 56, 57] : List UInt8))) (List.drop b (List.take (b + 1) ([48, 49, 50, 51, 52, 53, 54, 55, 56, 57] : List UInt8)))) (fun s => some s) == some [UInt8.ofNat (48 + a), UInt8.ofNat (48 + b)]) = true := by decide +kernel
  have h3 := (List.all_eq_true.1 ((List.all_eq_true.1 this) a (by simpa using h1))) b (by simpa using h2)
  simpa using h3
theorem sea_none {m : List UInt8} (h : ∀ j, j < 21 → m ≠ two (21 + j)) : sea m = 0 := by
  rcases sea_cases m with h0 | ⟨j, hj, e⟩
  · exact h0
  · exact absurd e (h j hj)
theorem ref_Season_loop (n : Nat) (g l : Bool) (dg : List UInt8) (x q : Int) (m d : List UInt8) (k0 k1 k2 : Int) : ∀ (r j : Nat), j + r = 21 → (∀ i, i < j → m ≠ two (21 + i)) → ∀ N, r < N →
    iterL (circaref15_Season_l0 n) N (((21 + j : Nat) : Int), g, l, dg, x, q, m, d, k0, k1, k2) = some (if sea m = 0 then .inr () else .inl (sea m)) := by
  intro r
  induction r with
  | zero =>
    intro j hj hne N hN
    obtain ⟨N, rfl⟩ : ∃ k, N = k + 1 := ⟨N - 1, by omega⟩
    have hs : sea m = 0 := sea_none (fun i hi => hne i (by omega))
    rw [iterL]
    have : circaref15_Season_l0 n (((21 + j : Nat) : Int), g, l, dg, x, q, m, d, k0, k1, k2) = some (.inr (.inr ())) := by
      unfold circaref15_Season_l0
      rw [cond_dec, if_neg (by show ¬ (((21 + j : Nat) : Int) ≤ 41); omega)]
    rw [this, if_pos hs]
  | succ r ih =>
    intro j hj hne N hN
    obtain ⟨N, rfl⟩ : ∃ k, N = k + 1 := ⟨N - 1, by omega⟩
    rw [iterL]
    by_cases hm : m = two (21 + j)
    · have hs : sea m = ((21 + j : Nat) : Int) := by rw [hm]; exact sea_two (by omega)
      have : circaref15_Season_l0 n (((21 + j : Nat) : Int), g, l, dg, x, q, m, d, k0, k1, k2) = some (.inr (.inl ((21 + j : Nat) : Int))) := by
        unfold circaref15_Season_l0
        rw [cond_dec, if_pos (by show ((21 + j : Nat) : Int) ≤ 41; omega)]
        show ob (circaref15_Two n ((21 + j : Nat) : Int)) _ = _
        rw [two_eq n (by omega)]
        show cond (m == two (21 + j)) _ _ = _
        rw [cond_beq, if_pos hm]
      rw [this, hs, if_neg (by omega)]
    · have : circaref15_Season_l0 n (((21 + j : Nat) : Int), g, l, dg, x, q, m, d, k0, k1, k2) = some (.inl (((21 + (j + 1) : Nat) : Int), g, l, dg, x, q, m, d, k0, k1, k2)) := by
        unfold circaref15_Season_l0
        rw [cond_dec, if_pos (by show ((21 + j : Nat) : Int) ≤ 41; omega)]
        show ob (circaref15_Two n ((21 + j : Nat) : Int)) _ = _
        rw [two_eq n (by omega)]
        show cond (m == two (21 + j)) _ _ = _
        rw [cond_beq, if_neg hm]
        have : IntKind.wrap .i64 (((21 + j : Nat) : Int) + 1) = ((21 + (j + 1) : Nat) : Int) := by rw [wrap_i64 _ (by omega) (by omega)]; omega
        show some (Sum.inl (IntKind.wrap .i64 (((21 + j : Nat) : Int) + 1), _)) = _
        rw [this]
      rw [this]
      exact ih (j + 1) (by omega) (fun i hi => by
        rcases Nat.lt_or_ge i j with h | h
        · exact hne i h
        · have : i = j := by omega
          rw [this]; exact hm) N (by omega)
theorem ref_Season (n : Nat) (hn : 100 < n) (g l : Bool) (dg : List UInt8) (x q : Int) (m d : List UInt8) (k0 k1 k2 : Int) : circaref15_Season n g l dg x q m d k0 k1 k2 = some (sea m) := by
  unfold circaref15_Season
  have := ref_Season_loop n g l dg x q m d k0 k1 k2 21 0 rfl (fun i hi => absurd hi (by omega)) n (by omega)
  rw [show ((21 + 0 : Nat) : Int) = 21 from rfl] at this
  rw [this]
  by_cases h : sea m = 0
  · rw [if_pos h, h]; rfl
  · rw [if_neg h]; rfl
def agr (s : List UInt8) (k : Nat) : Bool := match s with
  | [a, b] => (a == 88 || a == UInt8.ofNat (48 + k / 10)) && (b == 88 || b == UInt8.ofNat (48 + k % 10))
  | _ => false
def agrees (s : List UInt8) (g : Nat) : Bool := (List.range g).any fun i => agr s (i + 1)
theorem any_loop {X Y : Type} {step : X → Option (X ⊕ Y)} {f : Nat → X} {p : Nat → Bool} {g : Nat} {yes no : Y} (h : ∀ k, 1 ≤ k → k ≤ g → step (f k) = some (if p k then .inr yes else .inl (f (k + 1)))) (he : step (f (g + 1)) = some (.inr no)) {N : Nat} (hN : g < N) :
    iterL step N (f 1) = some (if (List.range g).any (fun i => p (i + 1)) then yes else no) := by
  have go : ∀ (r j : Nat), j + r = g → (∀ i, i < j → p (i + 1) = false) → ∀ N, r < N → iterL step N (f (j + 1)) = some (if (List.range g).any (fun i => p (i + 1)) then yes else no) := by
    intro r
    induction r with
    | zero =>
      intro j hj hne N hN
      obtain ⟨N, rfl⟩ : ∃ k, N = k + 1 := ⟨N - 1, by omega⟩
      have : (List.range g).any (fun i => p (i + 1)) = false := by
        rw [List.any_eq_false]
        intro i hi
        rw [hne i (by have := List.mem_range.1 hi; omega)]
        simp
      rw [iterL, show j + 1 = g + 1 by omega, he, this]
      rfl
    | succ r ih =>
      intro j hj hne N hN
      obtain ⟨N, rfl⟩ : ∃ k, N = k + 1 := ⟨N - 1, by omega⟩
      rw [iterL, h (j + 1) (by omega) (by omega)]
      cases hp : p (j + 1) with
      | true =>
        have : (List.range g).any (fun i => p (i + 1)) = true := List.any_eq_true.2 ⟨j, List.mem_range.2 (by omega), hp⟩
        rw [this]
        rfl
      | false =>
        exact ih (j + 1) (by omega) (fun i hi => by
          rcases Nat.lt_or_ge i j with h | h
          · exact hne i h
          · have : i = j := by omega
            rw [this]; exact hp) N (by omega)
  exact go g 0 (by omega) (fun i hi => absurd hi (by omega)) N hN
theorem u8_int {a : UInt8} {k : Nat} (hk : k < 256) : ((((a.toNat : Nat) : Int)) == ((k : Nat) : Int)) = (a == UInt8.ofNat k) := by
  have h : (UInt8.ofNat k).toNat = k := by simp; omega
  rw [← u8_beq, h]
theorem agr_step (n : Nat) (a b : UInt8) {g k : Nat} (h1 : 1 ≤ k) (h2 : k ≤ g) (h3 : g ≤ 31) :
    dateforms_agrees_l0 n ([a, b], (g : Int), (k : Int)) = some (if agr [a, b] k then .inr (.inl true) else .inl ([a, b], (g : Int), ((k + 1 : Nat) : Int))) := by
  have e1 : Int.tdiv (k : Int) 10 = ((k / 10 : Nat) : Int) := by
    rw [show (10 : Int) = ((10 : Nat) : Int) from rfl, ← Int.ofNat_tdiv]
  have e2 : Int.tmod (k : Int) 10 = ((k % 10 : Nat) : Int) := by
    rw [show (10 : Int) = ((10 : Nat) : Int) from rfl, ← Int.ofNat_tmod]
  have w1 : IntKind.wrap .u8 (48 + IntKind.wrap .u8 (IntKind.wrap .i64 (Int.tdiv (k : Int) 10))) = ((48 + k / 10 : Nat) : Int) := by
    rw [e1, wrap_i64 _ (by omega) (by omega), wrap_u8 ((k / 10 : Nat) : Int) (by omega) (by omega), wrap_u8 _ (by omega) (by omega)]
    omega
  have w2 : IntKind.wrap .u8 (48 + IntKind.wrap .u8 (Int.tmod (k : Int) 10)) = ((48 + k % 10 : Nat) : Int) := by
    rw [e2, wrap_u8 ((k % 10 : Nat) : Int) (by omega) (by omega), wrap_u8 _ (by omega) (by omega)]
    omega
  have w3 : IntKind.wrap .i64 ((k : Int) + 1) = ((k + 1 : Nat) : Int) := by rw [wrap_i64 _ (by omega) (by omega)]; omega
  have x88 : (88 : Int) = ((88 : Nat) : Int) := rfl
  have s0 : sx [a, b] 0 = some a := rfl
  have s1 : sx [a, b] 1 = some b := rfl
  unfold dateforms_agrees_l0
  rw [cond_dec, if_pos (show (k : Int) ≤ (g : Int) by omega)]
  simp only [s0, s1, ob, w1, w2, w3]
  rw [x88, u8_int (by omega), u8_int (by omega), u8_int (by omega), u8_int (by omega)]
  show _ = some (if ((a == UInt8.ofNat 88 || a == UInt8.ofNat (48 + k / 10)) && (b == UInt8.ofNat 88 || b == UInt8.ofNat (48 + k % 10))) = true then _ else _)
  generalize (a == UInt8.ofNat 88) = p1
  generalize (b == UInt8.ofNat 88) = p2
  generalize (a == UInt8.ofNat (48 + k / 10)) = p3
  generalize (b == UInt8.ofNat (48 + k % 10)) = p4
  cases p1 <;> cases p2 <;> cases p3 <;> cases p4 <;> rfl
theorem df_agrees (n : Nat) (hn : 100 < n) (s : List UInt8) (g : Nat) (hg : g ≤ 31) : dateforms_agrees n s (g : Int) = some (agrees s g) := by
  unfold dateforms_agrees
  by_cases hl : s.length = 2
  · obtain ⟨a, b, rfl⟩ : ∃ a b, s = [a, b] := by
      match s, hl with
      | [a, b], _ => exact ⟨a, b, rfl⟩
    have he : dateforms_agrees_l0 n ([a, b], (g : Int), ((g + 1 : Nat) : Int)) = some (.inr (.inr ())) := by
      unfold dateforms_agrees_l0
      rw [cond_dec, if_neg (show ¬ ((g + 1 : Nat) : Int) ≤ (g : Int) by omega)]
    have := any_loop (f := fun k => ([a, b], (g : Int), ((k : Nat) : Int))) (p := agr [a, b]) (g := g) (N := n) (fun k h1 h2 => agr_step n a b h1 h2 hg) he (by omega)
    show ob (iterL (dateforms_agrees_l0 n) n ([a, b], (g : Int), ((1 : Nat) : Int))) _ = _
    rw [this]
    unfold agrees
    split <;> simp_all [ob]
  · rw [show (((s.length : Nat) : Int) != 2) = true by simp; omega]
    have : agrees s g = false := by
      unfold agrees
      rw [List.any_eq_false]
      intro i _
      match s, hl with
      | [], _ => simp [agr]
      | [_], _ => simp [agr]
      | [_, _], h => exact absurd rfl h
      | _ :: _ :: _ :: _, _ => simp [agr]
    rw [this]
    rfl
theorem ref_Agrees (n : Nat) (s : List UInt8) (k : Nat) (hk : k < 100) : circaref15_Agrees n s (k : Int) = some (if agr s k then 1 else 0) := by
  unfold circaref15_Agrees
  rw [two_eq n hk]
  show cond _ _ _ = _
  by_cases hl : s.length = 2
  · obtain ⟨a, b, rfl⟩ : ∃ a b, s = [a, b] := by
      match s, hl with
      | [a, b], _ => exact ⟨a, b, rfl⟩
    have s0 : sx [a, b] 0 = some a := rfl
    have s1 : sx [a, b] 1 = some b := rfl
    have t0 : sx (two k) 0 = some (UInt8.ofNat (48 + k / 10)) := rfl
    have t1 : sx (two k) 1 = some (UInt8.ofNat (48 + k % 10)) := rfl
    have x88 : (88 : Int) = ((88 : Nat) : Int) := rfl
    rw [show (((([a, b] : List UInt8).length : Nat) : Int) == 2) = true from rfl]
    simp only [s0, s1, t0, t1, ob, cond_true]
    rw [x88, u8_int (by omega), u8_int (by omega), u8_beq, u8_beq]
    show _ = some (if ((a == UInt8.ofNat 88 || a == UInt8.ofNat (48 + k / 10)) && (b == UInt8.ofNat 88 || b == UInt8.ofNat (48 + k % 10))) = true then _ else _)
    generalize (a == UInt8.ofNat 88) = p1
    generalize (b == UInt8.ofNat 88) = p2
    generalize (a == UInt8.ofNat (48 + k / 10)) = p3
    generalize (b == UInt8.ofNat (48 + k % 10)) = p4
    cases p1 <;> cases p2 <;> cases p3 <;> cases p4 <;> rfl
  · rw [show (((s.length : Nat) : Int) == 2) = false by simp; omega]
    have : agr s k = false := by
      match s, hl with
      | [], _ => rfl
      | [_], _ => rfl
      | [_, _], h => exact absurd rfl h
      | _ :: _ :: _ :: _, _ => rfl
    rw [this]
    rfl
theorem ref_Some (n : Nat) (hn : 100 < n) (s : List UInt8) (g : Nat) (hg : g ≤ 31) : circaref15_Some n s (g : Int) = some (if agrees s g then 1 else 0) := by
  unfold circaref15_Some
  have he : circaref15_Some_l0 n (s, (g : Int), ((g + 1 : Nat) : Int)) = some (.inr (.inr ())) := by
    unfold circaref15_Some_l0
    rw [cond_dec, if_neg (show ¬ ((g + 1 : Nat) : Int) ≤ (g : Int) by omega)]
  have := any_loop (f := fun k => (s, (g : Int), ((k : Nat) : Int))) (p := agr s) (g := g) (N := n) (step := circaref15_Some_l0 n) (yes := .inl 1) (no := .inr ()) (fun k h1 h2 => by
    unfold circaref15_Some_l0
    rw [cond_dec, if_pos (show (k : Int) ≤ (g : Int) by omega)]
    show ob (circaref15_Agrees n s (k : Int)) _ = _
    rw [ref_Agrees n s k (by omega)]
    have w3 : IntKind.wrap .i64 ((k : Int) + 1) = ((k + 1 : Nat) : Int) := by rw [wrap_i64 _ (by omega) (by omega)]; omega
    simp only [ob, w3]
    cases agr s k <;> rfl) he (by omega)
  show ob (iterL (circaref15_Some_l0 n) n (s, (g : Int), ((1 : Nat) : Int))) _ = _
  rw [this]
  unfold agrees
  split <;> simp_all [ob]
theorem div_fl (n : Nat) {a b : Int} (hb : 1 < b) (hb2 : b < 1000) (ha : -4611686018427387904 ≤ a) (ha2 : a < 4611686018427387904) : ints_Div n a b = some (a / b, 0) := by
  have n0 : (b == 0) = false := by simp; omega
  have n1 : (b == -1) = false := by simp; omega
  unfold ints_Div
  simp only [n0, n1, cond_false]
  have hq : a / b * b + a % b = a := Int.ediv_mul_add_emod a b
  have hr := Int.emod_nonneg a (show b ≠ 0 by omega)
  have hr2 := Int.emod_lt_of_pos a (show 0 < b by omega)
  have hq1 : -4611686018427387904 ≤ a / b := by
    rw [Int.le_ediv_iff_mul_le (by omega)]
    have : (-4611686018427387904 : Int) * b ≤ -4611686018427387904 * 1 := Int.mul_le_mul_of_nonpos_left (by omega) (by omega)
    omega
  have hq2 : a / b < 4611686018427387904 := by
    rw [Int.ediv_lt_iff_lt_mul (by omega)]
    have : (4611686018427387904 : Int) * 1 ≤ 4611686018427387904 * b := Int.mul_le_mul_of_nonneg_left (by omega) (by omega)
    omega
  by_cases h0 : 0 ≤ a
  · have e1 : Int.tdiv a b = a / b := Int.tdiv_eq_ediv_of_nonneg h0
    have d1 : decide (a < 0) = false := by simp; omega
    have d2 : decide (b < 0) = false := by simp; omega
    rw [e1, d1, d2, wrap_i64 (a / b) (by omega) (by omega)]
    cases (Int.tmod a b != 0) <;> rfl
  · have d1 : decide (a < 0) = true := by simp; omega
    have d2 : decide (b < 0) = false := by simp; omega
    have e1 := Int.tdiv_eq_ediv (a := a) (b := b)
    have e2 := Int.tmod_eq_emod (a := a) (b := b)
    rw [d1, d2]
    by_cases hd : b ∣ a
    · have hm : Int.tmod a b = 0 := by
        rw [e2, if_pos (.inr hd)]
        have := Int.emod_eq_zero_of_dvd hd
        omega
      rw [hm, e1, if_pos (.inr hd)]
      rw [Int.add_zero, wrap_i64 (a / b) (by omega) (by omega)]
      rfl
    · have hm0 : a % b ≠ 0 := fun h => hd (Int.dvd_of_emod_eq_zero h)
      have hm : (Int.tmod a b != 0) = true := by
        rw [e2, if_neg (by rintro (h | h); exact h0 h; exact hd h)]
        simp
        omega
      have hs : b.sign = 1 := Int.sign_eq_one_of_pos (by omega)
      rw [hm, e1, if_neg (by rintro (h | h); exact h0 h; exact hd h), hs]
      rw [wrap_i64 (a / b + 1) (by omega) (by omega), Int.add_sub_cancel, wrap_i64 (a / b) (by omega) (by omega)]
      rfl
theorem mod_fl (n : Nat) {a b : Int} (hb : 1 < b) (hb2 : b < 1000) : ints_Mod n a b = some (a % b, 0) := by
  have n0 : (b == 0) = false := by simp; omega
  have n1 : (b == -1) = false := by simp; omega
  unfold ints_Mod
  simp only [n0, n1, cond_false]
  have hr := Int.emod_nonneg a (show b ≠ 0 by omega)
  have hr2 := Int.emod_lt_of_pos a (show 0 < b by omega)
  have e2 := Int.tmod_eq_emod (a := a) (b := b)
  have d2 : decide (b < 0) = false := by simp; omega
  by_cases hc : 0 ≤ a ∨ b ∣ a
  · rw [if_pos hc] at e2
    have : Int.tmod a b = a % b := by omega
    rw [this, d2]
    have d1 : decide (a % b < 0) = false := by simp; omega
    rw [d1]
    cases h : (a % b != 0)
    · rfl
    · rfl
  · rw [if_neg hc] at e2
    have hn : (b.natAbs : Int) = b := by omega
    rw [hn] at e2
    have hm0 : a % b ≠ 0 := fun h => hc (.inr (Int.dvd_of_emod_eq_zero h))
    have hm : (Int.tmod a b != 0) = true := by simp; omega
    have d1 : decide (Int.tmod a b < 0) = true := by simp; omega
    rw [hm, d1, d2, e2, wrap_i64 _ (by omega) (by omega), Int.sub_add_cancel]
    rfl
def inCal (y : Int) : Prop := -10000000000000000 ≤ y ∧ y ≤ 10000000000000000
instance (y : Int) : Decidable (inCal y) := by unfold inCal; infer_instance
theorem years_Check_eq (n : Nat) (y : Int) : years_Check n y = some (if inCal y then 0 else 6) := by
  unfold years_Check
  rw [cond_dec, cond_dec]
  by_cases h1 : y < -10000000000000000
  · rw [if_pos h1, if_neg (show ¬ inCal y by unfold inCal; omega)]
  · by_cases h2 : y > 10000000000000000
    · rw [if_neg h1, if_pos h2, if_neg (show ¬ inCal y by unfold inCal; omega)]
    · rw [if_neg h1, if_neg h2, if_pos (show inCal y by unfold inCal; omega)]
theorem before_some (n : Nat) {y : Int} (h : -20000000000000000 ≤ y ∧ y ≤ 20000000000000000) : ∃ z, years_before n y = some z := by
  unfold years_before
  rw [wrap_i64 (y - 1) (by omega) (by omega), div_fl n (by omega) (by omega) (by omega) (by omega), div_fl n (by omega) (by omega) (by omega) (by omega), div_fl n (by omega) (by omega) (by omega) (by omega)]
  exact ⟨_, rfl⟩
theorem leap_some (n : Nat) {y : Int} (h : inCal y) : ∃ b e, years_Leap n y = some (b, e) := by
  unfold years_Leap
  have h' := h
  unfold inCal at h'
  obtain ⟨z1, e1⟩ := before_some n (y := y + 1) (by omega)
  obtain ⟨z2, e2⟩ := before_some n (y := y) (by omega)
  rw [years_Check_eq, if_pos h, wrap_i64 (y + 1) (by omega) (by omega), e1, e2]
  exact ⟨_, _, rfl⟩
theorem length_some (n : Nat) {y : Int} (h : inCal y) {m : Nat} (h1 : 1 ≤ m) (h2 : m ≤ 12) : ∃ v, months_length n y (m : Int) = some v := by
  unfold months_length
  obtain ⟨b, e, hl⟩ := leap_some n h
  rw [hl]
  show ∃ v, cond (b && ((m : Int) == 2)) _ _ = some v
  cases (b && ((m : Int) == 2)) with
  | true => exact ⟨_, rfl⟩
  | false =>
    have : IntKind.wrap .i64 ((m : Int) - 1) = ((m - 1 : Nat) : Int) := by rw [wrap_i64 _ (by omega) (by omega)]; omega
    rw [this, ix_nat (by omega)]
    have hl : lengthsT.length = 12 := rfl
    exact ⟨_, List.getElem?_eq_getElem (show m - 1 < lengthsT.length by omega)⟩
theorem mcheck (n : Nat) {y : Int} (h : inCal y) {m : Nat} (h1 : 1 ≤ m) (h2 : m ≤ 12) : months_Check n y (m : Int) = some 0 := by
  unfold months_Check
  rw [years_Check_eq, if_pos h]
  show cond (decide ((m : Int) < 1)) _ _ = _
  rw [cond_dec, cond_dec, if_neg (by omega), if_neg (by omega)]
theorem start_loop (n : Nat) {y : Int} (h : inCal y) {m : Nat} (hm : m ≤ 11) : ∀ (r j : Nat), j + r = m → ∀ (a : Int) (N : Nat), r < N → ∃ v, iterL (months_Start_l0 n) N (y, a, (m : Int), (j : Int)) = some v := by
  intro r
  induction r with
  | zero =>
    intro j hj a N hN
    obtain ⟨N, rfl⟩ : ∃ k, N = k + 1 := ⟨N - 1, by omega⟩
    have : months_Start_l0 n (y, a, (m : Int), (j : Int)) = some (.inr a) := by
      unfold months_Start_l0
      rw [cond_dec, if_neg (show ¬ ((j : Int) < (m : Int)) by omega)]
    rw [iterL, this]
    exact ⟨_, rfl⟩
  | succ r ih =>
    intro j hj a N hN
    obtain ⟨N, rfl⟩ : ∃ k, N = k + 1 := ⟨N - 1, by omega⟩
    obtain ⟨v, hv⟩ := length_some n h (m := j + 1) (by omega) (by omega)
    have w : IntKind.wrap .i64 ((j : Int) + 1) = ((j + 1 : Nat) : Int) := by rw [wrap_i64 _ (by omega) (by omega)]; omega
    have : months_Start_l0 n (y, a, (m : Int), (j : Int)) = some (.inl (y, IntKind.wrap .i64 (a + v), (m : Int), ((j + 1 : Nat) : Int))) := by
      unfold months_Start_l0
      rw [cond_dec, if_pos (show ((j : Int) < (m : Int)) by omega)]
      simp only [w, hv, ob]
    rw [iterL, this]
    exact ih (j + 1) (by omega) _ N (by omega)
theorem mstart (n : Nat) (hn : 100 < n) {y : Int} (h : inCal y) {m : Nat} (h1 : 1 ≤ m) (h2 : m ≤ 12) : ∃ v, months_Start n y (m : Int) = some (v, 0) := by
  unfold months_Start years_Start years_start
  have h' := h
  unfold inCal at h'
  obtain ⟨z, e⟩ := before_some n (y := y) (by omega)
  have w : IntKind.wrap .i64 ((m : Int) - 1) = ((m - 1 : Nat) : Int) := by rw [wrap_i64 _ (by omega) (by omega)]; omega
  rw [mcheck n h h1 h2, years_Check_eq, if_pos h, e, w]
  obtain ⟨v, hv⟩ := start_loop n h (m := m - 1) (by omega) (m - 1) 0 (by omega) (IntKind.wrap .i64 (IntKind.wrap .i64 (365 * y) + z)) n (by omega)
  refine ⟨v, ?_⟩
  show ob (iterL (months_Start_l0 n) n (y, IntKind.wrap .i64 (IntKind.wrap .i64 (365 * y) + z), ((m - 1 : Nat) : Int), ((0 : Nat) : Int))) _ = _
  rw [hv]
  rfl
theorem madd (n : Nat) {y : Int} (h : inCal y) {m c : Nat} (h1 : 1 ≤ m) (h2 : m ≤ 12) (hc : 1 ≤ c) (hc2 : c ≤ 6) : months_Add n y (m : Int) (IntKind.wrap .i64 ((c : Int) - 1)) =
    some (if 12 < m + c - 1 then (if y = 10000000000000000 then (0, 0, 6) else (y + 1, ((m + c - 1 - 12 : Nat) : Int), 0)) else (y, ((m + c - 1 : Nat) : Int), 0)) := by
  have h' := h
  unfold inCal at h'
  unfold months_Add
  rw [mcheck n h h1 h2, wrap_i64 (12 * y) (by omega) (by omega), wrap_i64 ((m : Int) - 1) (by omega) (by omega), wrap_i64 (12 * y + ((m : Int) - 1)) (by omega) (by omega), wrap_i64 ((c : Int) - 1) (by omega) (by omega)]
  have ha : ints_Add n (12 * y + ((m : Int) - 1)) ((c : Int) - 1) = some (12 * y + ((m : Int) - 1) + ((c : Int) - 1), 0) := by
    unfold ints_Add
    rw [wrap_i64 (12 * y + ((m : Int) - 1) + ((c : Int) - 1)) (by omega) (by omega), cond_beq]
    by_cases h0 : (c : Int) - 1 = 0
    · rw [if_pos h0]
      have d1 : decide (12 * y + ((m : Int) - 1) > 12 * y + ((m : Int) - 1)) = false := by simp
      have d2 : decide ((c : Int) - 1 > 0) = false := by simp; omega
      rw [d1, d2, h0, Int.add_zero]
      rfl
    · rw [if_neg h0]
      have d1 : decide (12 * y + ((m : Int) - 1) + ((c : Int) - 1) > 12 * y + ((m : Int) - 1)) = true := by simp; omega
      have d2 : decide ((c : Int) - 1 > 0) = true := by simp; omega
      rw [d1, d2]
      rfl
  simp only [ob, ha, bne_self_eq_false, cond_false]
  rw [div_fl n (by omega) (by omega) (by omega) (by omega), mod_fl n (by omega) (by omega)]
  simp only [years_Check_eq]
  by_cases hb : 12 < m + c - 1
  · have e1 : (12 * y + ((m : Int) - 1) + ((c : Int) - 1)) / 12 = y + 1 := by omega
    have e2 : (12 * y + ((m : Int) - 1) + ((c : Int) - 1)) % 12 = ((m + c - 1 - 12 : Nat) : Int) - 1 := by omega
    rw [e1, e2, if_pos hb]
    by_cases hy : y = 10000000000000000
    · rw [if_pos hy, if_neg (show ¬ inCal (y + 1) by unfold inCal; omega)]
      rfl
    · rw [if_neg hy, if_pos (show inCal (y + 1) by unfold inCal; omega), wrap_i64 (((m + c - 1 - 12 : Nat) : Int) - 1 + 1) (by omega) (by omega), Int.sub_add_cancel]
      rfl
  · have e1 : (12 * y + ((m : Int) - 1) + ((c : Int) - 1)) / 12 = y := by omega
    have e2 : (12 * y + ((m : Int) - 1) + ((c : Int) - 1)) % 12 = ((m + c - 1 : Nat) : Int) - 1 := by omega
    rw [e1, e2, if_neg hb, if_pos h, wrap_i64 (((m + c - 1 : Nat) : Int) - 1 + 1) (by omega) (by omega), Int.sub_add_cancel]
    rfl
theorem spans_ok {j : Nat} (hj : j < 21) : ∃ m c : Nat, spansT[j]? = some ((m : Int), (c : Int)) ∧ 1 ≤ m ∧ m ≤ 12 ∧ 1 ≤ c ∧ c ≤ 6 ∧ (12 < m + c - 1 ↔ j = 3 ∨ j = 7 ∨ j = 9) := by
  have : ((List.range 21).all fun j => match spansT[j]? with
    | some (m, c) => decide (0 ≤ m) && decide (0 ≤ c) && decide (1 ≤ m.toNat) && decide (m.toNat ≤ 12) && decide (1 ≤ c.toNat) && decide (c.toNat ≤ 6) && (decide (12 < m.toNat + c.toNat - 1) == decide (j = 3 ∨ j = 7 ∨ j = 9))
    | none => false) = true := by decide +kernel
  have h := (List.all_eq_true.1 this) j (by simpa using hj)
  split at h
  · rename_i m c e
    simp only [Bool.and_eq_true, decide_eq_true_eq, beq_iff_eq, decide_eq_decide] at h
    obtain ⟨⟨⟨⟨⟨⟨h1, h2⟩, h3⟩, h4⟩, h5⟩, h6⟩, h7⟩ := h
    exact ⟨m.toNat, c.toNat, by rw [e, Int.toNat_of_nonneg h1, Int.toNat_of_nonneg h2], h3, h4, h5, h6, h7⟩
  · cases h
theorem run_eq (n : Nat) (hn : 100 < n) {y : Int} (h : inCal y) {j : Nat} (hj : j < 21) :
    ∃ a b c d, seasons_Run n y ((21 + j : Nat) : Int) = some (a, b, c, d, if y = 10000000000000000 ∧ (j = 3 ∨ j = 7 ∨ j = 9) then 6 else 0) := by
  obtain ⟨m, c, e, h1, h2, h3, h4, h5⟩ := spans_ok hj
  have hM : seasons_Months n ((21 + j : Nat) : Int) = some ((m : Int), (c : Int), 0) := by
    unfold seasons_Months seasons_Check
    rw [cond_dec, cond_dec, if_neg (by omega), if_neg (by omega)]
    have : IntKind.wrap .i64 (((21 + j : Nat) : Int) - 21) = (j : Int) := by rw [wrap_i64 _ (by omega) (by omega)]; omega
    rw [this, ix_nat hj]
    show ob (spansT[j]?) _ = _
    rw [e]
    rfl
  obtain ⟨v, hv⟩ := mstart n hn h h1 h2
  unfold seasons_Run
  rw [hM]
  show ∃ a b c d, ob (months_Start n y (m : Int)) _ = _
  rw [hv]
  show ∃ a b c' d, ob (months_Add n y (m : Int) (IntKind.wrap .i64 ((c : Int) - 1))) _ = _
  rw [madd n h h1 h2 h3 h4]
  have h' := h
  unfold inCal at h'
  by_cases hb : 12 < m + c - 1
  · rw [if_pos hb]
    by_cases hy : y = 10000000000000000
    · rw [if_pos hy, if_pos ⟨hy, h5.1 hb⟩]
      exact ⟨_, _, _, _, rfl⟩
    · rw [if_neg hy, if_neg (fun x => hy x.1)]
      have hc1 : inCal (y + 1) := by unfold inCal; omega
      obtain ⟨v2, hv2⟩ := mstart n hn hc1 (m := m + c - 1 - 12) (by omega) (by omega)
      obtain ⟨u, hu⟩ := length_some n hc1 (m := m + c - 1 - 12) (by omega) (by omega)
      have hE : months_End n (y + 1) ((m + c - 1 - 12 : Nat) : Int) = some (IntKind.wrap .i64 (IntKind.wrap .i64 (v2 + u) - 1), 0) := by
        unfold months_End
        rw [hv2, hu]
        rfl
      show ∃ a b c' d, ob (months_End n (y + 1) ((m + c - 1 - 12 : Nat) : Int)) _ = _
      rw [hE]
      exact ⟨_, _, _, _, rfl⟩
  · rw [if_neg hb, if_neg (fun x => hb (h5.2 x.2))]
    obtain ⟨v2, hv2⟩ := mstart n hn h (m := m + c - 1) (by omega) (by omega)
    obtain ⟨u, hu⟩ := length_some n h (m := m + c - 1) (by omega) (by omega)
    have hE : months_End n y ((m + c - 1 : Nat) : Int) = some (IntKind.wrap .i64 (IntKind.wrap .i64 (v2 + u) - 1), 0) := by
      unfold months_End
      rw [hv2, hu]
      rfl
    show ∃ a b c' d, ob (months_End n y ((m + c - 1 : Nat) : Int)) _ = _
    rw [hE]
    exact ⟨_, _, _, _, rfl⟩
def hasB (set : List UInt8) (c : UInt8) : Bool := set.any fun d => d == c
theorem indexByte_neg (set : List UInt8) (c : UInt8) : (decide (Lib.indexByte set c < 0)) = !hasB set c := by
  induction set with
  | nil => simp [Lib.indexByte, hasB]
  | cons d l ih =>
    have hge := Lib.indexByte_ge l c
    simp only [hasB, List.any_cons] at ih ⊢
    unfold Lib.indexByte
    by_cases h : d = c
    · simp [h]
    · have hb : (d == c) = false := by simpa using h
      simp only [hb, Bool.false_eq_true, if_false, Bool.false_or]
      rw [← ih]
      by_cases h1 : Lib.indexByte l c = -1
      · simp [h1]
      · have hb1 : (Lib.indexByte l c == -1) = false := by simpa using h1
        simp only [hb1, Bool.false_eq_true, if_false]
        have : ¬ Lib.indexByte l c + 1 < 0 := by omega
        have : ¬ Lib.indexByte l c < 0 := by omega
        simp [*]
theorem indexByte_pos (set : List UInt8) (c : UInt8) : (decide (Lib.indexByte set c ≥ 0)) = hasB set c := by
  have := indexByte_neg set c
  by_cases h : Lib.indexByte set c < 0
  · have h2 : ¬ Lib.indexByte set c ≥ 0 := by omega
    simp only [h, h2, decide_true, decide_false] at this ⊢
    revert this; cases hasB set c <;> simp
  · have h2 : Lib.indexByte set c ≥ 0 := by omega
    simp only [h, h2, decide_true, decide_false] at this ⊢
    revert this; cases hasB set c <;> simp
def spanN (p : UInt8 → Bool) : Nat → List UInt8 → Nat
  | 0, _ => 0
  | _ + 1, [] => 0
  | k + 1, c :: l => if p c then spanN p k l + 1 else 0
theorem spanN_le (p : UInt8 → Bool) : ∀ (k : Nat) (l : List UInt8), spanN p k l ≤ l.length
  | 0, _ => by simp [spanN]
  | _ + 1, [] => by simp [spanN]
  | k + 1, c :: l => by
    have := spanN_le p k l
    simp only [spanN, List.length_cons]
    split <;> omega
theorem cur_Rest (n : Nat) (S : List UInt8) (at_ : Nat) (h : at_ ≤ S.length) : cursors_Cursor_Rest n S (at_ : Int) = some (S.drop at_) := by
  simp [cursors_Cursor_Rest, ob, bx_nat h]
theorem hasPrefix_eq (n : Nat) (s p : List UInt8) : strings_HasPrefix n s p = some (s.take p.length == p) := by
  simp only [strings_HasPrefix, int_stringslite_HasPrefix, nat_dec_ge]
  by_cases h : p.length ≤ s.length
  · simp [h, ob, bx_nat h]
  · have : (s.take p.length == p) = false := by
      rw [beq_eq_false_iff_ne]
      intro e
      have := congrArg List.length e
      rw [List.length_take] at this
      omega
    simp [h, ob, this]
theorem cur_Is (n : Nat) (t S : List UInt8) (at_ : Nat) (h : at_ ≤ S.length) : cursors_Cursor_Is n t S (at_ : Int) = some ((S.drop at_).take t.length == t) := by
  simp [cursors_Cursor_Is, cur_Rest n S at_ h, ob, hasPrefix_eq]
theorem cur_Take (n : Nat) (t S : List UInt8) (at_ : Nat) (h : at_ ≤ S.length) (hS : S.length < 4611686018427387904) :
    cursors_Cursor_Take n t S (at_ : Int) = some (if (S.drop at_).take t.length = t then (true, S, ((at_ + t.length : Nat) : Int)) else (false, S, (at_ : Int))) := by
  simp only [cursors_Cursor_Take, cur_Is n t S at_ h, ob]
  by_cases hp : (S.drop at_).take t.length = t
  · have hl : t.length ≤ S.length - at_ := by
      have := congrArg List.length hp
      simp at this; omega
    have hw : IntKind.wrap .i64 ((at_ : Int) + ((t.length : Nat) : Int)) = ((at_ + t.length : Nat) : Int) := by rw [wrap_i64 _ (by omega) (by omega)]; omega
    simp [hp, hw]
  · simp only [cond_neg, cond_beq, hp, if_false]
theorem cur_At (n : Nat) (S : List UInt8) (i : Int) : cursors_Cursor_At n S i = some i := rfl
def peek (l : List UInt8) : Int × Bool := match l with | c :: _ => (((c.toNat : Nat) : Int), true) | [] => (0, false)
theorem cur_Peek (n : Nat) (S : List UInt8) (at_ : Nat) (h : at_ ≤ S.length) : cursors_Cursor_Peek n S (at_ : Int) = some (peek (S.drop at_)) := by
  simp only [cursors_Cursor_Peek, cur_Rest n S at_ h, ob]
  rcases Nat.lt_or_ge at_ S.length with hlt | hge
  · obtain ⟨c, hc⟩ : ∃ c, S[at_]? = some c := ⟨S[at_], List.getElem?_eq_getElem hlt⟩
    rw [drop_get hc]
    simp [sx_nat hc, peek]
  · rw [List.drop_eq_nil_of_le hge]
    simp [peek]
theorem cur_Fail (n : Nat) (a e : Int) (S : List UInt8) (i : Int) : cursors_Cursor_Fail n a e S i = some (a, if e = 0 then 5 else e) := by
  simp only [cursors_Cursor_Fail, cond_beq]
  by_cases h : e = 0 <;> simp [h]
theorem strings_IndexByte_eq (n : Nat) (set : List UInt8) (c : UInt8) : strings_IndexByte n set ((c.toNat : Nat) : Int) = some (Lib.indexByte set c) := by
  simp only [strings_IndexByte, int_stringslite_IndexByte, ob, u8_of]
theorem cur_One (n : Nat) (set S : List UInt8) (at_ : Nat) (h : at_ ≤ S.length) (hS : S.length < 4611686018427387904) :
    cursors_Cursor_One n set S (at_ : Int) = some (match S.drop at_ with | c :: _ => if hasB set c then .inr (((c.toNat : Nat) : Int), S, ((at_ + 1 : Nat) : Int)) else .inl ((at_ : Int), 5, S, (at_ : Int)) | [] => .inl ((at_ : Int), 5, S, (at_ : Int))) := by
  simp only [cursors_Cursor_One, cur_Peek n S at_ h, ob]
  rcases Nat.lt_or_ge at_ S.length with hlt | hge
  · obtain ⟨c, hc⟩ : ∃ c, S[at_]? = some c := ⟨S[at_], List.getElem?_eq_getElem hlt⟩
    have hw : IntKind.wrap .i64 ((at_ : Int) + 1) = ((at_ + 1 : Nat) : Int) := by rw [wrap_i64 _ (by omega) (by omega)]; omega
    rw [drop_get hc]
    simp only [peek, Bool.not_true, cond_false, strings_IndexByte_eq, indexByte_neg, cur_At, cur_Fail, ob, hw]
    cases hasB set c <;> simp
  · rw [List.drop_eq_nil_of_le hge]
    simp [peek, cur_At, cur_Fail, ob]
theorem drop_take_sub (S : List UInt8) (a k : Nat) : List.drop a (List.take (a + k) S) = (S.drop a).take k := by
  rw [List.drop_take]; congr 1; omega
theorem cur_Some_loop (n : Nat) (set : List UInt8) (least most : Int) (S : List UInt8) (at_ : Nat) (h : at_ ≤ S.length) (hS : S.length < 4611686018427387904) (hn : S.length < n) :
    iterL (cursors_Cursor_Some_l0 n) n (set, least, most, (at_ : Int), (peek (S.drop at_)).1, (peek (S.drop at_)).2, S, (at_ : Int)) =
      some (least, (at_ : Int), S, ((at_ + spanN (hasB set) most.toNat (S.drop at_) : Nat) : Int)) := by
  have := iterL_inv (step := cursors_Cursor_Some_l0 n)
    (fun x => ∃ j : Nat, at_ + j ≤ S.length ∧ x = (set, least, most, (at_ : Int), (peek (S.drop (at_ + j))).1, (peek (S.drop (at_ + j))).2, S, ((at_ + j : Nat) : Int)))
    (fun x => S.length - x.2.2.2.2.2.2.2.toNat)
    (fun x => (least, (at_ : Int), S, ((x.2.2.2.2.2.2.2.toNat + spanN (hasB set) (most.toNat - (x.2.2.2.2.2.2.2.toNat - at_)) (S.drop x.2.2.2.2.2.2.2.toNat) : Nat) : Int))) ?_ n
    (set, least, most, (at_ : Int), (peek (S.drop at_)).1, (peek (S.drop at_)).2, S, (at_ : Int)) ⟨0, by omega, by simp⟩ (by simp; omega)
  · simpa using this
  rintro x ⟨j, hj, rfl⟩
  simp only [Int.toNat_natCast]
  have hsub : IntKind.wrap .i64 (((at_ + j : Nat) : Int) - (at_ : Int)) = (j : Int) := by rw [wrap_i64 _ (by omega) (by omega)]; omega
  rcases Nat.lt_or_ge (at_ + j) S.length with hlt | hge
  · obtain ⟨c, hc⟩ : ∃ c, S[at_ + j]? = some c := ⟨S[at_ + j], List.getElem?_eq_getElem hlt⟩
    have hw : IntKind.wrap .i64 (((at_ + j : Nat) : Int) + 1) = ((at_ + (j + 1) : Nat) : Int) := by rw [wrap_i64 _ (by omega) (by omega)]; omega
    simp only [cursors_Cursor_Some_l0, drop_get hc, peek, cond_true, hsub]
    by_cases hm : (j : Int) < most
    · obtain ⟨k, hk⟩ : ∃ k, most.toNat - (at_ + j - at_) = k + 1 := ⟨most.toNat - j - 1, by omega⟩
      simp only [hm, decide_true, cond_true, strings_IndexByte_eq, ob, indexByte_pos, hk, spanN]
      cases hb : hasB set c with
      | true =>
        simp only [hw, cur_Peek n S (at_ + (j + 1)) (by omega), cond_true]
        refine .inl ⟨_, rfl, ⟨j + 1, by omega, rfl⟩, ?_, ?_⟩
        · simp only [Int.toNat_natCast]; omega
        · simp only [Int.toNat_natCast, Prod.mk.injEq, true_and, if_true]
          have : most.toNat - (at_ + (j + 1) - at_) = k := by omega
          rw [this, show at_ + (j + 1) = at_ + j + 1 by omega]
          omega
      | false => exact .inr (by simp)
    · refine .inr ?_
      have : most.toNat - (at_ + j - at_) = 0 := by omega
      simp only [hm, decide_false, cond_false, this, spanN, Nat.add_zero]
  · refine .inr ?_
    simp only [cursors_Cursor_Some_l0, List.drop_eq_nil_of_le hge, peek, cond_false]
    have : spanN (hasB set) (most.toNat - (at_ + j - at_)) [] = 0 := by cases most.toNat - (at_ + j - at_) <;> rfl
    simp only [this, Nat.add_zero]
theorem cur_Some (n : Nat) (set : List UInt8) (least most : Int) (S : List UInt8) (at_ : Nat) (h : at_ ≤ S.length) (hS : S.length < 4611686018427387904) (hn : S.length < n) :
    cursors_Cursor_Some n set least most S (at_ : Int) = some (if ((spanN (hasB set) most.toNat (S.drop at_) : Nat) : Int) < least
      then .inl (((at_ + spanN (hasB set) most.toNat (S.drop at_) : Nat) : Int), 5, S, ((at_ + spanN (hasB set) most.toNat (S.drop at_) : Nat) : Int))
      else .inr ((S.drop at_).take (spanN (hasB set) most.toNat (S.drop at_)), S, ((at_ + spanN (hasB set) most.toNat (S.drop at_) : Nat) : Int))) := by
  have hk := spanN_le (hasB set) most.toNat (S.drop at_)
  rw [List.length_drop] at hk
  simp only [cursors_Cursor_Some, cur_At, cur_Peek n S at_ h, ob]
  rw [cur_Some_loop n set least most S at_ h hS hn]
  generalize spanN (hasB set) most.toNat (S.drop at_) = k at hk ⊢
  have hsub : IntKind.wrap .i64 (((at_ + k : Nat) : Int) - (at_ : Int)) = (k : Int) := by rw [wrap_i64 _ (by omega) (by omega)]; omega
  simp only [hsub, cur_Fail]
  by_cases hl : (k : Int) < least
  · simp [hl]
  · simp only [hl, decide_false, cond_false, if_false]
    rw [bx_nat (by omega)]
    simp only
    rw [bx_nat (by omega)]
    simp only [drop_take_sub]
def asc (l : List UInt8) : Prop := ∀ c ∈ l, c.toNat < 128
theorem encode_hi (r : Int) (h : 128 ≤ r) : ∃ p e, (Utf8.encode r).data.toList = p ++ [e] ∧ 1 ≤ p.length ∧ p.length ≤ 3 ∧ 128 ≤ e.toNat := by
  unfold Utf8.encode
  have hc : 128 ≤ (if Utf8.valid r then r.toNat else Utf8.runeError) := by
    split
    · omega
    · decide
  generalize (if Utf8.valid r then r.toNat else Utf8.runeError) = c at hc
  have he : 128 ≤ (UInt8.ofNat (0x80 + c % 64)).toNat := by
    simp only [UInt8.toNat_ofNat']
    omega
  simp only
  split
  · omega
  · split
    · exact ⟨[_], _, rfl, by simp, by simp, he⟩
    · split
      · exact ⟨[_, _], _, rfl, by simp, by simp, he⟩
      · exact ⟨[_, _, _], _, rfl, by simp, by simp, he⟩
theorem get_asc {l : List UInt8} (h : asc l) {i : Nat} {c : UInt8} (hi : l[i]? = some c) : c.toNat < 128 := h c (List.mem_of_getElem? hi)
theorem indexRune_l0 (n : Nat) (set : List UInt8) (h : asc set) (hn : set.length < n) : iterL (strings_IndexRune_l0 n) n (set, 0) = some (.inr ()) := by
  refine iterL_inv (step := strings_IndexRune_l0 n) (fun x => x.1 = set) (fun x => set.length - x.2) (fun x => .inr ()) ?_ n _ rfl (by simp; omega)
  rintro ⟨s, i⟩ rfl
  simp only [strings_IndexRune_l0]
  by_cases hi : i < s.length
  · have hb : Nat.blt i s.length = true := Nat.ble_eq_true_of_le hi
    obtain ⟨c, hc⟩ : ∃ c, s[i]? = some c := ⟨s[i], List.getElem?_eq_getElem hi⟩
    have hlow := get_asc h hc
    have hne : (((c.toNat : Nat) : Int) == 65533) = false := by rw [beq_eq_false_iff_ne]; omega
    simp only [hb, cond_true, dec_low hc hlow, hne, cond_false]
    exact .inl ⟨_, rfl, rfl, by simp only; omega, trivial⟩
  · have hb : Nat.blt i s.length = false := by
      cases hb : Nat.blt i s.length with
      | false => rfl
      | true => exact absurd (Nat.le_of_ble_eq_true hb) (by omega)
    simp only [hb, cond_false]
    exact .inr trivial
theorem indexByte_none {l : List UInt8} {c : UInt8} (h : c ∉ l) : Lib.indexByte l c < 0 := by
  have h1 := indexByte_neg l c
  have h2 : hasB l c = false := by
    unfold hasB
    rw [List.any_eq_false]
    intro x hx he
    simp only [beq_iff_eq] at he
    exact h (he ▸ hx)
  rw [h2] at h1
  simpa using h1
theorem indexRune_hi (n : Nat) (set : List UInt8) (h : asc set) (hn : set.length < n) (hs : set.length ≤ 100) (r : Int) (hr : 128 ≤ r) : strings_IndexRune n set r = some (-1) := by
  have h0 : decide ((0 : Int) ≤ r) = true := decide_eq_true (by omega)
  have h1 : decide (r < 128) = false := decide_eq_false (by omega)
  simp only [strings_IndexRune, h0, h1, cond_true, cond_false]
  by_cases hrr : r = 65533
  · have : (r == 65533) = true := beq_iff_eq.2 hrr
    simp only [this, cond_true, indexRune_l0 n set h hn, ob]
  · have : (r == 65533) = false := beq_eq_false_iff_ne.2 hrr
    simp only [this, cond_false]
    obtain ⟨v, hv⟩ : ∃ v, unicode_utf8_ValidRune n r = some v := by
      unfold unicode_utf8_ValidRune
      generalize decide ((0 : Int) ≤ r) = d1
      generalize decide (r < 55296) = d2
      generalize decide ((57343 : Int) < r) = d3
      generalize decide (r ≤ 1114111) = d4
      cases d1 <;> cases d2 <;> cases d3 <;> cases d4 <;> exact ⟨_, rfl⟩
    simp only [hv, ob]
    cases v with
    | false => rfl
    | true =>
      simp only [Bool.not_true, cond_false]
      obtain ⟨p, e, hp, hp1, hp3, he⟩ := encode_hi r hr
      simp only [hp]
      have hw : IntKind.wrap .i64 (((p ++ [e]).length : Nat) - 1 : Int) = (p.length : Int) := by
        rw [wrap_i64 _ (by simp <;> omega) (by simp <;> omega)]; simp
      rw [hw]
      obtain ⟨m, rfl⟩ : ∃ m, n = m + 1 := ⟨n - 1, by omega⟩
      have hstep : strings_IndexRune_l1 (m + 1) (set, p ++ [e], (p.length : Int), (p.length : Int)) = some (.inr (.inl (-1))) ∨ strings_IndexRune_l1 (m + 1) (set, p ++ [e], (p.length : Int), (p.length : Int)) = some (.inr (.inr ())) := by
        simp only [strings_IndexRune_l1, nat_dec_lt]
        by_cases hl : p.length < set.length
        · obtain ⟨c, hc⟩ : ∃ c, set[p.length]? = some c := ⟨set[p.length], List.getElem?_eq_getElem hl⟩
          have hlow := get_asc h hc
          have hpe : (p ++ [e])[p.length]? = some e := by simp
          have hne : (((c.toNat : Nat) : Int) != ((e.toNat : Nat) : Int)) = true := by simp only [bne, Bool.not_eq_true', beq_eq_false_iff_ne]; omega
          have hw2 : IntKind.wrap .i64 ((p.length : Int) + 1) = ((p.length + 1 : Nat) : Int) := by rw [wrap_i64 _ (by omega) (by omega)]; omega
          have hx : e ∉ List.drop (p.length + 1) (List.take set.length set) := by
            intro hm
            have := h e (by simpa using List.mem_of_mem_drop hm)
            omega
          left
          simp only [hl, decide_true, cond_true, sx_nat hc, sx_nat hpe, ob, hne, hw2, bx_nat (show p.length + 1 ≤ set.length by omega), strings_IndexByte_eq, indexByte_none hx]
        · right
          simp only [hl, decide_false, cond_false]
      rcases hstep with hs1 | hs1 <;> simp only [iterL, hs1, ob]
theorem indexRune_low' (n : Nat) (set : List UInt8) (c : UInt8) (r : Int) (hr : r = ((c.toNat : Nat) : Int)) (hc : c.toNat < 128) : strings_IndexRune n set r = some (Lib.indexByte set c) := by
  have h0 : decide ((0 : Int) ≤ r) = true := decide_eq_true (by omega)
  have h1 : decide (r < 128) = true := decide_eq_true (by omega)
  have hw : IntKind.wrap .u8 r = r := wrap_u8 _ (by omega) (by omega)
  have hb : strings_IndexByte n set r = some (Lib.indexByte set c) := by rw [hr]; exact strings_IndexByte_eq n set c
  simp only [strings_IndexRune, h0, h1, cond_true, hw, hb, ob]
theorem indexRune_low (n : Nat) (set : List UInt8) (c : UInt8) (hc : c.toNat < 128) : strings_IndexRune n set ((c.toNat : Nat) : Int) = some (Lib.indexByte set c) := indexRune_low' n set c _ rfl hc
theorem containsRune_low (n : Nat) (set : List UInt8) (c : UInt8) (hc : c.toNat < 128) : strings_ContainsRune n set ((c.toNat : Nat) : Int) = some (hasB set c) := by
  simp only [strings_ContainsRune, indexRune_low n set c hc, ob, indexByte_pos]
theorem containsRune_hi (n : Nat) (set : List UInt8) (h : asc set) (hn : set.length < n) (hs : set.length ≤ 100) (r : Int) (hr : 128 ≤ r) : strings_ContainsRune n set r = some false := by
  simp only [strings_ContainsRune, indexRune_hi n set h hn hs r hr, ob]; rfl
theorem ofInt_nat (w a : Nat) : BitVec.ofInt w (a : Int) = BitVec.ofNat w a := by
  apply BitVec.eq_of_toNat_eq
  simp
theorem pow_nat (k : Nat) : (2 : Int) ^ k = ((2 ^ k : Nat) : Int) := by simp
theorem fdiv_nat (a k : Nat) : Int.fdiv (a : Int) (2 ^ k) = ((a / 2 ^ k : Nat) : Int) := by
  rw [pow_nat k, Int.fdiv_eq_ediv_of_nonneg _ (Int.natCast_nonneg _)]
  rfl
def inR (lo hi : Int) (c : UInt8) : Bool := decide (((c.toNat : Nat) : Int) ≥ lo) && decide (((c.toNat : Nat) : Int) ≤ hi)
def cnt (lo hi : Int) (l : List UInt8) : Nat := l.countP (inR lo hi)
theorem cnt_le (lo hi : Int) (l : List UInt8) : cnt lo hi l ≤ l.length := List.countP_le_length
theorem cnt_take (lo hi : Int) {l : List UInt8} {i : Nat} {c : UInt8} (h : l[i]? = some c) : cnt lo hi (l.take (i + 1)) = cnt lo hi (l.take i) + if inR lo hi c then 1 else 0 := by
  unfold cnt
  rw [List.take_add_one, h, List.countP_append]
  simp [List.countP_cons]
theorem has_eq (n : Nat) (s : List UInt8) (lo hi : Int) (hs : s.length < n) (hb : s.length < 100000) : circaref14_has n s lo hi = some ((cnt lo hi s : Nat) : Int) := by
  have := iterL_inv (step := circaref14_has_l0 n) (fun x => ∃ i : Nat, i ≤ s.length ∧ x = (s, lo, hi, ((cnt lo hi (s.take i) : Nat) : Int), (i : Int))) (fun x => s.length - x.2.2.2.2.toNat) (fun _ => ((cnt lo hi s : Nat) : Int)) ?_ n (s, lo, hi, 0, 0) ⟨0, by omega, by simp [cnt]⟩ (by simp; omega)
  · simp only [circaref14_has, this, ob]
  rintro x ⟨i, hi', rfl⟩
  rcases Nat.lt_or_ge i s.length with hlt | hge
  · obtain ⟨c, hc⟩ : ∃ c, s[i]? = some c := ⟨s[i], List.getElem?_eq_getElem hlt⟩
    have hct := cnt_take lo hi hc
    have hle := cnt_le lo hi (s.take i)
    rw [List.length_take] at hle
    have w1 : IntKind.wrap .i64 ((i : Int) + 1) = ((i + 1 : Nat) : Int) := by rw [wrap_i64 _ (by omega) (by omega)]; omega
    have w2 : IntKind.wrap .i64 (((cnt lo hi (s.take i) : Nat) : Int) + 1) = ((cnt lo hi (s.take i) + 1 : Nat) : Int) := by rw [wrap_i64 _ (by omega) (by omega)]; omega
    refine .inl ⟨(s, lo, hi, ((cnt lo hi (s.take (i + 1)) : Nat) : Int), ((i + 1 : Nat) : Int)), ?_, ⟨i + 1, hlt, rfl⟩, by simp only [Int.toNat_natCast]; omega, rfl⟩
    simp only [circaref14_has_l0, nat_dec_lt, hlt, decide_true, cond_true, sx_nat hc, ob, w1, w2]
    rw [hct]
    by_cases h1 : ((c.toNat : Nat) : Int) ≥ lo
    · by_cases h2 : ((c.toNat : Nat) : Int) ≤ hi
      · simp [h1, h2, inR]
      · simp [h1, h2, inR]
    · simp [h1, inR]
  · have : i = s.length := by omega
    subst this
    refine .inr ?_
    simp only [circaref14_has_l0, nat_dec_lt, Nat.lt_irrefl, decide_false, cond_false, List.take_length]
theorem cnt_all (lo hi : Int) (l : List UInt8) : cnt lo hi l = l.length ↔ ∀ c ∈ l, inR lo hi c = true := by
  unfold cnt
  rw [List.countP_eq_length]
theorem cnt_zero (lo hi : Int) (l : List UInt8) : cnt lo hi l = 0 ↔ ∀ c ∈ l, inR lo hi c = false := by
  unfold cnt
  rw [List.countP_eq_zero]
  simp
def isDig (c : UInt8) : Bool := inR 48 57 c
theorem isDig_iff (c : UInt8) : isDig c = true ↔ 48 ≤ c.toNat ∧ c.toNat ≤ 57 := by
  unfold isDig inR
  simp only [Bool.and_eq_true, decide_eq_true_eq]
  omega
theorem inX_iff (c : UInt8) : inR 88 88 c = true ↔ c = 88 := by
  unfold inR
  simp only [Bool.and_eq_true, decide_eq_true_eq]
  constructor
  · intro h
    apply UInt8.toNat_inj.1
    show c.toNat = 88
    omega
  · rintro rfl; decide
theorem in0_iff (c : UInt8) : inR 48 48 c = true ↔ c = 48 := by
  unfold inR
  simp only [Bool.and_eq_true, decide_eq_true_eq]
  constructor
  · intro h
    apply UInt8.toNat_inj.1
    show c.toNat = 48
    omega
  · rintro rfl; decide
theorem cnt_sum : ∀ l : List UInt8, cnt 48 57 l + cnt 88 88 l ≤ l.length ∧ (cnt 48 57 l + cnt 88 88 l = l.length ↔ ∀ c ∈ l, isDig c = true ∨ c = 88)
  | [] => by simp [cnt]
  | c :: l => by
    have ih := cnt_sum l
    have e1 : cnt 48 57 (c :: l) = cnt 48 57 l + if inR 48 57 c then 1 else 0 := by simp [cnt, List.countP_cons]
    have e2 : cnt 88 88 (c :: l) = cnt 88 88 l + if inR 88 88 c then 1 else 0 := by simp [cnt, List.countP_cons]
    have hd : ¬ (inR 48 57 c = true ∧ inR 88 88 c = true) := by
      rintro ⟨h1, h2⟩
      have := (isDig_iff c).1 h1
      rw [(inX_iff c).1 h2] at this
      exact absurd this.2 (by decide)
    rw [e1, e2, List.length_cons]
    simp only [List.mem_cons, forall_eq_or_imp]
    have hx := inX_iff c
    have hg : isDig c = inR 48 57 c := rfl
    rw [hg]
    cases h1 : inR 48 57 c <;> cases h2 : inR 88 88 c
    · simp only [h1, h2] at hx ⊢
      have : c ≠ 88 := fun e => by simpa using hx.2 e
      simp [this]; omega
    · simp only [h1, h2] at hx ⊢
      have : c = 88 := hx.1 trivial
      simp only [this, Bool.false_eq_true, if_true, if_false, false_or, true_and]
      rw [← ih.2]
      omega
    · simp only [h1, h2] at hx ⊢
      simp only [Bool.false_eq_true, if_true, if_false, true_or, true_and]
      rw [← ih.2]
      omega
    · exact absurd ⟨h1, h2⟩ hd
theorem only_loop (n : Nat) (s set : List UInt8) (ha : asc set) (hn : set.length < n) (hl : set.length ≤ 100) (hs : s.length < n) :
    ∃ y, iterL (strings_indexFunc_l0 n) n (true, set, s, 0) = some y ∧ ((y = .inr () ∧ s.all (hasB set) = true) ∨ ∃ i : Nat, y = .inl (i : Int) ∧ s.all (hasB set) = false) := by
  refine iterL_prop (step := strings_indexFunc_l0 n) (fun x => x.1 = true ∧ x.2.1 = set ∧ x.2.2.1 = s ∧ s.all (hasB set) = (s.drop x.2.2.2).all (hasB set)) (fun x => s.length - x.2.2.2) _ ?_ n _ ⟨rfl, rfl, rfl, rfl⟩ (by simp only; omega)
  rintro ⟨b, st, s', p⟩ ⟨hb, hst, hs', hall⟩
  simp only at hb hst hs' hall
  rw [hb, hst, hs']
  clear hb hst hs' b st s'
  rcases Nat.lt_or_ge p s.length with hlt | hge
  · obtain ⟨c, hc⟩ : ∃ c, s[p]? = some c := ⟨s[p], List.getElem?_eq_getElem hlt⟩
    have hbl : Nat.blt p s.length = true := Nat.ble_eq_true_of_le hlt
    rw [drop_get hc, List.all_cons] at hall
    rcases Nat.lt_or_ge c.toNat 128 with h128 | h128
    · have hd := dec_low hc h128
      simp only [strings_indexFunc_l0, hbl, cond_true, yearforms_only_1, hd, containsRune_low n set c h128, ob]
      cases hh : hasB set c with
      | true =>
        rw [hh, Bool.true_and] at hall
        exact .inl ⟨_, rfl, ⟨rfl, rfl, rfl, hall⟩, by simp only; omega⟩
      | false =>
        rw [hh, Bool.false_and] at hall
        exact .inr ⟨_, rfl, .inr ⟨p, rfl, hall⟩⟩
    · have hd := dec_high hc h128
      have hh : hasB set c = false := by
        unfold hasB
        rw [List.any_eq_false]
        intro x hx he
        simp only [beq_iff_eq] at he
        have := ha x hx
        rw [he] at this
        omega
      rw [hh, Bool.false_and] at hall
      have hcr := containsRune_hi n set ha hn hl (((dec s p).1 : Nat) : Int) (by omega)
      simp only [strings_indexFunc_l0, hbl, cond_true, yearforms_only_1, hcr, ob]
      exact .inr ⟨_, rfl, .inr ⟨p, rfl, hall⟩⟩
  · have hbl : Nat.blt p s.length = false := by
      cases hb : Nat.blt p s.length with
      | false => rfl
      | true => exact absurd (Nat.le_of_ble_eq_true hb) (by omega)
    simp only [strings_indexFunc_l0, hbl, cond_false]
    rw [List.drop_eq_nil_of_le hge] at hall
    exact .inr ⟨_, rfl, .inl ⟨rfl, by rw [hall]; rfl⟩⟩
theorem only_eq (n : Nat) (s set : List UInt8) (ha : asc set) (hn : set.length < n) (hl : set.length ≤ 100) (hs : s.length < n) : yearforms_only n s set = some (s.all (hasB set)) := by
  obtain ⟨y, h1, h2⟩ := only_loop n s set ha hn hl hs
  simp only [yearforms_only, strings_IndexFunc, strings_indexFunc, h1, ob]
  rcases h2 with ⟨rfl, h3⟩ | ⟨i, rfl, h3⟩
  · rw [h3]; rfl
  · rw [h3]
    simp only [Option.some.injEq, decide_eq_false_iff_not]
    omega
theorem digs_asc : asc [48, 49, 50, 51, 52, 53, 54, 55, 56, 57] := by unfold asc; decide
theorem digsX_asc : asc [88, 48, 49, 50, 51, 52, 53, 54, 55, 56, 57] := by unfold asc; decide
theorem u8_forall (p : UInt8 → Bool) (h : ∀ i : Fin 256, p (UInt8.ofNat i.val) = true) (c : UInt8) : p c = true := by
  have := h ⟨c.toNat, c.toNat_lt⟩
  simpa using this
theorem hasB_digs (c : UInt8) : hasB [48, 49, 50, 51, 52, 53, 54, 55, 56, 57] c = isDig c := by
  have := u8_forall (fun c => hasB [48, 49, 50, 51, 52, 53, 54, 55, 56, 57] c == isDig c) (by decide +kernel) c
  simpa using this
theorem hasB_digsX (c : UInt8) : hasB [88, 48, 49, 50, 51, 52, 53, 54, 55, 56, 57] c = (isDig c || c == 88) := by
  have := u8_forall (fun c => hasB [88, 48, 49, 50, 51, 52, 53, 54, 55, 56, 57] c == (isDig c || c == 88)) (by decide +kernel) c
  simpa using this
theorem only_digs (n : Nat) (s : List UInt8) (hn : 100 < n) (hs : s.length < n) : yearforms_only n s [48, 49, 50, 51, 52, 53, 54, 55, 56, 57] = some (s.all isDig) := by
  rw [only_eq n s _ digs_asc (by simp; omega) (by simp) hs]
  congr 2
  funext c
  exact hasB_digs c
theorem only_digsX (n : Nat) (s : List UInt8) (hn : 100 < n) (hs : s.length < n) : yearforms_only n s [88, 48, 49, 50, 51, 52, 53, 54, 55, 56, 57] = some (s.all fun c => isDig c || c == 88) := by
  rw [only_eq n s _ digsX_asc (by simp; omega) (by simp) hs]
  congr 2
  funext c
  exact hasB_digsX c
def all0 (s : List UInt8) : Bool := s.all fun c => c == 48
theorem trimR (n : Nat) (s : List UInt8) (hs : s.length < n) (hb : s.length < 100000) : ∃ y, strings_trimRightByte n s 48 = some y ∧ all0 s = all0 y ∧ y.length ≤ s.length := by
  obtain ⟨y, h1, h2⟩ := iterL_prop (step := strings_trimRightByte_l0 n) (fun x => x.2 = 48 ∧ all0 s = all0 x.1 ∧ x.1.length ≤ s.length) (fun x => x.1.length) (fun y => all0 s = all0 y ∧ y.length ≤ s.length) (by
    rintro ⟨l, c⟩ ⟨rfl, h, hl⟩
    simp only at h hl
    by_cases h0 : l.length > 0
    · have d0 : decide (((l.length : Nat) : Int) > 0) = true := decide_eq_true (by omega)
      have w1 : IntKind.wrap .i64 (((l.length : Nat) : Int) - 1) = ((l.length - 1 : Nat) : Int) := by rw [wrap_i64 _ (by omega) (by omega)]; omega
      obtain ⟨c, hc⟩ : ∃ c, l[l.length - 1]? = some c := ⟨l[l.length - 1], List.getElem?_eq_getElem (by omega)⟩
      simp only [strings_trimRightByte_l0, d0, cond_true, w1, sx_nat hc, ob]
      by_cases he : c = 48
      · have e1 : (((c.toNat : Nat) : Int) == 48) = true := by rw [he]; rfl
        simp only [e1, cond_true, bx_nat (show l.length - 1 ≤ l.length by omega), List.drop_zero]
        refine .inl ⟨(List.take (l.length - 1) l, 48), rfl, ⟨rfl, ?_, by show (List.take (l.length - 1) l).length ≤ s.length; rw [List.length_take]; omega⟩, by show (List.take (l.length - 1) l).length < l.length; rw [List.length_take]; omega⟩
        rw [h]
        have : l = l.take (l.length - 1) ++ [c] := by
          have h2 := List.take_add_one (l := l) (i := l.length - 1)
          rw [hc, show l.length - 1 + 1 = l.length by omega, List.take_length] at h2
          exact h2
        rw [this]
        simp only [all0, List.all_append, List.all_cons, List.all_nil, he]
        simp
      · have e1 : (((c.toNat : Nat) : Int) == 48) = false := by
          rw [beq_eq_false_iff_ne]
          intro e
          exact he (UInt8.toNat_inj.1 (by show c.toNat = 48; omega))
        simp only [e1, cond_false]
        exact .inr ⟨_, rfl, h, hl⟩
    · have d0 : decide (((l.length : Nat) : Int) > 0) = false := decide_eq_false (by omega)
      simp only [strings_trimRightByte_l0, d0, cond_false]
      exact .inr ⟨_, rfl, h, hl⟩) n (s, 48) ⟨rfl, rfl, Nat.le_refl _⟩ hs
  exact ⟨y, by simp only [strings_trimRightByte, h1, ob], h2⟩
theorem trimL (n : Nat) (s : List UInt8) (hs : s.length < n) (hb : s.length < 100000) : ∃ y, strings_trimLeftByte n s 48 = some y ∧ all0 s = (y == []) := by
  obtain ⟨y, h1, h2⟩ := iterL_prop (step := strings_trimLeftByte_l0 n) (fun x => x.2 = 48 ∧ all0 s = all0 x.1 ∧ x.1.length ≤ s.length) (fun x => x.1.length) (fun y => all0 s = (y == [])) (by
    rintro ⟨l, c⟩ ⟨rfl, h, hl⟩
    simp only at h hl
    cases l with
    | nil => exact .inr ⟨[], rfl, by rw [h]; rfl⟩
    | cons c l =>
      have d0 : decide ((((c :: l).length : Nat) : Int) > 0) = true := decide_eq_true (by simp only [List.length_cons]; omega)
      have hc : sx (c :: l) 0 = some c := by simp [sx]
      simp only [strings_trimLeftByte_l0, d0, cond_true, hc, ob]
      by_cases he : c = 48
      · have e1 : (((c.toNat : Nat) : Int) == 48) = true := by rw [he]; rfl
        have hbx : bx (c :: l).length 1 = some 1 := bx_nat (i := 1) (by simp)
        simp only [e1, cond_true, hbx, List.take_length, List.drop_succ_cons, List.drop_zero]
        refine .inl ⟨_, rfl, ⟨rfl, ?_, by show l.length ≤ s.length; simp only [List.length_cons] at hl; omega⟩, by simp⟩
        rw [h]
        simp [all0, he]
      · have e1 : (((c.toNat : Nat) : Int) == 48) = false := by
          rw [beq_eq_false_iff_ne]
          intro e
          exact he (UInt8.toNat_inj.1 (by show c.toNat = 48; omega))
        simp only [e1, cond_false]
        refine .inr ⟨_, rfl, ?_⟩
        rw [h]
        have e2 : (c == 48) = false := beq_eq_false_iff_ne.2 he
        simp [all0, e2]) n (s, 48) ⟨rfl, rfl, Nat.le_refl _⟩ hs
  exact ⟨y, by simp only [strings_trimLeftByte, h1, ob], h2⟩
theorem trim_eq (n : Nat) (s : List UInt8) (hs : s.length < n) (hb : s.length < 100000) : ∃ y, strings_Trim n s = some y ∧ (y == []) = all0 s := by
  unfold strings_Trim
  by_cases h : s = []
  · subst h; exact ⟨[], rfl, rfl⟩
  · have : (s == ([] : List UInt8)) = false := beq_eq_false_iff_ne.2 h
    obtain ⟨y, h1, h2, h3⟩ := trimR n s hs hb
    obtain ⟨z, h4, h5⟩ := trimL n y (by omega) (by omega)
    exact ⟨z, by simp only [this, cond_false, h1, h4, ob], by rw [h2, h5]⟩
theorem all0_cnt (s : List UInt8) : all0 s = true ↔ cnt 48 48 s = s.length := by
  rw [cnt_all]
  unfold all0
  rw [List.all_eq_true]
  constructor
  · intro h c hc
    have := h c hc
    rw [beq_iff_eq] at this
    exact (in0_iff c).2 this
  · intro h c hc
    rw [beq_iff_eq]
    exact (in0_iff c).1 (h c hc)
def hasX (s : List UInt8) : Bool := s.any fun c => c == 88
theorem hasX_cnt (s : List UInt8) : hasX s = decide (0 < cnt 88 88 s) := by
  have := cnt_zero 88 88 s
  unfold hasX
  cases h : s.any fun c => c == 88 with
  | true =>
    obtain ⟨c, hc, he⟩ := List.any_eq_true.1 h
    rw [beq_iff_eq] at he
    symm
    rw [decide_eq_true_eq]
    rcases Nat.eq_zero_or_pos (cnt 88 88 s) with h0 | h0
    · have := this.1 h0 c hc
      rw [(inX_iff c).2 he] at this
      cases this
    · exact h0
  | false =>
    symm
    rw [decide_eq_false_iff_not]
    intro h0
    have : cnt 88 88 s = 0 := this.2 fun c hc => by
      cases hx : inR 88 88 c with
      | false => rfl
      | true =>
        rw [List.any_eq_false] at h
        exact absurd (beq_iff_eq.2 ((inX_iff c).1 hx)) (h c hc)
    omega
theorem containsX (n : Nat) (s : List UInt8) : strings_Contains n s = some (hasX s) := by
  have e : UInt8.ofNat (Int.toNat 88) = (88 : UInt8) := rfl
  have hi : strings_Index n s = some (Lib.indexByte s 88) := by
    simp only [strings_Index, int_stringslite_Index, int_stringslite_IndexByte, ob, e]
    by_cases h : ([88] : List UInt8) = s
    · subst h; rfl
    · have : (([88] : List UInt8) == s) = false := beq_eq_false_iff_ne.2 h
      simp only [this, cond_false]
  simp only [strings_Contains, hi, ob, indexByte_pos]
  rfl
theorem yf_Masked (n : Nat) (g l : Bool) (d : List UInt8) (x q : Int) : yearforms_Masked n g l d x q = some (hasX d) := by
  simp only [yearforms_Masked, containsX, ob]
theorem ref_Masked (n : Nat) (g l : Bool) (d : List UInt8) (x q : Int) (hs : d.length < n) (hb : d.length < 100000) : circaref14_Masked n g l d x q = some (if hasX d then 1 else 0) := by
  simp only [circaref14_Masked, has_eq n d 88 88 hs hb, ob, hasX_cnt, decide_eq_true_eq]
  by_cases h : 0 < cnt 88 88 d
  · have : decide (((cnt 88 88 d : Nat) : Int) < 1) = false := decide_eq_false (by omega)
    simp [this, h]
  · have : decide (((cnt 88 88 d : Nat) : Int) < 1) = true := decide_eq_true (by omega)
    have h0 : cnt 88 88 d = 0 := by omega
    simp [this, h0]
def dstep (acc : Nat) (c : UInt8) : Nat := acc * 10 + (c.toNat - 48)
def dval (acc : Nat) (l : List UInt8) : Nat := l.foldl dstep acc
theorem dval_nil (acc : Nat) : dval acc [] = acc := by unfold dval; rw [List.foldl_nil]
theorem dval_cons (acc : Nat) (c : UInt8) (l : List UInt8) : dval acc (c :: l) = dval (dstep acc c) l := by
  unfold dval; rw [List.foldl_cons]
theorem dval_app (l : List UInt8) (acc : Nat) (c : UInt8) : dval acc (l ++ [c]) = dval acc l * 10 + (c.toNat - 48) := by
  have : dval acc (l ++ [c]) = dstep (dval acc l) c := by
    unfold dval; rw [List.foldl_append, List.foldl_cons, List.foldl_nil]
  rw [this]
  rfl
theorem parse_M (M : Nat) (hM : 10000000000000000000 ≤ M) (l : List UInt8) : ∀ (acc k : Nat), (∀ c ∈ l, isDig c = true) → acc < 10 ^ k → l.length + k ≤ 18 → Lib.parseUintM M acc l = .ok (dval acc l) ∧ dval acc l < 10 ^ (l.length + k) := by
  induction l with
  | nil =>
    intro acc k _ h1 _
    rw [dval_nil]
    refine ⟨rfl, ?_⟩
    simpa using h1
  | cons c l ih =>
    intro acc k h h1 h2
    have hc := (isDig_iff c).1 (h c (by simp))
    simp only [List.length_cons] at h2
    have hp : (10 : Nat) ^ (k + 1) = 10 ^ k * 10 := Nat.pow_succ 10 k
    have hle : (10 : Nat) ^ (k + 1) ≤ 10 ^ 18 := Nat.pow_le_pow_right (by decide) (by omega)
    have h18 : (10 : Nat) ^ 18 = 1000000000000000000 := by decide
    have hd : dstep acc c = acc * 10 + (c.toNat - 48) := rfl
    have ih := ih (dstep acc c) (k + 1) (fun d hd => h d (by simp [hd])) (by omega) (by omega)
    refine ⟨?_, ?_⟩
    · simp only [Lib.parseUintM]
      rw [if_pos hc, if_neg (by omega), if_neg (by omega), ← hd, ih.1, dval_cons]
    · rw [dval_cons, List.length_cons, show l.length + 1 + k = l.length + (k + 1) by omega]
      exact ih.2
theorem parse_digs {l : List UInt8} (h : ∀ c ∈ l, isDig c = true) (h0 : l ≠ []) (hl : l.length ≤ 18) : parseOk l = some ((dval 0 l : Nat) : Int) ∧ dval 0 l < 10 ^ l.length := by
  obtain ⟨h1, h2⟩ := parse_M (2 ^ 64 - 1) (by decide) l 0 0 h (by simp) (by omega)
  refine ⟨?_, by simpa using h2⟩
  have hlt : dval 0 l < 10 ^ 18 := Nat.lt_of_lt_of_le h2 (Nat.pow_le_pow_right (by decide) (by omega))
  cases l with
  | nil => exact absurd rfl h0
  | cons c r =>
    have hc := (isDig_iff c).1 (h c (by simp))
    have hu : Lib.parseUintB 64 (c :: r) = .ok (dval 0 (c :: r)) := by
      unfold Lib.parseUintB
      rw [if_neg h0, h1]
    have hs : ¬ (c.toNat = 43 ∨ c.toNat = 45) := by omega
    simp only [parseOk, Lib.parseIntB, hs, if_false, hu]
    have h18 : (10 : Nat) ^ 18 = 1000000000000000000 := by decide
    have h63 : (2 : Nat) ^ (64 - 1) = 9223372036854775808 := by decide
    have hn : ¬ c.toNat = 45 := by omega
    simp only [hn, not_false_eq_true, true_and, false_and, if_false]
    rw [h63, if_neg (by omega)]
theorem pow10_eq (n k : Nat) (hk : k ≤ 18) (hn : 18 < n) : ints_Pow10 n (k : Int) = some (((10 ^ k : Nat) : Int), 0) := by
  have h18 : (10 : Nat) ^ 18 = 1000000000000000000 := by decide
  have := iterL_inv (step := ints_Pow10_l0 n) (fun x => ∃ i : Nat, i ≤ k ∧ x = (((10 ^ i : Nat) : Int), (k : Int), (i : Int))) (fun x => k - x.2.2.toNat) (fun _ => ((10 ^ k : Nat) : Int)) (by
    rintro x ⟨i, hi, rfl⟩
    rcases Nat.lt_or_ge i k with hlt | hge
    · have hle : (10 : Nat) ^ (i + 1) ≤ 10 ^ 18 := Nat.pow_le_pow_right (by decide) (by omega)
      have hp : (10 : Nat) ^ (i + 1) = 10 ^ i * 10 := Nat.pow_succ 10 i
      have w1 : IntKind.wrap .i64 (((10 ^ i : Nat) : Int) * 10) = ((10 ^ (i + 1) : Nat) : Int) := by rw [wrap_i64 _ (by omega) (by omega)]; omega
      have w2 : IntKind.wrap .i64 ((i : Int) + 1) = ((i + 1 : Nat) : Int) := by rw [wrap_i64 _ (by omega) (by omega)]; omega
      refine .inl ⟨_, ?_, ⟨i + 1, hlt, rfl⟩, by simp only [Int.toNat_natCast]; omega, rfl⟩
      simp only [ints_Pow10_l0, nat_dec_lt, hlt, decide_true, cond_true, w1, w2]
    · have : i = k := by omega
      subst this
      refine .inr ?_
      simp only [ints_Pow10_l0, nat_dec_lt, Nat.lt_irrefl, decide_false, cond_false]) n (1, (k : Int), 0) ⟨0, by omega, rfl⟩ (by simp; omega)
  have d1 : decide ((k : Int) < 0) = false := decide_eq_false (by omega)
  have d2 : decide ((k : Int) > 18) = false := decide_eq_false (by omega)
  simp only [ints_Pow10, d1, d2, cond_false, this, ob]
theorem wrap_u64 (x : Int) (h0 : 0 ≤ x) (h1 : x < 18446744073709551616) : IntKind.wrap .u64 x = x := by
  show x % 18446744073709551616 = x
  omega
theorem wrap_u64_eq (x : Int) : IntKind.wrap .u64 x = x % 18446744073709551616 := rfl
theorem and_lo {a : Nat} (ha : a < 18446744073709551616) : bits .and .u64 (a : Int) 4294967295 = ((a % 4294967296 : Nat) : Int) := by
  show IntKind.wrap .u64 ((BitVec.ofInt 64 (a : Int) &&& BitVec.ofInt 64 ((4294967295 : Nat) : Int)).toNat : Int) = _
  rw [ofInt_nat, ofInt_nat, BitVec.toNat_and, BitVec.toNat_ofNat, BitVec.toNat_ofNat, Nat.mod_eq_of_lt (show a < 2 ^ 64 from ha), Nat.mod_eq_of_lt (by decide)]
  have := Nat.and_two_pow_sub_one_eq_mod a 32
  rw [show (2 : Nat) ^ 32 - 1 = 4294967295 from by decide, show (2 : Nat) ^ 32 = 4294967296 from by decide] at this
  rw [this]
  exact wrap_u64 _ (by omega) (by omega)
theorem shr32 (a : Nat) : Int.fdiv (a : Int) (2 ^ 32) = ((a / 4294967296 : Nat) : Int) := by
  rw [fdiv_nat]
theorem mul_lt {a b A B : Nat} (ha : a ≤ A) (hb : b ≤ B) : a * b ≤ A * B := Nat.mul_le_mul ha hb
theorem split_mul (a b : Nat) : a * b = (a / 4294967296) * (b / 4294967296) * 18446744073709551616 + ((a / 4294967296) * (b % 4294967296) + (a % 4294967296) * (b / 4294967296)) * 4294967296 + (a % 4294967296) * (b % 4294967296) := by
  have e1 : a = (a / 4294967296) * 4294967296 + a % 4294967296 := by omega
  have e2 : b = (b / 4294967296) * 4294967296 + b % 4294967296 := by omega
  generalize a / 4294967296 = x1 at e1 ⊢
  generalize a % 4294967296 = x0 at e1 ⊢
  generalize b / 4294967296 = y1 at e2 ⊢
  generalize b % 4294967296 = y0 at e2 ⊢
  subst e1 e2
  rw [Nat.add_mul, Nat.mul_add, Nat.mul_add]
  have h1 : x1 * 4294967296 * (y1 * 4294967296) = x1 * y1 * 18446744073709551616 := by
    rw [Nat.mul_mul_mul_comm]
  have h2 : x1 * 4294967296 * y0 = x1 * y0 * 4294967296 := by rw [Nat.mul_right_comm]
  have h3 : x0 * (y1 * 4294967296) = x0 * y1 * 4294967296 := by rw [Nat.mul_assoc]
  rw [h1, h2, h3, Nat.add_mul]
  omega
theorem mul64 (n a b : Nat) (ha : a < 18446744073709551616) (hb : b < 18446744073709551616) : math_bits_Mul64 n (a : Int) (b : Int) = some (((a * b / 18446744073709551616 : Nat) : Int), ((a * b % 18446744073709551616 : Nat) : Int)) := by
  have hsp := split_mul a b
  have hx1 : a / 4294967296 ≤ 4294967295 := by omega
  have hx0 : a % 4294967296 ≤ 4294967295 := by omega
  have hy1 : b / 4294967296 ≤ 4294967295 := by omega
  have hy0 : b % 4294967296 ≤ 4294967295 := by omega
  have p00 := mul_lt hx0 hy0
  have p01 := mul_lt hx0 hy1
  have p10 := mul_lt hx1 hy0
  have p11 := mul_lt hx1 hy1
  have hlo : IntKind.wrap .u64 ((a : Int) * (b : Int)) = ((a * b % 18446744073709551616 : Nat) : Int) := by
    rw [wrap_u64_eq, ← Int.natCast_mul]; omega
  simp only [math_bits_Mul64, shr32, and_lo ha, and_lo hb, hlo]
  simp only [← Int.natCast_mul]
  generalize (a / 4294967296) * (b / 4294967296) = q11 at *
  generalize (a / 4294967296) * (b % 4294967296) = q10 at *
  generalize (a % 4294967296) * (b / 4294967296) = q01 at *
  generalize (a % 4294967296) * (b % 4294967296) = q00 at *
  generalize a * b = N at *
  have w1 : IntKind.wrap .u64 ((q00 : Nat) : Int) = ((q00 : Nat) : Int) := wrap_u64 _ (by omega) (by omega)
  have w2 : IntKind.wrap .u64 ((q10 : Nat) : Int) = ((q10 : Nat) : Int) := wrap_u64 _ (by omega) (by omega)
  have w3 : IntKind.wrap .u64 ((q01 : Nat) : Int) = ((q01 : Nat) : Int) := wrap_u64 _ (by omega) (by omega)
  have w4 : IntKind.wrap .u64 ((q11 : Nat) : Int) = ((q11 : Nat) : Int) := wrap_u64 _ (by omega) (by omega)
  rw [w1, w2, w3, w4, shr32 q00]
  have w5 : IntKind.wrap .u64 (((q10 : Nat) : Int) + ((q00 / 4294967296 : Nat) : Int)) = ((q10 + q00 / 4294967296 : Nat) : Int) := by rw [wrap_u64 _ (by omega) (by omega)]; omega
  rw [w5, shr32, and_lo (by omega)]
  have w6 : IntKind.wrap .u64 (((q11 : Nat) : Int) + (((q10 + q00 / 4294967296) / 4294967296 : Nat) : Int)) = ((q11 + (q10 + q00 / 4294967296) / 4294967296 : Nat) : Int) := by rw [wrap_u64 _ (by omega) (by omega)]; omega
  have w7 : IntKind.wrap .u64 ((((q10 + q00 / 4294967296) % 4294967296 : Nat) : Int) + ((q01 : Nat) : Int)) = (((q10 + q00 / 4294967296) % 4294967296 + q01 : Nat) : Int) := by rw [wrap_u64 _ (by omega) (by omega)]; omega
  rw [w6, w7, shr32]
  have w8 : IntKind.wrap .u64 (((q11 + (q10 + q00 / 4294967296) / 4294967296 : Nat) : Int) + ((((q10 + q00 / 4294967296) % 4294967296 + q01) / 4294967296 : Nat) : Int)) = ((N / 18446744073709551616 : Nat) : Int) := by
    rw [wrap_u64 _ (by omega) (by omega)]; omega
  rw [w8]
theorem mul_eq (n a b : Nat) (ha : a < 9223372036854775808) (hb : b < 9223372036854775808) : ints_Mul n (a : Int) (b : Int) = some (if a * b < 9223372036854775808 then (((a * b : Nat) : Int), 0) else (0, 15)) := by
  have d1 : decide ((a : Int) < 0) = false := decide_eq_false (by omega)
  have d2 : decide ((b : Int) < 0) = false := decide_eq_false (by omega)
  have w1 : IntKind.wrap .u64 (a : Int) = a := wrap_u64 _ (by omega) (by omega)
  have w2 : IntKind.wrap .u64 (b : Int) = b := wrap_u64 _ (by omega) (by omega)
  simp only [ints_Mul, ints_size, d1, d2, cond_false, w1, w2, ob, mul64 n a b (by omega) (by omega)]
  generalize a * b = N
  by_cases h : 18446744073709551616 ≤ N
  · have d3 : decide (((N / 18446744073709551616 : Nat) : Int) > 0) = true := decide_eq_true (by omega)
    rw [d3, if_neg (by omega)]
    rfl
  · have d3 : decide (((N / 18446744073709551616 : Nat) : Int) > 0) = false := decide_eq_false (by omega)
    have e : N % 18446744073709551616 = N := Nat.mod_eq_of_lt (by omega)
    rw [d3, e]
    simp only [cond_false, BEq.rfl, Bool.not_true, ints_signed, Bool.not_false, cond_true]
    by_cases h2 : N < 9223372036854775808
    · have d4 : decide (((N : Nat) : Int) ≤ 9223372036854775807) = true := decide_eq_true (by omega)
      rw [d4, if_pos h2, cond_true, wrap_i64 _ (by omega) (by omega)]
    · have d4 : decide (((N : Nat) : Int) ≤ 9223372036854775807) = false := decide_eq_false (by omega)
      rw [d4, if_neg h2, cond_false]
def E16 : Nat := 10000000000000000
theorem pow_big {x : Nat} (hx : 17 ≤ x) : E16 < 10 ^ x := by
  have : (10 : Nat) ^ 17 ≤ 10 ^ x := Nat.pow_le_pow_right (by decide) hx
  have h17 : (10 : Nat) ^ 17 = 100000000000000000 := by decide
  unfold E16
  omega
theorem magn_eq (n : Nat) (g l : Bool) (d : List UInt8) (x : Nat) (s : Int) (hd : ∀ c ∈ d, isDig c = true) (h0 : d ≠ []) (hl : d.length ≤ 17) (hx : x ≤ 18) (hn : 18 < n) :
    yearforms_magnitude n g l d (x : Int) s = some (if dval 0 d * 10 ^ x ≤ E16 then (((dval 0 d * 10 ^ x : Nat) : Int), 0) else (0, 6)) := by
  obtain ⟨h1, h2⟩ := parse_digs hd h0 (by omega)
  have hv : dval 0 d < 10 ^ 17 := Nat.lt_of_lt_of_le h2 (Nat.pow_le_pow_right (by decide) hl)
  have hp : (10 : Nat) ^ x ≤ 10 ^ 18 := Nat.pow_le_pow_right (by decide) hx
  have h17 : (10 : Nat) ^ 17 = 100000000000000000 := by decide
  have h18 : (10 : Nat) ^ 18 = 1000000000000000000 := by decide
  have hb : Nat.ble d.length 9223372036854775806 = true := Nat.ble_eq_true_of_le (by omega)
  simp only [yearforms_magnitude, hb, cond_true, h1, ob, pow10_eq n x hx hn, bne_self_eq_false, cond_false, mul_eq n _ _ (show dval 0 d < 9223372036854775808 by omega) (show 10 ^ x < 9223372036854775808 by omega)]
  generalize dval 0 d * 10 ^ x = N
  unfold E16
  by_cases h : N < 9223372036854775808
  · rw [if_pos h]
    simp only [bne_self_eq_false, cond_false]
    by_cases h3 : N ≤ 10000000000000000
    · have d1 : decide (((N : Nat) : Int) > 10000000000000000) = false := decide_eq_false (by omega)
      rw [d1, if_pos h3, cond_false]
    · have d1 : decide (((N : Nat) : Int) > 10000000000000000) = true := decide_eq_true (by omega)
      rw [d1, if_neg h3, cond_true]
  · rw [if_neg h, if_neg (by omega)]
    rfl
def pre (d : List UInt8) (i : Nat) : Nat := dval 0 (d.take i) * 10 ^ (i - d.length)
theorem pre_lt {d : List UInt8} {i : Nat} {c : UInt8} (h : d[i]? = some c) : pre d (i + 1) = 10 * pre d i + (c.toNat - 48) := by
  have hlt := lt_of_get h
  unfold pre
  rw [List.take_add_one, h, show i + 1 - d.length = 0 by omega, show i - d.length = 0 by omega]
  simp only [Option.toList, dval_app, Nat.pow_zero, Nat.mul_one]
  omega
theorem pre_ge {d : List UInt8} {i : Nat} (h : d.length ≤ i) : pre d (i + 1) = 10 * pre d i := by
  unfold pre
  rw [List.take_of_length_le (show d.length ≤ i + 1 by omega), List.take_of_length_le h, show i + 1 - d.length = (i - d.length) + 1 by omega, Nat.pow_succ]
  rw [← Nat.mul_assoc]
  omega
theorem pre_mono (d : List UInt8) : ∀ k i, pre d i ≤ pre d (i + k)
  | 0, i => Nat.le_refl _
  | k + 1, i => by
    have ih := pre_mono d k i
    rcases Nat.lt_or_ge (i + k) d.length with hlt | hge
    · have := pre_lt (List.getElem?_eq_getElem hlt)
      rw [show i + (k + 1) = i + k + 1 by omega, this]
      omega
    · have := pre_ge hge
      rw [show i + (k + 1) = i + k + 1 by omega, this]
      omega
theorem refMagn_eq (n : Nat) (d : List UInt8) (x : Nat) (hd : ∀ c ∈ d, isDig c = true) (hl : d.length ≤ 100) (hx : x ≤ 100) (hn : d.length + x < n) :
    circaref14_Magnitude n d (x : Int) = some (if dval 0 d * 10 ^ x ≤ E16 then (((dval 0 d * 10 ^ x : Nat) : Int), 1) else (0, 0)) := by
  have hend : pre d (d.length + x) = dval 0 d * 10 ^ x := by
    unfold pre
    rw [List.take_of_length_le (by omega), show d.length + x - d.length = x by omega]
  have w0 : IntKind.wrap .i64 (((d.length : Nat) : Int) + (x : Int)) = ((d.length + x : Nat) : Int) := by rw [wrap_i64 _ (by omega) (by omega)]; omega
  have := iterL_inv (step := circaref14_Magnitude_l0 n) (fun q => ∃ i : Nat, i ≤ d.length + x ∧ pre d i ≤ E16 ∧ q = (d, (x : Int), ((pre d i : Nat) : Int), (i : Int))) (fun q => d.length + x - q.2.2.2.toNat) (fun _ => if dval 0 d * 10 ^ x ≤ E16 then .inr ((dval 0 d * 10 ^ x : Nat) : Int) else .inl (0, 0)) (by
    rintro q ⟨i, hi, hp, rfl⟩
    simp only [circaref14_Magnitude_l0, w0, nat_dec_lt]
    unfold E16 at hp ⊢
    have w1 : IntKind.wrap .i64 ((i : Int) + 1) = ((i + 1 : Nat) : Int) := by rw [wrap_i64 _ (by omega) (by omega)]; omega
    have w2 : IntKind.wrap .i64 (10 * ((pre d i : Nat) : Int)) = ((10 * pre d i : Nat) : Int) := by rw [wrap_i64 _ (by omega) (by omega)]; omega
    by_cases h1 : i < d.length + x
    · have hm := pre_mono d (d.length + x - (i + 1)) (i + 1)
      rw [show i + 1 + (d.length + x - (i + 1)) = d.length + x by omega, hend] at hm
      simp only [h1, decide_true, cond_true, w1, w2]
      rcases Nat.lt_or_ge i d.length with hlt | hge
      · obtain ⟨c, hc⟩ : ∃ c, d[i]? = some c := ⟨d[i], List.getElem?_eq_getElem hlt⟩
        have hdig := (isDig_iff c).1 (hd c (List.mem_of_getElem? hc))
        have hs := pre_lt hc
        have w3 : IntKind.wrap .u8 (((c.toNat : Nat) : Int) - 48) = ((c.toNat - 48 : Nat) : Int) := by rw [wrap_u8 _ (by omega) (by omega)]; omega
        have w4 : IntKind.wrap .i64 ((c.toNat - 48 : Nat) : Int) = ((c.toNat - 48 : Nat) : Int) := wrap_i64 _ (by omega) (by omega)
        have w5 : IntKind.wrap .i64 (((10 * pre d i : Nat) : Int) + ((c.toNat - 48 : Nat) : Int)) = ((pre d (i + 1) : Nat) : Int) := by rw [wrap_i64 _ (by omega) (by omega)]; omega
        simp only [hlt, decide_true, cond_true, sx_nat hc, ob, w3, w4, w5]
        by_cases h2 : pre d (i + 1) ≤ 10000000000000000
        · have d1 : decide (((pre d (i + 1) : Nat) : Int) > 10000000000000000) = false := decide_eq_false (by omega)
          simp only [d1, cond_false]
          exact .inl ⟨_, rfl, ⟨i + 1, h1, h2, rfl⟩, by simp only [Int.toNat_natCast]; omega, trivial⟩
        · have d1 : decide (((pre d (i + 1) : Nat) : Int) > 10000000000000000) = true := decide_eq_true (by omega)
          simp only [d1, cond_true]
          rw [if_neg (by omega)]
          exact .inr rfl
      · have hs := pre_ge hge
        have hnl : ¬ i < d.length := by omega
        simp only [hnl, decide_false, cond_false]
        rw [← hs]
        by_cases h2 : pre d (i + 1) ≤ 10000000000000000
        · have d1 : decide (((pre d (i + 1) : Nat) : Int) > 10000000000000000) = false := decide_eq_false (by omega)
          simp only [d1, cond_false]
          exact .inl ⟨_, rfl, ⟨i + 1, h1, h2, rfl⟩, by simp only [Int.toNat_natCast]; omega, trivial⟩
        · have d1 : decide (((pre d (i + 1) : Nat) : Int) > 10000000000000000) = true := decide_eq_true (by omega)
          simp only [d1, cond_true]
          rw [if_neg (by omega)]
          exact .inr rfl
    · have : i = d.length + x := by omega
      subst this
      simp only [Nat.lt_irrefl, decide_false, cond_false]
      rw [hend] at hp ⊢
      rw [if_pos hp]
      exact .inr rfl) n (d, (x : Int), 0, 0) ⟨0, by omega, by unfold pre E16; simp [dval_nil], by unfold pre; simp [dval_nil]⟩ (by simp; omega)
  simp only [circaref14_Magnitude, this, ob]
  by_cases h : dval 0 d * 10 ^ x ≤ E16
  · rw [if_pos h, if_pos h]
  · rw [if_neg h, if_neg h]
def okM (d : List UInt8) (x : Int) : Prop := (∀ c ∈ d, isDig c = true) ∧ 1 ≤ d.length ∧ d.length ≤ 17 ∧ d.head? ≠ some 48 ∧ 0 ≤ x ∧ x ≤ 16 ∧ ¬ (x = 0 ∧ d.length < 5) ∧ dval 0 d * 10 ^ x.toNat ≤ E16
def okL (d : List UInt8) (x s : Int) : Prop := okM d x ∧ 0 ≤ s ∧ s ≤ (d.length : Int) + x
def okS (g : Bool) (d : List UInt8) (x s : Int) : Prop := d.length = 4 ∧ (∀ c ∈ d, isDig c = true ∨ c = 88) ∧ x = 0 ∧ ¬ (g = true ∧ all0 d = true) ∧ 0 ≤ s ∧ s ≤ 4 ∧ ¬ (0 < s ∧ hasX d = true)
def okY (g l : Bool) (d : List UInt8) (x s : Int) : Prop := if l = true then okL d x s else okS g d x s
instance (d : List UInt8) (x : Int) : Decidable (okM d x) := by unfold okM; infer_instance
instance (d : List UInt8) (x s : Int) : Decidable (okL d x s) := by unfold okL; infer_instance
instance (g : Bool) (d : List UInt8) (x s : Int) : Decidable (okS g d x s) := by unfold okS; infer_instance
instance (g l : Bool) (d : List UInt8) (x s : Int) : Decidable (okY g l d x s) := by unfold okY; infer_instance
theorem all_dig (d : List UInt8) : d.all isDig = true ↔ ∀ c ∈ d, isDig c = true := List.all_eq_true
theorem all_digX (d : List UInt8) : (d.all fun c => isDig c || c == 88) = true ↔ ∀ c ∈ d, isDig c = true ∨ c = 88 := by
  rw [List.all_eq_true]
  constructor
  · intro h c hc
    have := h c hc
    simpa using this
  · intro h c hc
    have := h c hc
    simpa using this
theorem u8_48 (c : UInt8) : (((c.toNat : Nat) : Int) == 48) = (c == 48) := u8_beq c 48
theorem long_eq (n : Nat) (g l : Bool) (d : List UInt8) (x s : Int) (hn : 200 < n) (hd : d.length ≤ 100) : yearforms_checkLong n g l d x s = some (decide (okM d x)) := by
  unfold yearforms_checkLong
  by_cases h1 : d.length < 1
  · have e : decide (((d.length : Nat) : Int) < 1) = true := decide_eq_true (by omega)
    rw [e, decide_eq_false (fun h : okM d x => by have := h.2.1; omega)]; rfl
  · have e : decide (((d.length : Nat) : Int) < 1) = false := decide_eq_false (by omega)
    rw [e, cond_false]
    by_cases h2 : d.length > 17
    · have e : decide (((d.length : Nat) : Int) > 17) = true := decide_eq_true (by omega)
      rw [e, decide_eq_false (fun h : okM d x => by have := h.2.2.1; omega)]; rfl
    · have e : decide (((d.length : Nat) : Int) > 17) = false := decide_eq_false (by omega)
      rw [e, cond_false, only_digs n d (by omega) (by omega)]
      simp only [ob]
      cases h3 : d.all isDig with
      | false =>
        rw [decide_eq_false (fun h : okM d x => by rw [(all_dig d).2 h.1] at h3; cases h3)]; rfl
      | true =>
        have hdig := (all_dig d).1 h3
        obtain ⟨c, r, rfl⟩ : ∃ c r, d = c :: r := by
          cases d with
          | nil => simp at h1
          | cons c r => exact ⟨c, r, rfl⟩
        have hsx : sx (c :: r) 0 = some c := by simp [sx]
        simp only [Bool.not_true, cond_false, hsx, u8_48]
        by_cases h4 : c = 48
        · rw [decide_eq_false (fun h : okM (c :: r) x => h.2.2.2.1 (by rw [h4]; rfl)), h4]; rfl
        · have e : (c == 48) = false := beq_eq_false_iff_ne.2 h4
          rw [e, cond_false]
          by_cases h5 : x < 0
          · rw [decide_eq_true h5, decide_eq_false (fun h : okM (c :: r) x => by have := h.2.2.2.2.1; omega)]; rfl
          · rw [decide_eq_false h5, cond_false]
            by_cases h6 : x > 16
            · rw [decide_eq_true h6, decide_eq_false (fun h : okM (c :: r) x => by have := h.2.2.2.2.2.1; omega)]; rfl
            · rw [decide_eq_false h6, cond_false]
              obtain ⟨k, rfl⟩ : ∃ k : Nat, x = (k : Int) := ⟨x.toNat, by omega⟩
              have hmg := magn_eq n g l (c :: r) k s hdig (by simp) (by omega) (by omega) (by omega)
              rw [hmg]
              have key : ¬ ((k : Int) = 0 ∧ (c :: r).length < 5) → (okM (c :: r) (k : Int) ↔ dval 0 (c :: r) * 10 ^ k ≤ E16) := by
                intro hk
                constructor
                · intro h
                  simpa using h.2.2.2.2.2.2.2
                · intro h
                  exact ⟨hdig, by omega, by omega, by simpa using h4, by omega, by omega, hk, by simpa using h⟩
              have fin : ¬ ((k : Int) = 0 ∧ (c :: r).length < 5) → (ob (some (if dval 0 (c :: r) * 10 ^ k ≤ E16 then (((dval 0 (c :: r) * 10 ^ k : Nat) : Int), (0 : Int)) else (0, 6))) fun q => (some (q.2 == 0))) = some (decide (okM (c :: r) (k : Int))) := by
                intro hk
                by_cases h7 : dval 0 (c :: r) * 10 ^ k ≤ E16
                · rw [if_pos h7, decide_eq_true ((key hk).2 h7)]; rfl
                · rw [if_neg h7, decide_eq_false (fun h => h7 ((key hk).1 h))]; rfl
              by_cases h8 : (k : Int) = 0
              · have e : ((k : Int) == 0) = true := beq_iff_eq.2 h8
                rw [e, cond_true]
                by_cases h9 : (c :: r).length < 5
                · have e : decide ((((c :: r).length : Nat) : Int) < 5) = true := decide_eq_true (by omega)
                  rw [e, decide_eq_false (fun h : okM (c :: r) (k : Int) => h.2.2.2.2.2.2.1 ⟨h8, h9⟩)]; rfl
                · have e : decide ((((c :: r).length : Nat) : Int) < 5) = false := decide_eq_false (by omega)
                  rw [e, cond_false]
                  exact fin (fun h => h9 h.2)
              · have e : ((k : Int) == 0) = false := beq_eq_false_iff_ne.2 h8
                rw [e, cond_false]
                exact fin (fun h => h8 h.1)
theorem sig_tail (n : Nat) (g l : Bool) (d : List UInt8) (x s : Int) (hn : 200 < n) (hd : d.length ≤ 100) :
    (ob (yearforms_checkLong n g l d x s) fun r => (cond (!r) (some (6 : Int)) (cond (decide (s < 0)) (some 6) (cond (decide (s > (IntKind.wrap .i64 (((d.length : Nat) : Int) + x)))) (some 6) (some 0))))) = some (if okL d x s then 0 else 6) := by
  rw [long_eq n g l d x s hn hd]
  simp only [ob]
  by_cases h : okM d x
  · rw [decide_eq_true h]
    have hx := h.2.2.2.2
    have w : IntKind.wrap .i64 (((d.length : Nat) : Int) + x) = ((d.length : Nat) : Int) + x := wrap_i64 _ (by omega) (by omega)
    rw [w]
    simp only [Bool.not_true, cond_false, cond_dec]
    by_cases h1 : s < 0
    · rw [if_pos h1, if_neg (fun q : okL d x s => by have := q.2.1; omega)]
    · rw [if_neg h1]
      by_cases h2 : s > ((d.length : Nat) : Int) + x
      · rw [if_pos h2, if_neg (fun q : okL d x s => by have := q.2.2; omega)]
      · rw [if_neg h2, if_pos ⟨h, by omega, by omega⟩]
  · rw [decide_eq_false h, if_neg (fun q : okL d x s => h q.1)]; rfl
theorem yf_Check (n : Nat) (g l : Bool) (d : List UInt8) (x s : Int) (hn : 200 < n) (hd : d.length ≤ 100) : yearforms_Check n g l d x s = some (if okY g l d x s then 0 else 6) := by
  obtain ⟨y, ht, hy⟩ := trim_eq n d (by omega) (by omega)
  unfold yearforms_Check
  rw [only_digsX n d (by omega) (by omega), ht, yf_Masked]
  cases l with
  | true =>
    have hok : (if okY g true d x s then (0 : Int) else 6) = if okL d x s then 0 else 6 := by simp only [okY, if_true]
    rw [hok]
    have st := sig_tail n g true d x s hn hd
    simp only [cond_true]
    generalize (ob (yearforms_checkLong n g true d x s) fun r => (cond (!r) (some (6 : Int)) (cond (decide (s < 0)) (some 6) (cond (decide (s > (IntKind.wrap .i64 (((d.length : Nat) : Int) + x)))) (some 6) (some 0))))) = T at st ⊢
    simp only [ob]
    rw [st]
    cases (((d.length : Nat) : Int) == 4) <;> cases (d.all fun c => isDig c || c == 88) <;> cases (x == 0) <;> cases g <;> cases (y == []) <;> cases (s != 0) <;> rfl
  | false =>
    have hok : (if okY g false d x s then (0 : Int) else 6) = if okS g d x s then 0 else 6 := by simp only [okY, Bool.false_eq_true, if_false]
    rw [hok]
    simp only [cond_false, ob]
    by_cases h1 : d.length = 4
    · have e1 : (((d.length : Nat) : Int) == 4) = true := beq_iff_eq.2 (by omega)
      rw [e1, cond_true]
      cases h2 : (d.all fun c => isDig c || c == 88) with
      | false =>
        rw [if_neg (fun q : okS g d x s => by rw [(all_digX d).2 q.2.1] at h2; cases h2)]; rfl
      | true =>
        have hdX := (all_digX d).1 h2
        rw [cond_true]
        by_cases h3 : x = 0
        · subst h3
          have w : IntKind.wrap .i64 (((d.length : Nat) : Int) + 0) = 4 := by rw [h1]; decide
          rw [w]
          have tail : ¬ (g = true ∧ all0 d = true) → (cond (s != 0) (cond (!(!hasX d)) (some (6 : Int)) (cond (decide (s < 0)) (some 6) (cond (decide (s > 4)) (some 6) (some 0)))) (cond (decide (s < 0)) (some 6) (cond (decide (s > 4)) (some 6) (some 0)))) = some (if okS g d 0 s then 0 else 6) := by
            intro hg
            simp only [cond_dec, cond_bne, Bool.not_not]
            by_cases s0 : s = 0
            · subst s0
              rw [if_pos rfl, if_neg (by omega), if_neg (by omega), if_pos ⟨h1, hdX, rfl, hg, by omega, by omega, by omega⟩]
            · rw [if_neg s0]
              cases hX : hasX d with
              | true =>
                by_cases s1 : s < 0
                · rw [if_neg (fun q : okS g d 0 s => by have := q.2.2.2.2.1; omega)]; rfl
                · rw [if_neg (fun q : okS g d 0 s => q.2.2.2.2.2.2 ⟨by omega, hX⟩)]; rfl
              | false =>
                rw [cond_false]
                by_cases s1 : s < 0
                · rw [if_pos s1, if_neg (fun q : okS g d 0 s => by have := q.2.2.2.2.1; omega)]
                · rw [if_neg s1]
                  by_cases s2 : s > 4
                  · rw [if_pos s2, if_neg (fun q : okS g d 0 s => by have := q.2.2.2.2.2.1; omega)]
                  · rw [if_neg s2, if_pos ⟨h1, hdX, rfl, hg, by omega, by omega, fun q => by rw [hX] at q; cases q.2⟩]
          have e3 : ((0 : Int) == 0) = true := rfl
          rw [e3, cond_true]
          cases g with
          | false =>
            simp only [cond_false]
            exact tail (by simp)
          | true =>
            simp only [cond_true]
            rw [hy]
            cases h4 : all0 d with
            | true => rw [if_neg (fun q : okS true d 0 s => q.2.2.2.1 ⟨rfl, h4⟩)]; rfl
            | false =>
              simp only [Bool.not_false, cond_true]
              exact tail (by rw [h4]; simp)
        · have e3 : (x == 0) = false := beq_eq_false_iff_ne.2 h3
          rw [e3, if_neg (fun q : okS g d x s => h3 q.2.2.1)]; rfl
    · have e1 : (((d.length : Nat) : Int) == 4) = false := beq_eq_false_iff_ne.2 (by omega)
      rw [e1, if_neg (fun q : okS g d x s => h1 q.1)]; rfl
theorem cnt_dig (d : List UInt8) : cnt 48 57 d = d.length ↔ ∀ c ∈ d, isDig c = true := cnt_all 48 57 d
theorem ref_Check (n : Nat) (g l : Bool) (d : List UInt8) (x s : Int) (hn : 200 < n) (hd : d.length ≤ 100) : circaref14_Check n g l d x s = some (if okY g l d x s then 1 else 0) := by
  have hs := cnt_sum d
  have hXc := hasX_cnt d
  have h0c := all0_cnt d
  have hDc := cnt_dig d
  unfold circaref14_Check
  rw [has_eq n d 48 57 (by omega) (by omega), has_eq n d 88 88 (by omega) (by omega), has_eq n d 48 48 (by omega) (by omega)]
  simp only [ob]
  generalize hA : cnt 48 57 d = A at *
  generalize hB : cnt 88 88 d = B at *
  have w0 : IntKind.wrap .i64 (((A : Nat) : Int) + ((B : Nat) : Int)) = ((A + B : Nat) : Int) := by rw [wrap_i64 _ (by omega) (by omega)]; omega
  rw [w0]
  simp only [cond_bne, cond_dec, cond_neg]
  by_cases h1 : A + B = d.length
  · rw [if_pos (by omega)]
    have hdX := hs.2.1 h1
    by_cases h2 : s < 0
    · rw [if_pos h2, if_neg]
      intro q
      unfold okY at q
      split at q
      · have := q.2.1; omega
      · have := q.2.2.2.2.1; omega
    · rw [if_neg h2]
      cases l with
      | false =>
        have hok : (if okY g false d x s then (1 : Int) else 0) = if okS g d x s then 1 else 0 := by simp only [okY, Bool.false_eq_true, if_false]
        rw [hok, cond_false]
        by_cases h3 : d.length = 4
        · rw [if_pos (by omega)]
          by_cases h4 : x = 0
          · rw [if_pos h4]
            have tail : ¬ (g = true ∧ all0 d = true) → (if s > 4 then some (0 : Int) else if s > 0 then (if ((B : Nat) : Int) > 0 then some 0 else some 1) else some 1) = some (if okS g d x s then 1 else 0) := by
              intro hg
              by_cases s2 : s > 4
              · rw [if_pos s2, if_neg (fun q : okS g d x s => by have := q.2.2.2.2.2.1; omega)]
              · rw [if_neg s2]
                by_cases s3 : s > 0
                · rw [if_pos s3]
                  by_cases hb : ((B : Nat) : Int) > 0
                  · rw [if_pos hb, if_neg (fun q : okS g d x s => q.2.2.2.2.2.2 ⟨by omega, by rw [hXc]; exact decide_eq_true (by omega)⟩)]
                  · rw [if_neg hb, if_pos ⟨h3, hdX, h4, hg, by omega, by omega, fun q => by
                      have := q.2
                      rw [hXc, decide_eq_true_eq] at this
                      omega⟩]
                · rw [if_neg s3, if_pos ⟨h3, hdX, h4, hg, by omega, by omega, fun q => by omega⟩]
            cases g with
            | false => rw [cond_false]; exact tail (by simp)
            | true =>
              rw [cond_true, cond_beq]
              by_cases h5 : all0 d = true
              · rw [if_pos (by have := h0c.1 h5; omega), if_neg (fun q : okS true d x s => q.2.2.2.1 ⟨rfl, h5⟩)]
              · rw [if_neg (fun q => h5 (h0c.2 (by omega)))]
                exact tail (fun q => h5 q.2)
          · rw [if_neg h4, if_neg (fun q : okS g d x s => h4 q.2.2.1)]
        · rw [if_neg (by omega), if_neg (fun q : okS g d x s => h3 q.1)]
      | true =>
        have hok : (if okY g true d x s then (1 : Int) else 0) = if okL d x s then 1 else 0 := by simp only [okY, if_true]
        rw [hok, cond_true]
        by_cases hb : ((B : Nat) : Int) > 0
        · rw [if_pos hb, if_neg]
          intro q
          have := hDc.2 q.1.1
          omega
        · rw [if_neg hb]
          have hdig := hDc.1 (by omega)
          by_cases h3 : ((A : Nat) : Int) < 1
          · rw [if_pos h3, if_neg (fun q : okL d x s => by have := q.1.2.1; omega)]
          · rw [if_neg h3]
            by_cases h4 : ((A : Nat) : Int) > 17
            · rw [if_pos h4, if_neg (fun q : okL d x s => by have := q.1.2.2.1; omega)]
            · rw [if_neg h4]
              obtain ⟨c, r, rfl⟩ : ∃ c r, d = c :: r := by
                cases d with
                | nil => simp at h1; omega
                | cons c r => exact ⟨c, r, rfl⟩
              have hsx : sx (c :: r) 0 = some c := by simp [sx]
              simp only [hsx, u8_48, cond_beq]
              by_cases h5 : c = 48
              · rw [if_pos h5, if_neg (fun q : okL (c :: r) x s => q.1.2.2.2.1 (by rw [h5]; rfl))]
              · rw [if_neg h5]
                by_cases h6 : x < 0
                · rw [if_pos h6, if_neg (fun q : okL (c :: r) x s => by have := q.1.2.2.2.2.1; omega)]
                · rw [if_neg h6]
                  by_cases h7 : x > 16
                  · rw [if_pos h7, if_neg (fun q : okL (c :: r) x s => by have := q.1.2.2.2.2.2.1; omega)]
                  · rw [if_neg h7]
                    obtain ⟨k, rfl⟩ : ∃ k : Nat, x = (k : Int) := ⟨x.toNat, by omega⟩
                    have w1 : IntKind.wrap .i64 (((A : Nat) : Int) + (k : Int)) = ((A + k : Nat) : Int) := by rw [wrap_i64 _ (by omega) (by omega)]; omega
                    rw [w1, refMagn_eq n (c :: r) k hdig hd (by omega) (by omega)]
                    have hlen : (c :: r).length = A := by omega
                    have tail : ¬ ((k : Int) = 0 ∧ (c :: r).length < 5) → (if s > ((A + k : Nat) : Int) then some (0 : Int) else some (if dval 0 (c :: r) * 10 ^ k ≤ E16 then (((dval 0 (c :: r) * 10 ^ k : Nat) : Int), (1 : Int)) else (0, 0)).2) = some (if okL (c :: r) (k : Int) s then 1 else 0) := by
                      intro hk
                      by_cases s2 : s > ((A + k : Nat) : Int)
                      · rw [if_pos s2, if_neg (fun q : okL (c :: r) (k : Int) s => by have := q.2.2; rw [hlen] at this; omega)]
                      · rw [if_neg s2]
                        by_cases h8 : dval 0 (c :: r) * 10 ^ k ≤ E16
                        · rw [if_pos h8, if_pos ⟨⟨hdig, by omega, by omega, by simpa using h5, by omega, by omega, hk, by simpa using h8⟩, by omega, by omega⟩]
                        · rw [if_neg h8, if_neg (fun q : okL (c :: r) (k : Int) s => h8 (by simpa using q.1.2.2.2.2.2.2.2))]
                    by_cases h8 : (k : Int) = 0
                    · rw [if_pos h8]
                      by_cases h9 : ((A : Nat) : Int) < 5
                      · rw [if_pos h9, if_neg (fun q : okL (c :: r) (k : Int) s => q.1.2.2.2.2.2.2.1 ⟨h8, by omega⟩)]
                      · rw [if_neg h9]
                        exact tail (fun q => by omega)
                    · rw [if_neg h8]
                      exact tail (fun q => h8 q.1)
  · rw [if_neg (by omega), if_neg]
    intro q
    apply h1
    rw [hs.2]
    unfold okY at q
    split at q
    · exact fun c hc => .inl (q.1.1 c hc)
    · exact q.2.1
theorem dval_ge : ∀ (l : List UInt8) (acc : Nat), acc * 10 ^ l.length ≤ dval acc l
  | [], acc => by rw [dval_nil]; simp
  | c :: l, acc => by
    have ih := dval_ge l (dstep acc c)
    rw [dval_cons, List.length_cons, Nat.pow_succ]
    have h : acc * 10 ≤ dstep acc c := Nat.le_add_right _ _
    have h2 := Nat.mul_le_mul_right (10 ^ l.length) h
    have h3 : acc * (10 ^ l.length * 10) = acc * 10 * 10 ^ l.length := by rw [Nat.mul_comm (10 ^ l.length) 10, Nat.mul_assoc]
    omega
theorem dval_lt : ∀ (l : List UInt8) (acc k : Nat), (∀ c ∈ l, isDig c = true) → acc < 10 ^ k → dval acc l < 10 ^ (l.length + k)
  | [], acc, k, _, h => by rw [dval_nil]; simpa using h
  | c :: l, acc, k, hd, h => by
    have hc := (isDig_iff c).1 (hd c (by simp))
    have hp : (10 : Nat) ^ (k + 1) = 10 ^ k * 10 := Nat.pow_succ 10 k
    have hs : dstep acc c = acc * 10 + (c.toNat - 48) := rfl
    have ih := dval_lt l (dstep acc c) (k + 1) (fun d hd' => hd d (by simp [hd'])) (by omega)
    rw [dval_cons, List.length_cons, show l.length + 1 + k = l.length + (k + 1) by omega]
    exact ih
structure Num (d : List UInt8) (k q : Nat) : Prop where
  dig : ∀ c ∈ d, isDig c = true
  ne : d ≠ []
  wide : d.length + k ≤ 17
  small : dval 0 d * 10 ^ k ≤ E16
  sig : q ≤ d.length + k
theorem hasX_dig {d : List UInt8} (h : ∀ c ∈ d, isDig c = true) : hasX d = false := by
  unfold hasX
  rw [List.any_eq_false]
  intro c hc he
  rw [beq_iff_eq] at he
  have := (isDig_iff c).1 (h c hc)
  rw [he] at this
  exact absurd this.2 (by decide)
theorem ok_num {g l : Bool} {d : List UInt8} {x s : Int} (h : okY g l d x s) (hX : hasX d = false) : ∃ k q : Nat, x = (k : Int) ∧ s = (q : Int) ∧ Num d k q := by
  cases l with
  | true =>
    have h : okL d x s := by simpa [okY] using h
    obtain ⟨⟨h1, h2, h3, h4, h5, h6, h7, h8⟩, h9, h10⟩ := h
    refine ⟨x.toNat, s.toNat, by omega, by omega, h1, by intro e; subst e; simp at h2, ?_, h8, by omega⟩
    cases d with
    | nil => simp at h2
    | cons c r =>
      have hc := (isDig_iff c).1 (h1 c (by simp))
      have hne : c ≠ 48 := by simpa using h4
      have hc0 : 1 ≤ dstep 0 c := by
        have : c.toNat ≠ 48 := fun e => hne (UInt8.toNat_inj.1 e)
        show 1 ≤ 0 * 10 + (c.toNat - 48)
        omega
      have hg := dval_ge r (dstep 0 c)
      rw [← dval_cons] at hg
      have h9 : 10 ^ r.length ≤ dval 0 (c :: r) := by
        have := Nat.mul_le_mul_right (10 ^ r.length) hc0
        omega
      have h11 := Nat.mul_le_mul_right (10 ^ x.toNat) h9
      rw [← Nat.pow_add] at h11
      rcases Nat.lt_or_ge (r.length + x.toNat) 17 with hlt | hge
      · simp only [List.length_cons]; omega
      · have := pow_big hge
        omega
  | false =>
    have h : okS g d x s := by simpa [okY] using h
    obtain ⟨h1, h2, h3, h4, h5, h6, h7⟩ := h
    have hd : ∀ c ∈ d, isDig c = true := by
      intro c hc
      rcases h2 c hc with h | h
      · exact h
      · exfalso
        unfold hasX at hX
        rw [List.any_eq_false] at hX
        exact hX c hc (beq_iff_eq.2 h)
    have hlt := dval_lt d 0 0 hd (by simp)
    rw [h1] at hlt
    refine ⟨0, s.toNat, by omega, by omega, hd, by intro e; subst e; simp at h1, by omega, ?_, by omega⟩
    have h4 : (10 : Nat) ^ (4 + 0) = 10000 := by decide
    unfold E16
    simp only [Nat.pow_zero, Nat.mul_one]
    omega
def val (d : List UInt8) (k : Nat) : Nat := dval 0 d * 10 ^ k
theorem yf_Value (n : Nat) (g l : Bool) (d : List UInt8) (x s : Int) (hn : 200 < n) (hd : d.length ≤ 100) :
    yearforms_Value n g l d x s = some (if okY g l d x s ∧ hasX d = false then (if g then -((val d x.toNat : Nat) : Int) else ((val d x.toNat : Nat) : Int), 0) else (0, 6)) := by
  unfold yearforms_Value
  rw [yf_Check n g l d x s hn hd, yf_Masked]
  simp only [ob]
  by_cases h : okY g l d x s
  · rw [if_pos h]
    cases hX : hasX d with
    | true => rw [if_neg (by simp)]; rfl
    | false =>
      rw [if_pos ⟨h, rfl⟩]
      obtain ⟨k, q, rfl, rfl, hN⟩ := ok_num h hX
      rw [magn_eq n g l d k q hN.dig hN.ne (by have := hN.wide; omega) (by have := hN.wide; omega) (by omega), if_pos hN.small]
      have hs := hN.small
      unfold E16 at hs
      cases g with
      | true =>
        simp only [bne_self_eq_false, cond_false, cond_true, Int.toNat_natCast, val, if_true]
        rw [wrap_i64 _ (by omega) (by omega), Int.zero_sub]
      | false => simp [val]
  · rw [if_neg h, if_neg (fun q => h q.1)]; rfl
theorem cat_ok {a b : List UInt8} (h : a.length + b.length ≤ 1000000) : cat a b = some (a ++ b) := by
  unfold cat; rw [if_pos (by omega)]
theorem cut1 {l : List UInt8} {i : Nat} {c : UInt8} (h : l[i]? = some c) : List.drop i (List.take (i + 1) l) = [c] := by
  have hlt := lt_of_get h
  rw [List.take_add_one, h, List.drop_left' (by rw [List.length_take]; omega)]
  rfl
theorem take1 {l : List UInt8} {i : Nat} {c : UInt8} (h : l[i]? = some c) : List.take (i + 1) l = List.take i l ++ [c] := by
  rw [List.take_add_one, h]; rfl
theorem ok_mask {g l : Bool} {d : List UInt8} {x s : Int} (h : okY g l d x s) (hX : hasX d = true) : l = false ∧ x = 0 ∧ s = 0 ∧ d.length = 4 ∧ ∀ c ∈ d, isDig c = true ∨ c = 88 := by
  cases l with
  | true =>
    have h : okL d x s := by simpa [okY] using h
    rw [hasX_dig h.1.1] at hX
    cases hX
  | false =>
    have h : okS g d x s := by simpa [okY] using h
    obtain ⟨h1, h2, h3, h4, h5, h6, h7⟩ := h
    refine ⟨rfl, h3, ?_, h1, h2⟩
    have : ¬ 0 < s := fun e => h7 ⟨e, hX⟩
    omega
theorem ok_small {g l : Bool} {d : List UInt8} {x s : Int} (h : okY g l d x s) : 0 ≤ x ∧ x ≤ 16 ∧ 0 ≤ s ∧ s ≤ 17 ∧ 1 ≤ d.length ∧ d.length ≤ 17 := by
  cases hX : hasX d with
  | true =>
    obtain ⟨rfl, rfl, rfl, hl, _⟩ := ok_mask h hX
    omega
  | false =>
    obtain ⟨k, q, rfl, rfl, hN⟩ := ok_num h hX
    have h1 := hN.wide
    have h2 := hN.sig
    have h3 : 1 ≤ d.length := by
      cases d with
      | nil => exact absurd rfl hN.ne
      | cons c r => simp
    omega
def numU (d : UInt8) : List UInt8 → Nat ⊕ (Nat × Nat)
  | [] => .inr (d.toNat - 48, 2)
  | e :: _ => if isDig e = true then .inr (10 * (d.toNat - 48) + (e.toNat - 48), 3) else .inr (d.toNat - 48, 2)
def numT : List UInt8 → Nat ⊕ (Nat × Nat)
  | [] => .inl 1
  | d :: r => if 49 ≤ d.toNat ∧ d.toNat ≤ 57 then numU d r else .inl 1
def numS (letter : UInt8) : List UInt8 → Nat ⊕ (Nat × Nat)
  | [] => .inr (0, 0)
  | c :: r => if c = letter then numT r else .inr (0, 0)
theorem numS_nil (letter : UInt8) : numS letter [] = .inr (0, 0) := rfl
theorem numS_cons (letter c : UInt8) (r : List UInt8) : numS letter (c :: r) = if c = letter then numT r else .inr (0, 0) := rfl
theorem numT_nil : numT [] = .inl 1 := rfl
theorem numT_cons (d : UInt8) (r : List UInt8) : numT (d :: r) = if 49 ≤ d.toNat ∧ d.toNat ≤ 57 then numU d r else .inl 1 := rfl
theorem numU_nil (d : UInt8) : numU d [] = .inr (d.toNat - 48, 2) := rfl
theorem numU_cons (d e : UInt8) (r : List UInt8) : numU d (e :: r) = if isDig e = true then .inr (10 * (d.toNat - 48) + (e.toNat - 48), 3) else .inr (d.toNat - 48, 2) := rfl
theorem encode_low (c : UInt8) (h : c.toNat < 128) : (Utf8.encode ((c.toNat : Nat) : Int)).data.toList = [c] := by
  have := u8_forall (fun c => (decide (128 ≤ c.toNat)) || (Utf8.encode ((c.toNat : Nat) : Int)).data.toList == [c]) (by decide +kernel) c
  simp only [Bool.or_eq_true, decide_eq_true_eq, beq_iff_eq] at this
  rcases this with h2 | h2
  · omega
  · exact h2
theorem digitVal_dig {c : UInt8} (h : 48 ≤ c.toNat ∧ c.toNat ≤ 57) : Lib.digitVal c = some (c.toNat - 48) := by
  unfold Lib.digitVal; rw [if_pos h]
theorem atoi_plain {c : UInt8} (h : 48 ≤ c.toNat ∧ c.toNat ≤ 57) (r : List UInt8) : Lib.atoi (c :: r) = (Lib.decNat (c :: r)).map fun (m : Nat) => (m : Int) := by
  have e1 : (c == 45) = false := by
    rw [beq_eq_false_iff_ne]; rintro rfl; exact absurd h.1 (by decide)
  have e2 : (c == 43) = false := by
    rw [beq_eq_false_iff_ne]; rintro rfl; exact absurd h.1 (by decide)
  simp only [Lib.atoi, e1, e2, Bool.false_eq_true, if_false]
theorem atoi_one {c : UInt8} (h : 48 ≤ c.toNat ∧ c.toNat ≤ 57) : Lib.atoi [c] = some ((c.toNat - 48 : Nat) : Int) := by
  rw [atoi_plain h]
  simp only [Lib.decNat, List.isEmpty_cons, Bool.false_eq_true, if_false, Lib.decFrom, digitVal_dig h, Option.map_some, Nat.zero_mul, Nat.zero_add]
theorem atoi_two {c e : UInt8} (h : 48 ≤ c.toNat ∧ c.toNat ≤ 57) (he : 48 ≤ e.toNat ∧ e.toNat ≤ 57) : Lib.atoi [c, e] = some ((10 * (c.toNat - 48) + (e.toNat - 48) : Nat) : Int) := by
  rw [atoi_plain h]
  simp only [Lib.decNat, List.isEmpty_cons, Bool.false_eq_true, if_false, Lib.decFrom, digitVal_dig h, digitVal_dig he, Option.map_some, Nat.zero_mul, Nat.zero_add]
  rw [Nat.mul_comm]
theorem hasB_first (c : UInt8) : hasB [49, 50, 51, 52, 53, 54, 55, 56, 57] c = decide (49 ≤ c.toNat ∧ c.toNat ≤ 57) := by
  have := u8_forall (fun c => hasB [49, 50, 51, 52, 53, 54, 55, 56, 57] c == decide (49 ≤ c.toNat ∧ c.toNat ≤ 57)) (by decide +kernel) c
  simpa using this
theorem spanN_congr {p q : UInt8 → Bool} (h : ∀ c, p c = q c) : ∀ (k : Nat) (l : List UInt8), spanN p k l = spanN q k l
  | 0, _ => by simp [spanN]
  | _ + 1, [] => by simp [spanN]
  | k + 1, c :: l => by simp only [spanN, h c, spanN_congr h k l]
theorem drop_lt {S : List UInt8} {a : Nat} {c : UInt8} {r : List UInt8} (h : S.drop a = c :: r) : a < S.length ∧ S[a]? = some c ∧ S.drop (a + 1) = r := by
  have hlt : a < S.length := by
    rcases Nat.lt_or_ge a S.length with q | q
    · exact q
    · rw [List.drop_eq_nil_of_le q] at h; cases h
  have hg : S[a]? = some S[a] := List.getElem?_eq_getElem hlt
  have hd := drop_get hg
  rw [h] at hd
  injection hd with h1 h2
  exact ⟨hlt, by rw [hg, h1], h2.symm⟩
theorem yf_num (n : Nat) (letter : UInt8) (S : List UInt8) (at_ : Nat) (h : at_ ≤ S.length) (hS : S.length < 100000) (hn : S.length < n) :
    yearforms_Read_1 n [letter] S (at_ : Int) = some (match numS letter (S.drop at_) with | .inl k => .inr (((at_ + k : Nat) : Int), 5, S, ((at_ + k : Nat) : Int)) | .inr (v, k) => .inl ((v : Int), S, ((at_ + k : Nat) : Int))) := by
  unfold yearforms_Read_1
  rw [cur_Take n [letter] S at_ h (by omega)]
  cases hd : S.drop at_ with
  | nil => simp [numS_nil]
  | cons c r =>
    obtain ⟨hlt, hg, hr⟩ := drop_lt hd
    rw [numS_cons]
    by_cases hc : c = letter
    · have htk : List.take [letter].length (c :: r) = [letter] := by simp [hc]
      have hl1 : at_ + [letter].length = at_ + 1 := rfl
      rw [if_pos htk, hl1, if_pos hc]
      clear htk
      simp only [ob, Bool.not_true, cond_false]
      rw [cur_One n _ S (at_ + 1) (by omega) (by omega), hr]
      cases r with
      | nil => simp [numT_nil]
      | cons d r2 =>
        obtain ⟨hlt2, hg2, hr2⟩ := drop_lt hr
        rw [numT_cons]
        simp only [hasB_first, decide_eq_true_eq]
        by_cases hd1 : 49 ≤ d.toNat ∧ d.toNat ≤ 57
        · rw [if_pos hd1, if_pos hd1]
          simp only []
          rw [cur_Some n _ 0 1 S (at_ + 1 + 1) (by omega) (by omega) hn, hr2]
          have hk := spanN_le (hasB [48, 49, 50, 51, 52, 53, 54, 55, 56, 57]) (1 : Int).toNat r2
          rw [if_neg (by omega)]
          rw [spanN_congr hasB_digs]
          simp only []
          rw [encode_low d (by omega)]
          have hb1 : Nat.ble ([d] : List UInt8).length 18 = true := rfl
          have hb2 : ∀ e : UInt8, Nat.ble ([d, e] : List UInt8).length 18 = true := fun _ => rfl
          have p2 : at_ + 1 + 1 = at_ + 2 := rfl
          have p3 : at_ + 2 + 1 = at_ + 3 := rfl
          have ad := atoi_one (show 48 ≤ d.toNat ∧ d.toNat ≤ 57 by omega)
          cases r2 with
          | nil =>
            have hs : spanN isDig (1 : Int).toNat [] = 0 := rfl
            rw [hs, numU_nil]
            rw [cat_ok (by simp)]
            simp only [List.take_nil, List.append_nil, Nat.add_zero, hb1, cond_true, ad, opt, p2]
          | cons e r3 =>
            by_cases he : isDig e = true
            · have hs : spanN isDig (1 : Int).toNat (e :: r3) = 1 := by
                show spanN isDig (0 + 1) (e :: r3) = 1
                simp [spanN, he]
              have ade := atoi_two (show 48 ≤ d.toNat ∧ d.toNat ≤ 57 by omega) ((isDig_iff e).1 he)
              rw [hs, numU_cons, if_pos he]
              have ht : List.take 1 (e :: r3) = [e] := rfl
              rw [ht, cat_ok (by simp)]
              simp only [List.cons_append, List.nil_append, hb2, cond_true, ade, opt, p2, p3]
            · have hs : spanN isDig (1 : Int).toNat (e :: r3) = 0 := by
                show spanN isDig (0 + 1) (e :: r3) = 0
                simp [spanN, he]
              rw [hs, numU_cons, if_neg he]
              have ht : List.take 0 (e :: r3) = [] := rfl
              rw [ht, cat_ok (by simp)]
              simp only [List.append_nil, hb1, cond_true, ad, opt, Nat.add_zero, p2]
        · rw [if_neg hd1, if_neg hd1]
    · have e : ¬ List.take [letter].length (c :: r) = [letter] := by simp [hc]
      rw [if_neg e, if_neg hc]
      simp
theorem ref_num (n : Nat) (letter : UInt8) (S : List UInt8) (at_ : Nat) (h : at_ ≤ S.length) (hS : S.length < 100000) :
    circaref14_number n S (at_ : Int) ((letter.toNat : Nat) : Int) = some (match numS letter (S.drop at_) with | .inl k => (-1, ((at_ + k : Nat) : Int)) | .inr (v, k) => ((v : Int), ((at_ + k : Nat) : Int))) := by
  unfold circaref14_number
  rw [nat_dec_ge]
  cases hd : S.drop at_ with
  | nil =>
    have : S.length ≤ at_ := by
      rcases Nat.lt_or_ge at_ S.length with q | q
      · rw [drop_get (List.getElem?_eq_getElem q)] at hd; cases hd
      · exact q
    rw [decide_eq_true this]
    simp [numS_nil]
  | cons c r =>
    obtain ⟨hlt, hg, hr⟩ := drop_lt hd
    have w1 : IntKind.wrap .i64 ((at_ : Int) + 1) = ((at_ + 1 : Nat) : Int) := by rw [wrap_i64 _ (by omega) (by omega)]; omega
    have w2 : IntKind.wrap .i64 (((at_ + 1 : Nat) : Int) + 1) = ((at_ + 2 : Nat) : Int) := by rw [wrap_i64 _ (by omega) (by omega)]; omega
    have w3 : IntKind.wrap .i64 (((at_ + 2 : Nat) : Int) + 1) = ((at_ + 3 : Nat) : Int) := by rw [wrap_i64 _ (by omega) (by omega)]; omega
    rw [decide_eq_false (show ¬ S.length ≤ at_ by omega), cond_false, sx_nat hg]
    simp only [ob, w1, w2, w3, nat_dec_ge, nat_dec_lt]
    have hcl : (((c.toNat : Nat) : Int) != ((letter.toNat : Nat) : Int)) = !(c == letter) := by rw [bne, u8_beq]
    rw [hcl, numS_cons]
    by_cases hc : c = letter
    · have e : (!(c == letter)) = false := by rw [hc]; simp
      rw [e, cond_false, if_pos hc]
      cases r with
      | nil =>
        have : S.length ≤ at_ + 1 := by
          rcases Nat.lt_or_ge (at_ + 1) S.length with q | q
          · rw [drop_get (List.getElem?_eq_getElem q)] at hr; cases hr
          · exact q
        rw [decide_eq_true this]; rfl
      | cons d r2 =>
        obtain ⟨hlt2, hg2, hr2⟩ := drop_lt hr
        rw [numT_cons]
        rw [decide_eq_false (show ¬ S.length ≤ at_ + 1 by omega), cond_false, sx_nat hg2]
        simp only []
        by_cases h1 : d.toNat < 49
        · have e1 : decide (((d.toNat : Nat) : Int) < 49) = true := decide_eq_true (by omega)
          rw [e1, cond_true, if_neg (by omega)]
        · have e1 : decide (((d.toNat : Nat) : Int) < 49) = false := decide_eq_false (by omega)
          rw [e1, cond_false]
          by_cases h2 : d.toNat > 57
          · have e2 : decide (((d.toNat : Nat) : Int) > 57) = true := decide_eq_true (by omega)
            rw [e2, cond_true, if_neg (by omega)]
          · have e2 : decide (((d.toNat : Nat) : Int) > 57) = false := decide_eq_false (by omega)
            rw [e2, cond_false, if_pos (by omega)]
            have wd : IntKind.wrap .i64 (IntKind.wrap .u8 (((d.toNat : Nat) : Int) - 48)) = ((d.toNat - 48 : Nat) : Int) := by
              rw [wrap_u8 _ (by omega) (by omega), wrap_i64 _ (by omega) (by omega)]; omega
            rw [wd]
            cases r2 with
            | nil =>
              have : ¬ at_ + 2 < S.length := by
                intro q
                rw [drop_get (List.getElem?_eq_getElem (show at_ + 1 + 1 < S.length from q))] at hr2; cases hr2
              rw [decide_eq_false this, numU_nil]; rfl
            | cons e r3 =>
              obtain ⟨hlt3, hg3, _⟩ := drop_lt hr2
              rw [numU_cons]
              rw [decide_eq_true (show at_ + 2 < S.length from hlt3), cond_true, sx_nat hg3]
              simp only []
              by_cases h3 : e.toNat ≥ 48
              · have e3 : decide (((e.toNat : Nat) : Int) ≥ 48) = true := decide_eq_true (by omega)
                rw [e3, cond_true]
                by_cases h4 : e.toNat ≤ 57
                · have e4 : decide (((e.toNat : Nat) : Int) ≤ 57) = true := decide_eq_true (by omega)
                  have we : IntKind.wrap .i64 (IntKind.wrap .u8 (((e.toNat : Nat) : Int) - 48)) = ((e.toNat - 48 : Nat) : Int) := by
                    rw [wrap_u8 _ (by omega) (by omega), wrap_i64 _ (by omega) (by omega)]; omega
                  have wt : IntKind.wrap .i64 (10 * ((d.toNat - 48 : Nat) : Int)) = ((10 * (d.toNat - 48) : Nat) : Int) := by rw [wrap_i64 _ (by omega) (by omega)]; omega
                  have ws : IntKind.wrap .i64 (((10 * (d.toNat - 48) : Nat) : Int) + ((e.toNat - 48 : Nat) : Int)) = ((10 * (d.toNat - 48) + (e.toNat - 48) : Nat) : Int) := by rw [wrap_i64 _ (by omega) (by omega)]; omega
                  rw [e4, cond_true, if_pos ((isDig_iff e).2 ⟨h3, h4⟩), we, wt, ws]
                · have e4 : decide (((e.toNat : Nat) : Int) ≤ 57) = false := decide_eq_false (by omega)
                  rw [e4, cond_false, if_neg (fun q => h4 ((isDig_iff e).1 q).2)]
              · have e3 : decide (((e.toNat : Nat) : Int) ≥ 48) = false := decide_eq_false (by omega)
                rw [e3, cond_false, if_neg (fun q => h3 ((isDig_iff e).1 q).1)]
    · have e : (!(c == letter)) = true := by rw [beq_eq_false_iff_ne.2 hc]; rfl
      rw [e, cond_true, if_neg hc]
      rfl
def isDX (c : UInt8) : Bool := isDig c || c == 88
abbrev YR := Bool × Bool × List UInt8 × Nat × Nat × Nat
def longS (g : Bool) (o : Nat) : List UInt8 → Nat ⊕ YR
  | [] => .inl o
  | c :: r => if 49 ≤ c.toNat ∧ c.toNat ≤ 57 then
      (match numS 69 ((c :: r).drop (1 + spanN isDig 16 r)) with
      | .inl j => .inl (o + (1 + spanN isDig 16 r) + j)
      | .inr (x, j) => (match numS 83 ((c :: r).drop (1 + spanN isDig 16 r + j)) with
        | .inl i => .inl (o + (1 + spanN isDig 16 r) + j + i)
        | .inr (s, i) => .inr (g, true, (c :: r).take (1 + spanN isDig 16 r), x, s, o + (1 + spanN isDig 16 r) + j + i)))
    else .inl o
def shortS (g : Bool) (o : Nat) (l : List UInt8) : Nat ⊕ YR :=
  if spanN isDX 4 l < 4 then .inl (o + spanN isDX 4 l) else
    (match numS 83 (l.drop 4) with
    | .inl i => .inl (o + 4 + i)
    | .inr (s, i) => .inr (g, false, l.take 4, 0, s, o + 4 + i))
def takes (c : UInt8) (l : List UInt8) : Nat := if l.take 1 = [c] then 1 else 0
def readS (l : List UInt8) : Nat ⊕ YR :=
  if takes 89 l = 1 then longS (takes 45 (l.drop 1) == 1) (1 + takes 45 (l.drop 1)) (l.drop (1 + takes 45 (l.drop 1)))
  else shortS (takes 45 l == 1) (takes 45 l) (l.drop (takes 45 l))
theorem takes_cases (c : UInt8) (l : List UInt8) : takes c l = 0 ∨ takes c l = 1 := by
  unfold takes; split
  · exact .inr rfl
  · exact .inl rfl
theorem takes_le (c : UInt8) (l : List UInt8) : takes c l ≤ l.length := by
  unfold takes; split
  · rename_i h
    cases l with
    | nil => simp at h
    | cons a l => simp
  · omega
theorem cur_takes (n : Nat) (c : UInt8) (S : List UInt8) (at_ : Nat) (h : at_ ≤ S.length) (hS : S.length < 100000) :
    cursors_Cursor_Take n [c] S (at_ : Int) = some (takes c (S.drop at_) == 1, S, ((at_ + takes c (S.drop at_) : Nat) : Int)) := by
  rw [cur_Take n [c] S at_ h (by omega)]
  unfold takes
  have e : [c].length = 1 := rfl
  rw [e]
  split <;> rfl
def yfOut (S : List UInt8) (at_ : Nat) : Nat ⊕ YR → (Int × Int × List UInt8 × Int) ⊕ (Bool × Bool × List UInt8 × Int × Int × List UInt8 × Int)
  | .inl k => .inl (((at_ + k : Nat) : Int), 5, S, ((at_ + k : Nat) : Int))
  | .inr (g, l, d, x, s, k) => .inr (g, l, d, (x : Int), (s : Int), S, ((at_ + k : Nat) : Int))
def refOut (at_ : Nat) : Nat ⊕ YR → Bool × Bool × List UInt8 × Int × Int × Int × Int
  | .inl k => (false, false, [], 0, 0, ((at_ + k : Nat) : Int), 5)
  | .inr (g, l, d, x, s, k) => (g, l, d, (x : Int), (s : Int), ((at_ + k : Nat) : Int), 0)
theorem numS_le (letter : UInt8) (l : List UInt8) : (match numS letter l with | .inl k => k ≤ l.length | .inr (_, k) => k ≤ l.length) := by
  cases l with
  | nil => simp [numS_nil]
  | cons c r =>
    rw [numS_cons]
    by_cases hc : c = letter
    · rw [if_pos hc]
      cases r with
      | nil => simp [numT_nil]
      | cons d r2 =>
        rw [numT_cons]
        by_cases hd : 49 ≤ d.toNat ∧ d.toNat ≤ 57
        · rw [if_pos hd]
          cases r2 with
          | nil => simp [numU_nil]
          | cons e r3 =>
            rw [numU_cons]
            by_cases he : isDig e = true
            · rw [if_pos he]; simp
            · rw [if_neg he]; simp
        · rw [if_neg hd]; simp
    · rw [if_neg hc]; simp
theorem numS_bound {letter : UInt8} {S : List UInt8} {a : Nat} (h : a ≤ S.length) {v k : Nat} (hk : numS letter (S.drop a) = .inr (v, k)) : a + k ≤ S.length := by
  have := numS_le letter (S.drop a)
  rw [hk, List.length_drop] at this
  simp only at this
  omega
theorem yf_long (n : Nat) (S : List UInt8) (at_ o : Nat) (g : Bool) (h : at_ + o ≤ S.length) (hS : S.length < 100000) (hn : S.length < n) :
    (ob (cursors_Cursor_One n [49, 50, 51, 52, 53, 54, 55, 56, 57] S ((at_ + o : Nat) : Int)) fun y336 => (Sum.casesOn (motive := fun _ => Option ((Int × Int × List UInt8 × Int) ⊕ (Bool × Bool × List UInt8 × Int × Int × List UInt8 × Int))) y336 (fun a337 => (some (.inl (a337.1, a337.2.1, a337.2.2.1, a337.2.2.2)))) (fun b338 => (ob (cursors_Cursor_Some n [48, 49, 50, 51, 52, 53, 54, 55, 56, 57] 0 16 b338.2.1 b338.2.2) fun y339 => (Sum.casesOn (motive := fun _ => Option _) y339 (fun a340 => (some (.inl (a340.1, a340.2.1, a340.2.2.1, a340.2.2.2)))) (fun b341 => (ob (cat (Utf8.encode b338.1).data.toList b341.1) fun s342 => (ob (yearforms_Read_1 n [69] b341.2.1 b341.2.2) fun y343 => (Sum.casesOn (motive := fun _ => Option _) y343 (fun a344 => (ob (yearforms_Read_1 n [83] a344.2.1 a344.2.2) fun y346 => (Sum.casesOn (motive := fun _ => Option _) y346 (fun a347 => (some (.inr (g, true, s342, a344.1, a347.1, a347.2.1, a347.2.2)))) (fun b348 => (some (.inl (b348.1, b348.2.1, b348.2.2.1, b348.2.2.2))))))) (fun b345 => (some (.inl (b345.1, b345.2.1, b345.2.2.1, b345.2.2.2))))))))))))) = some (yfOut S at_ (longS g o (S.drop (at_ + o)))) := by
  rw [cur_One n _ S (at_ + o) h (by omega)]
  cases hd : S.drop (at_ + o) with
  | nil => simp [longS, yfOut, ob]
  | cons c r =>
    obtain ⟨hlt, hg, hr⟩ := drop_lt hd
    simp only [hasB_first, decide_eq_true_eq]
    by_cases hc : 49 ≤ c.toNat ∧ c.toNat ≤ 57
    · rw [if_pos hc]
      simp only [ob]
      rw [cur_Some n _ 0 16 S (at_ + o + 1) (by omega) (by omega) hn, hr]
      rw [if_neg (by omega), spanN_congr hasB_digs]
      simp only []
      rw [encode_low c (by omega)]
      have h16 : (16 : Int).toNat = 16 := rfl
      rw [h16]
      have hk := spanN_le isDig 16 r
      have hrl : r.length + (at_ + o + 1) = S.length := by
        have := congrArg List.length hr
        rw [List.length_drop] at this
        omega
      rw [cat_ok (by simp only [List.length_cons, List.length_nil, List.length_take]; omega)]
      simp only [longS]
      rw [if_pos hc]
      generalize hK : spanN isDig 16 r = k at hk ⊢
      have e1 : [c] ++ List.take k r = List.take (1 + k) (c :: r) := by rw [Nat.add_comm]; rfl
      rw [e1]
      have hp1 : at_ + o + 1 + k ≤ S.length := by omega
      have hdr : List.drop (1 + k) (c :: r) = S.drop (at_ + o + 1 + k) := by
        rw [← hd, List.drop_drop]; congr 1; omega
      rw [yf_num n 69 S (at_ + o + 1 + k) hp1 hS hn, ← hdr]
      cases hq : numS 69 (List.drop (1 + k) (c :: r)) with
      | inl j =>
        simp only [yfOut]
        have : at_ + o + 1 + k + j = at_ + (o + (1 + k) + j) := by omega
        rw [this]
      | inr p =>
        obtain ⟨x, j⟩ := p
        have hj := hq
        rw [hdr] at hj
        have hp2 := numS_bound hp1 hj
        have hdr2 : List.drop (1 + k + j) (c :: r) = S.drop (at_ + o + 1 + k + j) := by
          rw [← hd, List.drop_drop]; congr 1; omega
        simp only []
        rw [yf_num n 83 S (at_ + o + 1 + k + j) hp2 hS hn, ← hdr2]
        cases hq2 : numS 83 (List.drop (1 + k + j) (c :: r)) with
        | inl i =>
          simp only [yfOut]
          have : at_ + o + 1 + k + j + i = at_ + (o + (1 + k) + j + i) := by omega
          rw [this]
        | inr p2 =>
          obtain ⟨s, i⟩ := p2
          simp only [yfOut]
          have : at_ + o + 1 + k + j + i = at_ + (o + (1 + k) + j + i) := by omega
          rw [this]
    · rw [if_neg hc]
      simp only [ob, longS]
      rw [if_neg hc]
      rfl
theorem yf_short (n : Nat) (S : List UInt8) (at_ o : Nat) (g : Bool) (h : at_ + o ≤ S.length) (hS : S.length < 100000) (hn : S.length < n) :
    (ob (cursors_Cursor_Some n [88, 48, 49, 50, 51, 52, 53, 54, 55, 56, 57] 4 4 S ((at_ + o : Nat) : Int)) fun y349 => (Sum.casesOn (motive := fun _ => Option ((Int × Int × List UInt8 × Int) ⊕ (Bool × Bool × List UInt8 × Int × Int × List UInt8 × Int))) y349 (fun a350 => (some (.inl (a350.1, a350.2.1, a350.2.2.1, a350.2.2.2)))) (fun b351 => (ob (yearforms_Read_1 n [83] b351.2.1 b351.2.2) fun y352 => (Sum.casesOn (motive := fun _ => Option _) y352 (fun a353 => (some (.inr (g, false, b351.1, 0, a353.1, a353.2.1, a353.2.2)))) (fun b354 => (some (.inl (b354.1, b354.2.1, b354.2.2.1, b354.2.2.2))))))))) = some (yfOut S at_ (shortS g o (S.drop (at_ + o)))) := by
  rw [cur_Some n _ 4 4 S (at_ + o) h (by omega) hn]
  have hcg : ∀ c, hasB [88, 48, 49, 50, 51, 52, 53, 54, 55, 56, 57] c = isDX c := hasB_digsX
  have h4 : (4 : Int).toNat = 4 := rfl
  rw [spanN_congr hcg, h4]
  unfold shortS
  have hk := spanN_le isDX 4 (S.drop (at_ + o))
  rw [List.length_drop] at hk
  by_cases hlt : spanN isDX 4 (S.drop (at_ + o)) < 4
  · rw [if_pos (by omega), if_pos hlt]
    simp only [ob, yfOut]
    rw [Nat.add_assoc]
  · rw [if_neg (by omega), if_neg hlt]
    have hle : ∀ (k : Nat) (l : List UInt8), spanN isDX k l ≤ k := by
      intro k
      induction k with
      | zero => intro l; simp [spanN]
      | succ k ih =>
        intro l
        cases l with
        | nil => simp [spanN]
        | cons c l =>
          have := ih l
          simp only [spanN]
          split <;> omega
    have he : spanN isDX 4 (S.drop (at_ + o)) = 4 := by have := hle 4 (S.drop (at_ + o)); omega
    rw [he] at hk ⊢
    simp only [ob]
    have hp : at_ + o + 4 ≤ S.length := by omega
    rw [yf_num n 83 S (at_ + o + 4) hp hS hn, List.drop_drop]
    cases hq : numS 83 (S.drop (at_ + o + 4)) with
    | inl i =>
      simp only [yfOut]
      have : at_ + o + 4 + i = at_ + (o + 4 + i) := by omega
      rw [this]
    | inr p =>
      obtain ⟨s, i⟩ := p
      simp only [yfOut]
      have : at_ + o + 4 + i = at_ + (o + 4 + i) := by omega
      rw [this]
      rfl
theorem yf_Read (n : Nat) (S : List UInt8) (at_ : Nat) (h : at_ ≤ S.length) (hS : S.length < 100000) (hn : S.length < n) :
    yearforms_Read n S (at_ : Int) = some (yfOut S at_ (readS (S.drop at_))) := by
  unfold yearforms_Read
  rw [cur_takes n 89 S at_ h hS]
  have hle1 := takes_le 89 (S.drop at_)
  rw [List.length_drop] at hle1
  simp only [ob]
  rw [cur_takes n 45 S (at_ + takes 89 (S.drop at_)) (by omega) hS]
  have hle2 := takes_le 45 (S.drop (at_ + takes 89 (S.drop at_)))
  rw [List.length_drop] at hle2
  simp only []
  unfold readS
  rcases takes_cases 89 (S.drop at_) with ht | ht
  · rw [ht] at hle2 ⊢
    simp only [Nat.add_zero, show ((0 : Nat) == 1) = false from rfl, cond_false, show ¬ ((0 : Nat) = 1) from by decide, if_false, List.drop_drop] at hle2 ⊢
    have := yf_short n S at_ (takes 45 (S.drop at_)) (takes 45 (S.drop at_) == 1) (by omega) hS hn
    exact this
  · rw [ht] at hle2 ⊢
    simp only [show ((1 : Nat) == 1) = true from rfl, cond_true, if_true, List.drop_drop] at hle2 ⊢
    have := yf_long n S at_ (1 + takes 45 (S.drop (at_ + 1))) (takes 45 (S.drop (at_ + 1)) == 1) (by omega) hS hn
    rw [← Nat.add_assoc] at this
    rw [← Nat.add_assoc]
    exact this
abbrev stR (S : List UInt8) (a b M : Int) (g L : Bool) : List UInt8 × Int × Int × Int × Bool × Bool × List UInt8 × Int × Int × Bool × Bool × List UInt8 × Int × Int := (S, a, b, M, false, false, [], 0, 0, g, L, [], 0, 0)
def isYB (L : Bool) (c : UInt8) : Bool := isDig c || (c == 88 && !L)
theorem ref_loop0 (n : Nat) (S : List UInt8) (b M : Nat) (g : Bool) (hM : 0 < M) (hS : S.length < 100000) (h48 : S[b]? = some 48) : iterL (circaref14_Read_l0 (n + 1)) (n + 1) (stR S (b : Int) (b : Int) (M : Int) g true) = some (.inl ((b : Int), 5, false, false, [], 0, 0)) := by
  have hlt := lt_of_get h48
  have d1 : decide ((b : Int) < ((S.length : Nat) : Int)) = true := decide_eq_true (by omega)
  have w1 : IntKind.wrap .i64 ((b : Int) - (b : Int)) = 0 := by rw [Int.sub_self]; rfl
  have d2 : decide ((0 : Int) < (M : Int)) = true := decide_eq_true (by omega)
  have e1 : decide ((((48 : UInt8).toNat : Nat) : Int) ≥ 48) = true := rfl
  have e2 : decide ((((48 : UInt8).toNat : Nat) : Int) ≤ 57) = true := rfl
  have e3 : ((((48 : UInt8).toNat : Nat) : Int) == 48) = true := rfl
  simp only [iterL, circaref14_Read_l0, d1, cond_true, w1, d2, sx_nat h48, ob, e1, e2, e3, BEq.rfl]
theorem ref_loop (n : Nat) (S : List UInt8) (b M : Nat) (g L : Bool) (hb : b ≤ S.length) (hS : S.length < 100000) (hn : S.length < n) (h48 : ¬ (L = true ∧ S[b]? = some 48)) :
    iterL (circaref14_Read_l0 n) n (stR S (b : Int) (b : Int) (M : Int) g L) = some (.inr (S, ((b + spanN (isYB L) M (S.drop b) : Nat) : Int), (b : Int), false, false, [], 0, 0, g, L, [], 0, 0)) := by
  have := iterL_inv (step := circaref14_Read_l0 n) (fun x => ∃ j : Nat, b + j ≤ S.length ∧ x = stR S ((b + j : Nat) : Int) (b : Int) (M : Int) g L) (fun x => S.length - x.2.1.toNat)
    (fun x => .inr (S, ((x.2.1.toNat + spanN (isYB L) (M - (x.2.1.toNat - b)) (S.drop x.2.1.toNat) : Nat) : Int), (b : Int), false, false, [], 0, 0, g, L, [], 0, 0)) ?_ n (stR S (b : Int) (b : Int) (M : Int) g L) ⟨0, by omega, rfl⟩ (by simp; omega)
  · rw [this]; simp
  rintro x ⟨j, hj, rfl⟩
  simp only [Int.toNat_natCast]
  rcases Nat.lt_or_ge (b + j) S.length with hlt | hge
  · obtain ⟨c, hc⟩ : ∃ c, S[b + j]? = some c := ⟨S[b + j], List.getElem?_eq_getElem hlt⟩
    have d1 : decide (((b + j : Nat) : Int) < ((S.length : Nat) : Int)) = true := decide_eq_true (by omega)
    have w1 : IntKind.wrap .i64 (((b + j : Nat) : Int) - (b : Int)) = (j : Int) := by rw [wrap_i64 _ (by omega) (by omega)]; omega
    have w2 : IntKind.wrap .i64 (((b + j : Nat) : Int) + 1) = ((b + (j + 1) : Nat) : Int) := by rw [wrap_i64 _ (by omega) (by omega)]; omega
    have hsub : b + j - b = j := by omega
    rw [drop_get hc, hsub]
    by_cases hM : j < M
    · have d2 : decide ((j : Int) < (M : Int)) = true := decide_eq_true (by omega)
      obtain ⟨q, hq⟩ : ∃ q, M - j = q + 1 := ⟨M - j - 1, by omega⟩
      have hq2 : M - (j + 1) = q := by omega
      rw [hq]
      simp only [spanN]
      have go : isYB L c = true → circaref14_Read_l0 n (stR S ((b + j : Nat) : Int) (b : Int) (M : Int) g L) = some (.inl (stR S ((b + (j + 1) : Nat) : Int) (b : Int) (M : Int) g L)) := by
        intro hy
        by_cases hdg : isDig c = true
        · have hcd := (isDig_iff c).1 hdg
          have e1 : decide (((c.toNat : Nat) : Int) ≥ 48) = true := decide_eq_true (by omega)
          have e2 : decide (((c.toNat : Nat) : Int) ≤ 57) = true := decide_eq_true (by omega)
          simp only [circaref14_Read_l0, d1, cond_true, w1, d2, sx_nat hc, ob, e1, e2, w2]
          cases L with
          | false => rfl
          | true =>
            by_cases hj0 : j = 0
            · subst hj0
              have hc48 : c ≠ 48 := by
                intro e
                exact h48 ⟨rfl, by rw [← e]; exact hc⟩
              have e3 : (((c.toNat : Nat) : Int) == 48) = false := by rw [u8_48]; exact beq_eq_false_iff_ne.2 hc48
              simp only [Nat.add_zero, BEq.rfl, cond_true, e3, cond_false]
            · have e4 : (((b + j : Nat) : Int) == (b : Int)) = false := beq_eq_false_iff_ne.2 (by omega)
              simp only [e4, cond_false, cond_true]
        · have hdf : isDig c = false := by cases h : isDig c with | false => rfl | true => exact absurd h hdg
          unfold isYB at hy
          rw [hdf] at hy
          simp only [Bool.false_or, Bool.and_eq_true, beq_iff_eq, Bool.not_eq_true'] at hy
          obtain ⟨rfl, rfl⟩ := hy
          have e1 : decide ((((88 : UInt8).toNat : Nat) : Int) ≥ 48) = true := rfl
          have e2 : decide ((((88 : UInt8).toNat : Nat) : Int) ≤ 57) = false := rfl
          have e3 : ((((88 : UInt8).toNat : Nat) : Int) == 88) = true := rfl
          simp only [circaref14_Read_l0, d1, cond_true, w1, d2, sx_nat hc, ob, e1, e2, e3, w2, cond_false, Bool.not_false]
      have stop : isYB L c = false → circaref14_Read_l0 n (stR S ((b + j : Nat) : Int) (b : Int) (M : Int) g L) = some (.inr (.inr (S, ((b + j : Nat) : Int), (b : Int), false, false, [], 0, 0, g, L, [], 0, 0))) := by
        intro hy
        unfold isYB at hy
        simp only [Bool.or_eq_false_iff, Bool.and_eq_false_iff] at hy
        obtain ⟨hdf, hX⟩ := hy
        have hnd : ¬ (48 ≤ c.toNat ∧ c.toNat ≤ 57) := fun q => by rw [(isDig_iff c).2 q] at hdf; cases hdf
        have hx8 : (((c.toNat : Nat) : Int) == 88) = (c == 88) := u8_beq c 88
        have fin : (cond (c == 88) (cond (!L) (0 : Nat) 1) 1) = 1 := by
          rcases hX with h | h
          · rw [h]; rfl
          · have : L = true := by simpa using h
            rw [this]; cases c == 88 <;> rfl
        by_cases h1 : c.toNat ≥ 48
        · have e1 : decide (((c.toNat : Nat) : Int) ≥ 48) = true := decide_eq_true (by omega)
          have e2 : decide (((c.toNat : Nat) : Int) ≤ 57) = false := decide_eq_false (by omega)
          simp only [circaref14_Read_l0, d1, cond_true, w1, d2, sx_nat hc, ob, e1, e2, cond_false, hx8]
          rcases hX with h | h
          · rw [h]; rfl
          · have : L = true := by simpa using h
            rw [this]; cases c == 88 <;> rfl
        · have e1 : decide (((c.toNat : Nat) : Int) ≥ 48) = false := decide_eq_false (by omega)
          simp only [circaref14_Read_l0, d1, cond_true, w1, d2, sx_nat hc, ob, e1, cond_false, hx8]
          rcases hX with h | h
          · rw [h]; rfl
          · have : L = true := by simpa using h
            rw [this]; cases c == 88 <;> rfl
      cases hy : isYB L c with
      | true =>
        refine .inl ⟨_, go hy, ⟨j + 1, by omega, rfl⟩, by simp only [Int.toNat_natCast]; omega, ?_⟩
        simp only [Int.toNat_natCast, if_true]
        have e5 : b + (j + 1) - b = j + 1 := by omega
        rw [e5, hq2, show b + (j + 1) = b + j + 1 by omega]
        have e6 : b + j + 1 + spanN (isYB L) q (S.drop (b + j + 1)) = b + j + (spanN (isYB L) q (S.drop (b + j + 1)) + 1) := by omega
        rw [e6]
      | false =>
        refine .inr ?_
        rw [stop hy]
        simp
    · have d2 : decide ((j : Int) < (M : Int)) = false := decide_eq_false (by omega)
      have hz : M - j = 0 := by omega
      refine .inr ?_
      rw [hz]
      simp only [circaref14_Read_l0, d1, cond_true, w1, d2, cond_false, spanN, Nat.add_zero]
  · have d1 : decide (((b + j : Nat) : Int) < ((S.length : Nat) : Int)) = false := decide_eq_false (by omega)
    refine .inr ?_
    rw [List.drop_eq_nil_of_le hge]
    have hz : ∀ q, spanN (isYB L) q [] = 0 := fun q => by cases q <;> rfl
    simp only [circaref14_Read_l0, d1, cond_false, hz, Nat.add_zero]
theorem ref_num69 (n : Nat) (S : List UInt8) (at_ : Nat) (h : at_ ≤ S.length) (hS : S.length < 100000) :
    circaref14_number n S (at_ : Int) 69 = some (match numS 69 (S.drop at_) with | .inl k => (-1, ((at_ + k : Nat) : Int)) | .inr (v, k) => ((v : Int), ((at_ + k : Nat) : Int))) := ref_num n 69 S at_ h hS
theorem ref_num83 (n : Nat) (S : List UInt8) (at_ : Nat) (h : at_ ≤ S.length) (hS : S.length < 100000) :
    circaref14_number n S (at_ : Int) 83 = some (match numS 83 (S.drop at_) with | .inl k => (-1, ((at_ + k : Nat) : Int)) | .inr (v, k) => ((v : Int), ((at_ + k : Nat) : Int))) := ref_num n 83 S at_ h hS
noncomputable def tailR (n : Nat) (a0 : List UInt8) (B M : Int) (g L : Bool) : Option (Bool × Bool × List UInt8 × Int × Int × Int × Int) :=
  (ob (iterL (circaref14_Read_l0 n) n (a0, B, B, M, false, false, [], 0, 0, g, L, [], 0, 0)) fun y559 => (Sum.casesOn (motive := fun _ => Option (Bool × Bool × List UInt8 × Int × Int × Int × Int)) y559 (fun a560 => (some (a560.2.2.1, a560.2.2.2.1, a560.2.2.2.2.1, a560.2.2.2.2.2.1, a560.2.2.2.2.2.2, a560.1, a560.2.1))) (fun b561 => (cond (decide ((IntKind.wrap .i64 (b561.2.1 - b561.2.2.1)) < 1)) (some (false, false, [], 0, 0, b561.2.1, 5)) (cond (!b561.2.2.2.2.2.2.2.2.2.1) (cond (decide ((IntKind.wrap .i64 (b561.2.1 - b561.2.2.1)) < 4)) (some (false, false, [], 0, 0, b561.2.1, 5)) (ob (bx (List.length b561.1) b561.2.1) fun j562 => (ob (bx j562 b561.2.2.1) fun j563 => (cond b561.2.2.2.2.2.2.2.2.2.1 (ob (circaref14_number n b561.1 b561.2.1 69) fun r571 => (cond (decide (r571.1 < 0)) (some (false, false, [], 0, 0, r571.2, 5)) (ob (circaref14_number n b561.1 r571.2 83) fun r572 => (cond (decide (r572.1 < 0)) (some (false, false, [], 0, 0, r572.2, 5)) (some (b561.2.2.2.2.2.2.2.2.1, b561.2.2.2.2.2.2.2.2.2.1, (List.drop j563 (List.take j562 b561.1)), r571.1, r572.1, r572.2, 0)))))) (ob (circaref14_number n b561.1 b561.2.1 83) fun r573 => (cond (decide (r573.1 < 0)) (some (false, false, [], 0, 0, r573.2, 5)) (some (b561.2.2.2.2.2.2.2.2.1, b561.2.2.2.2.2.2.2.2.2.1, (List.drop j563 (List.take j562 b561.1)), b561.2.2.2.2.2.2.2.2.2.2.2.1, r573.1, r573.2, 0)))))))) (ob (bx (List.length b561.1) b561.2.1) fun j574 => (ob (bx j574 b561.2.2.1) fun j575 => (cond b561.2.2.2.2.2.2.2.2.2.1 (ob (circaref14_number n b561.1 b561.2.1 69) fun r576 => (cond (decide (r576.1 < 0)) (some (false, false, [], 0, 0, r576.2, 5)) (ob (circaref14_number n b561.1 r576.2 83) fun r577 => (cond (decide (r577.1 < 0)) (some (false, false, [], 0, 0, r577.2, 5)) (some (b561.2.2.2.2.2.2.2.2.1, b561.2.2.2.2.2.2.2.2.2.1, (List.drop j575 (List.take j574 b561.1)), r576.1, r577.1, r577.2, 0)))))) (ob (circaref14_number n b561.1 b561.2.1 83) fun r578 => (cond (decide (r578.1 < 0)) (some (false, false, [], 0, 0, r578.2, 5)) (some (b561.2.2.2.2.2.2.2.2.1, b561.2.2.2.2.2.2.2.2.2.1, (List.drop j575 (List.take j574 b561.1)), b561.2.2.2.2.2.2.2.2.2.2.2.1, r578.1, r578.2, 0))))))))))))
theorem isYB_true (c : UInt8) : isYB true c = isDig c := by unfold isYB; cases isDig c <;> simp
theorem isYB_false (c : UInt8) : isYB false c = isDX c := by unfold isYB isDX; simp
theorem spanN_top (p : UInt8 → Bool) : ∀ (k : Nat) (l : List UInt8), spanN p k l ≤ k
  | 0, l => by simp [spanN]
  | k + 1, [] => by simp [spanN]
  | k + 1, c :: l => by
    have := spanN_top p k l
    simp only [spanN]
    split <;> omega
theorem neg1_lt : decide ((-1 : Int) < 0) = true := rfl
theorem nat_nlt (x : Nat) : decide (((x : Nat) : Int) < 0) = false := decide_eq_false (by omega)
theorem tail_long (n : Nat) (S : List UInt8) (at_ o : Nat) (g : Bool) (h : at_ + o ≤ S.length) (hS : S.length < 100000) (hn : S.length < n) :
    tailR n S ((at_ + o : Nat) : Int) 17 g true = some (refOut at_ (longS g o (S.drop (at_ + o)))) := by
  unfold tailR
  cases hd : S.drop (at_ + o) with
  | nil =>
    have hnone : ¬ (true = true ∧ S[at_ + o]? = some 48) := by
      rintro ⟨_, q⟩
      rw [drop_get q] at hd
      cases hd
    have hl := ref_loop n S (at_ + o) 17 g true h hS hn hnone
    rw [hd] at hl
    have hz : spanN (isYB true) 17 [] = 0 := rfl
    rw [hz, Nat.add_zero] at hl
    have hl' : iterL (circaref14_Read_l0 n) n (S, ((at_ + o : Nat) : Int), ((at_ + o : Nat) : Int), (17 : Int), false, false, [], 0, 0, g, true, [], 0, 0) = _ := hl
    rw [hl']
    have w : IntKind.wrap .i64 (((at_ + o : Nat) : Int) - ((at_ + o : Nat) : Int)) = 0 := by rw [Int.sub_self]; rfl
    simp only [ob, w, longS, refOut]
    rfl
  | cons c r =>
    obtain ⟨hlt, hg, hr⟩ := drop_lt hd
    by_cases hc : c = 48
    · subst hc
      obtain ⟨n', rfl⟩ : ∃ q, n = q + 1 := ⟨n - 1, by omega⟩
      have hl := ref_loop0 n' S (at_ + o) 17 g (by omega) hS hg
      have hl' : iterL (circaref14_Read_l0 (n' + 1)) (n' + 1) (S, ((at_ + o : Nat) : Int), ((at_ + o : Nat) : Int), (17 : Int), false, false, [], 0, 0, g, true, [], 0, 0) = _ := hl
      rw [hl']
      have hno : ¬ (49 ≤ (48 : UInt8).toNat ∧ (48 : UInt8).toNat ≤ 57) := by decide
      simp only [ob, longS, refOut]
      rw [if_neg hno]
    · have hno : ¬ (true = true ∧ S[at_ + o]? = some 48) := by
        rintro ⟨_, q⟩
        rw [hg] at q
        exact hc (by simpa using q)
      have hl := ref_loop n S (at_ + o) 17 g true h hS hn hno
      rw [hd, spanN_congr isYB_true] at hl
      have hk := spanN_le isDig 17 (c :: r)
      have hrl : (c :: r).length + (at_ + o) = S.length := by
        have := congrArg List.length hd
        rw [List.length_drop] at this
        omega
      have hl' : iterL (circaref14_Read_l0 n) n (S, ((at_ + o : Nat) : Int), ((at_ + o : Nat) : Int), (17 : Int), false, false, [], 0, 0, g, true, [], 0, 0) = _ := hl
      rw [hl']
      have w : ∀ k : Nat, k ≤ 17 → IntKind.wrap .i64 (((at_ + o + k : Nat) : Int) - ((at_ + o : Nat) : Int)) = (k : Int) := by
        intro k hk17
        rw [wrap_i64 _ (by omega) (by omega)]; omega
      by_cases hdg : isDig c = true
      · have hcd := (isDig_iff c).1 hdg
        have h49 : 49 ≤ c.toNat ∧ c.toNat ≤ 57 := by
          have : c.toNat ≠ 48 := fun e => hc (UInt8.toNat_inj.1 e)
          omega
        have hs17 : spanN isDig 17 (c :: r) = 1 + spanN isDig 16 r := by
          show spanN isDig (16 + 1) (c :: r) = _
          simp only [spanN, hdg, if_true]
          omega
        rw [hs17] at hk ⊢
        have htop := spanN_top isDig 16 r
        simp only [longS]
        rw [if_pos h49]
        generalize spanN isDig 16 r = k at hk htop ⊢
        have d1 : decide (((1 + k : Nat) : Int) < 1) = false := decide_eq_false (by omega)
        simp only [ob, w (1 + k) (by omega), d1, cond_false, Bool.not_true, cond_true, bx_nat (show at_ + o + (1 + k) ≤ S.length by omega), bx_nat (show at_ + o ≤ at_ + o + (1 + k) by omega)]
        have hp1 : at_ + o + (1 + k) ≤ S.length := by omega
        have hdr : S.drop (at_ + o + (1 + k)) = List.drop (1 + k) (c :: r) := by rw [← hd, List.drop_drop]
        rw [ref_num69 n S (at_ + o + (1 + k)) hp1 hS, hdr, drop_take_sub, hd]
        cases hq : numS 69 (List.drop (1 + k) (c :: r)) with
        | inl j =>
          simp only [neg1_lt, cond_true, refOut]
          have : at_ + o + (1 + k) + j = at_ + (o + (1 + k) + j) := by omega
          rw [this]
        | inr p =>
          obtain ⟨x, j⟩ := p
          have hj := hq
          rw [← hdr] at hj
          have hp2 := numS_bound hp1 hj
          have hdr2 : S.drop (at_ + o + (1 + k) + j) = List.drop (1 + k + j) (c :: r) := by rw [← hd, List.drop_drop]; congr 1; omega
          simp only [nat_nlt, cond_false]
          rw [ref_num83 n S (at_ + o + (1 + k) + j) hp2 hS, hdr2]
          cases hq2 : numS 83 (List.drop (1 + k + j) (c :: r)) with
          | inl i =>
            simp only [neg1_lt, cond_true, refOut]
            have : at_ + o + (1 + k) + j + i = at_ + (o + (1 + k) + j + i) := by omega
            rw [this]
          | inr p2 =>
            obtain ⟨s, i⟩ := p2
            simp only [nat_nlt, cond_false, refOut]
            have : at_ + o + (1 + k) + j + i = at_ + (o + (1 + k) + j + i) := by omega
            rw [this]
      · have hs17 : spanN isDig 17 (c :: r) = 0 := by
          show spanN isDig (16 + 1) (c :: r) = 0
          simp only [spanN]
          rw [if_neg hdg]
        have h49 : ¬ (49 ≤ c.toNat ∧ c.toNat ≤ 57) := fun q => hdg ((isDig_iff c).2 (by omega))
        rw [hs17]
        simp only [longS]
        rw [if_neg h49]
        simp only [ob, w 0 (by omega), refOut]
        rfl
theorem tail_short (n : Nat) (S : List UInt8) (at_ o : Nat) (g : Bool) (h : at_ + o ≤ S.length) (hS : S.length < 100000) (hn : S.length < n) :
    tailR n S ((at_ + o : Nat) : Int) 4 g false = some (refOut at_ (shortS g o (S.drop (at_ + o)))) := by
  unfold tailR
  have hl := ref_loop n S (at_ + o) 4 g false h hS hn (by rintro ⟨q, _⟩; cases q)
  rw [spanN_congr isYB_false] at hl
  have hk := spanN_le isDX 4 (S.drop (at_ + o))
  have htop := spanN_top isDX 4 (S.drop (at_ + o))
  rw [List.length_drop] at hk
  have hl' : iterL (circaref14_Read_l0 n) n (S, ((at_ + o : Nat) : Int), ((at_ + o : Nat) : Int), (4 : Int), false, false, [], 0, 0, g, false, [], 0, 0) = _ := hl
  rw [hl']
  unfold shortS
  generalize hK : spanN isDX 4 (S.drop (at_ + o)) = k at hk htop ⊢
  have w : IntKind.wrap .i64 (((at_ + o + k : Nat) : Int) - ((at_ + o : Nat) : Int)) = (k : Int) := by rw [wrap_i64 _ (by omega) (by omega)]; omega
  simp only [ob, w, Bool.not_false, cond_true, cond_false]
  by_cases h4 : k < 4
  · rw [if_pos h4]
    have e1 : decide ((k : Int) < 4) = true := decide_eq_true (by omega)
    rw [e1]
    have e2 : at_ + o + k = at_ + (o + k) := by omega
    simp only [cond_true, refOut, e2]
    cases decide ((k : Int) < 1) <;> rfl
  · rw [if_neg h4]
    have hk4 : k = 4 := by omega
    subst hk4
    have e1 : decide (((4 : Nat) : Int) < 4) = false := rfl
    have e2 : decide (((4 : Nat) : Int) < 1) = false := rfl
    have hp : at_ + o + 4 ≤ S.length := by omega
    simp only [e1, e2, cond_false, bx_nat hp, bx_nat (show at_ + o ≤ at_ + o + 4 by omega)]
    rw [ref_num83 n S (at_ + o + 4) hp hS, drop_take_sub, List.drop_drop]
    cases hq : numS 83 (S.drop (at_ + o + 4)) with
    | inl i =>
      simp only [neg1_lt, cond_true, refOut]
      have : at_ + o + 4 + i = at_ + (o + 4 + i) := by omega
      rw [this]
    | inr p =>
      obtain ⟨s, i⟩ := p
      simp only [nat_nlt, cond_false, refOut]
      have : at_ + o + 4 + i = at_ + (o + 4 + i) := by omega
      rw [this]
      rfl
theorem takes_cons (c : UInt8) (a : UInt8) (l : List UInt8) : takes c (a :: l) = if a = c then 1 else 0 := by
  unfold takes; simp
theorem takes_nil (c : UInt8) : takes c [] = 0 := by unfold takes; simp
theorem ref_Read (n : Nat) (S : List UInt8) (at_ : Nat) (h : at_ ≤ S.length) (hS : S.length < 100000) (hn : S.length < n) :
    circaref14_Read n S (at_ : Int) = some (refOut at_ (readS (S.drop at_))) := by
  have tl := fun o g q => tail_long n S at_ o g q hS hn
  have ts := fun o g q => tail_short n S at_ o g q hS hn
  unfold tailR at tl ts
  have w1 : IntKind.wrap .i64 ((at_ : Int) + 1) = ((at_ + 1 : Nat) : Int) := by rw [wrap_i64 _ (by omega) (by omega)]; omega
  have w2 : IntKind.wrap .i64 (((at_ + 1 : Nat) : Int) + 1) = ((at_ + 2 : Nat) : Int) := by rw [wrap_i64 _ (by omega) (by omega)]; omega
  unfold circaref14_Read readS
  rw [w1, w2]
  have t0 := ts 0 false (by omega)
  simp only [Nat.add_zero] at t0
  cases hd : S.drop at_ with
  | nil =>
    have hge : ¬ at_ < S.length := by
      intro q
      rw [drop_get (List.getElem?_eq_getElem q)] at hd; cases hd
    rw [nat_dec_lt, decide_eq_false hge, cond_false, cond_false, t0, hd]
    rfl
  | cons c r =>
    obtain ⟨hlt, hg, hr⟩ := drop_lt hd
    have hc89 : (((c.toNat : Nat) : Int) == 89) = (c == 89) := u8_beq c 89
    have hc45 : (((c.toNat : Nat) : Int) == 45) = (c == 45) := u8_beq c 45
    rw [nat_dec_lt, decide_eq_true hlt, cond_true, sx_nat hg]
    simp only [ob]
    rw [hc89, hc45, takes_cons]
    by_cases h89 : c = 89
    · have e : (c == 89) = true := beq_iff_eq.2 h89
      rw [e, cond_true, if_pos h89, if_pos rfl, nat_dec_lt]
      have hdd : List.drop 1 (c :: r) = r := rfl
      rw [hdd]
      have t1 := tl 1 false (by omega)
      cases hr' : r with
      | nil =>
        rw [hr'] at hr
        have hge : ¬ at_ + 1 < S.length := by
          intro q
          rw [drop_get (List.getElem?_eq_getElem q)] at hr; cases hr
        simp only [ob] at t1
        rw [decide_eq_false hge, cond_false, t1, hr, takes_nil]
        rfl
      | cons d r2 =>
        rw [hr'] at hr
        obtain ⟨hlt2, hg2, hr2⟩ := drop_lt hr
        have hd45 : (((d.toNat : Nat) : Int) == 45) = (d == 45) := u8_beq d 45
        rw [decide_eq_true hlt2, cond_true, sx_nat hg2]
        simp only []
        rw [hd45, takes_cons]
        by_cases h45 : d = 45
        · have e2 : (d == 45) = true := beq_iff_eq.2 h45
          have t2 := tl 2 true (by omega)
          simp only [ob] at t2
          rw [e2, cond_true, if_pos h45, t2]
          rw [show at_ + 2 = at_ + 1 + 1 from rfl, hr2]
          rfl
        · have e2 : (d == 45) = false := beq_eq_false_iff_ne.2 h45
          simp only [ob] at t1
          rw [e2, cond_false, if_neg h45, t1, hr]
          rfl
    · have e : (c == 89) = false := beq_eq_false_iff_ne.2 h89
      rw [e, cond_false, if_neg h89, if_neg (by decide), takes_cons]
      by_cases h45 : c = 45
      · have e2 : (c == 45) = true := beq_iff_eq.2 h45
        have t2 := ts 1 true (by omega)
        simp only [ob] at t2
        rw [e2, if_pos h45]
        simp only [cond_true]
        rw [t2, hr]
        rfl
      · have e2 : (c == 45) = false := beq_eq_false_iff_ne.2 h45
        simp only [ob] at t0
        rw [e2, if_neg h45]
        simp only [cond_false]
        rw [t0, hd]
        rfl
def wint (c : Int) : Bool := c == 24 || c == 28 || c == 30
def lastY (g : Bool) (d : List UInt8) (x : Int) : Bool := !hasX d && !g && decide (val d x.toNat = E16)
def yrB (g : Bool) (d : List UInt8) (x s : Int) (m : List UInt8) : Bool := !(decide (0 < s) && !(m == [])) && !(wint (sea m) && lastY g d x)
theorem df_checkYear (n : Nat) (hn : 200 < n) (g l : Bool) (dg : List UInt8) (x q : Int) (m d : List UInt8) (k0 k1 k2 : Int) (hm : m.length ≤ 18) (hd : dg.length ≤ 100) :
    dateforms_checkYear n g l dg x q m d k0 k1 k2 = some (if okY g l dg x q then yrB g dg x q m else false) := by
  unfold dateforms_checkYear
  rw [yf_Check n g l dg x q hn hd, df_Season n g l dg x q m d k0 k1 k2 hm, yf_Masked, yf_Value n g l dg x q hn hd]
  by_cases h : okY g l dg x q
  rotate_left
  · rw [if_neg h, if_neg h]; rfl
  rw [if_pos h, if_pos h]
  have body : (ob (some (sea m, decide (0 < sea m))) fun r => (cond (!r.2) (some true) (ob (some (hasX dg)) fun r1 => (cond r1 (some true) (ob (some (if okY g l dg x q ∧ hasX dg = false then (if g then -((val dg x.toNat : Nat) : Int) else ((val dg x.toNat : Nat) : Int), (0 : Int)) else (0, 6))) fun r2 => (ob (seasons_Run n r2.1 r.1) fun r3 => (some (r3.2.2.2.2 == 0)))))))) = some (!(wint (sea m) && lastY g dg x)) := by
    rcases sea_cases m with h0 | ⟨j, hj, rfl⟩
    · rw [h0]; rfl
    · have hs := sea_two hj
      rw [hs]
      have hp : decide (0 < ((21 + j : Nat) : Int)) = true := by simp; omega
      rw [hp]
      cases hX : hasX dg with
      | true =>
        have : lastY g dg x = false := by unfold lastY; rw [hX]; rfl
        rw [this, Bool.and_false]
        rfl
      | false =>
        rw [if_pos ⟨h, rfl⟩]
        obtain ⟨k, q', rfl, rfl, hN⟩ := ok_num h hX
        have hv : val dg k ≤ E16 := hN.small
        unfold E16 at hv
        have hc : inCal (if g then -((val dg k : Nat) : Int) else ((val dg k : Nat) : Int)) := by
          unfold inCal
          cases g <;> simp <;> omega
        obtain ⟨a, b, c, e, hr⟩ := run_eq n (by omega) hc hj
        simp only [ob, Bool.not_true, cond_false, Int.toNat_natCast]
        rw [hr]
        simp only [Option.some.injEq]
        have hw : wint ((21 + j : Nat) : Int) = decide (j = 3 ∨ j = 7 ∨ j = 9) := by
          unfold wint
          rw [Bool.eq_iff_iff]
          simp only [Bool.or_eq_true, beq_iff_eq, decide_eq_true_eq]
          omega
        have hl : lastY g dg (k : Int) = decide ((if g then -((val dg k : Nat) : Int) else ((val dg k : Nat) : Int)) = 10000000000000000) := by
          unfold lastY E16
          rw [hX, Int.toNat_natCast]
          cases g
          · simp only [Bool.not_false, Bool.true_and, Bool.false_eq_true, if_false, decide_eq_decide]
            omega
          · simp
            omega
        rw [hw, hl]
        by_cases h1 : (if g then -((val dg k : Nat) : Int) else ((val dg k : Nat) : Int)) = 10000000000000000 <;> by_cases h2 : j = 3 ∨ j = 7 ∨ j = 9
        · rw [if_pos ⟨h1, h2⟩, decide_eq_true h1, decide_eq_true h2]; rfl
        · rw [if_neg (fun z => h2 z.2), decide_eq_false h2]; rfl
        · rw [if_neg (fun z => h1 z.1), decide_eq_false h1, Bool.and_false]; rfl
        · rw [if_neg (fun z => h1 z.1), decide_eq_false h1, Bool.and_false]; rfl
  show cond (decide (q > 0)) (cond (!(m == [])) (some false) _) _ = _
  unfold yrB
  rw [show (decide (q > 0)) = decide (0 < q) from rfl]
  cases decide (0 < q) with
  | false => exact body
  | true =>
    cases (m == []) with
    | false => rfl
    | true => exact body
theorem ref_year (n : Nat) (hn : 200 < n) (g l : Bool) (dg : List UInt8) (x q : Int) (m d : List UInt8) (k0 k1 k2 : Int) (hd : dg.length ≤ 100) :
    circaref15_year n g l dg x q m d k0 k1 k2 = some (if okY g l dg x q ∧ yrB g dg x q m = true then 1 else 0) := by
  unfold circaref15_year
  rw [ref_Check n g l dg x q hn hd, ref_Season n (by omega) g l dg x q m d k0 k1 k2, ref_Masked n g l dg x q (by omega) (by omega)]
  by_cases h : okY g l dg x q
  rotate_left
  · rw [if_neg h, if_neg (show ¬ (okY g l dg x q ∧ yrB g dg x q m = true) from fun z => h z.1)]; rfl
  rw [if_pos h]
  have T : (ob (some (if hasX dg then (1 : Int) else 0)) fun r => (cond (r == 1) (some (1 : Int)) (ob (circaref14_Magnitude n dg x) fun v => (cond (v.1 == 10000000000000000) (cond (!g) (some 0) (some 1)) (some 1))))) = some (if lastY g dg x then 0 else 1) := by
    cases hX : hasX dg with
    | true =>
      have : lastY g dg x = false := by unfold lastY; rw [hX]; rfl
      rw [this]
      rfl
    | false =>
      obtain ⟨k, q', rfl, rfl, hN⟩ := ok_num h hX
      have hv := hN.small
      have hw := hN.wide
      have hr := refMagn_eq n dg k hN.dig (by omega) (by omega) (by omega)
      rw [if_pos hv] at hr
      show ob (circaref14_Magnitude n dg (k : Int)) _ = _
      rw [hr]
      show cond (((dval 0 dg * 10 ^ k : Nat) : Int) == 10000000000000000) _ _ = _
      unfold lastY val
      rw [hX, Int.toNat_natCast]
      have e : (((dval 0 dg * 10 ^ k : Nat) : Int) == 10000000000000000) = decide (dval 0 dg * 10 ^ k = E16) := by
        generalize dval 0 dg * 10 ^ k = v
        unfold E16
        rw [Bool.eq_iff_iff]
        simp only [beq_iff_eq, decide_eq_true_eq]
        omega
      rw [e]
      cases decide (dval 0 dg * 10 ^ k = E16) <;> cases g <;> rfl
  have body : (ob (some (sea m)) fun r => (cond (r != 24) (cond (r != 28) (cond (r != 30) (some (1 : Int)) (ob (some (if hasX dg then (1 : Int) else 0)) fun r => (cond (r == 1) (some (1 : Int)) (ob (circaref14_Magnitude n dg x) fun v => (cond (v.1 == 10000000000000000) (cond (!g) (some 0) (some 1)) (some 1)))))) (ob (some (if hasX dg then (1 : Int) else 0)) fun r => (cond (r == 1) (some (1 : Int)) (ob (circaref14_Magnitude n dg x) fun v => (cond (v.1 == 10000000000000000) (cond (!g) (some 0) (some 1)) (some 1)))))) (ob (some (if hasX dg then (1 : Int) else 0)) fun r => (cond (r == 1) (some (1 : Int)) (ob (circaref14_Magnitude n dg x) fun v => (cond (v.1 == 10000000000000000) (cond (!g) (some 0) (some 1)) (some 1))))))) = some (if (!(wint (sea m) && lastY g dg x)) = true then 1 else 0) := by
    rw [T]
    show cond (sea m != 24) _ _ = _
    unfold wint
    simp only [bne]
    cases (sea m == 24) <;> cases (sea m == 28) <;> cases (sea m == 30) <;> cases lastY g dg x <;> rfl
  unfold yrB
  show cond (decide (q > 0)) (cond (!(m == [])) (some 0) _) _ = _
  rw [show (decide (q > 0)) = decide (0 < q) from rfl]
  simp only [h, true_and]
  cases decide (0 < q) with
  | false => exact body
  | true =>
    cases (m == []) with
    | false => rfl
    | true => exact body
def comps (m d : List UInt8) : Nat := 1 + (if m == [] then 0 else 1) + (if d == [] then 0 else 1)
theorem df_Components (n : Nat) (hn : 100 < n) (g l : Bool) (dg : List UInt8) (x q : Int) (m d : List UInt8) (k0 k1 k2 : Int) : dateforms_Components n g l dg x q m d k0 k1 k2 = some ((comps m d : Nat) : Int) := by
  obtain ⟨n, rfl⟩ : ∃ j, n = j + 3 := ⟨n - 3, by omega⟩
  unfold dateforms_Components comps
  have s0 : ∀ a : Int, dateforms_Components_l0 (n + 3) (a, m, d, 0) = some (.inl (if m == [] then a else IntKind.wrap .i64 (a + 1), m, d, 1)) := fun a => by
    unfold dateforms_Components_l0
    show cond (!(m == [])) _ _ = _
    cases (m == []) <;> rfl
  have s1 : ∀ a : Int, dateforms_Components_l0 (n + 3) (a, m, d, 1) = some (.inl (if d == [] then a else IntKind.wrap .i64 (a + 1), m, d, 2)) := fun a => by
    unfold dateforms_Components_l0
    show cond (!(d == [])) _ _ = _
    cases (d == []) <;> rfl
  have s2 : ∀ a : Int, dateforms_Components_l0 (n + 3) (a, m, d, 2) = some (.inr a) := fun a => rfl
  rw [iterL, s0]
  show ob (iterL _ (n + 2) _) _ = _
  rw [iterL, s1]
  show ob (iterL _ (n + 1) _) _ = _
  rw [iterL, s2]
  cases (m == []) <;> cases (d == []) <;> rfl
theorem ref_Components (n : Nat) (g l : Bool) (dg : List UInt8) (x q : Int) (m d : List UInt8) (k0 k1 k2 : Int) : circaref15_Components n g l dg x q m d k0 k1 k2 = some ((comps m d : Nat) : Int) := by
  unfold circaref15_Components comps
  cases (m == []) <;> cases (d == []) <;> rfl
def allM (a b c : Int) (k : Nat) : Int := if 3 < a ∨ 3 < b ∨ 3 < c ∨ (k < 2 ∧ b ≠ 0) ∨ (k < 3 ∧ c ≠ 0) then 9 else 0
theorem df_All (n : Nat) (hn : 3 < n) (a b c : Int) (k : Nat) (hk : 1 ≤ k ∧ k ≤ 3) (ha : 0 ≤ a) (hb : 0 ≤ b) (hc : 0 ≤ c) :
    marks_All n [a, b, c] (k : Int) = some (allM a b c k) ∧ circaref13_All n [a, b, c] (k : Int) = some (allM a b c k) := by
  obtain ⟨j, rfl⟩ : ∃ j, n = j + 4 := ⟨n - 4, by omega⟩
  have w1 : IntKind.wrap .i64 1 = 1 := rfl
  have w2 : IntKind.wrap .i64 2 = 2 := rfl
  have w3 : IntKind.wrap .i64 3 = 3 := rfl
  have i0 : ix 3 0 = some 0 := rfl
  have i1 : ix 3 1 = some 1 := rfl
  have i2 : ix 3 2 = some 2 := rfl
  have hk' : k = 1 ∨ k = 2 ∨ k = 3 := by omega
  unfold allM
  by_cases cx : a > 3
  · rcases hk' with rfl | rfl | rfl <;> constructor <;> simp [circaref13_All, marks_All, iterL, circaref13_All_l0, marks_All_l0, marks_Check, ob, w1, w2, w3, i0, i1, i2, cx]
  by_cases cy : b > 3
  · rcases hk' with rfl | rfl | rfl <;> constructor <;> simp [circaref13_All, marks_All, iterL, circaref13_All_l0, marks_All_l0, marks_Check, ob, w1, w2, w3, i0, i1, i2, cx, cy]
  by_cases dy : k = 1 ∧ b ≠ 0
  · obtain ⟨rfl, dy⟩ := dy
    have h0 : b > 0 := by omega
    have eb : (b != 0) = true := by simp [dy]
    constructor <;> simp [circaref13_All, marks_All, iterL, circaref13_All_l0, marks_All_l0, marks_Check, ob, w1, w2, w3, i0, i1, i2, cx, cy, h0, dy, eb]
  by_cases cz : c > 3
  · rcases hk' with rfl | rfl | rfl <;> (try (simp at dy; subst dy)) <;> constructor <;> simp [circaref13_All, marks_All, iterL, circaref13_All_l0, marks_All_l0, marks_Check, ob, w1, w2, w3, i0, i1, i2, cx, cy, cz]
  by_cases dz : k < 3 ∧ c ≠ 0
  · have h0 : c > 0 := by omega
    have eb : (c != 0) = true := by simp [dz.2]
    rcases hk' with rfl | rfl | rfl <;> (try (simp at dy; subst dy)) <;> simp at dz <;> constructor <;> simp [circaref13_All, marks_All, iterL, circaref13_All_l0, marks_All_l0, marks_Check, ob, w1, w2, w3, i0, i1, i2, cx, cy, cz, h0, dz, eb]
  rcases hk' with rfl | rfl | rfl <;> (try (simp at dy; subst dy)) <;> (try (simp at dz; subst dz)) <;> constructor <;> simp [circaref13_All, marks_All, iterL, circaref13_All_l0, marks_All_l0, marks_Check, ob, w1, w2, w3, i0, i1, i2, cx, cy, cz]
theorem comps_pos (m d : List UInt8) : 1 ≤ comps m d ∧ comps m d ≤ 3 := by
  unfold comps
  cases (m == []) <;> cases (d == []) <;> simp
def yrD (g l : Bool) (dg : List UInt8) (x q : Int) (m : List UInt8) : Bool := if okY g l dg x q then yrB g dg x q m else false
def chkD (g l : Bool) (dg : List UInt8) (x q : Int) (m d : List UInt8) (k0 k1 k2 : Int) : Int :=
  cond (!(yrD g l dg x q m)) 6 (cond (!(m == []) && (!(decide (0 < sea m)) && !(agrees m 12))) 7
    (cond (!(d == []) && ((m == []) || (decide (0 < sea m) || !(agrees d 31)))) 8 (allM k0 k1 k2 (comps m d))))
theorem sea_nn (m : List UInt8) : 0 ≤ sea m := by
  rcases sea_cases m with h | ⟨j, hj, rfl⟩
  · omega
  · rw [sea_two hj]; omega
theorem sea_eq0 (m : List UInt8) : (sea m == 0) = !(decide (0 < sea m)) := by
  have := sea_nn m
  by_cases h : sea m = 0
  · rw [h]; rfl
  · have h2 : 0 < sea m := by omega
    rw [beq_eq_false_iff_ne.2 h, decide_eq_true h2]; rfl
theorem df_Check (n : Nat) (hn : 200 < n) (g l : Bool) (dg : List UInt8) (x q : Int) (m d : List UInt8) (k0 k1 k2 : Int) (hm : m.length ≤ 18) (hd : dg.length ≤ 100) (h0 : 0 ≤ k0) (h1 : 0 ≤ k1) (h2 : 0 ≤ k2) :
    dateforms_Check n g l dg x q m d k0 k1 k2 = some (chkD g l dg x q m d k0 k1 k2) := by
  have hy : dateforms_checkYear n g l dg x q m d k0 k1 k2 = some (yrD g l dg x q m) := df_checkYear n hn g l dg x q m d k0 k1 k2 hm hd
  have a1 : dateforms_agrees n m 12 = some (agrees m 12) := df_agrees n (by omega) m 12 (by omega)
  have a2 : dateforms_agrees n d 31 = some (agrees d 31) := df_agrees n (by omega) d 31 (by omega)
  have ha := (df_All n (by omega) k0 k1 k2 (comps m d) (comps_pos m d) h0 h1 h2).1
  unfold dateforms_Check chkD
  rw [df_Season n g l dg x q m d k0 k1 k2 hm, hy, a1, a2, df_Components n (by omega)]
  simp only [ob]
  rw [ha]
  generalize yrD g l dg x q m = b1
  generalize (m == []) = b2
  generalize decide (0 < sea m) = b3
  generalize agrees m 12 = b4
  generalize (d == []) = b5
  generalize agrees d 31 = b6
  cases b1 <;> cases b2 <;> cases b3 <;> cases b4 <;> cases b5 <;> cases b6 <;> rfl
theorem ref_Check15 (n : Nat) (hn : 200 < n) (g l : Bool) (dg : List UInt8) (x q : Int) (m d : List UInt8) (k0 k1 k2 : Int) (hd : dg.length ≤ 100) (h0 : 0 ≤ k0) (h1 : 0 ≤ k1) (h2 : 0 ≤ k2) :
    circaref15_Check n g l dg x q m d k0 k1 k2 = some (chkD g l dg x q m d k0 k1 k2) := by
  have hy : circaref15_year n g l dg x q m d k0 k1 k2 = some (if yrD g l dg x q m then 1 else 0) := by
    rw [ref_year n hn g l dg x q m d k0 k1 k2 hd]
    unfold yrD
    by_cases h : okY g l dg x q
    · simp only [h, true_and, if_true]
    · simp only [h, false_and, if_false]; rfl
  have a1 : circaref15_Some n m 12 = some (if agrees m 12 then 1 else 0) := ref_Some n (by omega) m 12 (by omega)
  have a2 : circaref15_Some n d 31 = some (if agrees d 31 then 1 else 0) := ref_Some n (by omega) d 31 (by omega)
  have ha := (df_All n (by omega) k0 k1 k2 (comps m d) (comps_pos m d) h0 h1 h2).2
  unfold circaref15_Check chkD
  rw [ref_Season n (by omega) g l dg x q m d k0 k1 k2, hy, a1, a2, ref_Components n]
  simp only [ob]
  rw [ha, sea_eq0]
  show cond ((if yrD g l dg x q m then (1 : Int) else 0) == 0) _ (cond _ (cond _ (cond _ _ (cond _ (cond _ _ (cond (decide (0 < sea m)) _ _)) _)) (cond _ (cond _ _ (cond (decide (0 < sea m)) _ _)) _)) (cond _ (cond _ _ (cond (decide (0 < sea m)) _ _)) _)) = _
  generalize yrD g l dg x q m = b1
  generalize (m == []) = b2
  generalize decide (0 < sea m) = b3
  generalize agrees m 12 = b4
  generalize (d == []) = b5
  generalize agrees d 31 = b6
  cases b1 <;> cases b2 <;> cases b3 <;> cases b4 <;> cases b5 <;> cases b6 <;> rfl
theorem chk_yr {g l : Bool} {dg : List UInt8} {x q : Int} {m d : List UInt8} {k0 k1 k2 : Int} (h : chkD g l dg x q m d k0 k1 k2 = 0) : yrD g l dg x q m = true ∧ (m = [] ∨ 0 < sea m ∨ agrees m 12 = true) ∧ (d = [] ∨ (m ≠ [] ∧ sea m = 0 ∧ agrees d 31 = true)) ∧ allM k0 k1 k2 (comps m d) = 0 := by
  have hs := sea_nn m
  unfold chkD at h
  cases b1 : yrD g l dg x q m with
  | false => rw [b1] at h; exact absurd h (by simp)
  | true =>
    rw [b1] at h
    simp only [Bool.not_true, cond_false] at h
    cases b2 : (!(m == []) && (!(decide (0 < sea m)) && !(agrees m 12))) with
    | true => rw [b2] at h; exact absurd h (by simp)
    | false =>
      rw [b2] at h
      simp only [cond_false] at h
      cases b3 : (!(d == []) && ((m == []) || (decide (0 < sea m) || !(agrees d 31)))) with
      | true => rw [b3] at h; exact absurd h (by simp)
      | false =>
        rw [b3] at h
        simp only [cond_false] at h
        refine ⟨rfl, ?_, ?_, h⟩
        · by_cases h1 : m = []
          · exact .inl h1
          · by_cases h2 : 0 < sea m
            · exact .inr (.inl h2)
            · simp [h1, h2] at b2
              exact .inr (.inr b2)
        · by_cases h1 : d = []
          · exact .inl h1
          · by_cases h2 : m = []
            · simp [h1, h2] at b3
            · by_cases h3 : 0 < sea m
              · simp [h1, h2, h3] at b3
              · simp [h1, h2, h3] at b3
                exact .inr ⟨h2, by omega, b3⟩
theorem agrees_len {s : List UInt8} {g : Nat} (hg : g ≤ 31) (h : agrees s g = true) : s.length = 2 ∧ ∀ c ∈ s, isDX c = true := by
  unfold agrees at h
  obtain ⟨i, hm, hi⟩ := List.any_eq_true.1 h
  have hi31 : i < g := List.mem_range.1 hm
  have dig : ∀ k : Nat, k < 10 → isDX (UInt8.ofNat (48 + k)) = true := by decide
  have h88 : isDX 88 = true := by decide
  match s, hi with
  | [], hi => simp [agr] at hi
  | [_], hi => simp [agr] at hi
  | [a, b], hi =>
    refine ⟨rfl, ?_⟩
    simp only [agr, Bool.and_eq_true, Bool.or_eq_true, beq_iff_eq] at hi
    obtain ⟨ha, hb⟩ := hi
    intro c hc
    simp only [List.mem_cons, List.not_mem_nil, or_false] at hc
    rcases hc with rfl | rfl
    · rcases ha with rfl | rfl
      · exact h88
      · exact dig _ (by omega)
    · rcases hb with rfl | rfl
      · exact h88
      · exact dig _ (by omega)
  | _ :: _ :: _ :: _, hi => simp [agr] at hi
theorem sea_len {m : List UInt8} (h : 0 < sea m) : m.length = 2 ∧ ∀ c ∈ m, isDX c = true := by
  rcases sea_cases m with h0 | ⟨j, hj, rfl⟩
  · omega
  · refine ⟨rfl, ?_⟩
    have : ((List.range 21).all fun j => (two (21 + j)).all isDX) = true := by decide +kernel
    have := (List.all_eq_true.1 this) j (by simpa using hj)
    exact List.all_eq_true.1 this
def mkOf (c : UInt8) : Nat := if c = 63 then 1 else if c = 126 then 2 else if c = 37 then 3 else 0
def l3 (p : Nat × Nat × Nat) : List Int := [(p.1 : Int), (p.2.1 : Int), (p.2.2 : Int)]
def spM (A B : Nat × Nat × Nat) : Nat × Nat × Nat := (A.1 ||| B.1 ||| B.2.1 ||| B.2.2, A.2.1 ||| B.2.1 ||| B.2.2, A.2.2 ||| B.2.2)
noncomputable def chkOf (m j : Nat) : Bool :=
  (marks_Of (m + 300) (j : Int) == some (((mkOf (UInt8.ofNat j) : Nat) : Int), decide (0 < mkOf (UInt8.ofNat j)))) && (circaref13_Of (m + 300) (j : Int) == some ((mkOf (UInt8.ofNat j) : Nat) : Int))
theorem chkOf_ok (m : Nat) : (List.range 256).all (chkOf m) = true := by kernel_rfl
theorem mkOf_eq (m : Nat) (c : UInt8) : marks_Of (m + 300) ((c.toNat : Nat) : Int) = some (((mkOf c : Nat) : Int), decide (0 < mkOf c)) ∧ circaref13_Of (m + 300) ((c.toNat : Nat) : Int) = some ((mkOf c : Nat) : Int) := by
  have h := (List.all_eq_true.1 (chkOf_ok m)) c.toNat (List.mem_range.2 c.toNat_lt)
  unfold chkOf at h
  rw [show UInt8.ofNat c.toNat = c by simp] at h
  simp only [Bool.and_eq_true, beq_iff_eq] at h
  exact h
theorem r4 {p : Nat → Bool} (h : (List.range 4).all p = true) {a : Nat} (ha : a < 4) : p a = true := (List.all_eq_true.1 h) a (List.mem_range.2 ha)
def inM (k : Nat) (A : Nat × Nat × Nat) : Prop := A.1 < 4 ∧ A.2.1 < 4 ∧ A.2.2 < 4 ∧ (k < 2 → A.2.1 = 0) ∧ (k < 3 → A.2.2 = 0)
theorem allM_of {k : Nat} {A : Nat × Nat × Nat} (h : inM k A) : allM (A.1 : Int) (A.2.1 : Int) (A.2.2 : Int) k = 0 := by
  obtain ⟨h0, h1, h2, h3, h4⟩ := h
  unfold allM
  rw [if_neg (by omega)]
theorem or4 {a b : Nat} (ha : a < 4) (hb : b < 4) : bits .or .u8 (a : Int) (b : Int) = ((a ||| b : Nat) : Int) ∧ a ||| b < 4 := by
  have : ((List.range 4).all fun a => (List.range 4).all fun b => bits .or .u8 (a : Int) (b : Int) == ((a ||| b : Nat) : Int) && decide (a ||| b < 4)) = true := by decide +kernel
  have := r4 (r4 this ha) hb
  simpa using this
theorem df_Spread (n : Nat) (hn : 9 < n) (k : Nat) (A B : Nat × Nat × Nat) (hk : 1 ≤ k ∧ k ≤ 3) (hA : inM k A) (hB : inM k B) : marks_Spread n (l3 A) (l3 B) (k : Int) = some (l3 (spM A B), 0) := by
  obtain ⟨n, rfl⟩ : ∃ j, n = j + 5 := ⟨n - 5, by omega⟩
  have eA := (df_All (n + 5) (by omega) (A.1 : Int) (A.2.1 : Int) (A.2.2 : Int) k hk (by omega) (by omega) (by omega)).1
  have eB := (df_All (n + 5) (by omega) (B.1 : Int) (B.2.1 : Int) (B.2.2 : Int) k hk (by omega) (by omega) (by omega)).1
  rw [allM_of hA] at eA
  rw [allM_of hB] at eB
  have h0 : ∀ x : Nat, x < 4 → bits .or .u8 0 (x : Int) = (x : Int) := fun x hx => by
    have := (or4 (show 0 < 4 by omega) hx).1
    simpa using this
  have oo : ∀ x y : Nat, x < 4 → y < 4 → bits .or .u8 (x : Int) (y : Int) = ((x ||| y : Nat) : Int) := fun x y hx hy => (or4 hx hy).1
  have ol : ∀ x y : Nat, x < 4 → y < 4 → x ||| y < 4 := fun x y hx hy => (or4 hx hy).2
  unfold marks_Spread
  show ob (marks_All (n + 5) [(A.1 : Int), (A.2.1 : Int), (A.2.2 : Int)] (k : Int)) _ = _
  rw [eA]
  show ob (marks_All (n + 5) [(B.1 : Int), (B.2.1 : Int), (B.2.2 : Int)] (k : Int)) _ = _
  rw [eB]
  obtain ⟨a0, a1, a2⟩ := A
  obtain ⟨b0, b1, b2⟩ := B
  obtain ⟨g0, g1, g2, g3, g4⟩ := hA
  obtain ⟨f0, f1, f2, f3, f4⟩ := hB
  simp only at g0 g1 g2 g3 g4 f0 f1 f2 f3 f4
  have hk' : k = 1 ∨ k = 2 ∨ k = 3 := by omega
  rcases hk' with rfl | rfl | rfl
  · obtain rfl := g3 (by omega)
    obtain rfl := g4 (by omega)
    obtain rfl := f3 (by omega)
    obtain rfl := f4 (by omega)
    show some (([bits .or .u8 (a0 : Int) (bits .or .u8 0 (b0 : Int)), 0, 0] : List Int), (0 : Int)) = _
    rw [h0 b0 f0, oo _ _ g0 f0]
    simp [l3, spM]
  · obtain rfl := g4 (by omega)
    obtain rfl := f4 (by omega)
    show some (([bits .or .u8 (a0 : Int) (bits .or .u8 (bits .or .u8 0 (b1 : Int)) (b0 : Int)), bits .or .u8 (a1 : Int) (bits .or .u8 0 (b1 : Int)), 0] : List Int), (0 : Int)) = _
    rw [h0 b1 f1, oo _ _ f1 f0, oo _ _ g0 (ol _ _ f1 f0), oo _ _ g1 f1]
    simp [l3, spM, Nat.or_assoc, Nat.or_comm b1 b0]
  · show some (([bits .or .u8 (a0 : Int) (bits .or .u8 (bits .or .u8 (bits .or .u8 0 (b2 : Int)) (b1 : Int)) (b0 : Int)), bits .or .u8 (a1 : Int) (bits .or .u8 (bits .or .u8 0 (b2 : Int)) (b1 : Int)), bits .or .u8 (a2 : Int) (bits .or .u8 0 (b2 : Int))] : List Int), (0 : Int)) = _
    rw [h0 b2 f2, oo _ _ f2 f1, oo _ _ (ol _ _ f2 f1) f0, oo _ _ g0 (ol _ _ (ol _ _ f2 f1) f0), oo _ _ g1 (ol _ _ f2 f1), oo _ _ g2 f2]
    have e1 : a0 ||| (b2 ||| b1 ||| b0) = a0 ||| b0 ||| b1 ||| b2 := by rw [Nat.or_comm (b2 ||| b1) b0, Nat.or_comm b2 b1]; simp only [Nat.or_assoc]
    have e2 : a1 ||| (b2 ||| b1) = a1 ||| b1 ||| b2 := by rw [Nat.or_comm b2 b1]; simp only [Nat.or_assoc]
    rw [e1, e2]
    rfl
abbrev cI (x : Nat) : Int := (x : Int)
def bt (b a : Nat) : Nat := if b = 1 then a % 2 else a / 2 % 2
theorem bit_eq (n : Nat) {a b : Nat} (ha : a < 4) (hb : b = 1 ∨ b = 2) : circaref13_bit n (a : Int) (b : Int) = some ((bt b a : Nat) : Int) := by
  have h : a = 0 ∨ a = 1 ∨ a = 2 ∨ a = 3 := by omega
  rcases h with rfl | rfl | rfl | rfl <;> rcases hb with rfl | rfl <;> rfl
theorem bt_le (b a : Nat) : bt b a ≤ 1 := by unfold bt; split <;> omega
def bts (b : Nat) : List Nat → Nat
  | [] => 0
  | x :: l => bt b x + bts b l
theorem sp_l2 (n k b i : Nat) (hb : b = 1 ∨ b = 2) (hk : k ≤ 3) (A X Y : List Int) (bl : List Nat) (hl : bl.length = 3) (h4 : ∀ x ∈ bl, x < 4) : ∀ (r j acc : Nat), j + r = k → acc ≤ j + 1 → ∀ N, r < N →
    iterL (circaref13_Spread_l2 n) N ((k : Int), (b : Int), (i : Int), (acc : Int), (j : Int), A, bl.map cI, X, Y) = some ((k : Int), (b : Int), (i : Int), ((acc + bts b ((bl.take k).drop j) : Nat) : Int), A, bl.map cI, X, Y) := by
  intro r
  induction r with
  | zero =>
    intro j acc hj hacc N hN
    obtain ⟨N, rfl⟩ : ∃ k, N = k + 1 := ⟨N - 1, by omega⟩
    have s : circaref13_Spread_l2 n ((k : Int), (b : Int), (i : Int), (acc : Int), (j : Int), A, bl.map cI, X, Y) = some (.inr ((k : Int), (b : Int), (i : Int), (acc : Int), A, bl.map cI, X, Y)) := by
      unfold circaref13_Spread_l2
      rw [cond_dec, if_neg (show ¬ ((j : Int) < (k : Int)) by omega)]
    have e : (bl.take k).drop j = [] := List.drop_eq_nil_of_le (by rw [List.length_take]; omega)
    rw [iterL, s, e]
    rfl
  | succ r ih =>
    intro j acc hj hacc N hN
    obtain ⟨N, rfl⟩ : ∃ k, N = k + 1 := ⟨N - 1, by omega⟩
    have hjl : j < bl.length := by omega
    obtain ⟨x, hx⟩ : ∃ x, bl[j]? = some x := ⟨bl[j], List.getElem?_eq_getElem hjl⟩
    have hxm : (bl.map cI)[j]? = some (x : Int) := by rw [List.getElem?_map, hx]; rfl
    have hx4 := h4 x (List.mem_of_getElem? hx)
    have w : IntKind.wrap .i64 ((acc : Int) + ((bt b x : Nat) : Int)) = ((acc + bt b x : Nat) : Int) := by have := bt_le b x; rw [wrap_i64 _ (by omega) (by omega)]; omega
    have w2 : IntKind.wrap .i64 ((j : Int) + 1) = ((j + 1 : Nat) : Int) := by rw [wrap_i64 _ (by omega) (by omega)]; omega
    have s : circaref13_Spread_l2 n ((k : Int), (b : Int), (i : Int), (acc : Int), (j : Int), A, bl.map cI, X, Y) = some (.inl ((k : Int), (b : Int), (i : Int), ((acc + bt b x : Nat) : Int), ((j + 1 : Nat) : Int), A, bl.map cI, X, Y)) := by
      unfold circaref13_Spread_l2
      rw [cond_dec, if_pos (show (j : Int) < (k : Int) by omega)]
      show ob (ix 3 (j : Int)) _ = _
      rw [ix_nat (show j < 3 by omega)]
      show ob ((bl.map cI)[j]?) _ = _
      rw [hxm]
      show ob (circaref13_bit n (x : Int) (b : Int)) _ = _
      rw [bit_eq n hx4 hb]
      show some (Sum.inl ((k : Int), (b : Int), (i : Int), IntKind.wrap .i64 ((acc : Int) + ((bt b x : Nat) : Int)), IntKind.wrap .i64 ((j : Int) + 1), _)) = _
      rw [w, w2]
    have e : (bl.take k).drop j = x :: (bl.take k).drop (j + 1) := drop_get (by rw [List.getElem?_take_of_lt (by omega)]; exact hx)
    rw [iterL, s]
    have := bt_le b x
    show iterL _ N _ = _
    rw [ih (j + 1) (acc + bt b x) (by omega) (by omega) N (by omega), e]
    simp only [bts, Nat.add_assoc]
def hit (k b i : Nat) (al bl : List Nat) : Bool := decide (0 < bt b (al.getD i 0) + bts b ((bl.take k).drop i))
theorem sp_l1 (n k b i : Nat) (hn : 9 < n) (hb : b = 1 ∨ b = 2) (hk : k ≤ 3) (hi : i < k) (X : List Int) (al bl : List Nat) (ha : al.length = 3) (hl : bl.length = 3) (a4 : ∀ x ∈ al, x < 4) (h4 : ∀ x ∈ bl, x < 4) (out : List Int) (o : Int) (ho : out[i]? = some o) :
    circaref13_Spread_l1 n ((k : Int), (b : Int), (i : Int), al.map cI, bl.map cI, X, out) = some (.inl ((k : Int), (b : Int), ((i + 1 : Nat) : Int), al.map cI, bl.map cI, X, cond (hit k b i al bl) (out.set i (IntKind.wrap .u8 (o + (b : Int)))) out)) := by
  obtain ⟨x, hx⟩ : ∃ x, al[i]? = some x := ⟨al[i], List.getElem?_eq_getElem (by omega)⟩
  have hxm : (al.map cI)[i]? = some (x : Int) := by rw [List.getElem?_map, hx]; rfl
  have hx4 := a4 x (List.mem_of_getElem? hx)
  have hbx := bt_le b x
  have w2 : IntKind.wrap .i64 ((i : Int) + 1) = ((i + 1 : Nat) : Int) := by rw [wrap_i64 _ (by omega) (by omega)]; omega
  have hl2 := sp_l2 n k b i hb hk (al.map cI) X out bl hl h4 (k - i) i (bt b x) (by omega) (by omega) n (by omega)
  unfold circaref13_Spread_l1
  rw [cond_dec, if_pos (show (i : Int) < (k : Int) by omega)]
  show ob (ix 3 (i : Int)) _ = _
  rw [ix_nat (show i < 3 by omega)]
  show ob ((al.map cI)[i]?) _ = _
  rw [hxm]
  show ob (circaref13_bit n (x : Int) (b : Int)) _ = _
  rw [bit_eq n hx4 hb]
  show ob (iterL (circaref13_Spread_l2 n) n ((k : Int), (b : Int), (i : Int), ((bt b x : Nat) : Int), (i : Int), al.map cI, bl.map cI, X, out)) _ = _
  rw [hl2]
  have eh : hit k b i al bl = decide (((bt b x + bts b ((bl.take k).drop i) : Nat) : Int) > 0) := by
    unfold hit
    rw [List.getD_eq_getElem?_getD, hx]
    rw [decide_eq_decide]
    simp only [Option.getD_some]
    omega
  rw [eh]
  show cond (decide (((bt b x + bts b ((bl.take k).drop i) : Nat) : Int) > 0)) (ob (ix 3 (i : Int)) fun j => ob (out[j]?) fun y => ob (ix 3 (i : Int)) fun j2 => cond (Nat.blt j2 3) (some (Sum.inl ((k : Int), (b : Int), IntKind.wrap .i64 ((i : Int) + 1), al.map cI, bl.map cI, X, out.set j2 (IntKind.wrap .u8 (y + (b : Int)))))) none) (some (Sum.inl ((k : Int), (b : Int), IntKind.wrap .i64 ((i : Int) + 1), al.map cI, bl.map cI, X, out))) = _
  rw [ix_nat (show i < 3 by omega), w2]
  have hb3 : Nat.blt i 3 = true := Nat.ble_eq_true_of_le (by omega)
  simp only [ob, ho, hb3, cond_true]
  cases decide (((bt b x + bts b ((bl.take k).drop i) : Nat) : Int) > 0) <;> rfl
def addB (k b : Nat) (al bl : List Nat) (o : List Int) : List Int := [cond (decide (0 < k) && hit k b 0 al bl) (IntKind.wrap .u8 (o.getD 0 0 + (b : Int))) (o.getD 0 0), cond (decide (1 < k) && hit k b 1 al bl) (IntKind.wrap .u8 (o.getD 1 0 + (b : Int))) (o.getD 1 0), cond (decide (2 < k) && hit k b 2 al bl) (IntKind.wrap .u8 (o.getD 2 0 + (b : Int))) (o.getD 2 0)]
theorem sp_l1run (n k b : Nat) (hn : 9 < n) (hb : b = 1 ∨ b = 2) (hk : 1 ≤ k ∧ k ≤ 3) (X : List Int) (al bl : List Nat) (ha : al.length = 3) (hl : bl.length = 3) (a4 : ∀ x ∈ al, x < 4) (h4 : ∀ x ∈ bl, x < 4) (o0 o1 o2 : Int) :
    iterL (circaref13_Spread_l1 n) n ((k : Int), (b : Int), 0, al.map cI, bl.map cI, X, [o0, o1, o2]) = some ((k : Int), (b : Int), al.map cI, bl.map cI, X, addB k b al bl [o0, o1, o2]) := by
  obtain ⟨n, rfl⟩ : ∃ j, n = j + 5 := ⟨n - 5, by omega⟩
  have fin : ∀ (N : Nat) (out : List Int), iterL (circaref13_Spread_l1 (n + 5)) (N + 1) ((k : Int), (b : Int), ((k : Nat) : Int), al.map cI, bl.map cI, X, out) = some ((k : Int), (b : Int), al.map cI, bl.map cI, X, out) := fun N out => by
    rw [iterL]
    have : circaref13_Spread_l1 (n + 5) ((k : Int), (b : Int), ((k : Nat) : Int), al.map cI, bl.map cI, X, out) = some (.inr ((k : Int), (b : Int), al.map cI, bl.map cI, X, out)) := by
      unfold circaref13_Spread_l1
      rw [cond_dec, if_neg (show ¬ ((k : Int) < (k : Int)) by omega)]
    rw [this]
  have go := fun (i : Nat) (hi : i < k) (out : List Int) (o : Int) (ho : out[i]? = some o) => sp_l1 (n + 5) k b i hn hb hk.2 hi X al bl ha hl a4 h4 out o ho
  have hk' : k = 1 ∨ k = 2 ∨ k = 3 := by omega
  have s1 := go 0 (by omega) [o0, o1, o2] o0 rfl
  rcases hk' with rfl | rfl | rfl
  · rw [iterL]
    rw [show ((0 : Nat) : Int) = 0 from rfl] at s1
    rw [s1]
    show iterL _ (n + 3 + 1) (((1 : Nat) : Int), (b : Int), ((1 : Nat) : Int), _) = _
    rw [fin]
    unfold addB
    cases hit 1 b 0 al bl <;> rfl
  · rw [iterL]
    rw [show ((0 : Nat) : Int) = 0 from rfl] at s1
    rw [s1]
    show iterL _ (n + 4) (((2 : Nat) : Int), (b : Int), ((1 : Nat) : Int), _) = _
    rw [iterL, go 1 (by omega) _ o1 (by cases hit 2 b 0 al bl <;> rfl)]
    show iterL _ (n + 2 + 1) (((2 : Nat) : Int), (b : Int), ((2 : Nat) : Int), _) = _
    rw [fin]
    unfold addB
    cases hit 2 b 0 al bl <;> cases hit 2 b 1 al bl <;> rfl
  · rw [iterL]
    rw [show ((0 : Nat) : Int) = 0 from rfl] at s1
    rw [s1]
    show iterL _ (n + 4) (((3 : Nat) : Int), (b : Int), ((1 : Nat) : Int), _) = _
    rw [iterL, go 1 (by omega) _ o1 (by cases hit 3 b 0 al bl <;> rfl)]
    show iterL _ (n + 3) (((3 : Nat) : Int), (b : Int), ((2 : Nat) : Int), _) = _
    rw [iterL, go 2 (by omega) _ o2 (by cases hit 3 b 0 al bl <;> cases hit 3 b 1 al bl <;> rfl)]
    show iterL _ (n + 1 + 1) (((3 : Nat) : Int), (b : Int), ((3 : Nat) : Int), _) = _
    rw [fin]
    unfold addB
    cases hit 3 b 0 al bl <;> cases hit 3 b 1 al bl <;> cases hit 3 b 2 al bl <;> rfl
def lN (p : Nat × Nat × Nat) : List Nat := [p.1, p.2.1, p.2.2]
theorem bit_or {x y : Nat} (hx : x < 4) (hy : y < 4) (b : Nat) (hb : b = 1 ∨ b = 2) : decide (0 < bt b (x ||| y)) = decide (0 < bt b x + bt b y) := by
  have : ((List.range 4).all fun a => (List.range 4).all fun c => (decide (0 < bt 1 (a ||| c)) == decide (0 < bt 1 a + bt 1 c)) && (decide (0 < bt 2 (a ||| c)) == decide (0 < bt 2 a + bt 2 c))) = true := by decide +kernel
  have := r4 (r4 this hx) hy
  simp only [Bool.and_eq_true, beq_iff_eq] at this
  rcases hb with rfl | rfl
  · exact this.1
  · exact this.2
theorem val_bits {x : Nat} (hx : x < 4) : cond (decide (0 < bt 2 x)) (IntKind.wrap .u8 (cond (decide (0 < bt 1 x)) (IntKind.wrap .u8 (0 + ((1 : Nat) : Int))) 0 + ((2 : Nat) : Int))) (cond (decide (0 < bt 1 x)) (IntKind.wrap .u8 (0 + ((1 : Nat) : Int))) 0) = (x : Int) := by
  have h : x = 0 ∨ x = 1 ∨ x = 2 ∨ x = 3 := by omega
  rcases h with rfl | rfl | rfl | rfl <;> decide
theorem ref_Spread (n : Nat) (hn : 9 < n) (k : Nat) (A B : Nat × Nat × Nat) (hk : 1 ≤ k ∧ k ≤ 3) (hA : inM k A) (hB : inM k B) : circaref13_Spread n (l3 A) (l3 B) (k : Int) = some (l3 (spM A B)) := by
  obtain ⟨a0, a1, a2⟩ := A
  obtain ⟨b0, b1, b2⟩ := B
  obtain ⟨g0, g1, g2, g3, g4⟩ := hA
  obtain ⟨f0, f1, f2, f3, f4⟩ := hB
  simp only at g0 g1 g2 g3 g4 f0 f1 f2 f3 f4
  have ol : ∀ x y : Nat, x < 4 → y < 4 → x ||| y < 4 := fun x y hx hy => (or4 hx hy).2
  have a4 : ∀ x ∈ lN (a0, a1, a2), x < 4 := by
    intro x hx
    simp only [lN, List.mem_cons, List.not_mem_nil, or_false] at hx
    rcases hx with rfl | rfl | rfl <;> assumption
  have b4 : ∀ x ∈ lN (b0, b1, b2), x < 4 := by
    intro x hx
    simp only [lN, List.mem_cons, List.not_mem_nil, or_false] at hx
    rcases hx with rfl | rfl | rfl <;> assumption
  have run := fun (b : Nat) (hb : b = 1 ∨ b = 2) (o0 o1 o2 : Int) => sp_l1run n k b hn hb hk [0, 0, 0] (lN (a0, a1, a2)) (lN (b0, b1, b2)) rfl rfl a4 b4 o0 o1 o2
  have r1 := run 1 (.inl rfl) 0 0 0
  obtain ⟨p0, p1, p2, hp⟩ : ∃ p0 p1 p2, addB k 1 (lN (a0, a1, a2)) (lN (b0, b1, b2)) [0, 0, 0] = [p0, p1, p2] := ⟨_, _, _, rfl⟩
  have r2 := run 2 (.inr rfl) p0 p1 p2
  rw [hp] at r1
  obtain ⟨n, rfl⟩ : ∃ j, n = j + 5 := ⟨n - 5, by omega⟩
  have s1 : circaref13_Spread_l0 (n + 5) ((k : Int), 1, l3 (a0, a1, a2), l3 (b0, b1, b2), [0, 0, 0], [0, 0, 0]) = some (.inl ((k : Int), 2, l3 (a0, a1, a2), l3 (b0, b1, b2), [0, 0, 0], [p0, p1, p2])) := by
    unfold circaref13_Spread_l0
    show cond (decide ((1 : Int) ≤ 2)) (ob (iterL (circaref13_Spread_l1 (n + 5)) (n + 5) ((k : Int), ((1 : Nat) : Int), 0, (lN (a0, a1, a2)).map cI, (lN (b0, b1, b2)).map cI, [0, 0, 0], [0, 0, 0])) _) _ = _
    rw [r1]
    rfl
  have s2 : circaref13_Spread_l0 (n + 5) ((k : Int), 2, l3 (a0, a1, a2), l3 (b0, b1, b2), [0, 0, 0], [p0, p1, p2]) = some (.inl ((k : Int), 3, l3 (a0, a1, a2), l3 (b0, b1, b2), [0, 0, 0], addB k 2 (lN (a0, a1, a2)) (lN (b0, b1, b2)) [p0, p1, p2])) := by
    unfold circaref13_Spread_l0
    show cond (decide ((2 : Int) ≤ 2)) (ob (iterL (circaref13_Spread_l1 (n + 5)) (n + 5) ((k : Int), ((2 : Nat) : Int), 0, (lN (a0, a1, a2)).map cI, (lN (b0, b1, b2)).map cI, [0, 0, 0], [p0, p1, p2])) _) _ = _
    rw [r2]
    rfl
  have s3 : ∀ out : List Int, circaref13_Spread_l0 (n + 5) ((k : Int), 3, l3 (a0, a1, a2), l3 (b0, b1, b2), [0, 0, 0], out) = some (.inr ([0, 0, 0], out)) := fun out => rfl
  unfold circaref13_Spread
  rw [iterL, s1]
  show ob (iterL _ (n + 4) _) _ = _
  rw [iterL, s2]
  show ob (iterL _ (n + 3) _) _ = _
  rw [iterL, s3]
  show some (addB k 2 (lN (a0, a1, a2)) (lN (b0, b1, b2)) [p0, p1, p2]) = _
  rw [← hp]
  have hk' : k = 1 ∨ k = 2 ∨ k = 3 := by omega
  have or2 := fun (x y : Nat) (hx : x < 4) (hy : y < 4) (b : Nat) (hb : b = 1 ∨ b = 2) => bit_or hx hy b hb
  rcases hk' with rfl | rfl | rfl
  · obtain rfl := g3 (by omega)
    obtain rfl := g4 (by omega)
    obtain rfl := f3 (by omega)
    obtain rfl := f4 (by omega)
    have e : ∀ b, b = 1 ∨ b = 2 → hit 1 b 0 (lN (a0, 0, 0)) (lN (b0, 0, 0)) = decide (0 < bt b (a0 ||| b0)) := fun b hb => by rw [bit_or g0 f0 b hb]; rfl
    show some [cond (hit 1 2 0 (lN (a0, 0, 0)) (lN (b0, 0, 0))) (IntKind.wrap .u8 (cond (hit 1 1 0 (lN (a0, 0, 0)) (lN (b0, 0, 0))) (IntKind.wrap .u8 (0 + ((1 : Nat) : Int))) 0 + ((2 : Nat) : Int))) (cond (hit 1 1 0 (lN (a0, 0, 0)) (lN (b0, 0, 0))) (IntKind.wrap .u8 (0 + ((1 : Nat) : Int))) 0), 0, 0] = _
    rw [e 1 (.inl rfl), e 2 (.inr rfl), val_bits (ol _ _ g0 f0)]
    simp [l3, spM]
  · obtain rfl := g4 (by omega)
    obtain rfl := f4 (by omega)
    have h2 : ∀ b, b = 1 ∨ b = 2 → hit 2 b 1 (lN (a0, a1, 0)) (lN (b0, b1, 0)) = decide (0 < bt b (a1 ||| b1)) := fun b hb => by rw [bit_or g1 f1 b hb]; rfl
    have h1 : ∀ b, b = 1 ∨ b = 2 → hit 2 b 0 (lN (a0, a1, 0)) (lN (b0, b1, 0)) = decide (0 < bt b (a0 ||| b0 ||| b1)) := fun b hb => by
      have q1 := bit_or (ol _ _ g0 f0) f1 b hb
      have q2 := bit_or g0 f0 b hb
      rw [q1]
      have : hit 2 b 0 (lN (a0, a1, 0)) (lN (b0, b1, 0)) = decide (0 < bt b a0 + (bt b b0 + (bt b b1 + 0))) := rfl
      rw [this]
      simp only [decide_eq_decide] at q2 ⊢
      omega
    show some [cond (hit 2 2 0 (lN (a0, a1, 0)) (lN (b0, b1, 0))) (IntKind.wrap .u8 (cond (hit 2 1 0 (lN (a0, a1, 0)) (lN (b0, b1, 0))) (IntKind.wrap .u8 (0 + ((1 : Nat) : Int))) 0 + ((2 : Nat) : Int))) (cond (hit 2 1 0 (lN (a0, a1, 0)) (lN (b0, b1, 0))) (IntKind.wrap .u8 (0 + ((1 : Nat) : Int))) 0), cond (hit 2 2 1 (lN (a0, a1, 0)) (lN (b0, b1, 0))) (IntKind.wrap .u8 (cond (hit 2 1 1 (lN (a0, a1, 0)) (lN (b0, b1, 0))) (IntKind.wrap .u8 (0 + ((1 : Nat) : Int))) 0 + ((2 : Nat) : Int))) (cond (hit 2 1 1 (lN (a0, a1, 0)) (lN (b0, b1, 0))) (IntKind.wrap .u8 (0 + ((1 : Nat) : Int))) 0), 0] = _
    rw [h1 1 (.inl rfl), h1 2 (.inr rfl), h2 1 (.inl rfl), h2 2 (.inr rfl), val_bits (ol _ _ (ol _ _ g0 f0) f1), val_bits (ol _ _ g1 f1)]
    simp [l3, spM]
  · have h3 : ∀ b, b = 1 ∨ b = 2 → hit 3 b 2 (lN (a0, a1, a2)) (lN (b0, b1, b2)) = decide (0 < bt b (a2 ||| b2)) := fun b hb => by rw [bit_or g2 f2 b hb]; rfl
    have h2 : ∀ b, b = 1 ∨ b = 2 → hit 3 b 1 (lN (a0, a1, a2)) (lN (b0, b1, b2)) = decide (0 < bt b (a1 ||| b1 ||| b2)) := fun b hb => by
      have q1 := bit_or (ol _ _ g1 f1) f2 b hb
      have q2 := bit_or g1 f1 b hb
      rw [q1]
      have : hit 3 b 1 (lN (a0, a1, a2)) (lN (b0, b1, b2)) = decide (0 < bt b a1 + (bt b b1 + (bt b b2 + 0))) := rfl
      rw [this]
      simp only [decide_eq_decide] at q2 ⊢
      omega
    have h1 : ∀ b, b = 1 ∨ b = 2 → hit 3 b 0 (lN (a0, a1, a2)) (lN (b0, b1, b2)) = decide (0 < bt b (a0 ||| b0 ||| b1 ||| b2)) := fun b hb => by
      have q1 := bit_or (ol _ _ (ol _ _ g0 f0) f1) f2 b hb
      have q2 := bit_or (ol _ _ g0 f0) f1 b hb
      have q3 := bit_or g0 f0 b hb
      rw [q1]
      have : hit 3 b 0 (lN (a0, a1, a2)) (lN (b0, b1, b2)) = decide (0 < bt b a0 + (bt b b0 + (bt b b1 + (bt b b2 + 0)))) := rfl
      rw [this]
      simp only [decide_eq_decide] at q2 q3 ⊢
      omega
    show some [cond (hit 3 2 0 (lN (a0, a1, a2)) (lN (b0, b1, b2))) (IntKind.wrap .u8 (cond (hit 3 1 0 (lN (a0, a1, a2)) (lN (b0, b1, b2))) (IntKind.wrap .u8 (0 + ((1 : Nat) : Int))) 0 + ((2 : Nat) : Int))) (cond (hit 3 1 0 (lN (a0, a1, a2)) (lN (b0, b1, b2))) (IntKind.wrap .u8 (0 + ((1 : Nat) : Int))) 0), cond (hit 3 2 1 (lN (a0, a1, a2)) (lN (b0, b1, b2))) (IntKind.wrap .u8 (cond (hit 3 1 1 (lN (a0, a1, a2)) (lN (b0, b1, b2))) (IntKind.wrap .u8 (0 + ((1 : Nat) : Int))) 0 + ((2 : Nat) : Int))) (cond (hit 3 1 1 (lN (a0, a1, a2)) (lN (b0, b1, b2))) (IntKind.wrap .u8 (0 + ((1 : Nat) : Int))) 0), cond (hit 3 2 2 (lN (a0, a1, a2)) (lN (b0, b1, b2))) (IntKind.wrap .u8 (cond (hit 3 1 2 (lN (a0, a1, a2)) (lN (b0, b1, b2))) (IntKind.wrap .u8 (0 + ((1 : Nat) : Int))) 0 + ((2 : Nat) : Int))) (cond (hit 3 1 2 (lN (a0, a1, a2)) (lN (b0, b1, b2))) (IntKind.wrap .u8 (0 + ((1 : Nat) : Int))) 0)] = _
    rw [h1 1 (.inl rfl), h1 2 (.inr rfl), h2 1 (.inl rfl), h2 2 (.inr rfl), h3 1 (.inl rfl), h3 2 (.inr rfl), val_bits (ol _ _ (ol _ _ (ol _ _ g0 f0) f1) f2), val_bits (ol _ _ (ol _ _ g1 f1) f2), val_bits (ol _ _ g2 f2)]
    rfl
def mkS (l : List UInt8) : Nat := match l with | [] => 0 | c :: _ => mkOf c
def mkN (l : List UInt8) : Nat := if mkS l = 0 then 0 else 1
def twoN (l : List UInt8) : Nat := spanN isDX 2 l
theorem mkOf_lt (c : UInt8) : mkOf c < 4 := by
  unfold mkOf
  split
  · omega
  · split
    · omega
    · split <;> omega
theorem mkS_lt (l : List UInt8) : mkS l < 4 := by
  cases l with
  | nil => show 0 < 4; omega
  | cons c r => exact mkOf_lt c
theorem mkN_le (l : List UInt8) : mkN l ≤ l.length := by
  cases l with
  | nil => exact Nat.le_refl 0
  | cons c r =>
    unfold mkN
    split <;> simp
theorem mk_hasB (c : UInt8) : hasB [63, 126, 37] c = decide (0 < mkOf c) := by
  have := u8_forall (fun c => hasB [63, 126, 37] c == decide (0 < mkOf c)) (by decide +kernel) c
  simpa using this
theorem df_mark (m : Nat) (S : List UInt8) (a : Nat) (h : a ≤ S.length) (hS : S.length < 100000) :
    dateforms_Read_1 (m + 300) S (a : Int) = some (.inr (((mkS (S.drop a) : Nat) : Int), S, ((a + mkN (S.drop a) : Nat) : Int))) := by
  unfold dateforms_Read_1
  rw [cur_Peek (m + 300) S a h]
  cases hd : S.drop a with
  | nil =>
    have h0 : marks_Of (m + 300) 0 = some (0, false) := by kernel_rfl
    show ob (marks_Of (m + 300) 0) _ = _
    rw [h0]
    rfl
  | cons c r =>
    show ob (marks_Of (m + 300) ((c.toNat : Nat) : Int)) _ = _
    rw [(mkOf_eq m c).1]
    show cond (decide (0 < mkOf c)) _ _ = _
    have e1 : mkS (c :: r) = mkOf c := rfl
    by_cases hc : 0 < mkOf c
    · rw [decide_eq_true hc]
      show ob (cursors_Cursor_One (m + 300) [63, 126, 37] S (a : Int)) _ = _
      rw [cur_One (m + 300) _ S a h (by omega), hd]
      have hb : hasB [63, 126, 37] c = true := by rw [mk_hasB, decide_eq_true hc]
      have e2 : mkN (c :: r) = 1 := by unfold mkN; rw [e1, if_neg (by omega)]
      rw [e1, e2]
      simp only [hb, if_true, ob]
    · rw [decide_eq_false hc]
      have e2 : mkN (c :: r) = 0 := by unfold mkN; rw [e1, if_pos (by omega)]
      rw [e1, e2]
      rfl
theorem ref_mark (m : Nat) (S : List UInt8) (a : Nat) (h : a ≤ S.length) (hS : S.length < 100000) (e : Int) :
    circaref15_mark (m + 300) S (a : Int) e = some (((mkS (S.drop a) : Nat) : Int), S, ((a + mkN (S.drop a) : Nat) : Int), e) := by
  unfold circaref15_mark
  rw [nat_dec_ge]
  rcases Nat.lt_or_ge a S.length with hlt | hge
  · have : decide (S.length ≤ a) = false := by simp; omega
    rw [this]
    obtain ⟨c, hc⟩ : ∃ c, S[a]? = some c := ⟨S[a], List.getElem?_eq_getElem hlt⟩
    rw [sx_nat hc, drop_get hc]
    show ob (circaref13_Of (m + 300) ((c.toNat : Nat) : Int)) _ = _
    rw [(mkOf_eq m c).2]
    have e1 : mkS (c :: S.drop (a + 1)) = mkOf c := rfl
    show cond (decide (((mkOf c : Nat) : Int) > 0)) _ _ = _
    by_cases h0 : 0 < mkOf c
    · have e2 : mkN (c :: S.drop (a + 1)) = 1 := by unfold mkN; rw [e1, if_neg (by omega)]
      have : decide (((mkOf c : Nat) : Int) > 0) = true := by simp; omega
      rw [this, e1, e2, cond_true]
      have w : IntKind.wrap .i64 ((a : Int) + 1) = ((a + 1 : Nat) : Int) := by rw [wrap_i64 _ (by omega) (by omega)]; omega
      rw [w]
    · have e2 : mkN (c :: S.drop (a + 1)) = 0 := by unfold mkN; rw [e1, if_pos (by omega)]
      have : decide (((mkOf c : Nat) : Int) > 0) = false := by simp; omega
      rw [this, e1, e2, cond_false]
      rfl
  · have : decide (S.length ≤ a) = true := by simp; omega
    rw [this, List.drop_eq_nil_of_le hge]
    rfl
theorem df_two (n : Nat) (S : List UInt8) (a : Nat) (h : a ≤ S.length) (hS : S.length < 100000) (hn : S.length < n) :
    dateforms_Read_2 n S (a : Int) = some (if twoN (S.drop a) < 2 then .inl (((a + twoN (S.drop a) : Nat) : Int), 5, S, ((a + twoN (S.drop a) : Nat) : Int)) else .inr ((S.drop a).take 2, S, ((a + 2 : Nat) : Int))) := by
  unfold dateforms_Read_2
  rw [cur_Some n _ 2 2 S a h (by omega) hn]
  have e : spanN (hasB [88, 48, 49, 50, 51, 52, 53, 54, 55, 56, 57]) (2 : Int).toNat (S.drop a) = twoN (S.drop a) := by
    unfold twoN
    have e2 : (2 : Int).toNat = 2 := rfl
    rw [e2]
    exact spanN_congr (fun c => by rw [hasB_digsX]; rfl) _ _
  rw [e]
  by_cases h2 : twoN (S.drop a) < 2
  · rw [if_pos h2, if_pos (by omega)]
    rfl
  · have h3 : twoN (S.drop a) = 2 := by
      have := spanN_top isDX 2 (S.drop a)
      unfold twoN at h2 ⊢
      omega
    rw [if_neg h2, if_neg (by omega), h3]
    rfl
theorem dx_int (c : UInt8) : isDX c = ((decide (48 ≤ c.toNat) && decide (c.toNat ≤ 57)) || c == 88) := by
  unfold isDX
  congr 1
  rw [Bool.eq_iff_iff, isDig_iff]
  simp
theorem two_step (n : Nat) (S : List UInt8) (a b i e : Int) (j : Nat) (hS : S.length < 100000) (hi : i < 2) (hj : j ≤ S.length) (i0 : 0 ≤ i) :
    circaref15_two_l0 n (b, i, S, (j : Int), e, [], 0, 0) = some (match S.drop j with
      | [] => .inr (.inl ([], S, (j : Int), 5))
      | c :: _ => if isDX c then .inl (b, i + 1, S, ((j + 1 : Nat) : Int), e, [], 0, 0) else .inr (.inl ([], S, (j : Int), 5))) := by
  unfold circaref15_two_l0
  have d1 : decide (i < 2) = true := decide_eq_true hi
  show cond (decide (i < 2)) (cond (decide ((j : Int) ≥ ((S.length : Nat) : Int))) _ _) _ = _
  rw [d1, nat_dec_ge]
  rcases Nat.lt_or_ge j S.length with hlt | hge
  · have : decide (S.length ≤ j) = false := by simp; omega
    rw [this]
    obtain ⟨c, hc⟩ : ∃ c, S[j]? = some c := ⟨S[j], List.getElem?_eq_getElem hlt⟩
    have w1 : IntKind.wrap .i64 (i + 1) = i + 1 := wrap_i64 _ (by omega) (by omega)
    have w2 : IntKind.wrap .i64 ((j : Int) + 1) = ((j + 1 : Nat) : Int) := by rw [wrap_i64 _ (by omega) (by omega)]; omega
    rw [drop_get hc]
    simp only [sx_nat hc, ob, cond_true, cond_false, w1, w2]
    rw [dx_int]
    have e88 : (((c.toNat : Nat) : Int) != 88) = !(c == 88) := by rw [bne]; congr 1; exact u8_beq c 88
    rw [e88]
    by_cases h1 : c.toNat < 48
    · have q1 : decide (((c.toNat : Nat) : Int) < 48) = true := by simp; omega
      have q2 : decide (48 ≤ c.toNat) = false := by simp; omega
      rw [q1, q2]
      cases (c == 88) <;> rfl
    · have q1 : decide (((c.toNat : Nat) : Int) < 48) = false := by simp; omega
      have q2 : decide (48 ≤ c.toNat) = true := by simp; omega
      rw [q1, q2]
      by_cases h2 : c.toNat ≤ 57
      · have q3 : decide (((c.toNat : Nat) : Int) > 57) = false := by simp; omega
        have q4 : decide (c.toNat ≤ 57) = true := by simp; omega
        rw [q3, q4]
        rfl
      · have q3 : decide (((c.toNat : Nat) : Int) > 57) = true := by simp; omega
        have q4 : decide (c.toNat ≤ 57) = false := by simp; omega
        rw [q3, q4]
        cases (c == 88) <;> rfl
  · have : decide (S.length ≤ j) = true := by simp; omega
    rw [this, List.drop_eq_nil_of_le hge]
    rfl
theorem ref_two (n : Nat) (hn : 10 < n) (S : List UInt8) (a : Nat) (h : a ≤ S.length) (hS : S.length < 100000) (e : Int) :
    circaref15_two n S (a : Int) e = some (if twoN (S.drop a) < 2 then ([], S, ((a + twoN (S.drop a) : Nat) : Int), 5) else ((S.drop a).take 2, S, ((a + 2 : Nat) : Int), e)) := by
  obtain ⟨n, rfl⟩ : ∃ j, n = j + 3 := ⟨n - 3, by omega⟩
  unfold circaref15_two
  rw [iterL, two_step (n + 3) S 0 (a : Int) 0 e a hS (by omega) h (by omega)]
  cases hd : S.drop a with
  | nil => rfl
  | cons c r =>
    obtain ⟨hlt, hg, hr⟩ := drop_lt hd
    cases hc : isDX c with
    | false =>
      have : twoN (c :: r) = 0 := by unfold twoN; simp [spanN, hc]
      rw [this]
      simp [hc, ob]
    | true =>
      simp only [hc, if_true]
      rw [iterL, two_step (n + 3) S 0 (a : Int) (0 + 1) e (a + 1) hS (by omega) (by omega) (by omega), hr]
      cases r with
      | nil =>
        have : twoN [c] = 1 := by unfold twoN; simp [spanN, hc]
        rw [this]
        rfl
      | cons d r2 =>
        obtain ⟨hlt2, hg2, hr2⟩ := drop_lt hr
        cases hd2 : isDX d with
        | false =>
          have : twoN (c :: d :: r2) = 1 := by unfold twoN; simp [spanN, hc, hd2]
          rw [this]
          simp [hd2, ob]
        | true =>
          have : twoN (c :: d :: r2) = 2 := by unfold twoN; simp [spanN, hc, hd2]
          rw [this]
          simp only [hd2, if_true]
          have s3 : circaref15_two_l0 (n + 3) ((a : Int), 0 + 1 + 1, S, ((a + 1 + 1 : Nat) : Int), e, [], 0, 0) = some (.inr (.inr ((a : Int), S, ((a + 1 + 1 : Nat) : Int), e, [], 0, 0))) := rfl
          rw [iterL, s3]
          show ob (bx S.length ((a + 1 + 1 : Nat) : Int)) _ = _
          rw [bx_nat (show a + 1 + 1 ≤ S.length by omega)]
          show ob (bx (a + 1 + 1) (a : Int)) _ = _
          rw [bx_nat (show a ≤ a + 1 + 1 by omega)]
          have : List.drop a (List.take (a + 1 + 1) S) = [c, d] := by
            rw [List.drop_take, hd]
            have : a + 1 + 1 - a = 2 := by omega
            rw [this]
            rfl
          show some (List.drop a (List.take (a + 1 + 1) S), S, ((a + 1 + 1 : Nat) : Int), e) = _
          rw [this]
          rfl
theorem dd_low {k : Nat} (h : k < 10) : Lib.decDigits k = [UInt8.ofNat (48 + k)] := by
  rw [Lib.decDigits, dif_pos h]
theorem dd_high {k : Nat} (h : ¬ k < 10) (h2 : k < 100) : Lib.decDigits k = [UInt8.ofNat (48 + k / 10), UInt8.ofNat (48 + k % 10)] := by
  rw [Lib.decDigits, dif_neg h, dd_low (by omega)]; rfl
def textN (letter : UInt8) (v : Nat) : List UInt8 := if 0 < v then letter :: Lib.decDigits v else []
theorem ytext_parts (g l : Bool) (d : List UInt8) (x s : Nat) : ytextF g l d (x : Int) (s : Int) = (if l then [89] else []) ++ (if g then [45] else []) ++ d ++ textN 69 x ++ textN 83 s := by
  unfold ytextF textN
  simp only [Int.toNat_natCast]
  have e1 : (0 < (x : Int)) = (0 < x) := by simp
  have e2 : (0 < (s : Int)) = (0 < s) := by simp
  simp only [e1, e2]
theorem ofNat_dig {k : Nat} (h : k < 10) : (UInt8.ofNat (48 + k)).toNat = 48 + k := by
  rw [UInt8.toNat_ofNat']
  exact Nat.mod_eq_of_lt (by omega)
theorem numS_back (letter : UInt8) (l : List UInt8) (v k : Nat) (h : numS letter l = .inr (v, k)) : v < 100 ∧ l.take k = textN letter v ∧ k ≤ l.length := by
  cases l with
  | nil =>
    simp only [numS_nil, Sum.inr.injEq, Prod.mk.injEq] at h
    obtain ⟨rfl, rfl⟩ := h
    exact ⟨by omega, rfl, by simp⟩
  | cons c r =>
    rw [numS_cons] at h
    by_cases hc : c = letter
    · rw [if_pos hc] at h
      cases r with
      | nil => simp [numT_nil] at h
      | cons d r2 =>
        rw [numT_cons] at h
        by_cases hd : 49 ≤ d.toNat ∧ d.toNat ≤ 57
        · rw [if_pos hd] at h
          have e9 : d.toNat - 48 < 10 := by omega
          have hdd : UInt8.ofNat (48 + (d.toNat - 48)) = d := by
            apply UInt8.toNat_inj.1
            rw [ofNat_dig e9]; omega
          have one : (c :: d :: r2).take 2 = textN letter (d.toNat - 48) := by
            unfold textN
            rw [if_pos (by omega), dd_low e9, hdd, hc]; rfl
          cases r2 with
          | nil =>
            simp only [numU_nil, Sum.inr.injEq, Prod.mk.injEq] at h
            obtain ⟨rfl, rfl⟩ := h
            exact ⟨by omega, one, by simp⟩
          | cons e r3 =>
            rw [numU_cons] at h
            by_cases he : isDig e = true
            · rw [if_pos he] at h
              simp only [Sum.inr.injEq, Prod.mk.injEq] at h
              obtain ⟨rfl, rfl⟩ := h
              have hei := (isDig_iff e).1 he
              refine ⟨by omega, ?_, by simp⟩
              unfold textN
              have h1 : (10 * (d.toNat - 48) + (e.toNat - 48)) / 10 = d.toNat - 48 := by omega
              have h2 : (10 * (d.toNat - 48) + (e.toNat - 48)) % 10 = e.toNat - 48 := by omega
              have hee : UInt8.ofNat (48 + (e.toNat - 48)) = e := by
                apply UInt8.toNat_inj.1
                rw [ofNat_dig (by omega)]; omega
              rw [if_pos (by omega), dd_high (by omega) (by omega), h1, h2, hdd, hee, hc]; rfl
            · rw [if_neg he] at h
              simp only [Sum.inr.injEq, Prod.mk.injEq] at h
              obtain ⟨rfl, rfl⟩ := h
              exact ⟨by omega, one, by simp⟩
        · rw [if_neg hd] at h; cases h
    · rw [if_neg hc] at h
      simp only [Sum.inr.injEq, Prod.mk.injEq] at h
      obtain ⟨rfl, rfl⟩ := h
      exact ⟨by omega, rfl, by simp⟩
theorem takes_text (c : UInt8) (l : List UInt8) : l.take (takes c l) = if takes c l = 1 then [c] else [] := by
  rcases takes_cases c l with h | h
  · rw [h]; simp
  · rw [h, if_pos rfl]
    unfold takes at h
    split at h
    · assumption
    · cases h
theorem take_add' (l : List UInt8) (i j : Nat) : l.take (i + j) = l.take i ++ (l.drop i).take j := by
  rw [List.take_add]
theorem read_back {l : List UInt8} {g lng : Bool} {d : List UInt8} {x s k : Nat} (h : readS l = .inr (g, lng, d, x, s, k)) : l.take k = ytextF g lng d (x : Int) (s : Int) ∧ k ≤ l.length ∧ x < 100 ∧ s < 100 ∧ d.length ≤ 17 := by
  rw [ytext_parts]
  unfold readS at h
  by_cases h89 : takes 89 l = 1
  · rw [if_pos h89] at h
    have t89 := takes_text 89 l
    rw [h89, if_pos rfl] at t89
    have t45 := takes_text 45 (l.drop 1)
    have c45 := takes_cases 45 (l.drop 1)
    generalize hu : takes 45 (l.drop 1) = u at *
    have hpre : l.take (1 + u) = [89] ++ (if (u == 1) = true then [45] else []) := by
      rw [take_add', t89, t45]
      rcases c45 with rfl | rfl <;> rfl
    cases hd : l.drop (1 + u) with
    | nil => rw [hd] at h; simp [longS] at h
    | cons c r =>
      rw [hd] at h
      simp only [longS] at h
      by_cases hc : 49 ≤ c.toNat ∧ c.toNat ≤ 57
      · rw [if_pos hc] at h
        have htop := spanN_top isDig 16 r
        have hKl : 1 + spanN isDig 16 r ≤ (c :: r).length := by have := spanN_le isDig 16 r; simp only [List.length_cons]; omega
        generalize hK : 1 + spanN isDig 16 r = K at *
        cases hq : numS 69 (List.drop K (c :: r)) with
        | inl j => rw [hq] at h; simp at h
        | inr p =>
          obtain ⟨x', j⟩ := p
          rw [hq] at h
          simp only at h
          cases hq2 : numS 83 (List.drop (K + j) (c :: r)) with
          | inl i => rw [hq2] at h; simp at h
          | inr p2 =>
            obtain ⟨s', i⟩ := p2
            rw [hq2] at h
            simp only [Sum.inr.injEq, Prod.mk.injEq] at h
            obtain ⟨rfl, rfl, rfl, rfl, rfl, rfl⟩ := h
            obtain ⟨a1, a2, a3⟩ := numS_back _ _ _ _ hq
            obtain ⟨b1, b2, b3⟩ := numS_back _ _ _ _ hq2
            rw [List.length_drop] at a3 b3
            have hll : l.length = 1 + u + (c :: r).length := by
              have := congrArg List.length hd
              rw [List.length_drop] at this
              simp only [List.length_cons] at this ⊢
              omega
            refine ⟨?_, by simp only [List.length_cons] at *; omega, a1, b1, by rw [List.length_take]; omega⟩
            rw [show 1 + u + K + j + i = (1 + u) + (K + (j + i)) by omega, take_add', hpre, hd, take_add' _ K, take_add' _ j, a2, List.drop_drop, b2]
            simp
      · rw [if_neg hc] at h; simp at h
  · rw [if_neg h89] at h
    have t45 := takes_text 45 l
    have c45 := takes_cases 45 l
    generalize hu : takes 45 l = u at *
    have hpre : l.take u = (if (u == 1) = true then [45] else []) := by
      rw [t45]
      rcases c45 with rfl | rfl <;> rfl
    unfold shortS at h
    by_cases h4 : spanN isDX 4 (l.drop u) < 4
    · rw [if_pos h4] at h; simp at h
    · rw [if_neg h4] at h
      have hle := spanN_le isDX 4 (l.drop u)
      rw [List.length_drop] at hle
      cases hq : numS 83 (List.drop 4 (l.drop u)) with
      | inl i => rw [hq] at h; simp at h
      | inr p2 =>
        obtain ⟨s', i⟩ := p2
        rw [hq] at h
        simp only [Sum.inr.injEq, Prod.mk.injEq] at h
        obtain ⟨rfl, rfl, rfl, rfl, rfl, rfl⟩ := h
        obtain ⟨b1, b2, b3⟩ := numS_back _ _ _ _ hq
        rw [List.length_drop, List.length_drop] at b3
        refine ⟨?_, by omega, by omega, b1, by rw [List.length_take]; omega⟩
        rw [show u + 4 + i = u + (4 + i) by omega, take_add', hpre, take_add' _ 4, b2]
        have ht0 : textN 69 0 = [] := rfl
        rw [ht0]
        simp
abbrev DR := Bool × Bool × List UInt8 × Nat × Nat × List UInt8 × List UInt8 × (Nat × Nat × Nat) × (Nat × Nat × Nat) × Nat
def mkE (S : List UInt8) (p : Nat) : Nat := p + mkN (S.drop p)
def rd3 (S : List UInt8) (y : YR) (A0 B0 A1 B1 p0 c1 q2 : Nat) (mm : List UInt8) : Nat ⊕ DR :=
  if twoN (S.drop (mkE S (q2 + 1))) < 2 then .inl (mkE S (q2 + 1) + twoN (S.drop (mkE S (q2 + 1))))
  else .inr (y.1, y.2.1, y.2.2.1, y.2.2.2.1, y.2.2.2.2.1, mm, (S.drop (mkE S (q2 + 1))).take 2, spM (A0, A1, mkS (S.drop (q2 + 1))) (B0, B1, mkS (S.drop (mkE S (q2 + 1) + 2))), (p0, c1, mkE S (q2 + 1)), mkE S (mkE S (q2 + 1) + 2))
def rd2 (S : List UInt8) (y : YR) (A0 B0 p0 q1 : Nat) : Nat ⊕ DR :=
  if twoN (S.drop (mkE S (q1 + 1))) < 2 then .inl (mkE S (q1 + 1) + twoN (S.drop (mkE S (q1 + 1))))
  else if takes 45 (S.drop (mkE S (mkE S (q1 + 1) + 2))) = 0 then .inr (y.1, y.2.1, y.2.2.1, y.2.2.2.1, y.2.2.2.2.1, (S.drop (mkE S (q1 + 1))).take 2, [], spM (A0, mkS (S.drop (q1 + 1)), 0) (B0, mkS (S.drop (mkE S (q1 + 1) + 2)), 0), (p0, mkE S (q1 + 1), 0), mkE S (mkE S (q1 + 1) + 2))
  else rd3 S y A0 B0 (mkS (S.drop (q1 + 1))) (mkS (S.drop (mkE S (q1 + 1) + 2))) p0 (mkE S (q1 + 1)) (mkE S (mkE S (q1 + 1) + 2)) ((S.drop (mkE S (q1 + 1))).take 2)
def readD (S : List UInt8) (a : Nat) : Nat ⊕ DR := match readS (S.drop (mkE S a)) with
  | .inl k => .inl (mkE S a + k)
  | .inr y => if 0 < y.2.2.2.2.1 ∨ takes 45 (S.drop (mkE S (mkE S a + y.2.2.2.2.2))) = 0
    then .inr (y.1, y.2.1, y.2.2.1, y.2.2.2.1, y.2.2.2.2.1, [], [], spM (mkS (S.drop a), 0, 0) (mkS (S.drop (mkE S a + y.2.2.2.2.2)), 0, 0), (mkE S a, 0, 0), mkE S (mkE S a + y.2.2.2.2.2))
    else rd2 S y (mkS (S.drop a)) (mkS (S.drop (mkE S a + y.2.2.2.2.2))) (mkE S a) (mkE S (mkE S a + y.2.2.2.2.2))
def dfOut (S : List UInt8) : Nat ⊕ DR → (Int × Int × List UInt8 × Int) ⊕ (Bool × Bool × List UInt8 × Int × Int × List UInt8 × List UInt8 × Int × Int × Int × List Int × List UInt8 × Int)
  | .inl k => .inl ((k : Int), 5, S, (k : Int))
  | .inr (g, l, dg, x, s, m, d, M, P, e) => .inr (g, l, dg, (x : Int), (s : Int), m, d, (M.1 : Int), (M.2.1 : Int), (M.2.2 : Int), l3 P, S, (e : Int))
theorem mkE_le {S : List UInt8} {p : Nat} (h : p ≤ S.length) : mkE S p ≤ S.length := by
  have := mkN_le (S.drop p)
  rw [List.length_drop] at this
  unfold mkE
  omega
theorem two_le {S : List UInt8} {p : Nat} (h2 : ¬ twoN (S.drop p) < 2) : p + 2 ≤ S.length := by
  have := spanN_le isDX 2 (S.drop p)
  unfold twoN at h2
  rw [List.length_drop] at this
  omega
theorem take1_le {S : List UInt8} {p : Nat} (h : ¬ takes 45 (S.drop p) = 0) : p + 1 ≤ S.length := by
  have := takes_le 45 (S.drop p)
  rw [List.length_drop] at this
  omega
theorem df_Read3 (n : Nat) (g l : Bool) (d : List UInt8) (x s : Int) (mm dd : List UInt8) (k0 k1 k2 : Int) (S : List UInt8) (p : Nat) (h : p ≤ S.length) (hS : S.length < 100000) (hn : S.length < n) :
    dateforms_Read_3 n g l d x s mm dd k0 k1 k2 S (p : Int) = some (match readS (S.drop p) with
      | .inl k => .inl (((p + k : Nat) : Int), 5, g, l, d, x, s, mm, dd, k0, k1, k2, S, ((p + k : Nat) : Int))
      | .inr y => .inr (y.1, y.2.1, y.2.2.1, (y.2.2.2.1 : Int), (y.2.2.2.2.1 : Int), mm, dd, k0, k1, k2, S, ((p + y.2.2.2.2.2 : Nat) : Int))) := by
  unfold dateforms_Read_3
  rw [yf_Read n S p h hS hn]
  cases readS (S.drop p) with
  | inl k => rfl
  | inr y => rfl
theorem df_Read4 (n : Nat) (g l : Bool) (d : List UInt8) (x s : Int) (mm dd : List UInt8) (k0 k1 k2 : Int) (S : List UInt8) (p : Nat) (h : p ≤ S.length) (hS : S.length < 100000) (hn : S.length < n) :
    dateforms_Read_4 n g l d x s mm dd k0 k1 k2 S (p : Int) = some (if twoN (S.drop p) < 2
      then .inl (((p + twoN (S.drop p) : Nat) : Int), 5, g, l, d, x, s, mm, dd, k0, k1, k2, S, ((p + twoN (S.drop p) : Nat) : Int))
      else .inr (g, l, d, x, s, (S.drop p).take 2, dd, k0, k1, k2, S, ((p + 2 : Nat) : Int))) := by
  unfold dateforms_Read_4
  rw [df_two n S p h hS hn]
  by_cases h2 : twoN (S.drop p) < 2
  · rw [if_pos h2, if_pos h2]; rfl
  · rw [if_neg h2, if_neg h2]; rfl
theorem df_Read5 (n : Nat) (g l : Bool) (d : List UInt8) (x s : Int) (mm dd : List UInt8) (k0 k1 k2 : Int) (S : List UInt8) (p : Nat) (h : p ≤ S.length) (hS : S.length < 100000) (hn : S.length < n) :
    dateforms_Read_5 n g l d x s mm dd k0 k1 k2 S (p : Int) = some (if twoN (S.drop p) < 2
      then .inl (((p + twoN (S.drop p) : Nat) : Int), 5, g, l, d, x, s, mm, dd, k0, k1, k2, S, ((p + twoN (S.drop p) : Nat) : Int))
      else .inr (g, l, d, x, s, mm, (S.drop p).take 2, k0, k1, k2, S, ((p + 2 : Nat) : Int))) := by
  unfold dateforms_Read_5
  rw [df_two n S p h hS hn]
  by_cases h2 : twoN (S.drop p) < 2
  · rw [if_pos h2, if_pos h2]; rfl
  · rw [if_neg h2, if_neg h2]; rfl
theorem df_Read (m : Nat) (S : List UInt8) (a : Nat) (h : a ≤ S.length) (hS : S.length < 100000) (hn : S.length < m + 300) :
    dateforms_Read (m + 300) S (a : Int) = some (dfOut S (readD S a)) := by
  have hm : ∀ p, p ≤ S.length → dateforms_Read_1 (m + 300) S (p : Int) = some (.inr (((mkS (S.drop p) : Nat) : Int), S, ((mkE S p : Nat) : Int))) := fun p hp => df_mark m S p hp hS
  have z4 : ∀ p, mkS (S.drop p) < 4 := fun p => mkS_lt _
  have sp1 : ∀ p q, marks_Spread (m + 300) [((mkS (S.drop p) : Nat) : Int), 0, 0] [((mkS (S.drop q) : Nat) : Int), 0, 0] 1 = some (l3 (spM (mkS (S.drop p), 0, 0) (mkS (S.drop q), 0, 0)), 0) := fun p q =>
    df_Spread (m + 300) (by omega) 1 (mkS (S.drop p), 0, 0) (mkS (S.drop q), 0, 0) (by omega) ⟨z4 p, by simp, by simp, by simp, by simp⟩ ⟨z4 q, by simp, by simp, by simp, by simp⟩
  have sp2 : ∀ p q p' q', marks_Spread (m + 300) [((mkS (S.drop p) : Nat) : Int), ((mkS (S.drop p') : Nat) : Int), 0] [((mkS (S.drop q) : Nat) : Int), ((mkS (S.drop q') : Nat) : Int), 0] 2 = some (l3 (spM (mkS (S.drop p), mkS (S.drop p'), 0) (mkS (S.drop q), mkS (S.drop q'), 0)), 0) := fun p q p' q' =>
    df_Spread (m + 300) (by omega) 2 (mkS (S.drop p), mkS (S.drop p'), 0) (mkS (S.drop q), mkS (S.drop q'), 0) (by omega) ⟨z4 p, z4 p', by simp, by simp, by simp⟩ ⟨z4 q, z4 q', by simp, by simp, by simp⟩
  have sp3 : ∀ p q p' q' p'' q'', marks_Spread (m + 300) [((mkS (S.drop p) : Nat) : Int), ((mkS (S.drop p') : Nat) : Int), ((mkS (S.drop p'') : Nat) : Int)] [((mkS (S.drop q) : Nat) : Int), ((mkS (S.drop q') : Nat) : Int), ((mkS (S.drop q'') : Nat) : Int)] 3 = some (l3 (spM (mkS (S.drop p), mkS (S.drop p'), mkS (S.drop p'')) (mkS (S.drop q), mkS (S.drop q'), mkS (S.drop q''))), 0) := fun p q p' q' p'' q'' =>
    df_Spread (m + 300) (by omega) 3 (mkS (S.drop p), mkS (S.drop p'), mkS (S.drop p'')) (mkS (S.drop q), mkS (S.drop q'), mkS (S.drop q'')) (by omega) ⟨z4 p, z4 p', z4 p'', by simp, by simp⟩ ⟨z4 q, z4 q', z4 q'', by simp, by simp⟩
  have b0 := mkE_le h
  unfold dateforms_Read readD
  rw [hm a h]
  simp only [ob, cur_At]
  rw [df_Read3 _ _ _ _ _ _ _ _ _ _ _ S (mkE S a) b0 hS hn]
  cases hr : readS (S.drop (mkE S a)) with
  | inl k => rfl
  | inr y =>
    obtain ⟨g, l, dg, x, s, k⟩ := y
    have bk : mkE S a + k ≤ S.length := by
      have := (read_back hr).2.1
      rw [List.length_drop] at this
      omega
    have b1 := mkE_le bk
    simp only [ob, d4, d8]
    rw [hm (mkE S a + k) bk]
    simp only [ob]
    by_cases hs : 0 < s
    · have : decide (((s : Nat) : Int) > 0) = true := by simp; omega
      rw [this, if_pos (.inl hs)]
      simp only [cond_true]
      rw [sp1]
      rfl
    · have : decide (((s : Nat) : Int) > 0) = false := by simp; omega
      rw [this]
      simp only [cond_false]
      rw [cur_takes (m + 300) 45 S _ b1 hS]
      simp only [ob]
      by_cases ht : takes 45 (S.drop (mkE S (mkE S a + k))) = 0
      · rw [if_pos (.inr ht), ht]
        simp only [show ((0 : Nat) == 1) = false from rfl, Bool.not_false, cond_true, Nat.add_zero]
        rw [sp1]
        rfl
      · have ht1 : takes 45 (S.drop (mkE S (mkE S a + k))) = 1 := (takes_cases 45 _).resolve_left ht
        have bt1 := take1_le ht
        rw [if_neg (fun z => z.elim hs ht), ht1]
        simp only [show ((1 : Nat) == 1) = true from rfl, Bool.not_true, cond_false]
        unfold rd2
        rw [hm _ bt1]
        simp only [ob]
        have bc := mkE_le bt1
        rw [df_Read4 _ _ _ _ _ _ _ _ _ _ _ S _ bc hS hn]
        by_cases h2 : twoN (S.drop (mkE S (mkE S (mkE S a + k) + 1))) < 2
        · rw [if_pos h2, if_pos h2]; rfl
        · rw [if_neg h2, if_neg h2]
          have b2 := two_le h2
          simp only [ob, d4, d8]
          rw [hm _ b2]
          simp only [ob]
          rw [this]
          simp only [cond_false]
          have b3 := mkE_le b2
          rw [cur_takes (m + 300) 45 S _ b3 hS]
          simp only [ob]
          by_cases ht2 : takes 45 (S.drop (mkE S (mkE S (mkE S (mkE S a + k) + 1) + 2))) = 0
          · rw [if_pos ht2, ht2]
            simp only [show ((0 : Nat) == 1) = false from rfl, Bool.not_false, cond_true, Nat.add_zero]
            rw [sp2]
            rfl
          · have ht21 := (takes_cases 45 (S.drop (mkE S (mkE S (mkE S (mkE S a + k) + 1) + 2)))).resolve_left ht2
            have bt2 := take1_le ht2
            rw [if_neg ht2, ht21]
            simp only [show ((1 : Nat) == 1) = true from rfl, Bool.not_true, cond_false]
            unfold rd3
            rw [hm _ bt2]
            simp only [ob]
            have bc2 := mkE_le bt2
            rw [df_Read5 _ _ _ _ _ _ _ _ _ _ _ S _ bc2 hS hn]
            by_cases h3 : twoN (S.drop (mkE S (mkE S (mkE S (mkE S (mkE S a + k) + 1) + 2) + 1))) < 2
            · rw [if_pos h3, if_pos h3]; rfl
            · rw [if_neg h3, if_neg h3]
              have b4 := two_le h3
              simp only [ob, d4, d8]
              rw [hm _ b4]
              simp only [ob]
              rw [sp3]
              rfl
def rfOut (S : List UInt8) (P : List Int) : Nat ⊕ DR → Bool × Bool × List UInt8 × Int × Int × List UInt8 × List UInt8 × Int × Int × Int × List Int × List UInt8 × Int × Int
  | .inl k => (false, false, [], 0, 0, [], [], 0, 0, 0, P, S, (k : Int), 5)
  | .inr (g, l, dg, x, s, m, d, M, Q, e) => (g, l, dg, (x : Int), (s : Int), m, d, (M.1 : Int), (M.2.1 : Int), (M.2.2 : Int), l3 Q, S, (e : Int), 0)
abbrev RdSt := List UInt8 × Int × Int × List Int × Bool × Bool × List UInt8 × Int × Int × List UInt8 × List UInt8 × List Int × List Int × List Int × List UInt8 × Int × Int
def rdSt (S : List UInt8) (i : Int) (g l : Bool) (dg : List UInt8) (x s : Int) (mm dd : List UInt8) (P A B : List Int) (p : Nat) : RdSt :=
  (S, i, i, [0, 0, 0], g, l, dg, x, s, mm, dd, P, A, B, S, (p : Int), 0)
theorem rd_s0 (m : Nat) (S : List UInt8) (a : Nat) (h : a ≤ S.length) (hS : S.length < 100000) (hn : S.length < m + 300) :
    circaref15_Read_l0 (m + 300) (rdSt S 0 false false [] 0 0 [] [] [0, 0, 0] [0, 0, 0] [0, 0, 0] a) = some (match readS (S.drop (mkE S a)) with
      | .inl k => .inr (.inr (false, false, [], 0, 0, [], [], 0, 0, 0, [((mkE S a : Nat) : Int), 0, 0], S, ((mkE S a + k : Nat) : Int), 5))
      | .inr y => .inl (rdSt S 1 y.1 y.2.1 y.2.2.1 (y.2.2.2.1 : Int) (y.2.2.2.2.1 : Int) [] [] [((mkE S a : Nat) : Int), 0, 0] [((mkS (S.drop a) : Nat) : Int), 0, 0] [((mkS (S.drop (mkE S a + y.2.2.2.2.2)) : Nat) : Int), 0, 0] (mkE S (mkE S a + y.2.2.2.2.2)))) := by
  have hm : ∀ p, p ≤ S.length → circaref15_mark (m + 300) S (p : Int) 0 = some (((mkS (S.drop p) : Nat) : Int), S, ((mkE S p : Nat) : Int), 0) := fun p hp => ref_mark m S p hp hS 0
  have b0 := mkE_le h
  unfold circaref15_Read_l0 rdSt
  simp only [d4, d8, d16, circaref15_Read_j12, show (decide ((0 : Int) < 3)) = true from rfl, show (decide ((0 : Int) > 0)) = false from rfl, cond_true, cond_false, ob]
  rw [hm a h]
  simp only [ob, show ix 3 0 = some 0 from rfl, show Nat.blt 0 3 = true from rfl, cond_true, circaref15_Read_j21, show ((0 : Int) == 0) = true from rfl]
  rw [ref_Read (m + 300) S (mkE S a) b0 hS hn]
  cases hr : readS (S.drop (mkE S a)) with
  | inl k => rfl
  | inr y =>
    obtain ⟨g, l, dg, x, s, k⟩ := y
    have bk : mkE S a + k ≤ S.length := by
      have := (read_back hr).2.1
      rw [List.length_drop] at this
      omega
    simp only [refOut, ob, d4, d8, d16, show ((0 : Int) != 0) = false from rfl, cond_false]
    rw [hm _ bk]
    rfl
theorem rd_s1 (m : Nat) (S : List UInt8) (g l : Bool) (dg : List UInt8) (x s : Nat) (P0 A0 B0 : Int) (q : Nat) (h : q ≤ S.length) (hS : S.length < 100000) (hn : S.length < m + 300) :
    circaref15_Read_l0 (m + 300) (rdSt S 1 g l dg (x : Int) (s : Int) [] [] [P0, 0, 0] [A0, 0, 0] [B0, 0, 0] q) = some (
      if 0 < s ∨ takes 45 (S.drop q) = 0 then .inr (.inl (1, false, false, [], 0, 0, [], [], 0, 0, 0, [0, 0, 0], [], 0, 0, g, l, dg, (x : Int), (s : Int), [], [], 0, 0, 0, [P0, 0, 0], [A0, 0, 0], [B0, 0, 0], S, (q : Int), 0))
      else if twoN (S.drop (mkE S (q + 1))) < 2 then .inr (.inr (false, false, [], 0, 0, [], [], 0, 0, 0, [P0, ((mkE S (q + 1) : Nat) : Int), 0], S, ((mkE S (q + 1) + twoN (S.drop (mkE S (q + 1))) : Nat) : Int), 5))
      else .inl (rdSt S 2 g l dg (x : Int) (s : Int) ((S.drop (mkE S (q + 1))).take 2) [] [P0, ((mkE S (q + 1) : Nat) : Int), 0] [A0, ((mkS (S.drop (q + 1)) : Nat) : Int), 0] [B0, ((mkS (S.drop (mkE S (q + 1) + 2)) : Nat) : Int), 0] (mkE S (mkE S (q + 1) + 2)))) := by
  have hm : ∀ p, p ≤ S.length → circaref15_mark (m + 300) S (p : Int) 0 = some (((mkS (S.drop p) : Nat) : Int), S, ((mkE S p : Nat) : Int), 0) := fun p hp => ref_mark m S p hp hS 0
  unfold circaref15_Read_l0 rdSt
  simp only [d4, d8, d16, circaref15_Read_j12, circaref15_Read_j13, show (decide ((1 : Int) < 3)) = true from rfl, show (decide ((1 : Int) > 0)) = true from rfl, cond_true, cond_false, ob, nat_dec_ge]
  by_cases hs : 0 < s
  · have : decide (((s : Nat) : Int) > 0) = true := by simp; omega
    rw [this, if_pos (.inl hs)]
    rfl
  · have : decide (((s : Nat) : Int) > 0) = false := by simp; omega
    rw [this]
    simp only [cond_false]
    rcases Nat.lt_or_ge q S.length with hlt | hge
    · obtain ⟨c, hc⟩ : ∃ c, S[q]? = some c := ⟨S[q], List.getElem?_eq_getElem hlt⟩
      have hle : decide (S.length ≤ q) = false := by simp; omega
      rw [hle]
      simp only [cond_false, sx_nat hc, ob]
      have e45 : (((c.toNat : Nat) : Int) != 45) = !(c == 45) := by rw [bne]; congr 1; exact u8_beq c 45
      rw [e45, drop_get hc, takes_cons]
      by_cases h45 : c = 45
      · have w : IntKind.wrap .i64 ((q : Int) + 1) = ((q + 1 : Nat) : Int) := by rw [wrap_i64 _ (by omega) (by omega)]; omega
        rw [if_pos h45, if_neg (show ¬ (0 < s ∨ (1 : Nat) = 0) from fun z => z.elim hs (by omega)), h45]
        simp only [BEq.rfl, Bool.not_true, cond_false, ob, w]
        rw [hm _ (by omega)]
        simp only [ob, show ix 3 1 = some 1 from rfl, show Nat.blt 1 3 = true from rfl, cond_true, circaref15_Read_j21, circaref15_Read_j24, show ((1 : Int) == 0) = false from rfl, show ((1 : Int) == 1) = true from rfl, cond_false]
        have b1 := mkE_le (show q + 1 ≤ S.length by omega)
        rw [ref_two (m + 300) (by omega) S _ b1 hS 0]
        by_cases h2 : twoN (S.drop (mkE S (q + 1))) < 2
        · rw [if_pos h2, if_pos h2]; rfl
        · rw [if_neg h2, if_neg h2]
          simp only [ob, d4, d8, d16, show ((0 : Int) != 0) = false from rfl, cond_false]
          rw [hm _ (two_le h2)]
          rfl
      · have : (c == 45) = false := beq_eq_false_iff_ne.2 h45
        rw [if_neg h45, if_pos (.inr rfl), this]
        rfl
    · have hle : decide (S.length ≤ q) = true := by simp; omega
      rw [hle, List.drop_eq_nil_of_le hge, takes_nil, if_pos (.inr rfl)]
      rfl
theorem rd_s2 (m : Nat) (S : List UInt8) (g l : Bool) (dg : List UInt8) (x s : Nat) (mm : List UInt8) (P0 A0 B0 P1 A1 B1 : Int) (q : Nat) (h : q ≤ S.length) (hS : S.length < 100000) (hn : S.length < m + 300) (hs : ¬ 0 < s) :
    circaref15_Read_l0 (m + 300) (rdSt S 2 g l dg (x : Int) (s : Int) mm [] [P0, P1, 0] [A0, A1, 0] [B0, B1, 0] q) = some (
      if takes 45 (S.drop q) = 0 then .inr (.inl (2, false, false, [], 0, 0, [], [], 0, 0, 0, [0, 0, 0], [], 0, 0, g, l, dg, (x : Int), (s : Int), mm, [], 0, 0, 0, [P0, P1, 0], [A0, A1, 0], [B0, B1, 0], S, (q : Int), 0))
      else if twoN (S.drop (mkE S (q + 1))) < 2 then .inr (.inr (false, false, [], 0, 0, [], [], 0, 0, 0, [P0, P1, ((mkE S (q + 1) : Nat) : Int)], S, ((mkE S (q + 1) + twoN (S.drop (mkE S (q + 1))) : Nat) : Int), 5))
      else .inl (rdSt S 3 g l dg (x : Int) (s : Int) mm ((S.drop (mkE S (q + 1))).take 2) [P0, P1, ((mkE S (q + 1) : Nat) : Int)] [A0, A1, ((mkS (S.drop (q + 1)) : Nat) : Int)] [B0, B1, ((mkS (S.drop (mkE S (q + 1) + 2)) : Nat) : Int)] (mkE S (mkE S (q + 1) + 2)))) := by
  have hm : ∀ p, p ≤ S.length → circaref15_mark (m + 300) S (p : Int) 0 = some (((mkS (S.drop p) : Nat) : Int), S, ((mkE S p : Nat) : Int), 0) := fun p hp => ref_mark m S p hp hS 0
  unfold circaref15_Read_l0 rdSt
  simp only [d4, d8, d16, circaref15_Read_j12, circaref15_Read_j13, show (decide ((2 : Int) < 3)) = true from rfl, show (decide ((2 : Int) > 0)) = true from rfl, cond_true, cond_false, ob, nat_dec_ge]
  have : decide (((s : Nat) : Int) > 0) = false := by simp; omega
  rw [this]
  simp only [cond_false]
  rcases Nat.lt_or_ge q S.length with hlt | hge
  · obtain ⟨c, hc⟩ : ∃ c, S[q]? = some c := ⟨S[q], List.getElem?_eq_getElem hlt⟩
    have hle : decide (S.length ≤ q) = false := by simp; omega
    rw [hle]
    simp only [cond_false, sx_nat hc, ob]
    have e45 : (((c.toNat : Nat) : Int) != 45) = !(c == 45) := by rw [bne]; congr 1; exact u8_beq c 45
    rw [e45, drop_get hc, takes_cons]
    by_cases h45 : c = 45
    · have w : IntKind.wrap .i64 ((q : Int) + 1) = ((q + 1 : Nat) : Int) := by rw [wrap_i64 _ (by omega) (by omega)]; omega
      rw [if_pos h45, if_neg (show ¬ ((1 : Nat) = 0) by omega), h45]
      simp only [BEq.rfl, Bool.not_true, cond_false, ob, w]
      rw [hm _ (by omega)]
      simp only [ob, show ix 3 2 = some 2 from rfl, show Nat.blt 2 3 = true from rfl, cond_true, circaref15_Read_j21, circaref15_Read_j24, show ((2 : Int) == 0) = false from rfl, show ((2 : Int) == 1) = false from rfl, cond_false]
      have b1 := mkE_le (show q + 1 ≤ S.length by omega)
      rw [ref_two (m + 300) (by omega) S _ b1 hS 0]
      by_cases h2 : twoN (S.drop (mkE S (q + 1))) < 2
      · rw [if_pos h2, if_pos h2]; rfl
      · rw [if_neg h2, if_neg h2]
        simp only [ob, d4, d8, d16, show ((0 : Int) != 0) = false from rfl, cond_false]
        rw [hm _ (two_le h2)]
        rfl
    · have : (c == 45) = false := beq_eq_false_iff_ne.2 h45
      rw [if_neg h45, if_pos rfl, this]
      rfl
  · have hle : decide (S.length ≤ q) = true := by simp; omega
    rw [hle, List.drop_eq_nil_of_le hge, takes_nil, if_pos rfl]
    rfl
theorem ref_Read15 (m : Nat) (S : List UInt8) (a : Nat) (h : a ≤ S.length) (hS : S.length < 100000) (hn : S.length < m + 300) :
    ∃ P, circaref15_Read (m + 300) S (a : Int) = some (rfOut S P (readD S a)) := by
  have z4 : ∀ p, mkS (S.drop p) < 4 := fun p => mkS_lt _
  have sp1 : ∀ p q, circaref13_Spread (m + 300) [((mkS (S.drop p) : Nat) : Int), 0, 0] [((mkS (S.drop q) : Nat) : Int), 0, 0] 1 = some (l3 (spM (mkS (S.drop p), 0, 0) (mkS (S.drop q), 0, 0))) := fun p q =>
    ref_Spread (m + 300) (by omega) 1 (mkS (S.drop p), 0, 0) (mkS (S.drop q), 0, 0) (by omega) ⟨z4 p, by simp, by simp, by simp, by simp⟩ ⟨z4 q, by simp, by simp, by simp, by simp⟩
  have sp2 : ∀ p q p' q', circaref13_Spread (m + 300) [((mkS (S.drop p) : Nat) : Int), ((mkS (S.drop p') : Nat) : Int), 0] [((mkS (S.drop q) : Nat) : Int), ((mkS (S.drop q') : Nat) : Int), 0] 2 = some (l3 (spM (mkS (S.drop p), mkS (S.drop p'), 0) (mkS (S.drop q), mkS (S.drop q'), 0))) := fun p q p' q' =>
    ref_Spread (m + 300) (by omega) 2 (mkS (S.drop p), mkS (S.drop p'), 0) (mkS (S.drop q), mkS (S.drop q'), 0) (by omega) ⟨z4 p, z4 p', by simp, by simp, by simp⟩ ⟨z4 q, z4 q', by simp, by simp, by simp⟩
  have sp3 : ∀ p q p' q' p'' q'', circaref13_Spread (m + 300) [((mkS (S.drop p) : Nat) : Int), ((mkS (S.drop p') : Nat) : Int), ((mkS (S.drop p'') : Nat) : Int)] [((mkS (S.drop q) : Nat) : Int), ((mkS (S.drop q') : Nat) : Int), ((mkS (S.drop q'') : Nat) : Int)] 3 = some (l3 (spM (mkS (S.drop p), mkS (S.drop p'), mkS (S.drop p'')) (mkS (S.drop q), mkS (S.drop q'), mkS (S.drop q'')))) := fun p q p' q' p'' q'' =>
    ref_Spread (m + 300) (by omega) 3 (mkS (S.drop p), mkS (S.drop p'), mkS (S.drop p'')) (mkS (S.drop q), mkS (S.drop q'), mkS (S.drop q'')) (by omega) ⟨z4 p, z4 p', z4 p'', by simp, by simp⟩ ⟨z4 q, z4 q', z4 q'', by simp, by simp⟩
  have b0 := mkE_le h
  unfold circaref15_Read readD
  show ∃ P, ob (iterL (circaref15_Read_l0 (m + 300)) (m + 299 + 1) (rdSt S 0 false false [] 0 0 [] [] [0, 0, 0] [0, 0, 0] [0, 0, 0] a)) _ = _
  rw [iterL, rd_s0 m S a h hS hn]
  cases hr : readS (S.drop (mkE S a)) with
  | inl k => exact ⟨_, rfl⟩
  | inr y =>
    obtain ⟨g, l, dg, x, s, k⟩ := y
    have bk : mkE S a + k ≤ S.length := by
      have := (read_back hr).2.1
      rw [List.length_drop] at this
      omega
    have b1 := mkE_le bk
    show ∃ P, ob (iterL (circaref15_Read_l0 (m + 300)) (m + 298 + 1) (rdSt S 1 g l dg (x : Int) (s : Int) [] [] [((mkE S a : Nat) : Int), 0, 0] [((mkS (S.drop a) : Nat) : Int), 0, 0] [((mkS (S.drop (mkE S a + k)) : Nat) : Int), 0, 0] (mkE S (mkE S a + k)))) _ = _
    rw [iterL, rd_s1 m S g l dg x s _ _ _ _ b1 hS hn]
    simp only []
    by_cases hc : 0 < s ∨ takes 45 (S.drop (mkE S (mkE S a + k))) = 0
    · rw [if_pos hc, if_pos hc]
      refine ⟨[0, 0, 0], ?_⟩
      simp only [ob, d4, d8, d16]
      rw [sp1]
      rfl
    · rw [if_neg hc, if_neg hc]
      have hs : ¬ 0 < s := fun z => hc (.inl z)
      have bt1 := take1_le (fun z => hc (.inr z))
      have bc := mkE_le bt1
      unfold rd2
      by_cases h2 : twoN (S.drop (mkE S (mkE S (mkE S a + k) + 1))) < 2
      · rw [if_pos h2, if_pos h2]; exact ⟨_, rfl⟩
      · rw [if_neg h2, if_neg h2]
        have b2 := two_le h2
        have b3 := mkE_le b2
        show ∃ P, ob (iterL (circaref15_Read_l0 (m + 300)) (m + 297 + 1) (rdSt S 2 g l dg (x : Int) (s : Int) _ [] [_, _, 0] [_, _, 0] [_, _, 0] (mkE S (mkE S (mkE S (mkE S a + k) + 1) + 2)))) _ = _
        rw [iterL, rd_s2 m S g l dg x s _ _ _ _ _ _ _ _ b3 hS hn hs]
        by_cases ht2 : takes 45 (S.drop (mkE S (mkE S (mkE S (mkE S a + k) + 1) + 2))) = 0
        · rw [if_pos ht2, if_pos ht2]
          refine ⟨[0, 0, 0], ?_⟩
          simp only [ob, d4, d8, d16]
          rw [sp2]
          rfl
        · rw [if_neg ht2, if_neg ht2]
          have bt2 := take1_le ht2
          have bc2 := mkE_le bt2
          unfold rd3
          by_cases h3 : twoN (S.drop (mkE S (mkE S (mkE S (mkE S (mkE S a + k) + 1) + 2) + 1))) < 2
          · rw [if_pos h3, if_pos h3]; exact ⟨_, rfl⟩
          · rw [if_neg h3, if_neg h3]
            have s3 : ∀ (mm dd : List UInt8) (P A B : List Int) (p : Nat), circaref15_Read_l0 (m + 300) (rdSt S 3 g l dg (x : Int) (s : Int) mm dd P A B p) = some (.inr (.inl (3, false, false, [], 0, 0, [], [], 0, 0, 0, [0, 0, 0], [], 0, 0, g, l, dg, (x : Int), (s : Int), mm, dd, 0, 0, 0, P, A, B, S, (p : Int), 0))) := fun _ _ _ _ _ _ => rfl
            show ∃ P, ob (iterL (circaref15_Read_l0 (m + 300)) (m + 296 + 1) (rdSt S 3 g l dg (x : Int) (s : Int) _ _ _ _ _ _)) _ = _
            rw [iterL, s3]
            refine ⟨[0, 0, 0], ?_⟩
            simp only [ob, d4, d8, d16]
            rw [sp3]
            rfl
theorem comps2 {m : List UInt8} (h : m ≠ []) : comps m [] = 2 := by unfold comps; rw [beq_eq_false_iff_ne.2 h]; rfl
theorem comps3 {m d : List UInt8} (h : m ≠ []) (h2 : d ≠ []) : comps m d = 3 := by unfold comps; rw [beq_eq_false_iff_ne.2 h, beq_eq_false_iff_ne.2 h2]; rfl
theorem ne_of_len2 {d : List UInt8} (h : d.length = 2) : d ≠ [] := by rintro rfl; simp at h
abbrev PD := Bool × Bool × List UInt8 × Int × Int × List UInt8 × List UInt8 × Int × Int × Int × Int × Int
def pz (a e : Int) : PD := (false, false, [], 0, 0, [], [], 0, 0, 0, a, e)
def parseR (S : List UInt8) : Nat ⊕ DR → PD
  | .inl k => pz (k : Int) 5
  | .inr (g, l, dg, x, s, m, d, M, P, e) => if e < S.length then pz (e : Int) 5 else
      if chkD g l dg (x : Int) (s : Int) m d (M.1 : Int) (M.2.1 : Int) (M.2.2 : Int) = 0 then (g, l, dg, (x : Int), (s : Int), m, d, (M.1 : Int), (M.2.1 : Int), (M.2.2 : Int), 0, 0)
      else pz ((l3 P).getD (chkD g l dg (x : Int) (s : Int) m d (M.1 : Int) (M.2.1 : Int) (M.2.2 : Int) - 6).toNat 0) (chkD g l dg (x : Int) (s : Int) m d (M.1 : Int) (M.2.1 : Int) (M.2.2 : Int))
def parseD (S : List UInt8) : PD := parseR S (readD S 0)
theorem sp_lt {A B : Nat × Nat × Nat} (h0 : A.1 < 4) (h1 : A.2.1 < 4) (h2 : A.2.2 < 4) (g0 : B.1 < 4) (g1 : B.2.1 < 4) (g2 : B.2.2 < 4) : (spM A B).1 < 4 ∧ (spM A B).2.1 < 4 ∧ (spM A B).2.2 < 4 := by
  have ol : ∀ x y : Nat, x < 4 → y < 4 → x ||| y < 4 := fun x y hx hy => (or4 hx hy).2
  exact ⟨ol _ _ (ol _ _ (ol _ _ h0 g0) g1) g2, ol _ _ (ol _ _ h1 g1) g2, ol _ _ h2 g2⟩
structure RdOK (S : List UInt8) (a : Nat) (dg m d : List UInt8) (M : Nat × Nat × Nat) (e : Nat) : Prop where
  dg17 : dg.length ≤ 17
  m2 : m.length ≤ 2
  d2 : d.length ≤ 2
  all : inM (comps m d) M
  le : a ≤ e
  end_ : e ≤ S.length
theorem readD_ok {S : List UInt8} {a : Nat} (h : a ≤ S.length) {g l : Bool} {dg : List UInt8} {x s : Nat} {m d : List UInt8} {M P : Nat × Nat × Nat} {e : Nat} (hr : readD S a = .inr (g, l, dg, x, s, m, d, M, P, e)) : RdOK S a dg m d M e := by
  have z4 : ∀ p, mkS (S.drop p) < 4 := fun p => mkS_lt _
  have z0 : 0 < 4 := by omega
  have b0 := mkE_le h
  have g0 : a ≤ mkE S a := Nat.le_add_right _ _
  have gE : ∀ p, p ≤ mkE S p := fun p => Nat.le_add_right _ _
  unfold readD at hr
  cases hy : readS (S.drop (mkE S a)) with
  | inl k => rw [hy] at hr; cases hr
  | inr y =>
    obtain ⟨g', l', dg', x', s', k⟩ := y
    obtain ⟨_, bk, _, _, hdg⟩ := read_back hy
    have bk : mkE S a + k ≤ S.length := by
      rw [List.length_drop] at bk
      omega
    have b1 := mkE_le bk
    rw [hy] at hr
    simp only [] at hr
    by_cases hc : 0 < s' ∨ takes 45 (S.drop (mkE S (mkE S a + k))) = 0
    · rw [if_pos hc] at hr
      cases hr
      have := sp_lt (A := (mkS (S.drop a), 0, 0)) (B := (mkS (S.drop (mkE S a + k)), 0, 0)) (z4 _) z0 z0 (z4 _) z0 z0
      refine ⟨hdg, by simp, by simp, ⟨this.1, this.2.1, this.2.2, fun _ => by simp [spM], fun _ => by simp [spM]⟩, ?_, b1⟩
      have := gE (mkE S a + k)
      omega
    · rw [if_neg hc] at hr
      have bt1 := take1_le (fun z => hc (.inr z))
      have bc := mkE_le bt1
      unfold rd2 at hr
      by_cases h2 : twoN (S.drop (mkE S (mkE S (mkE S a + k) + 1))) < 2
      · rw [if_pos h2] at hr; cases hr
      · rw [if_neg h2] at hr
        have b2 := two_le h2
        have b3 := mkE_le b2
        have hml : (List.take 2 (S.drop (mkE S (mkE S (mkE S a + k) + 1)))).length = 2 := by rw [List.length_take, List.length_drop]; omega
        have g1 := gE (mkE S a + k)
        have g2 := gE (mkE S (mkE S a + k) + 1)
        have g3 := gE (mkE S (mkE S (mkE S a + k) + 1) + 2)
        by_cases ht2 : takes 45 (S.drop (mkE S (mkE S (mkE S (mkE S a + k) + 1) + 2))) = 0
        · rw [if_pos ht2] at hr
          cases hr
          have := sp_lt (A := (mkS (S.drop a), mkS (S.drop (mkE S (mkE S a + k) + 1)), 0)) (B := (mkS (S.drop (mkE S a + k)), mkS (S.drop (mkE S (mkE S (mkE S a + k) + 1) + 2)), 0)) (z4 _) (z4 _) z0 (z4 _) (z4 _) z0
          refine ⟨hdg, by omega, by simp, ⟨this.1, this.2.1, this.2.2, fun z => ?_, fun _ => by simp [spM]⟩, by omega, b3⟩
          rw [comps2 (ne_of_len2 hml)] at z
          omega
        · rw [if_neg ht2] at hr
          have bt2 := take1_le ht2
          have bc2 := mkE_le bt2
          unfold rd3 at hr
          by_cases h3 : twoN (S.drop (mkE S (mkE S (mkE S (mkE S (mkE S a + k) + 1) + 2) + 1))) < 2
          · rw [if_pos h3] at hr; cases hr
          · rw [if_neg h3] at hr
            have b4 := two_le h3
            have b5 := mkE_le b4
            have hdl : (List.take 2 (S.drop (mkE S (mkE S (mkE S (mkE S (mkE S a + k) + 1) + 2) + 1)))).length = 2 := by rw [List.length_take, List.length_drop]; omega
            cases hr
            have g4 := gE (mkE S (mkE S (mkE S (mkE S a + k) + 1) + 2) + 1)
            have g5 := gE (mkE S (mkE S (mkE S (mkE S (mkE S a + k) + 1) + 2) + 1) + 2)
            have := sp_lt (A := (mkS (S.drop a), mkS (S.drop (mkE S (mkE S a + k) + 1)), mkS (S.drop (mkE S (mkE S (mkE S (mkE S a + k) + 1) + 2) + 1)))) (B := (mkS (S.drop (mkE S a + k)), mkS (S.drop (mkE S (mkE S (mkE S a + k) + 1) + 2)), mkS (S.drop (mkE S (mkE S (mkE S (mkE S (mkE S a + k) + 1) + 2) + 1) + 2)))) (z4 _) (z4 _) (z4 _) (z4 _) (z4 _) (z4 _)
            refine ⟨hdg, by omega, by omega, ⟨this.1, this.2.1, this.2.2, fun z => ?_, fun z => ?_⟩, by omega, b5⟩
            · rw [comps3 (ne_of_len2 hml) (ne_of_len2 hdl)] at z
              omega
            · rw [comps3 (ne_of_len2 hml) (ne_of_len2 hdl)] at z
              omega
theorem chk_cases {g l : Bool} {dg : List UInt8} {x q : Int} {m d : List UInt8} {k0 k1 k2 : Int} (hk : allM k0 k1 k2 (comps m d) = 0) : chkD g l dg x q m d k0 k1 k2 = 0 ∨ chkD g l dg x q m d k0 k1 k2 = 6 ∨ chkD g l dg x q m d k0 k1 k2 = 7 ∨ chkD g l dg x q m d k0 k1 k2 = 8 := by
  unfold chkD
  rw [hk]
  generalize yrD g l dg x q m = b1
  generalize (!(m == []) && (!(decide (0 < sea m)) && !(agrees m 12))) = b2
  generalize (!(d == []) && ((m == []) || (decide (0 < sea m) || !(agrees d 31)))) = b3
  cases b1 <;> cases b2 <;> cases b3 <;> simp
theorem df_Parse (m : Nat) (S : List UInt8) (hS : S.length < 100000) (hn : S.length < m + 300) : dateforms_Parse (m + 300) S = some (parseD S) := by
  have hr := df_Read m S 0 (by omega) hS hn
  rw [show ((0 : Nat) : Int) = 0 from rfl] at hr
  unfold dateforms_Parse cursors_Run_dateforms_Parse_1 dateforms_Parse_1 parseD
  rw [hr]
  cases hd : readD S 0 with
  | inl k => rfl
  | inr r =>
    obtain ⟨g, l, dg, x, s, mm, d, M, P, e⟩ := r
    have hok := readD_ok (by omega) hd
    have hM := hok.all
    simp only [ob, dfOut, d4, d8, parseR, nat_dec_lt]
    by_cases he : e < S.length
    · rw [decide_eq_true he, if_pos he]
      rfl
    · rw [decide_eq_false he, if_neg he]
      simp only [cond_false, show ((0 : Int) == 0) = true from rfl, cond_true]
      have h2 := hok.m2
      have h17 := hok.dg17
      rw [df_Check (m + 300) (by omega) g l dg _ _ mm d _ _ _ (by omega) (by omega) (by omega) (by omega) (by omega)]
      simp only [ob]
      have hcs := chk_cases (g := g) (l := l) (dg := dg) (x := (x : Int)) (q := (s : Int)) (m := mm) (d := d) (k0 := (M.1 : Int)) (k1 := (M.2.1 : Int)) (k2 := (M.2.2 : Int)) (allM_of hM)
      rcases hcs with hc | hc | hc | hc <;> rw [hc] <;> rfl
theorem ref_Parse15 (m : Nat) (S : List UInt8) (hS : S.length < 100000) (hn : S.length < m + 300) : circaref15_Parse (m + 300) S = some (parseD S) := by
  obtain ⟨Q, hr⟩ := ref_Read15 m S 0 (by omega) hS hn
  rw [show ((0 : Nat) : Int) = 0 from rfl] at hr
  unfold circaref15_Parse parseD
  rw [hr]
  cases hd : readD S 0 with
  | inl k => rfl
  | inr r =>
    obtain ⟨g, l, dg, x, s, mm, d, M, P, e⟩ := r
    have hok := readD_ok (by omega) hd
    have hM := hok.all
    simp only [ob, rfOut, d4, d8, parseR, nat_dec_lt, show ((0 : Int) != 0) = false from rfl, cond_false]
    show cond (decide (((e : Nat) : Int) < ((S.length : Nat) : Int))) _ _ = _
    by_cases he : e < S.length
    · have hlt : decide (((e : Nat) : Int) < ((S.length : Nat) : Int)) = true := by simp; omega
      rw [hlt, if_pos he]
      rfl
    · have hlt : decide (((e : Nat) : Int) < ((S.length : Nat) : Int)) = false := by simp; omega
      rw [hlt, if_neg he]
      simp only [cond_false]
      have h17 := hok.dg17
      rw [ref_Check15 (m + 300) (by omega) g l dg _ _ mm d _ _ _ (by omega) (by omega) (by omega) (by omega)]
      simp only [ob]
      have hcs := chk_cases (g := g) (l := l) (dg := dg) (x := (x : Int)) (q := (s : Int)) (m := mm) (d := d) (k0 := (M.1 : Int)) (k1 := (M.2.1 : Int)) (k2 := (M.2.2 : Int)) (allM_of hM)
      rcases hcs with hc | hc | hc | hc <;> rw [hc] <;> rfl
end Go.Sh
