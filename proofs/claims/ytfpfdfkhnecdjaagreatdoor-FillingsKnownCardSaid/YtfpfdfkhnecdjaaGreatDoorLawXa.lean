/- Plain proofs, kept as far as they are needed here (printed by prune.py).
   Conditions: none. -/
import Derived.Test.YtfpfdfkhnecdjaaGreatDoorAbsX
import Derived.Laws.RangeString
import Derived.Laws.RangeAny
import Derived.Test.YtfpfdfkhnecdjaaGreatDoorShF
import Derived.Lib.Atoi
import Derived.KernelRfl
import Derived.Lib.IndexLaws
set_option linter.unusedVariables false
set_option linter.unusedSimpArgs false
set_option maxRecDepth 100000
namespace Go.Sh
open Go.Abs
theorem cN {X Y : Type} {step : X → Option (X ⊕ Y)} (I : X → Prop) (μ : X → Nat) (G : X → Y)
    (h : ∀ x, I x → (∃ x', step x = some (.inl x') ∧ I x' ∧ μ x' < μ x ∧ G x' = G x) ∨ step x = some (.inr (G x))) :
    ∀ (n : Nat) (x : X), I x → μ x < n → af step n x = some (G x)
  | 0, x, _, hm => by omega
  | n + 1, x, hx, hm => by
    rcases h x hx with ⟨x', h1, h2, h3, h4⟩ | h1
    · simp only [af, h1]
      rw [cN I μ G h n x' h2 (by omega), h4]
    · simp only [af, h1]
theorem jS {X Y : Type} {step : X → Option (X ⊕ Y)} (I : X → Prop) (μ : X → Nat) (Q : Y → Prop)
    (h : ∀ x, I x → (∃ x', step x = some (.inl x') ∧ I x' ∧ μ x' < μ x) ∨ ∃ y, step x = some (.inr y) ∧ Q y) :
    ∀ (n : Nat) (x : X), I x → μ x < n → ∃ y, af step n x = some y ∧ Q y
  | 0, x, _, hm => by omega
  | n + 1, x, hx, hm => by
    rcases h x hx with ⟨x', h1, h2, h3⟩ | ⟨y, h1, h2⟩
    · simp only [af, h1]
      exact jS I μ Q h n x' h2 (by omega)
    · exact ⟨y, by simp only [af, h1], h2⟩
theorem pB (x : Int) : 0 ≤ IntKind.wrap .u8 x ∧ IntKind.wrap .u8 x < 256 := by
  show 0 ≤ x % 256 ∧ x % 256 < 256
  omega
theorem fR (x : Int) (h0 : 0 ≤ x) (h1 : x < 256) : IntKind.wrap .u8 x = x := by
  show x % 256 = x
  omega
theorem uI (x : Int) : IntKind.wrap .u8 x = x % 256 := rfl
theorem wrap_i64 (x : Int) (h0 : -9223372036854775808 ≤ x) (h1 : x < 9223372036854775808) : IntKind.wrap .i64 x = x := by
  simp only [IntKind.wrap, IntKind.signed, IntKind.bits]
  simp
  omega
theorem cJ {l : List UInt8} {i : Nat} {c : UInt8} (h : l[i]? = some c) : sx l (i : Int) = some c := by
  simp [sx, h]
theorem dj {n i : Nat} (h : i < n) : ix n (i : Int) = some i := by
  simp [ix]; omega
theorem eZ {n i : Nat} (h : i ≤ n) : bx n (i : Int) = some i := by
  simp [bx]; omega
theorem rZ {l : List UInt8} {i : Nat} {c : UInt8} (h : l[i]? = some c) (hc : c.toNat < 128) : dec l i = (c.toNat, 1) := by
  have hlt : i < l.length := by
    rcases Nat.lt_or_ge i l.length with h' | h'
    · exact h'
    · rw [List.getElem?_eq_none h'] at h; cases h
  have hs : i < (ByteArray.mk l.toArray).size := hlt
  have hg : (ByteArray.mk l.toArray)[i]'hs = c := by
    rw [List.getElem?_eq_getElem hlt] at h
    simp only [Option.some.injEq] at h
    exact h
  unfold dec
  rw [decode_ascii _ i hs (by rw [hg]; exact hc), hg]
theorem sT {l : List UInt8} {i : Nat} {c : UInt8} (h : l[i]? = some c) (hc : 128 ≤ c.toNat) : 128 ≤ (dec l i).1 ∧ 1 ≤ (dec l i).2 := by
  have hlt : i < l.length := by
    rcases Nat.lt_or_ge i l.length with h' | h'
    · exact h'
    · rw [List.getElem?_eq_none h'] at h; cases h
  have hs : i < (ByteArray.mk l.toArray).size := hlt
  have hg : (ByteArray.mk l.toArray)[i]'hs = c := by
    rw [List.getElem?_eq_getElem hlt] at h
    simp only [Option.some.injEq] at h
    exact h
  unfold dec
  exact decode_high _ i hs (by rw [hg]; exact hc)
theorem kV {α : Type} {l : List α} {i : Nat} {c : α} (h : l[i]? = some c) : i < l.length := by
  rcases Nat.lt_or_ge i l.length with h' | h'
  · exact h'
  · rw [List.getElem?_eq_none h'] at h; cases h
theorem bg {α : Type} {l : List α} {i : Nat} {c : α} (h : l[i]? = some c) : l.drop i = c :: l.drop (i + 1) := by
  have hlt := kV h
  rw [List.getElem?_eq_getElem hlt] at h
  simp only [Option.some.injEq] at h
  rw [← h, List.drop_eq_getElem_cons hlt]
theorem fC {α β : Type} [BEq α] [LawfulBEq α] [DecidableEq α] (a b : α) (x y : β) : (cond (a == b) x y) = if a = b then x else y := by
  by_cases h : a = b
  · subst h; simp
  · rw [beq_eq_false_iff_ne.2 h]; simp [h]
theorem uj {α β : Type} [BEq α] [LawfulBEq α] [DecidableEq α] (a b : α) (x y : β) : (cond (a != b) x y) = if a = b then y else x := by
  by_cases h : a = b
  · subst h; simp
  · rw [bne, beq_eq_false_iff_ne.2 h]; simp [h]
theorem ba {β : Type} (p : Prop) [Decidable p] (x y : β) : (cond (decide p) x y) = if p then x else y := by
  by_cases h : p <;> simp [h]
theorem ue {β : Type} (b : Bool) (x y : β) : (cond (!b) x y) = cond b y x := by cases b <;> rfl
theorem cK (a b : Nat) : (decide (((a : Nat) : Int) < ((b : Nat) : Int))) = decide (a < b) := by
  by_cases h : a < b <;> simp [h]
theorem fY (a b : Nat) : (decide (((a : Nat) : Int) ≥ ((b : Nat) : Int))) = decide (b ≤ a) := by
  by_cases h : b ≤ a <;> simp [h]
theorem jd (c d : UInt8) : ((((c.toNat : Nat) : Int)) == ((d.toNat : Nat) : Int)) = (c == d) := by
  by_cases h : c = d
  · subst h; simp
  · have h1 : c.toNat ≠ d.toNat := fun e => h (UInt8.toNat_inj.1 e)
    have h2 : ((c.toNat : Nat) : Int) ≠ ((d.toNat : Nat) : Int) := by omega
    rw [beq_eq_false_iff_ne.2 h2, beq_eq_false_iff_ne.2 h]
theorem C6 (c : UInt8) : UInt8.ofNat (Int.toNat ((c.toNat : Nat) : Int)) = c := by simp
def two (c : Nat) : List UInt8 := [UInt8.ofNat (48 + c / 10), UInt8.ofNat (48 + c % 10)]
def sea (m : List UInt8) : Int := match (List.range 21).find? (fun j => m == two (21 + j)) with | some j => ((21 + j : Nat) : Int) | none => 0
theorem mI {j : Nat} (hj : j < 21) : sea (two (21 + j)) = ((21 + j : Nat) : Int) := by
  have : ((List.range 21).all fun j => sea (two (21 + j)) == ((21 + j : Nat) : Int)) = true := by decide +kernel
  simpa using (List.all_eq_true.1 this) j (by simpa using hj)
theorem jE (m : List UInt8) : sea m = 0 ∨ ∃ j, j < 21 ∧ m = two (21 + j) := by
  unfold sea
  split
  · rename_i j h
    have h1 := List.find?_some h
    have h2 := List.mem_of_find?_eq_some h
    exact .inr ⟨j, by simpa using h2, by simpa using h1⟩
  · exact .inl rfl
theorem iD {b : UInt8} {d : Nat} (h : Lib.digitVal b = some d) : d < 10 ∧ b.toNat = 48 + d := by
  unfold Lib.digitVal at h
  split at h
  · cases h; omega
  · cases h
theorem zx {a b : UInt8} {v : Int} (h : Lib.atoi [a, b] = some v) (h1 : 21 ≤ v) (h2 : v < 42) : ∃ j, j < 21 ∧ [a, b] = two (21 + j) ∧ v = ((21 + j : Nat) : Int) := by
  obtain ⟨b0, r, e, h3⟩ := Lib.atoi_cases h
  cases e
  rcases h3 with ⟨_, m, _, _, h4⟩ | ⟨_, m, _, h5, h4⟩ | ⟨_, _, m, h5, h4⟩
  · omega
  · simp only [Lib.decFrom] at h5
    split at h5
    · rename_i d hd
      have := (iD hd).1
      simp only [Option.some.injEq] at h5
      omega
    · cases h5
  · simp only [Lib.decFrom] at h5
    split at h5
    · rename_i d hd
      split at h5
      · rename_i d' hd'
        obtain ⟨k1, k2⟩ := iD hd
        obtain ⟨k3, k4⟩ := iD hd'
        simp only [Option.some.injEq] at h5
        refine ⟨m - 21, by omega, ?_, by omega⟩
        have e0 : (21 + (m - 21)) / 10 = d := by omega
        have e1 : (21 + (m - 21)) % 10 = d' := by omega
        unfold two
        rw [e0, e1, ← k2, ← k4]
        simp
      · cases h5
    · cases h5
theorem so {j : Nat} (hj : j < 21) : Lib.atoi (two (21 + j)) = some ((21 + j : Nat) : Int) := by
  have : ((List.range 21).all fun j => Lib.atoi (two (21 + j)) == some ((21 + j : Nat) : Int)) = true := by decide +kernel
  simpa using (List.all_eq_true.1 this) j (by simpa using hj)
theorem nA (n : Nat) (g l : Bool) (dg : List UInt8) (x q : Int) (m d : List UInt8) (k0 k1 k2 : Int) (hm : m.length ≤ 18) : bp n g l dg x q m d k0 k1 k2 = some (sea m, decide (0 < sea m)) := by
  have hb : Nat.ble m.length 18 = true := Nat.ble_eq_true_of_le hm
  rcases jE m with h0 | ⟨j, hj, rfl⟩
  · unfold bp
    rw [hb, h0]
    show opt (Lib.atoi m) _ _ = _
    cases ha : Lib.atoi m with
    | none => rfl
    | some v =>
      show cond _ _ _ = _
      by_cases hl : m.length = 2
      · rw [hl]
        obtain ⟨a, b, rfl⟩ : ∃ a b, m = [a, b] := by
          match m, hl with
          | [a, b], _ => exact ⟨a, b, rfl⟩
        show ob (bX n v) _ = _
        unfold bX
        rw [ba, ba]
        split
        · rfl
        · split
          · rfl
          · exfalso
            obtain ⟨j, hj, e, _⟩ := zx ha (by omega) (by omega)
            rw [e, mI hj] at h0
            omega
      · rw [show (((m.length : Nat) : Int) != 2) = true by simp; omega]
        rfl
  · rw [mI hj]
    have e : bp n g l dg x q (two (21 + j)) d k0 k1 k2 = some (((21 + j : Nat) : Int), true) := by
      unfold bp
      rw [hb, so hj]
      show ob (bX n ((21 + j : Nat) : Int)) _ = _
      unfold bX
      rw [ba, ba, if_neg (by omega), if_neg (by omega)]
      rfl
    rw [e]
    have : decide (0 < ((21 + j : Nat) : Int)) = true := by simp; omega
    rw [this]
theorem wV (n : Nat) {c : Nat} (hc : c < 100) : cT n (c : Int) = some (two c) := by
  have e1 : Int.tdiv (c : Int) 10 = ((c / 10 : Nat) : Int) := by
    rw [show (10 : Int) = ((10 : Nat) : Int) from rfl, ← Int.ofNat_tdiv]
  have e2 : Int.tmod (c : Int) 10 = ((c % 10 : Nat) : Int) := by
    rw [show (10 : Int) = ((10 : Nat) : Int) from rfl, ← Int.ofNat_tmod]
  have h1 : c / 10 < 10 := by omega
  have h2 : c % 10 < 10 := by omega
  unfold cT
  rw [e1, e2]
  have w1 : IntKind.wrap .i64 ((c / 10 : Nat) : Int) = ((c / 10 : Nat) : Int) := wrap_i64 _ (by omega) (by omega)
  have w2 : IntKind.wrap .i64 (((c / 10 : Nat) : Int) + 1) = ((c / 10 + 1 : Nat) : Int) := by rw [wrap_i64 _ (by omega) (by omega)]; omega
  have w3 : IntKind.wrap .i64 (((c % 10 : Nat) : Int) + 1) = ((c % 10 + 1 : Nat) : Int) := by rw [wrap_i64 _ (by omega) (by omega)]; omega
  rw [w1, w2, w3, eZ (by omega), eZ (by omega)]
  show ob (bx (c / 10 + 1) ((c / 10 : Nat) : Int)) _ = _
  rw [eZ (by omega)]
  show ob (bx (c % 10 + 1) ((c % 10 : Nat) : Int)) _ = _
  rw [eZ (by omega)]
  unfold two
  generalize c / 10 = a at *
  generalize c % 10 = b at *
  have : ((List.range 10).all fun a => (List.range 10).all fun b => ob (cat (List.drop a (List.take (a + 1) ([48, 49, 50, 51, 52, 53, 54, 55, 56, 57] : List UInt8))) (List.drop b (List.take (b + 1) ([48, 49, 50, 51, 52, 53, 54, 55, 56, 57] : List UInt8)))) (fun s => some s) == some [UInt8.ofNat (48 + a), UInt8.ofNat (48 + b)]) = true := by decide +kernel
  have h3 := (List.all_eq_true.1 ((List.all_eq_true.1 this) a (by simpa using h1))) b (by simpa using h2)
  simpa using h3
theorem ym {m : List UInt8} (h : ∀ j, j < 21 → m ≠ two (21 + j)) : sea m = 0 := by
  rcases jE m with h0 | ⟨j, hj, e⟩
  · exact h0
  · exact absurd e (h j hj)
theorem nP (n : Nat) (g l : Bool) (dg : List UInt8) (x q : Int) (m d : List UInt8) (k0 k1 k2 : Int) : ∀ (r j : Nat), j + r = 21 → (∀ i, i < j → m ≠ two (21 + i)) → ∀ N, r < N →
    af (aJ n) N (((21 + j : Nat) : Int), g, l, dg, x, q, m, d, k0, k1, k2) = some (if sea m = 0 then .inr () else .inl (sea m)) := by
  intro r
  induction r with
  | zero =>
    intro j hj hne N hN
    obtain ⟨N, rfl⟩ : ∃ k, N = k + 1 := ⟨N - 1, by omega⟩
    have hs : sea m = 0 := ym (fun i hi => hne i (by omega))
    rw [af]
    have : aJ n (((21 + j : Nat) : Int), g, l, dg, x, q, m, d, k0, k1, k2) = some (.inr (.inr ())) := by
      unfold aJ
      rw [ba, if_neg (by show ¬ (((21 + j : Nat) : Int) ≤ 41); omega)]
    rw [this, if_pos hs]
  | succ r ih =>
    intro j hj hne N hN
    obtain ⟨N, rfl⟩ : ∃ k, N = k + 1 := ⟨N - 1, by omega⟩
    rw [af]
    by_cases hm : m = two (21 + j)
    · have hs : sea m = ((21 + j : Nat) : Int) := by rw [hm]; exact mI (by omega)
      have : aJ n (((21 + j : Nat) : Int), g, l, dg, x, q, m, d, k0, k1, k2) = some (.inr (.inl ((21 + j : Nat) : Int))) := by
        unfold aJ
        rw [ba, if_pos (by show ((21 + j : Nat) : Int) ≤ 41; omega)]
        show ob (cT n ((21 + j : Nat) : Int)) _ = _
        rw [wV n (by omega)]
        show cond (m == two (21 + j)) _ _ = _
        rw [fC, if_pos hm]
      rw [this, hs, if_neg (by omega)]
    · have : aJ n (((21 + j : Nat) : Int), g, l, dg, x, q, m, d, k0, k1, k2) = some (.inl (((21 + (j + 1) : Nat) : Int), g, l, dg, x, q, m, d, k0, k1, k2)) := by
        unfold aJ
        rw [ba, if_pos (by show ((21 + j : Nat) : Int) ≤ 41; omega)]
        show ob (cT n ((21 + j : Nat) : Int)) _ = _
        rw [wV n (by omega)]
        show cond (m == two (21 + j)) _ _ = _
        rw [fC, if_neg hm]
        have : IntKind.wrap .i64 (((21 + j : Nat) : Int) + 1) = ((21 + (j + 1) : Nat) : Int) := by rw [wrap_i64 _ (by omega) (by omega)]; omega
        show some (Sum.inl (IntKind.wrap .i64 (((21 + j : Nat) : Int) + 1), _)) = _
        rw [this]
      rw [this]
      exact ih (j + 1) (by omega) (fun i hi => by
        rcases Nat.lt_or_ge i j with h | h
        · exact hne i h
        · have : i = j := by omega
          rw [this]; exact hm) N (by omega)
theorem ly (n : Nat) (hn : 100 < n) (g l : Bool) (dg : List UInt8) (x q : Int) (m d : List UInt8) (k0 k1 k2 : Int) : aL n g l dg x q m d k0 k1 k2 = some (sea m) := by
  unfold aL
  have := nP n g l dg x q m d k0 k1 k2 21 0 rfl (fun i hi => absurd hi (by omega)) n (by omega)
  rw [show ((21 + 0 : Nat) : Int) = 21 from rfl] at this
  rw [this]
  by_cases h : sea m = 0
  · rw [if_pos h, h]; rfl
  · rw [if_neg h]; rfl
def agr (s : List UInt8) (k : Nat) : Bool := match s with
  | [a, b] => (a == 88 || a == UInt8.ofNat (48 + k / 10)) && (b == 88 || b == UInt8.ofNat (48 + k % 10))
  | _ => false
def dp (s : List UInt8) (g : Nat) : Bool := (List.range g).any fun i => agr s (i + 1)
theorem tH {X Y : Type} {step : X → Option (X ⊕ Y)} {f : Nat → X} {p : Nat → Bool} {g : Nat} {yes no : Y} (h : ∀ k, 1 ≤ k → k ≤ g → step (f k) = some (if p k then .inr yes else .inl (f (k + 1)))) (he : step (f (g + 1)) = some (.inr no)) {N : Nat} (hN : g < N) :
    af step N (f 1) = some (if (List.range g).any (fun i => p (i + 1)) then yes else no) := by
  have go : ∀ (r j : Nat), j + r = g → (∀ i, i < j → p (i + 1) = false) → ∀ N, r < N → af step N (f (j + 1)) = some (if (List.range g).any (fun i => p (i + 1)) then yes else no) := by
    intro r
    induction r with
    | zero =>
      intro j hj hne N hN
      obtain ⟨N, rfl⟩ : ∃ k, N = k + 1 := ⟨N - 1, by omega⟩
      have : (List.range g).any (fun i => p (i + 1)) = false := by
        rw [List.any_eq_false]
        intro i hi
        rw [hne i (by have := List.mem_range.1 hi; omega)]
        simp
      rw [af, show j + 1 = g + 1 by omega, he, this]
      rfl
    | succ r ih =>
      intro j hj hne N hN
      obtain ⟨N, rfl⟩ : ∃ k, N = k + 1 := ⟨N - 1, by omega⟩
      rw [af, h (j + 1) (by omega) (by omega)]
      cases hp : p (j + 1) with
      | true =>
        have : (List.range g).any (fun i => p (i + 1)) = true := List.any_eq_true.2 ⟨j, List.mem_range.2 (by omega), hp⟩
        rw [this]
        rfl
      | false =>
        exact ih (j + 1) (by omega) (fun i hi => by
          rcases Nat.lt_or_ge i j with h | h
          · exact hne i h
          · have : i = j := by omega
            rw [this]; exact hp) N (by omega)
  exact go g 0 (by omega) (fun i hi => absurd hi (by omega)) N hN
theorem lS {a : UInt8} {k : Nat} (hk : k < 256) : ((((a.toNat : Nat) : Int)) == ((k : Nat) : Int)) = (a == UInt8.ofNat k) := by
  have h : (UInt8.ofNat k).toNat = k := by simp; omega
  rw [← jd, h]
theorem zA (n : Nat) (a b : UInt8) {g k : Nat} (h1 : 1 ≤ k) (h2 : k ≤ g) (h3 : g ≤ 31) :
    bw n ([a, b], (g : Int), (k : Int)) = some (if agr [a, b] k then .inr (.inl true) else .inl ([a, b], (g : Int), ((k + 1 : Nat) : Int))) := by
  have e1 : Int.tdiv (k : Int) 10 = ((k / 10 : Nat) : Int) := by
    rw [show (10 : Int) = ((10 : Nat) : Int) from rfl, ← Int.ofNat_tdiv]
  have e2 : Int.tmod (k : Int) 10 = ((k % 10 : Nat) : Int) := by
    rw [show (10 : Int) = ((10 : Nat) : Int) from rfl, ← Int.ofNat_tmod]
  have w1 : IntKind.wrap .u8 (48 + IntKind.wrap .u8 (IntKind.wrap .i64 (Int.tdiv (k : Int) 10))) = ((48 + k / 10 : Nat) : Int) := by
    rw [e1, wrap_i64 _ (by omega) (by omega), fR ((k / 10 : Nat) : Int) (by omega) (by omega), fR _ (by omega) (by omega)]
    omega
  have w2 : IntKind.wrap .u8 (48 + IntKind.wrap .u8 (Int.tmod (k : Int) 10)) = ((48 + k % 10 : Nat) : Int) := by
    rw [e2, fR ((k % 10 : Nat) : Int) (by omega) (by omega), fR _ (by omega) (by omega)]
    omega
  have w3 : IntKind.wrap .i64 ((k : Int) + 1) = ((k + 1 : Nat) : Int) := by rw [wrap_i64 _ (by omega) (by omega)]; omega
  have x88 : (88 : Int) = ((88 : Nat) : Int) := rfl
  have s0 : sx [a, b] 0 = some a := rfl
  have s1 : sx [a, b] 1 = some b := rfl
  unfold bw
  rw [ba, if_pos (show (k : Int) ≤ (g : Int) by omega)]
  simp only [s0, s1, ob, w1, w2, w3]
  rw [x88, lS (by omega), lS (by omega), lS (by omega), lS (by omega)]
  show _ = some (if ((a == UInt8.ofNat 88 || a == UInt8.ofNat (48 + k / 10)) && (b == UInt8.ofNat 88 || b == UInt8.ofNat (48 + k % 10))) = true then _ else _)
  generalize (a == UInt8.ofNat 88) = p1
  generalize (b == UInt8.ofNat 88) = p2
  generalize (a == UInt8.ofNat (48 + k / 10)) = p3
  generalize (b == UInt8.ofNat (48 + k % 10)) = p4
  cases p1 <;> cases p2 <;> cases p3 <;> cases p4 <;> rfl
theorem qL (n : Nat) (hn : 100 < n) (s : List UInt8) (g : Nat) (hg : g ≤ 31) : bq n s (g : Int) = some (dp s g) := by
  unfold bq
  by_cases hl : s.length = 2
  · obtain ⟨a, b, rfl⟩ : ∃ a b, s = [a, b] := by
      match s, hl with
      | [a, b], _ => exact ⟨a, b, rfl⟩
    have he : bw n ([a, b], (g : Int), ((g + 1 : Nat) : Int)) = some (.inr (.inr ())) := by
      unfold bw
      rw [ba, if_neg (show ¬ ((g + 1 : Nat) : Int) ≤ (g : Int) by omega)]
    have := tH (f := fun k => ([a, b], (g : Int), ((k : Nat) : Int))) (p := agr [a, b]) (g := g) (N := n) (fun k h1 h2 => zA n a b h1 h2 hg) he (by omega)
    show ob (af (bw n) n ([a, b], (g : Int), ((1 : Nat) : Int))) _ = _
    rw [this]
    unfold dp
    split <;> simp_all [ob]
  · rw [show (((s.length : Nat) : Int) != 2) = true by simp; omega]
    have : dp s g = false := by
      unfold dp
      rw [List.any_eq_false]
      intro i _
      match s, hl with
      | [], _ => simp [agr]
      | [_], _ => simp [agr]
      | [_, _], h => exact absurd rfl h
      | _ :: _ :: _ :: _, _ => simp [agr]
    rw [this]
    rfl
theorem lD (n : Nat) (s : List UInt8) (k : Nat) (hk : k < 100) : bV n s (k : Int) = some (if agr s k then 1 else 0) := by
  unfold bV
  rw [wV n hk]
  show cond _ _ _ = _
  by_cases hl : s.length = 2
  · obtain ⟨a, b, rfl⟩ : ∃ a b, s = [a, b] := by
      match s, hl with
      | [a, b], _ => exact ⟨a, b, rfl⟩
    have s0 : sx [a, b] 0 = some a := rfl
    have s1 : sx [a, b] 1 = some b := rfl
    have t0 : sx (two k) 0 = some (UInt8.ofNat (48 + k / 10)) := rfl
    have t1 : sx (two k) 1 = some (UInt8.ofNat (48 + k % 10)) := rfl
    have x88 : (88 : Int) = ((88 : Nat) : Int) := rfl
    rw [show (((([a, b] : List UInt8).length : Nat) : Int) == 2) = true from rfl]
    simp only [s0, s1, t0, t1, ob, cond_true]
    rw [x88, lS (by omega), lS (by omega), jd, jd]
    show _ = some (if ((a == UInt8.ofNat 88 || a == UInt8.ofNat (48 + k / 10)) && (b == UInt8.ofNat 88 || b == UInt8.ofNat (48 + k % 10))) = true then _ else _)
    generalize (a == UInt8.ofNat 88) = p1
    generalize (b == UInt8.ofNat 88) = p2
    generalize (a == UInt8.ofNat (48 + k / 10)) = p3
    generalize (b == UInt8.ofNat (48 + k % 10)) = p4
    cases p1 <;> cases p2 <;> cases p3 <;> cases p4 <;> rfl
  · rw [show (((s.length : Nat) : Int) == 2) = false by simp; omega]
    have : agr s k = false := by
      match s, hl with
      | [], _ => rfl
      | [_], _ => rfl
      | [_, _], h => exact absurd rfl h
      | _ :: _ :: _ :: _, _ => rfl
    rw [this]
    rfl
theorem tg (n : Nat) (hn : 100 < n) (s : List UInt8) (g : Nat) (hg : g ≤ 31) : bJ n s (g : Int) = some (if dp s g then 1 else 0) := by
  unfold bJ
  have he : bI n (s, (g : Int), ((g + 1 : Nat) : Int)) = some (.inr (.inr ())) := by
    unfold bI
    rw [ba, if_neg (show ¬ ((g + 1 : Nat) : Int) ≤ (g : Int) by omega)]
  have := tH (f := fun k => (s, (g : Int), ((k : Nat) : Int))) (p := agr s) (g := g) (N := n) (step := bI n) (yes := .inl 1) (no := .inr ()) (fun k h1 h2 => by
    unfold bI
    rw [ba, if_pos (show (k : Int) ≤ (g : Int) by omega)]
    show ob (bV n s (k : Int)) _ = _
    rw [lD n s k (by omega)]
    have w3 : IntKind.wrap .i64 ((k : Int) + 1) = ((k + 1 : Nat) : Int) := by rw [wrap_i64 _ (by omega) (by omega)]; omega
    simp only [ob, w3]
    cases agr s k <;> rfl) he (by omega)
  show ob (af (bI n) n (s, (g : Int), ((1 : Nat) : Int))) _ = _
  rw [this]
  unfold dp
  split <;> simp_all [ob]
theorem nW (n : Nat) {a b : Int} (hb : 1 < b) (hb2 : b < 1000) (ha : -4611686018427387904 ≤ a) (ha2 : a < 4611686018427387904) : ga n a b = some (a / b, 0) := by
  have n0 : (b == 0) = false := by simp; omega
  have n1 : (b == -1) = false := by simp; omega
  unfold ga
  simp only [n0, n1, cond_false]
  have hq : a / b * b + a % b = a := Int.ediv_mul_add_emod a b
  have hr := Int.emod_nonneg a (show b ≠ 0 by omega)
  have hr2 := Int.emod_lt_of_pos a (show 0 < b by omega)
  have hq1 : -4611686018427387904 ≤ a / b := by
    rw [Int.le_ediv_iff_mul_le (by omega)]
    have : (-4611686018427387904 : Int) * b ≤ -4611686018427387904 * 1 := Int.mul_le_mul_of_nonpos_left (by omega) (by omega)
    omega
  have hq2 : a / b < 4611686018427387904 := by
    rw [Int.ediv_lt_iff_lt_mul (by omega)]
    have : (4611686018427387904 : Int) * 1 ≤ 4611686018427387904 * b := Int.mul_le_mul_of_nonneg_left (by omega) (by omega)
    omega
  by_cases h0 : 0 ≤ a
  · have e1 : Int.tdiv a b = a / b := Int.tdiv_eq_ediv_of_nonneg h0
    have d1 : decide (a < 0) = false := by simp; omega
    have d2 : decide (b < 0) = false := by simp; omega
    rw [e1, d1, d2, wrap_i64 (a / b) (by omega) (by omega)]
    cases (Int.tmod a b != 0) <;> rfl
  · have d1 : decide (a < 0) = true := by simp; omega
    have d2 : decide (b < 0) = false := by simp; omega
    have e1 := Int.tdiv_eq_ediv (a := a) (b := b)
    have e2 := Int.tmod_eq_emod (a := a) (b := b)
    rw [d1, d2]
    by_cases hd : b ∣ a
    · have hm : Int.tmod a b = 0 := by
        rw [e2, if_pos (.inr hd)]
        have := Int.emod_eq_zero_of_dvd hd
        omega
      rw [hm, e1, if_pos (.inr hd)]
      rw [Int.add_zero, wrap_i64 (a / b) (by omega) (by omega)]
      rfl
    · have hm0 : a % b ≠ 0 := fun h => hd (Int.dvd_of_emod_eq_zero h)
      have hm : (Int.tmod a b != 0) = true := by
        rw [e2, if_neg (by rintro (h | h); exact h0 h; exact hd h)]
        simp
        omega
      have hs : b.sign = 1 := Int.sign_eq_one_of_pos (by omega)
      rw [hm, e1, if_neg (by rintro (h | h); exact h0 h; exact hd h), hs]
      rw [wrap_i64 (a / b + 1) (by omega) (by omega), Int.add_sub_cancel, wrap_i64 (a / b) (by omega) (by omega)]
      rfl
theorem BS (n : Nat) {a b : Int} (hb : 1 < b) (hb2 : b < 1000) : mC n a b = some (a % b, 0) := by
  have n0 : (b == 0) = false := by simp; omega
  have n1 : (b == -1) = false := by simp; omega
  unfold mC
  simp only [n0, n1, cond_false]
  have hr := Int.emod_nonneg a (show b ≠ 0 by omega)
  have hr2 := Int.emod_lt_of_pos a (show 0 < b by omega)
  have e2 := Int.tmod_eq_emod (a := a) (b := b)
  have d2 : decide (b < 0) = false := by simp; omega
  by_cases hc : 0 ≤ a ∨ b ∣ a
  · rw [if_pos hc] at e2
    have : Int.tmod a b = a % b := by omega
    rw [this, d2]
    have d1 : decide (a % b < 0) = false := by simp; omega
    rw [d1]
    cases h : (a % b != 0)
    · rfl
    · rfl
  · rw [if_neg hc] at e2
    have hn : (b.natAbs : Int) = b := by omega
    rw [hn] at e2
    have hm0 : a % b ≠ 0 := fun h => hc (.inr (Int.dvd_of_emod_eq_zero h))
    have hm : (Int.tmod a b != 0) = true := by simp; omega
    have d1 : decide (Int.tmod a b < 0) = true := by simp; omega
    rw [hm, d1, d2, e2, wrap_i64 _ (by omega) (by omega), Int.sub_add_cancel]
    rfl
def dl (y : Int) : Prop := -10000000000000000 ≤ y ∧ y ≤ 10000000000000000
instance (y : Int) : Decidable (dl y) := by unfold dl; infer_instance
theorem eD (n : Nat) (y : Int) : eU n y = some (if dl y then 0 else 6) := by
  unfold eU
  rw [ba, ba]
  by_cases h1 : y < -10000000000000000
  · rw [if_pos h1, if_neg (show ¬ dl y by unfold dl; omega)]
  · by_cases h2 : y > 10000000000000000
    · rw [if_neg h1, if_pos h2, if_neg (show ¬ dl y by unfold dl; omega)]
    · rw [if_neg h1, if_neg h2, if_pos (show dl y by unfold dl; omega)]
theorem kq (n : Nat) {y : Int} (h : -20000000000000000 ≤ y ∧ y ≤ 20000000000000000) : ∃ z, cu n y = some z := by
  unfold cu
  rw [wrap_i64 (y - 1) (by omega) (by omega), nW n (by omega) (by omega) (by omega) (by omega), nW n (by omega) (by omega) (by omega) (by omega), nW n (by omega) (by omega) (by omega) (by omega)]
  exact ⟨_, rfl⟩
theorem vt (n : Nat) {y : Int} (h : dl y) : ∃ b e, e8 n y = some (b, e) := by
  unfold e8
  have h' := h
  unfold dl at h'
  obtain ⟨z1, e1⟩ := kq n (y := y + 1) (by omega)
  obtain ⟨z2, e2⟩ := kq n (y := y) (by omega)
  rw [eD, if_pos h, wrap_i64 (y + 1) (by omega) (by omega), e1, e2]
  exact ⟨_, _, rfl⟩
theorem kC (n : Nat) {y : Int} (h : dl y) {m : Nat} (h1 : 1 ≤ m) (h2 : m ≤ 12) : ∃ v, bW n y (m : Int) = some v := by
  unfold bW
  obtain ⟨b, e, hl⟩ := vt n h
  rw [hl]
  show ∃ v, cond (b && ((m : Int) == 2)) _ _ = some v
  cases (b && ((m : Int) == 2)) with
  | true => exact ⟨_, rfl⟩
  | false =>
    have : IntKind.wrap .i64 ((m : Int) - 1) = ((m - 1 : Nat) : Int) := by rw [wrap_i64 _ (by omega) (by omega)]; omega
    rw [this, dj (by omega)]
    have hl : mr.length = 12 := rfl
    exact ⟨_, List.getElem?_eq_getElem (show m - 1 < mr.length by omega)⟩
theorem wz (n : Nat) {y : Int} (h : dl y) {m : Nat} (h1 : 1 ≤ m) (h2 : m ≤ 12) : eW n y (m : Int) = some 0 := by
  unfold eW
  rw [eD, if_pos h]
  show cond (decide ((m : Int) < 1)) _ _ = _
  rw [ba, ba, if_neg (by omega), if_neg (by omega)]
theorem uw (n : Nat) {y : Int} (h : dl y) {m : Nat} (hm : m ≤ 11) : ∀ (r j : Nat), j + r = m → ∀ (a : Int) (N : Nat), r < N → ∃ v, af (bY n) N (y, a, (m : Int), (j : Int)) = some v := by
  intro r
  induction r with
  | zero =>
    intro j hj a N hN
    obtain ⟨N, rfl⟩ : ∃ k, N = k + 1 := ⟨N - 1, by omega⟩
    have : bY n (y, a, (m : Int), (j : Int)) = some (.inr a) := by
      unfold bY
      rw [ba, if_neg (show ¬ ((j : Int) < (m : Int)) by omega)]
    rw [af, this]
    exact ⟨_, rfl⟩
  | succ r ih =>
    intro j hj a N hN
    obtain ⟨N, rfl⟩ : ∃ k, N = k + 1 := ⟨N - 1, by omega⟩
    obtain ⟨v, hv⟩ := kC n h (m := j + 1) (by omega) (by omega)
    have w : IntKind.wrap .i64 ((j : Int) + 1) = ((j + 1 : Nat) : Int) := by rw [wrap_i64 _ (by omega) (by omega)]; omega
    have : bY n (y, a, (m : Int), (j : Int)) = some (.inl (y, IntKind.wrap .i64 (a + v), (m : Int), ((j + 1 : Nat) : Int))) := by
      unfold bY
      rw [ba, if_pos (show ((j : Int) < (m : Int)) by omega)]
      simp only [w, hv, ob]
    rw [af, this]
    exact ih (j + 1) (by omega) _ N (by omega)
theorem u9 (n : Nat) (hn : 100 < n) {y : Int} (h : dl y) {m : Nat} (h1 : 1 ≤ m) (h2 : m ≤ 12) : ∃ v, fc n y (m : Int) = some (v, 0) := by
  unfold fc kn kB
  have h' := h
  unfold dl at h'
  obtain ⟨z, e⟩ := kq n (y := y) (by omega)
  have w : IntKind.wrap .i64 ((m : Int) - 1) = ((m - 1 : Nat) : Int) := by rw [wrap_i64 _ (by omega) (by omega)]; omega
  rw [wz n h h1 h2, eD, if_pos h, e, w]
  obtain ⟨v, hv⟩ := uw n h (m := m - 1) (by omega) (m - 1) 0 (by omega) (IntKind.wrap .i64 (IntKind.wrap .i64 (365 * y) + z)) n (by omega)
  refine ⟨v, ?_⟩
  show ob (af (bY n) n (y, IntKind.wrap .i64 (IntKind.wrap .i64 (365 * y) + z), ((m - 1 : Nat) : Int), ((0 : Nat) : Int))) _ = _
  rw [hv]
  rfl
theorem madd (n : Nat) {y : Int} (h : dl y) {m c : Nat} (h1 : 1 ≤ m) (h2 : m ≤ 12) (hc : 1 ≤ c) (hc2 : c ≤ 6) : ij n y (m : Int) (IntKind.wrap .i64 ((c : Int) - 1)) =
    some (if 12 < m + c - 1 then (if y = 10000000000000000 then (0, 0, 6) else (y + 1, ((m + c - 1 - 12 : Nat) : Int), 0)) else (y, ((m + c - 1 : Nat) : Int), 0)) := by
  have h' := h
  unfold dl at h'
  unfold ij
  rw [wz n h h1 h2, wrap_i64 (12 * y) (by omega) (by omega), wrap_i64 ((m : Int) - 1) (by omega) (by omega), wrap_i64 (12 * y + ((m : Int) - 1)) (by omega) (by omega), wrap_i64 ((c : Int) - 1) (by omega) (by omega)]
  have ha : jO n (12 * y + ((m : Int) - 1)) ((c : Int) - 1) = some (12 * y + ((m : Int) - 1) + ((c : Int) - 1), 0) := by
    unfold jO
    rw [wrap_i64 (12 * y + ((m : Int) - 1) + ((c : Int) - 1)) (by omega) (by omega), fC]
    by_cases h0 : (c : Int) - 1 = 0
    · rw [if_pos h0]
      have d1 : decide (12 * y + ((m : Int) - 1) > 12 * y + ((m : Int) - 1)) = false := by simp
      have d2 : decide ((c : Int) - 1 > 0) = false := by simp; omega
      rw [d1, d2, h0, Int.add_zero]
      rfl
    · rw [if_neg h0]
      have d1 : decide (12 * y + ((m : Int) - 1) + ((c : Int) - 1) > 12 * y + ((m : Int) - 1)) = true := by simp; omega
      have d2 : decide ((c : Int) - 1 > 0) = true := by simp; omega
      rw [d1, d2]
      rfl
  simp only [ob, ha, bne_self_eq_false, cond_false]
  rw [nW n (by omega) (by omega) (by omega) (by omega), BS n (by omega) (by omega)]
  simp only [eD]
  by_cases hb : 12 < m + c - 1
  · have e1 : (12 * y + ((m : Int) - 1) + ((c : Int) - 1)) / 12 = y + 1 := by omega
    have e2 : (12 * y + ((m : Int) - 1) + ((c : Int) - 1)) % 12 = ((m + c - 1 - 12 : Nat) : Int) - 1 := by omega
    rw [e1, e2, if_pos hb]
    by_cases hy : y = 10000000000000000
    · rw [if_pos hy, if_neg (show ¬ dl (y + 1) by unfold dl; omega)]
      rfl
    · rw [if_neg hy, if_pos (show dl (y + 1) by unfold dl; omega), wrap_i64 (((m + c - 1 - 12 : Nat) : Int) - 1 + 1) (by omega) (by omega), Int.sub_add_cancel]
      rfl
  · have e1 : (12 * y + ((m : Int) - 1) + ((c : Int) - 1)) / 12 = y := by omega
    have e2 : (12 * y + ((m : Int) - 1) + ((c : Int) - 1)) % 12 = ((m + c - 1 : Nat) : Int) - 1 := by omega
    rw [e1, e2, if_neg hb, if_pos h, wrap_i64 (((m + c - 1 : Nat) : Int) - 1 + 1) (by omega) (by omega), Int.sub_add_cancel]
    rfl
theorem yD {j : Nat} (hj : j < 21) : ∃ m c : Nat, lX[j]? = some ((m : Int), (c : Int)) ∧ 1 ≤ m ∧ m ≤ 12 ∧ 1 ≤ c ∧ c ≤ 6 ∧ (12 < m + c - 1 ↔ j = 3 ∨ j = 7 ∨ j = 9) := by
  have : ((List.range 21).all fun j => match lX[j]? with
    | some (m, c) => decide (0 ≤ m) && decide (0 ≤ c) && decide (1 ≤ m.toNat) && decide (m.toNat ≤ 12) && decide (1 ≤ c.toNat) && decide (c.toNat ≤ 6) && (decide (12 < m.toNat + c.toNat - 1) == decide (j = 3 ∨ j = 7 ∨ j = 9))
    | none => false) = true := by decide +kernel
  have h := (List.all_eq_true.1 this) j (by simpa using hj)
  split at h
  · rename_i m c e
    simp only [Bool.and_eq_true, decide_eq_true_eq, beq_iff_eq, decide_eq_decide] at h
    obtain ⟨⟨⟨⟨⟨⟨h1, h2⟩, h3⟩, h4⟩, h5⟩, h6⟩, h7⟩ := h
    exact ⟨m.toNat, c.toNat, by rw [e, Int.toNat_of_nonneg h1, Int.toNat_of_nonneg h2], h3, h4, h5, h6, h7⟩
  · cases h
theorem B7 (n : Nat) (hn : 100 < n) {y : Int} (h : dl y) {j : Nat} (hj : j < 21) :
    ∃ a b c d, fW n y ((21 + j : Nat) : Int) = some (a, b, c, d, if y = 10000000000000000 ∧ (j = 3 ∨ j = 7 ∨ j = 9) then 6 else 0) := by
  obtain ⟨m, c, e, h1, h2, h3, h4, h5⟩ := yD hj
  have hM : dM n ((21 + j : Nat) : Int) = some ((m : Int), (c : Int), 0) := by
    unfold dM bX
    rw [ba, ba, if_neg (by omega), if_neg (by omega)]
    have : IntKind.wrap .i64 (((21 + j : Nat) : Int) - 21) = (j : Int) := by rw [wrap_i64 _ (by omega) (by omega)]; omega
    rw [this, dj hj]
    show ob (lX[j]?) _ = _
    rw [e]
    rfl
  obtain ⟨v, hv⟩ := u9 n hn h h1 h2
  unfold fW
  rw [hM]
  show ∃ a b c d, ob (fc n y (m : Int)) _ = _
  rw [hv]
  show ∃ a b c' d, ob (ij n y (m : Int) (IntKind.wrap .i64 ((c : Int) - 1))) _ = _
  rw [madd n h h1 h2 h3 h4]
  have h' := h
  unfold dl at h'
  by_cases hb : 12 < m + c - 1
  · rw [if_pos hb]
    by_cases hy : y = 10000000000000000
    · rw [if_pos hy, if_pos ⟨hy, h5.1 hb⟩]
      exact ⟨_, _, _, _, rfl⟩
    · rw [if_neg hy, if_neg (fun x => hy x.1)]
      have hc1 : dl (y + 1) := by unfold dl; omega
      obtain ⟨v2, hv2⟩ := u9 n hn hc1 (m := m + c - 1 - 12) (by omega) (by omega)
      obtain ⟨u, hu⟩ := kC n hc1 (m := m + c - 1 - 12) (by omega) (by omega)
      have hE : fe n (y + 1) ((m + c - 1 - 12 : Nat) : Int) = some (IntKind.wrap .i64 (IntKind.wrap .i64 (v2 + u) - 1), 0) := by
        unfold fe
        rw [hv2, hu]
        rfl
      show ∃ a b c' d, ob (fe n (y + 1) ((m + c - 1 - 12 : Nat) : Int)) _ = _
      rw [hE]
      exact ⟨_, _, _, _, rfl⟩
  · rw [if_neg hb, if_neg (fun x => hb (h5.2 x.2))]
    obtain ⟨v2, hv2⟩ := u9 n hn h (m := m + c - 1) (by omega) (by omega)
    obtain ⟨u, hu⟩ := kC n h (m := m + c - 1) (by omega) (by omega)
    have hE : fe n y ((m + c - 1 : Nat) : Int) = some (IntKind.wrap .i64 (IntKind.wrap .i64 (v2 + u) - 1), 0) := by
      unfold fe
      rw [hv2, hu]
      rfl
    show ∃ a b c' d, ob (fe n y ((m + c - 1 : Nat) : Int)) _ = _
    rw [hE]
    exact ⟨_, _, _, _, rfl⟩
def hasB (set : List UInt8) (c : UInt8) : Bool := set.any fun d => d == c
theorem iZ (set : List UInt8) (c : UInt8) : (decide (Lib.indexByte set c < 0)) = !hasB set c := by
  induction set with
  | nil => simp [Lib.indexByte, hasB]
  | cons d l ih =>
    have hge := Lib.indexByte_ge l c
    simp only [hasB, List.any_cons] at ih ⊢
    unfold Lib.indexByte
    by_cases h : d = c
    · simp [h]
    · have hb : (d == c) = false := by simpa using h
      simp only [hb, Bool.false_eq_true, if_false, Bool.false_or]
      rw [← ih]
      by_cases h1 : Lib.indexByte l c = -1
      · simp [h1]
      · have hb1 : (Lib.indexByte l c == -1) = false := by simpa using h1
        simp only [hb1, Bool.false_eq_true, if_false]
        have : ¬ Lib.indexByte l c + 1 < 0 := by omega
        have : ¬ Lib.indexByte l c < 0 := by omega
        simp [*]
theorem iV (set : List UInt8) (c : UInt8) : (decide (Lib.indexByte set c ≥ 0)) = hasB set c := by
  have := iZ set c
  by_cases h : Lib.indexByte set c < 0
  · have h2 : ¬ Lib.indexByte set c ≥ 0 := by omega
    simp only [h, h2, decide_true, decide_false] at this ⊢
    revert this; cases hasB set c <;> simp
  · have h2 : Lib.indexByte set c ≥ 0 := by omega
    simp only [h, h2, decide_true, decide_false] at this ⊢
    revert this; cases hasB set c <;> simp
def aW (p : UInt8 → Bool) : Nat → List UInt8 → Nat
  | 0, _ => 0
  | _ + 1, [] => 0
  | k + 1, c :: l => if p c then aW p k l + 1 else 0
theorem gf (p : UInt8 → Bool) : ∀ (k : Nat) (l : List UInt8), aW p k l ≤ l.length
  | 0, _ => by simp [aW]
  | _ + 1, [] => by simp [aW]
  | k + 1, c :: l => by
    have := gf p k l
    simp only [aW, List.length_cons]
    split <;> omega
theorem tw (n : Nat) (S : List UInt8) (at_ : Nat) (h : at_ ≤ S.length) : cA n S (at_ : Int) = some (S.drop at_) := by
  simp [cA, ob, eZ h]
theorem rx (n : Nat) (s p : List UInt8) : eg n s p = some (s.take p.length == p) := by
  simp only [eg, cV, fY]
  by_cases h : p.length ≤ s.length
  · simp [h, ob, eZ h]
  · have : (s.take p.length == p) = false := by
      rw [beq_eq_false_iff_ne]
      intro e
      have := congrArg List.length e
      rw [List.length_take] at this
      omega
    simp [h, ob, this]
theorem Ce (n : Nat) (t S : List UInt8) (at_ : Nat) (h : at_ ≤ S.length) : ei n t S (at_ : Int) = some ((S.drop at_).take t.length == t) := by
  simp [ei, tw n S at_ h, ob, rx]
theorem ui (n : Nat) (t S : List UInt8) (at_ : Nat) (h : at_ ≤ S.length) (hS : S.length < 4611686018427387904) :
    aQ n t S (at_ : Int) = some (if (S.drop at_).take t.length = t then (true, S, ((at_ + t.length : Nat) : Int)) else (false, S, (at_ : Int))) := by
  simp only [aQ, Ce n t S at_ h, ob]
  by_cases hp : (S.drop at_).take t.length = t
  · have hl : t.length ≤ S.length - at_ := by
      have := congrArg List.length hp
      simp at this; omega
    have hw : IntKind.wrap .i64 ((at_ : Int) + ((t.length : Nat) : Int)) = ((at_ + t.length : Nat) : Int) := by rw [wrap_i64 _ (by omega) (by omega)]; omega
    simp [hp, hw]
  · simp only [ue, fC, hp, if_false]
theorem s7 (n : Nat) (S : List UInt8) (i : Int) : aS n S i = some i := rfl
def peek (l : List UInt8) : Int × Bool := match l with | c :: _ => (((c.toNat : Nat) : Int), true) | [] => (0, false)
theorem mj (n : Nat) (S : List UInt8) (at_ : Nat) (h : at_ ≤ S.length) : bu n S (at_ : Int) = some (peek (S.drop at_)) := by
  simp only [bu, tw n S at_ h, ob]
  rcases Nat.lt_or_ge at_ S.length with hlt | hge
  · obtain ⟨c, hc⟩ : ∃ c, S[at_]? = some c := ⟨S[at_], List.getElem?_eq_getElem hlt⟩
    rw [bg hc]
    simp [cJ hc, peek]
  · rw [List.drop_eq_nil_of_le hge]
    simp [peek]
theorem pG (n : Nat) (a e : Int) (S : List UInt8) (i : Int) : bv n a e S i = some (a, if e = 0 then 5 else e) := by
  simp only [bv, fC]
  by_cases h : e = 0 <;> simp [h]
theorem db (n : Nat) (set : List UInt8) (c : UInt8) : bD n set ((c.toNat : Nat) : Int) = some (Lib.indexByte set c) := by
  simp only [bD, bn, ob, C6]
theorem sq (n : Nat) (set S : List UInt8) (at_ : Nat) (h : at_ ≤ S.length) (hS : S.length < 4611686018427387904) :
    bh n set S (at_ : Int) = some (match S.drop at_ with | c :: _ => if hasB set c then .inr (((c.toNat : Nat) : Int), S, ((at_ + 1 : Nat) : Int)) else .inl ((at_ : Int), 5, S, (at_ : Int)) | [] => .inl ((at_ : Int), 5, S, (at_ : Int))) := by
  simp only [bh, mj n S at_ h, ob]
  rcases Nat.lt_or_ge at_ S.length with hlt | hge
  · obtain ⟨c, hc⟩ : ∃ c, S[at_]? = some c := ⟨S[at_], List.getElem?_eq_getElem hlt⟩
    have hw : IntKind.wrap .i64 ((at_ : Int) + 1) = ((at_ + 1 : Nat) : Int) := by rw [wrap_i64 _ (by omega) (by omega)]; omega
    rw [bg hc]
    simp only [peek, Bool.not_true, cond_false, db, iZ, s7, pG, ob, hw]
    cases hasB set c <;> simp
  · rw [List.drop_eq_nil_of_le hge]
    simp [peek, s7, pG, ob]
theorem iG (S : List UInt8) (a k : Nat) : List.drop a (List.take (a + k) S) = (S.drop a).take k := by
  rw [List.drop_take]; congr 1; omega
theorem pg (n : Nat) (set : List UInt8) (least most : Int) (S : List UInt8) (at_ : Nat) (h : at_ ≤ S.length) (hS : S.length < 4611686018427387904) (hn : S.length < n) :
    af (bj n) n (set, least, most, (at_ : Int), (peek (S.drop at_)).1, (peek (S.drop at_)).2, S, (at_ : Int)) =
      some (least, (at_ : Int), S, ((at_ + aW (hasB set) most.toNat (S.drop at_) : Nat) : Int)) := by
  have := cN (step := bj n)
    (fun x => ∃ j : Nat, at_ + j ≤ S.length ∧ x = (set, least, most, (at_ : Int), (peek (S.drop (at_ + j))).1, (peek (S.drop (at_ + j))).2, S, ((at_ + j : Nat) : Int)))
    (fun x => S.length - x.2.2.2.2.2.2.2.toNat)
    (fun x => (least, (at_ : Int), S, ((x.2.2.2.2.2.2.2.toNat + aW (hasB set) (most.toNat - (x.2.2.2.2.2.2.2.toNat - at_)) (S.drop x.2.2.2.2.2.2.2.toNat) : Nat) : Int))) ?_ n
    (set, least, most, (at_ : Int), (peek (S.drop at_)).1, (peek (S.drop at_)).2, S, (at_ : Int)) ⟨0, by omega, by simp⟩ (by simp; omega)
  · simpa using this
  rintro x ⟨j, hj, rfl⟩
  simp only [Int.toNat_natCast]
  have hsub : IntKind.wrap .i64 (((at_ + j : Nat) : Int) - (at_ : Int)) = (j : Int) := by rw [wrap_i64 _ (by omega) (by omega)]; omega
  rcases Nat.lt_or_ge (at_ + j) S.length with hlt | hge
  · obtain ⟨c, hc⟩ : ∃ c, S[at_ + j]? = some c := ⟨S[at_ + j], List.getElem?_eq_getElem hlt⟩
    have hw : IntKind.wrap .i64 (((at_ + j : Nat) : Int) + 1) = ((at_ + (j + 1) : Nat) : Int) := by rw [wrap_i64 _ (by omega) (by omega)]; omega
    simp only [bj, bg hc, peek, cond_true, hsub]
    by_cases hm : (j : Int) < most
    · obtain ⟨k, hk⟩ : ∃ k, most.toNat - (at_ + j - at_) = k + 1 := ⟨most.toNat - j - 1, by omega⟩
      simp only [hm, decide_true, cond_true, db, ob, iV, hk, aW]
      cases hb : hasB set c with
      | true =>
        simp only [hw, mj n S (at_ + (j + 1)) (by omega), cond_true]
        refine .inl ⟨_, rfl, ⟨j + 1, by omega, rfl⟩, ?_, ?_⟩
        · simp only [Int.toNat_natCast]; omega
        · simp only [Int.toNat_natCast, Prod.mk.injEq, true_and, if_true]
          have : most.toNat - (at_ + (j + 1) - at_) = k := by omega
          rw [this, show at_ + (j + 1) = at_ + j + 1 by omega]
          omega
      | false => exact .inr (by simp)
    · refine .inr ?_
      have : most.toNat - (at_ + j - at_) = 0 := by omega
      simp only [hm, decide_false, cond_false, this, aW, Nat.add_zero]
  · refine .inr ?_
    simp only [bj, List.drop_eq_nil_of_le hge, peek, cond_false]
    have : aW (hasB set) (most.toNat - (at_ + j - at_)) [] = 0 := by cases most.toNat - (at_ + j - at_) <;> rfl
    simp only [this, Nat.add_zero]
theorem mD (n : Nat) (set : List UInt8) (least most : Int) (S : List UInt8) (at_ : Nat) (h : at_ ≤ S.length) (hS : S.length < 4611686018427387904) (hn : S.length < n) :
    aR n set least most S (at_ : Int) = some (if ((aW (hasB set) most.toNat (S.drop at_) : Nat) : Int) < least
      then .inl (((at_ + aW (hasB set) most.toNat (S.drop at_) : Nat) : Int), 5, S, ((at_ + aW (hasB set) most.toNat (S.drop at_) : Nat) : Int))
      else .inr ((S.drop at_).take (aW (hasB set) most.toNat (S.drop at_)), S, ((at_ + aW (hasB set) most.toNat (S.drop at_) : Nat) : Int))) := by
  have hk := gf (hasB set) most.toNat (S.drop at_)
  rw [List.length_drop] at hk
  simp only [aR, s7, mj n S at_ h, ob]
  rw [pg n set least most S at_ h hS hn]
  generalize aW (hasB set) most.toNat (S.drop at_) = k at hk ⊢
  have hsub : IntKind.wrap .i64 (((at_ + k : Nat) : Int) - (at_ : Int)) = (k : Int) := by rw [wrap_i64 _ (by omega) (by omega)]; omega
  simp only [hsub, pG]
  by_cases hl : (k : Int) < least
  · simp [hl]
  · simp only [hl, decide_false, cond_false, if_false]
    rw [eZ (by omega)]
    simp only
    rw [eZ (by omega)]
    simp only [iG]
def asc (l : List UInt8) : Prop := ∀ c ∈ l, c.toNat < 128
theorem vX (r : Int) (h : 128 ≤ r) : ∃ p e, (Utf8.encode r).data.toList = p ++ [e] ∧ 1 ≤ p.length ∧ p.length ≤ 3 ∧ 128 ≤ e.toNat := by
  unfold Utf8.encode
  have hc : 128 ≤ (if Utf8.valid r then r.toNat else Utf8.runeError) := by
    split
    · omega
    · decide
  generalize (if Utf8.valid r then r.toNat else Utf8.runeError) = c at hc
  have he : 128 ≤ (UInt8.ofNat (0x80 + c % 64)).toNat := by
    simp only [UInt8.toNat_ofNat']
    omega
  simp only
  split
  · omega
  · split
    · exact ⟨[_], _, rfl, by simp, by simp, he⟩
    · split
      · exact ⟨[_, _], _, rfl, by simp, by simp, he⟩
      · exact ⟨[_, _, _], _, rfl, by simp, by simp, he⟩
theorem u4 {l : List UInt8} (h : asc l) {i : Nat} {c : UInt8} (hi : l[i]? = some c) : c.toNat < 128 := h c (List.mem_of_getElem? hi)
theorem qF (n : Nat) (set : List UInt8) (h : asc set) (hn : set.length < n) : af (bN n) n (set, 0) = some (.inr ()) := by
  refine cN (step := bN n) (fun x => x.1 = set) (fun x => set.length - x.2) (fun x => .inr ()) ?_ n _ rfl (by simp; omega)
  rintro ⟨s, i⟩ rfl
  simp only [bN]
  by_cases hi : i < s.length
  · have hb : Nat.blt i s.length = true := Nat.ble_eq_true_of_le hi
    obtain ⟨c, hc⟩ : ∃ c, s[i]? = some c := ⟨s[i], List.getElem?_eq_getElem hi⟩
    have hlow := u4 h hc
    have hne : (((c.toNat : Nat) : Int) == 65533) = false := by rw [beq_eq_false_iff_ne]; omega
    simp only [hb, cond_true, rZ hc hlow, hne, cond_false]
    exact .inl ⟨_, rfl, rfl, by simp only; omega, trivial⟩
  · have hb : Nat.blt i s.length = false := by
      cases hb : Nat.blt i s.length with
      | false => rfl
      | true => exact absurd (Nat.le_of_ble_eq_true hb) (by omega)
    simp only [hb, cond_false]
    exact .inr trivial
theorem nZ {l : List UInt8} {c : UInt8} (h : c ∉ l) : Lib.indexByte l c < 0 := by
  have h1 := iZ l c
  have h2 : hasB l c = false := by
    unfold hasB
    rw [List.any_eq_false]
    intro x hx he
    simp only [beq_iff_eq] at he
    exact h (he ▸ hx)
  rw [h2] at h1
  simpa using h1
theorem qt (n : Nat) (set : List UInt8) (h : asc set) (hn : set.length < n) (hs : set.length ≤ 100) (r : Int) (hr : 128 ≤ r) : bS n set r = some (-1) := by
  have h0 : decide ((0 : Int) ≤ r) = true := decide_eq_true (by omega)
  have h1 : decide (r < 128) = false := decide_eq_false (by omega)
  simp only [bS, h0, h1, cond_true, cond_false]
  by_cases hrr : r = 65533
  · have : (r == 65533) = true := beq_iff_eq.2 hrr
    simp only [this, cond_true, qF n set h hn, ob]
  · have : (r == 65533) = false := beq_eq_false_iff_ne.2 hrr
    simp only [this, cond_false]
    obtain ⟨v, hv⟩ : ∃ v, bR n r = some v := by
      unfold bR
      generalize decide ((0 : Int) ≤ r) = d1
      generalize decide (r < 55296) = d2
      generalize decide ((57343 : Int) < r) = d3
      generalize decide (r ≤ 1114111) = d4
      cases d1 <;> cases d2 <;> cases d3 <;> cases d4 <;> exact ⟨_, rfl⟩
    simp only [hv, ob]
    cases v with
    | false => rfl
    | true =>
      simp only [Bool.not_true, cond_false]
      obtain ⟨p, e, hp, hp1, hp3, he⟩ := vX r hr
      simp only [hp]
      have hw : IntKind.wrap .i64 (((p ++ [e]).length : Nat) - 1 : Int) = (p.length : Int) := by
        rw [wrap_i64 _ (by simp <;> omega) (by simp <;> omega)]; simp
      rw [hw]
      obtain ⟨m, rfl⟩ : ∃ m, n = m + 1 := ⟨n - 1, by omega⟩
      have hstep : bK (m + 1) (set, p ++ [e], (p.length : Int), (p.length : Int)) = some (.inr (.inl (-1))) ∨ bK (m + 1) (set, p ++ [e], (p.length : Int), (p.length : Int)) = some (.inr (.inr ())) := by
        simp only [bK, cK]
        by_cases hl : p.length < set.length
        · obtain ⟨c, hc⟩ : ∃ c, set[p.length]? = some c := ⟨set[p.length], List.getElem?_eq_getElem hl⟩
          have hlow := u4 h hc
          have hpe : (p ++ [e])[p.length]? = some e := by simp
          have hne : (((c.toNat : Nat) : Int) != ((e.toNat : Nat) : Int)) = true := by simp only [bne, Bool.not_eq_true', beq_eq_false_iff_ne]; omega
          have hw2 : IntKind.wrap .i64 ((p.length : Int) + 1) = ((p.length + 1 : Nat) : Int) := by rw [wrap_i64 _ (by omega) (by omega)]; omega
          have hx : e ∉ List.drop (p.length + 1) (List.take set.length set) := by
            intro hm
            have := h e (by simpa using List.mem_of_mem_drop hm)
            omega
          left
          simp only [hl, decide_true, cond_true, cJ hc, cJ hpe, ob, hne, hw2, eZ (show p.length + 1 ≤ set.length by omega), db, nZ hx]
        · right
          simp only [hl, decide_false, cond_false]
      rcases hstep with hs1 | hs1 <;> simp only [af, hs1, ob]
theorem n7 (n : Nat) (set : List UInt8) (c : UInt8) (r : Int) (hr : r = ((c.toNat : Nat) : Int)) (hc : c.toNat < 128) : bS n set r = some (Lib.indexByte set c) := by
  have h0 : decide ((0 : Int) ≤ r) = true := decide_eq_true (by omega)
  have h1 : decide (r < 128) = true := decide_eq_true (by omega)
  have hw : IntKind.wrap .u8 r = r := fR _ (by omega) (by omega)
  have hb : bD n set r = some (Lib.indexByte set c) := by rw [hr]; exact db n set c
  simp only [bS, h0, h1, cond_true, hw, hb, ob]
theorem pN (n : Nat) (set : List UInt8) (c : UInt8) (hc : c.toNat < 128) : bS n set ((c.toNat : Nat) : Int) = some (Lib.indexByte set c) := n7 n set c _ rfl hc
theorem md (n : Nat) (set : List UInt8) (c : UInt8) (hc : c.toNat < 128) : bL n set ((c.toNat : Nat) : Int) = some (hasB set c) := by
  simp only [bL, pN n set c hc, ob, iV]
theorem nM (n : Nat) (set : List UInt8) (h : asc set) (hn : set.length < n) (hs : set.length ≤ 100) (r : Int) (hr : 128 ≤ r) : bL n set r = some false := by
  simp only [bL, qt n set h hn hs r hr, ob]; rfl
theorem rL (w a : Nat) : BitVec.ofInt w (a : Int) = BitVec.ofNat w a := by
  apply BitVec.eq_of_toNat_eq
  simp
theorem Am (k : Nat) : (2 : Int) ^ k = ((2 ^ k : Nat) : Int) := by simp
theorem yI (a k : Nat) : Int.fdiv (a : Int) (2 ^ k) = ((a / 2 ^ k : Nat) : Int) := by
  rw [Am k, Int.fdiv_eq_ediv_of_nonneg _ (Int.natCast_nonneg _)]
  rfl
def inR (lo hi : Int) (c : UInt8) : Bool := decide (((c.toNat : Nat) : Int) ≥ lo) && decide (((c.toNat : Nat) : Int) ≤ hi)
def cnt (lo hi : Int) (l : List UInt8) : Nat := l.countP (inR lo hi)
theorem uc (lo hi : Int) (l : List UInt8) : cnt lo hi l ≤ l.length := List.countP_le_length
theorem xS (lo hi : Int) {l : List UInt8} {i : Nat} {c : UInt8} (h : l[i]? = some c) : cnt lo hi (l.take (i + 1)) = cnt lo hi (l.take i) + if inR lo hi c then 1 else 0 := by
  unfold cnt
  rw [List.take_add_one, h, List.countP_append]
  simp [List.countP_cons]
theorem tR (n : Nat) (s : List UInt8) (lo hi : Int) (hs : s.length < n) (hb : s.length < 100000) : cX n s lo hi = some ((cnt lo hi s : Nat) : Int) := by
  have := cN (step := dh n) (fun x => ∃ i : Nat, i ≤ s.length ∧ x = (s, lo, hi, ((cnt lo hi (s.take i) : Nat) : Int), (i : Int))) (fun x => s.length - x.2.2.2.2.toNat) (fun _ => ((cnt lo hi s : Nat) : Int)) ?_ n (s, lo, hi, 0, 0) ⟨0, by omega, by simp [cnt]⟩ (by simp; omega)
  · simp only [cX, this, ob]
  rintro x ⟨i, hi', rfl⟩
  rcases Nat.lt_or_ge i s.length with hlt | hge
  · obtain ⟨c, hc⟩ : ∃ c, s[i]? = some c := ⟨s[i], List.getElem?_eq_getElem hlt⟩
    have hct := xS lo hi hc
    have hle := uc lo hi (s.take i)
    rw [List.length_take] at hle
    have w1 : IntKind.wrap .i64 ((i : Int) + 1) = ((i + 1 : Nat) : Int) := by rw [wrap_i64 _ (by omega) (by omega)]; omega
    have w2 : IntKind.wrap .i64 (((cnt lo hi (s.take i) : Nat) : Int) + 1) = ((cnt lo hi (s.take i) + 1 : Nat) : Int) := by rw [wrap_i64 _ (by omega) (by omega)]; omega
    refine .inl ⟨(s, lo, hi, ((cnt lo hi (s.take (i + 1)) : Nat) : Int), ((i + 1 : Nat) : Int)), ?_, ⟨i + 1, hlt, rfl⟩, by simp only [Int.toNat_natCast]; omega, rfl⟩
    simp only [dh, cK, hlt, decide_true, cond_true, cJ hc, ob, w1, w2]
    rw [hct]
    by_cases h1 : ((c.toNat : Nat) : Int) ≥ lo
    · by_cases h2 : ((c.toNat : Nat) : Int) ≤ hi
      · simp [h1, h2, inR]
      · simp [h1, h2, inR]
    · simp [h1, inR]
  · have : i = s.length := by omega
    subst this
    refine .inr ?_
    simp only [dh, cK, Nat.lt_irrefl, decide_false, cond_false, List.take_length]
theorem wg (lo hi : Int) (l : List UInt8) : cnt lo hi l = l.length ↔ ∀ c ∈ l, inR lo hi c = true := by
  unfold cnt
  rw [List.countP_eq_length]
theorem yu (lo hi : Int) (l : List UInt8) : cnt lo hi l = 0 ↔ ∀ c ∈ l, inR lo hi c = false := by
  unfold cnt
  rw [List.countP_eq_zero]
  simp
def aG (c : UInt8) : Bool := inR 48 57 c
theorem bz (c : UInt8) : aG c = true ↔ 48 ≤ c.toNat ∧ c.toNat ≤ 57 := by
  unfold aG inR
  simp only [Bool.and_eq_true, decide_eq_true_eq]
  omega
theorem o9 (c : UInt8) : inR 88 88 c = true ↔ c = 88 := by
  unfold inR
  simp only [Bool.and_eq_true, decide_eq_true_eq]
  constructor
  · intro h
    apply UInt8.toNat_inj.1
    show c.toNat = 88
    omega
  · rintro rfl; decide
theorem xw (c : UInt8) : inR 48 48 c = true ↔ c = 48 := by
  unfold inR
  simp only [Bool.and_eq_true, decide_eq_true_eq]
  constructor
  · intro h
    apply UInt8.toNat_inj.1
    show c.toNat = 48
    omega
  · rintro rfl; decide
theorem w9 : ∀ l : List UInt8, cnt 48 57 l + cnt 88 88 l ≤ l.length ∧ (cnt 48 57 l + cnt 88 88 l = l.length ↔ ∀ c ∈ l, aG c = true ∨ c = 88)
  | [] => by simp [cnt]
  | c :: l => by
    have ih := w9 l
    have e1 : cnt 48 57 (c :: l) = cnt 48 57 l + if inR 48 57 c then 1 else 0 := by simp [cnt, List.countP_cons]
    have e2 : cnt 88 88 (c :: l) = cnt 88 88 l + if inR 88 88 c then 1 else 0 := by simp [cnt, List.countP_cons]
    have hd : ¬ (inR 48 57 c = true ∧ inR 88 88 c = true) := by
      rintro ⟨h1, h2⟩
      have := (bz c).1 h1
      rw [(o9 c).1 h2] at this
      exact absurd this.2 (by decide)
    rw [e1, e2, List.length_cons]
    simp only [List.mem_cons, forall_eq_or_imp]
    have hx := o9 c
    have hg : aG c = inR 48 57 c := rfl
    rw [hg]
    cases h1 : inR 48 57 c <;> cases h2 : inR 88 88 c
    · simp only [h1, h2] at hx ⊢
      have : c ≠ 88 := fun e => by simpa using hx.2 e
      simp [this]; omega
    · simp only [h1, h2] at hx ⊢
      have : c = 88 := hx.1 trivial
      simp only [this, Bool.false_eq_true, if_true, if_false, false_or, true_and]
      rw [← ih.2]
      omega
    · simp only [h1, h2] at hx ⊢
      simp only [Bool.false_eq_true, if_true, if_false, true_or, true_and]
      rw [← ih.2]
      omega
    · exact absurd ⟨h1, h2⟩ hd
theorem xm (n : Nat) (s set : List UInt8) (ha : asc set) (hn : set.length < n) (hl : set.length ≤ 100) (hs : s.length < n) :
    ∃ y, af (bd n) n (true, set, s, 0) = some y ∧ ((y = .inr () ∧ s.all (hasB set) = true) ∨ ∃ i : Nat, y = .inl (i : Int) ∧ s.all (hasB set) = false) := by
  refine jS (step := bd n) (fun x => x.1 = true ∧ x.2.1 = set ∧ x.2.2.1 = s ∧ s.all (hasB set) = (s.drop x.2.2.2).all (hasB set)) (fun x => s.length - x.2.2.2) _ ?_ n _ ⟨rfl, rfl, rfl, rfl⟩ (by simp only; omega)
  rintro ⟨b, st, s', p⟩ ⟨hb, hst, hs', hall⟩
  simp only at hb hst hs' hall
  rw [hb, hst, hs']
  clear hb hst hs' b st s'
  rcases Nat.lt_or_ge p s.length with hlt | hge
  · obtain ⟨c, hc⟩ : ∃ c, s[p]? = some c := ⟨s[p], List.getElem?_eq_getElem hlt⟩
    have hbl : Nat.blt p s.length = true := Nat.ble_eq_true_of_le hlt
    rw [bg hc, List.all_cons] at hall
    rcases Nat.lt_or_ge c.toNat 128 with h128 | h128
    · have hd := rZ hc h128
      simp only [bd, hbl, cond_true, eP, hd, md n set c h128, ob]
      cases hh : hasB set c with
      | true =>
        rw [hh, Bool.true_and] at hall
        exact .inl ⟨_, rfl, ⟨rfl, rfl, rfl, hall⟩, by simp only; omega⟩
      | false =>
        rw [hh, Bool.false_and] at hall
        exact .inr ⟨_, rfl, .inr ⟨p, rfl, hall⟩⟩
    · have hd := sT hc h128
      have hh : hasB set c = false := by
        unfold hasB
        rw [List.any_eq_false]
        intro x hx he
        simp only [beq_iff_eq] at he
        have := ha x hx
        rw [he] at this
        omega
      rw [hh, Bool.false_and] at hall
      have hcr := nM n set ha hn hl (((dec s p).1 : Nat) : Int) (by omega)
      simp only [bd, hbl, cond_true, eP, hcr, ob]
      exact .inr ⟨_, rfl, .inr ⟨p, rfl, hall⟩⟩
  · have hbl : Nat.blt p s.length = false := by
      cases hb : Nat.blt p s.length with
      | false => rfl
      | true => exact absurd (Nat.le_of_ble_eq_true hb) (by omega)
    simp only [bd, hbl, cond_false]
    rw [List.drop_eq_nil_of_le hge] at hall
    exact .inr ⟨_, rfl, .inl ⟨rfl, by rw [hall]; rfl⟩⟩
theorem u3 (n : Nat) (s set : List UInt8) (ha : asc set) (hn : set.length < n) (hl : set.length ≤ 100) (hs : s.length < n) : cW n s set = some (s.all (hasB set)) := by
  obtain ⟨y, h1, h2⟩ := xm n s set ha hn hl hs
  simp only [cW, f8, fU, h1, ob]
  rcases h2 with ⟨rfl, h3⟩ | ⟨i, rfl, h3⟩
  · rw [h3]; rfl
  · rw [h3]
    simp only [Option.some.injEq, decide_eq_false_iff_not]
    omega
theorem yP : asc [48, 49, 50, 51, 52, 53, 54, 55, 56, 57] := by unfold asc; decide
theorem xh : asc [88, 48, 49, 50, 51, 52, 53, 54, 55, 56, 57] := by unfold asc; decide
theorem jm (p : UInt8 → Bool) (h : ∀ i : Fin 256, p (UInt8.ofNat i.val) = true) (c : UInt8) : p c = true := by
  have := h ⟨c.toNat, c.toNat_lt⟩
  simpa using this
theorem nr (c : UInt8) : hasB [48, 49, 50, 51, 52, 53, 54, 55, 56, 57] c = aG c := by
  have := jm (fun c => hasB [48, 49, 50, 51, 52, 53, 54, 55, 56, 57] c == aG c) (by decide +kernel) c
  simpa using this
theorem ln (c : UInt8) : hasB [88, 48, 49, 50, 51, 52, 53, 54, 55, 56, 57] c = (aG c || c == 88) := by
  have := jm (fun c => hasB [88, 48, 49, 50, 51, 52, 53, 54, 55, 56, 57] c == (aG c || c == 88)) (by decide +kernel) c
  simpa using this
theorem vq (n : Nat) (s : List UInt8) (hn : 100 < n) (hs : s.length < n) : cW n s [48, 49, 50, 51, 52, 53, 54, 55, 56, 57] = some (s.all aG) := by
  rw [u3 n s _ yP (by simp; omega) (by simp) hs]
  congr 2
  funext c
  exact nr c
theorem uR (n : Nat) (s : List UInt8) (hn : 100 < n) (hs : s.length < n) : cW n s [88, 48, 49, 50, 51, 52, 53, 54, 55, 56, 57] = some (s.all fun c => aG c || c == 88) := by
  rw [u3 n s _ xh (by simp; omega) (by simp) hs]
  congr 2
  funext c
  exact ln c
def all0 (s : List UInt8) : Bool := s.all fun c => c == 48
theorem CT (n : Nat) (s : List UInt8) (hs : s.length < n) (hb : s.length < 100000) : ∃ y, cO n s 48 = some y ∧ all0 s = all0 y ∧ y.length ≤ s.length := by
  obtain ⟨y, h1, h2⟩ := jS (step := bC n) (fun x => x.2 = 48 ∧ all0 s = all0 x.1 ∧ x.1.length ≤ s.length) (fun x => x.1.length) (fun y => all0 s = all0 y ∧ y.length ≤ s.length) (by
    rintro ⟨l, c⟩ ⟨rfl, h, hl⟩
    simp only at h hl
    by_cases h0 : l.length > 0
    · have d0 : decide (((l.length : Nat) : Int) > 0) = true := decide_eq_true (by omega)
      have w1 : IntKind.wrap .i64 (((l.length : Nat) : Int) - 1) = ((l.length - 1 : Nat) : Int) := by rw [wrap_i64 _ (by omega) (by omega)]; omega
      obtain ⟨c, hc⟩ : ∃ c, l[l.length - 1]? = some c := ⟨l[l.length - 1], List.getElem?_eq_getElem (by omega)⟩
      simp only [bC, d0, cond_true, w1, cJ hc, ob]
      by_cases he : c = 48
      · have e1 : (((c.toNat : Nat) : Int) == 48) = true := by rw [he]; rfl
        simp only [e1, cond_true, eZ (show l.length - 1 ≤ l.length by omega), List.drop_zero]
        refine .inl ⟨(List.take (l.length - 1) l, 48), rfl, ⟨rfl, ?_, by show (List.take (l.length - 1) l).length ≤ s.length; rw [List.length_take]; omega⟩, by show (List.take (l.length - 1) l).length < l.length; rw [List.length_take]; omega⟩
        rw [h]
        have : l = l.take (l.length - 1) ++ [c] := by
          have h2 := List.take_add_one (l := l) (i := l.length - 1)
          rw [hc, show l.length - 1 + 1 = l.length by omega, List.take_length] at h2
          exact h2
        rw [this]
        simp only [all0, List.all_append, List.all_cons, List.all_nil, he]
        simp
      · have e1 : (((c.toNat : Nat) : Int) == 48) = false := by
          rw [beq_eq_false_iff_ne]
          intro e
          exact he (UInt8.toNat_inj.1 (by show c.toNat = 48; omega))
        simp only [e1, cond_false]
        exact .inr ⟨_, rfl, h, hl⟩
    · have d0 : decide (((l.length : Nat) : Int) > 0) = false := decide_eq_false (by omega)
      simp only [bC, d0, cond_false]
      exact .inr ⟨_, rfl, h, hl⟩) n (s, 48) ⟨rfl, rfl, Nat.le_refl _⟩ hs
  exact ⟨y, by simp only [cO, h1, ob], h2⟩
theorem Dp (n : Nat) (s : List UInt8) (hs : s.length < n) (hb : s.length < 100000) : ∃ y, da n s 48 = some y ∧ all0 s = (y == []) := by
  obtain ⟨y, h1, h2⟩ := jS (step := cj n) (fun x => x.2 = 48 ∧ all0 s = all0 x.1 ∧ x.1.length ≤ s.length) (fun x => x.1.length) (fun y => all0 s = (y == [])) (by
    rintro ⟨l, c⟩ ⟨rfl, h, hl⟩
    simp only at h hl
    cases l with
    | nil => exact .inr ⟨[], rfl, by rw [h]; rfl⟩
    | cons c l =>
      have d0 : decide ((((c :: l).length : Nat) : Int) > 0) = true := decide_eq_true (by simp only [List.length_cons]; omega)
      have hc : sx (c :: l) 0 = some c := by simp [sx]
      simp only [cj, d0, cond_true, hc, ob]
      by_cases he : c = 48
      · have e1 : (((c.toNat : Nat) : Int) == 48) = true := by rw [he]; rfl
        have hbx : bx (c :: l).length 1 = some 1 := eZ (i := 1) (by simp)
        simp only [e1, cond_true, hbx, List.take_length, List.drop_succ_cons, List.drop_zero]
        refine .inl ⟨_, rfl, ⟨rfl, ?_, by show l.length ≤ s.length; simp only [List.length_cons] at hl; omega⟩, by simp⟩
        rw [h]
        simp [all0, he]
      · have e1 : (((c.toNat : Nat) : Int) == 48) = false := by
          rw [beq_eq_false_iff_ne]
          intro e
          exact he (UInt8.toNat_inj.1 (by show c.toNat = 48; omega))
        simp only [e1, cond_false]
        refine .inr ⟨_, rfl, ?_⟩
        rw [h]
        have e2 : (c == 48) = false := beq_eq_false_iff_ne.2 he
        simp [all0, e2]) n (s, 48) ⟨rfl, rfl, Nat.le_refl _⟩ hs
  exact ⟨y, by simp only [da, h1, ob], h2⟩
theorem AM (n : Nat) (s : List UInt8) (hs : s.length < n) (hb : s.length < 100000) : ∃ y, gX n s = some y ∧ (y == []) = all0 s := by
  unfold gX
  by_cases h : s = []
  · subst h; exact ⟨[], rfl, rfl⟩
  · have : (s == ([] : List UInt8)) = false := beq_eq_false_iff_ne.2 h
    obtain ⟨y, h1, h2, h3⟩ := CT n s hs hb
    obtain ⟨z, h4, h5⟩ := Dp n y (by omega) (by omega)
    exact ⟨z, by simp only [this, cond_false, h1, h4, ob], by rw [h2, h5]⟩
theorem yS (s : List UInt8) : all0 s = true ↔ cnt 48 48 s = s.length := by
  rw [wg]
  unfold all0
  rw [List.all_eq_true]
  constructor
  · intro h c hc
    have := h c hc
    rw [beq_iff_eq] at this
    exact (xw c).2 this
  · intro h c hc
    rw [beq_iff_eq]
    exact (xw c).1 (h c hc)
def hasX (s : List UInt8) : Bool := s.any fun c => c == 88
theorem sH (s : List UInt8) : hasX s = decide (0 < cnt 88 88 s) := by
  have := yu 88 88 s
  unfold hasX
  cases h : s.any fun c => c == 88 with
  | true =>
    obtain ⟨c, hc, he⟩ := List.any_eq_true.1 h
    rw [beq_iff_eq] at he
    symm
    rw [decide_eq_true_eq]
    rcases Nat.eq_zero_or_pos (cnt 88 88 s) with h0 | h0
    · have := this.1 h0 c hc
      rw [(o9 c).2 he] at this
      cases this
    · exact h0
  | false =>
    symm
    rw [decide_eq_false_iff_not]
    intro h0
    have : cnt 88 88 s = 0 := this.2 fun c hc => by
      cases hx : inR 88 88 c with
      | false => rfl
      | true =>
        rw [List.any_eq_false] at h
        exact absurd (beq_iff_eq.2 ((o9 c).1 hx)) (h c hc)
    omega
theorem vZ (n : Nat) (s : List UInt8) : eO n s = some (hasX s) := by
  have e : UInt8.ofNat (Int.toNat 88) = (88 : UInt8) := rfl
  have hi : gG n s = some (Lib.indexByte s 88) := by
    simp only [gG, dT, bn, ob, e]
    by_cases h : ([88] : List UInt8) = s
    · subst h; rfl
    · have : (([88] : List UInt8) == s) = false := beq_eq_false_iff_ne.2 h
      simp only [this, cond_false]
  simp only [eO, hi, ob, iV]
  rfl
theorem jw (n : Nat) (g l : Bool) (d : List UInt8) (x q : Int) : aY n g l d x q = some (hasX d) := by
  simp only [aY, vZ, ob]
theorem iv (n : Nat) (g l : Bool) (d : List UInt8) (x q : Int) (hs : d.length < n) (hb : d.length < 100000) : aj n g l d x q = some (if hasX d then 1 else 0) := by
  simp only [aj, tR n d 88 88 hs hb, ob, sH, decide_eq_true_eq]
  by_cases h : 0 < cnt 88 88 d
  · have : decide (((cnt 88 88 d : Nat) : Int) < 1) = false := decide_eq_false (by omega)
    simp [this, h]
  · have : decide (((cnt 88 88 d : Nat) : Int) < 1) = true := decide_eq_true (by omega)
    have h0 : cnt 88 88 d = 0 := by omega
    simp [this, h0]
def l9 (acc : Nat) (c : UInt8) : Nat := acc * 10 + (c.toNat - 48)
def dval (acc : Nat) (l : List UInt8) : Nat := l.foldl l9 acc
theorem iR (acc : Nat) : dval acc [] = acc := by unfold dval; rw [List.foldl_nil]
theorem iq (acc : Nat) (c : UInt8) (l : List UInt8) : dval acc (c :: l) = dval (l9 acc c) l := by
  unfold dval; rw [List.foldl_cons]
theorem tK (l : List UInt8) (acc : Nat) (c : UInt8) : dval acc (l ++ [c]) = dval acc l * 10 + (c.toNat - 48) := by
  have : dval acc (l ++ [c]) = l9 (dval acc l) c := by
    unfold dval; rw [List.foldl_append, List.foldl_cons, List.foldl_nil]
  rw [this]
  rfl
theorem AJ (M : Nat) (hM : 10000000000000000000 ≤ M) (l : List UInt8) : ∀ (acc k : Nat), (∀ c ∈ l, aG c = true) → acc < 10 ^ k → l.length + k ≤ 18 → Lib.parseUintM M acc l = .ok (dval acc l) ∧ dval acc l < 10 ^ (l.length + k) := by
  induction l with
  | nil =>
    intro acc k _ h1 _
    rw [iR]
    refine ⟨rfl, ?_⟩
    simpa using h1
  | cons c l ih =>
    intro acc k h h1 h2
    have hc := (bz c).1 (h c (by simp))
    simp only [List.length_cons] at h2
    have hp : (10 : Nat) ^ (k + 1) = 10 ^ k * 10 := Nat.pow_succ 10 k
    have hle : (10 : Nat) ^ (k + 1) ≤ 10 ^ 18 := Nat.pow_le_pow_right (by decide) (by omega)
    have h18 : (10 : Nat) ^ 18 = 1000000000000000000 := by decide
    have hd : l9 acc c = acc * 10 + (c.toNat - 48) := rfl
    have ih := ih (l9 acc c) (k + 1) (fun d hd => h d (by simp [hd])) (by omega) (by omega)
    refine ⟨?_, ?_⟩
    · simp only [Lib.parseUintM]
      rw [if_pos hc, if_neg (by omega), if_neg (by omega), ← hd, ih.1, iq]
    · rw [iq, List.length_cons, show l.length + 1 + k = l.length + (k + 1) by omega]
      exact ih.2
theorem uZ {l : List UInt8} (h : ∀ c ∈ l, aG c = true) (h0 : l ≠ []) (hl : l.length ≤ 18) : nD l = some ((dval 0 l : Nat) : Int) ∧ dval 0 l < 10 ^ l.length := by
  obtain ⟨h1, h2⟩ := AJ (2 ^ 64 - 1) (by decide) l 0 0 h (by simp) (by omega)
  refine ⟨?_, by simpa using h2⟩
  have hlt : dval 0 l < 10 ^ 18 := Nat.lt_of_lt_of_le h2 (Nat.pow_le_pow_right (by decide) (by omega))
  cases l with
  | nil => exact absurd rfl h0
  | cons c r =>
    have hc := (bz c).1 (h c (by simp))
    have hu : Lib.parseUintB 64 (c :: r) = .ok (dval 0 (c :: r)) := by
      unfold Lib.parseUintB
      rw [if_neg h0, h1]
    have hs : ¬ (c.toNat = 43 ∨ c.toNat = 45) := by omega
    simp only [nD, Lib.parseIntB, hs, if_false, hu]
    have h18 : (10 : Nat) ^ 18 = 1000000000000000000 := by decide
    have h63 : (2 : Nat) ^ (64 - 1) = 9223372036854775808 := by decide
    have hn : ¬ c.toNat = 45 := by omega
    simp only [hn, not_false_eq_true, true_and, false_and, if_false]
    rw [h63, if_neg (by omega)]
theorem zq (n k : Nat) (hk : k ≤ 18) (hn : 18 < n) : iy n (k : Int) = some (((10 ^ k : Nat) : Int), 0) := by
  have h18 : (10 : Nat) ^ 18 = 1000000000000000000 := by decide
  have := cN (step := fG n) (fun x => ∃ i : Nat, i ≤ k ∧ x = (((10 ^ i : Nat) : Int), (k : Int), (i : Int))) (fun x => k - x.2.2.toNat) (fun _ => ((10 ^ k : Nat) : Int)) (by
    rintro x ⟨i, hi, rfl⟩
    rcases Nat.lt_or_ge i k with hlt | hge
    · have hle : (10 : Nat) ^ (i + 1) ≤ 10 ^ 18 := Nat.pow_le_pow_right (by decide) (by omega)
      have hp : (10 : Nat) ^ (i + 1) = 10 ^ i * 10 := Nat.pow_succ 10 i
      have w1 : IntKind.wrap .i64 (((10 ^ i : Nat) : Int) * 10) = ((10 ^ (i + 1) : Nat) : Int) := by rw [wrap_i64 _ (by omega) (by omega)]; omega
      have w2 : IntKind.wrap .i64 ((i : Int) + 1) = ((i + 1 : Nat) : Int) := by rw [wrap_i64 _ (by omega) (by omega)]; omega
      refine .inl ⟨_, ?_, ⟨i + 1, hlt, rfl⟩, by simp only [Int.toNat_natCast]; omega, rfl⟩
      simp only [fG, cK, hlt, decide_true, cond_true, w1, w2]
    · have : i = k := by omega
      subst this
      refine .inr ?_
      simp only [fG, cK, Nat.lt_irrefl, decide_false, cond_false]) n (1, (k : Int), 0) ⟨0, by omega, rfl⟩ (by simp; omega)
  have d1 : decide ((k : Int) < 0) = false := decide_eq_false (by omega)
  have d2 : decide ((k : Int) > 18) = false := decide_eq_false (by omega)
  simp only [iy, d1, d2, cond_false, this, ob]
theorem fi (x : Int) (h0 : 0 ≤ x) (h1 : x < 18446744073709551616) : IntKind.wrap .u64 x = x := by
  show x % 18446744073709551616 = x
  omega
theorem rW (x : Int) : IntKind.wrap .u64 x = x % 18446744073709551616 := rfl
theorem xf {a : Nat} (ha : a < 18446744073709551616) : bits .and .u64 (a : Int) 4294967295 = ((a % 4294967296 : Nat) : Int) := by
  show IntKind.wrap .u64 ((BitVec.ofInt 64 (a : Int) &&& BitVec.ofInt 64 ((4294967295 : Nat) : Int)).toNat : Int) = _
  rw [rL, rL, BitVec.toNat_and, BitVec.toNat_ofNat, BitVec.toNat_ofNat, Nat.mod_eq_of_lt (show a < 2 ^ 64 from ha), Nat.mod_eq_of_lt (by decide)]
  have := Nat.and_two_pow_sub_one_eq_mod a 32
  rw [show (2 : Nat) ^ 32 - 1 = 4294967295 from by decide, show (2 : Nat) ^ 32 = 4294967296 from by decide] at this
  rw [this]
  exact fi _ (by omega) (by omega)
theorem yc (a : Nat) : Int.fdiv (a : Int) (2 ^ 32) = ((a / 4294967296 : Nat) : Int) := by
  rw [yI]
theorem s9 {a b A B : Nat} (ha : a ≤ A) (hb : b ≤ B) : a * b ≤ A * B := Nat.mul_le_mul ha hb
theorem vJ (a b : Nat) : a * b = (a / 4294967296) * (b / 4294967296) * 18446744073709551616 + ((a / 4294967296) * (b % 4294967296) + (a % 4294967296) * (b / 4294967296)) * 4294967296 + (a % 4294967296) * (b % 4294967296) := by
  have e1 : a = (a / 4294967296) * 4294967296 + a % 4294967296 := by omega
  have e2 : b = (b / 4294967296) * 4294967296 + b % 4294967296 := by omega
  generalize a / 4294967296 = x1 at e1 ⊢
  generalize a % 4294967296 = x0 at e1 ⊢
  generalize b / 4294967296 = y1 at e2 ⊢
  generalize b % 4294967296 = y0 at e2 ⊢
  subst e1 e2
  rw [Nat.add_mul, Nat.mul_add, Nat.mul_add]
  have h1 : x1 * 4294967296 * (y1 * 4294967296) = x1 * y1 * 18446744073709551616 := by
    rw [Nat.mul_mul_mul_comm]
  have h2 : x1 * 4294967296 * y0 = x1 * y0 * 4294967296 := by rw [Nat.mul_right_comm]
  have h3 : x0 * (y1 * 4294967296) = x0 * y1 * 4294967296 := by rw [Nat.mul_assoc]
  rw [h1, h2, h3, Nat.add_mul]
  omega
theorem Dq (n a b : Nat) (ha : a < 18446744073709551616) (hb : b < 18446744073709551616) : fg n (a : Int) (b : Int) = some (((a * b / 18446744073709551616 : Nat) : Int), ((a * b % 18446744073709551616 : Nat) : Int)) := by
  have hsp := vJ a b
  have hx1 : a / 4294967296 ≤ 4294967295 := by omega
  have hx0 : a % 4294967296 ≤ 4294967295 := by omega
  have hy1 : b / 4294967296 ≤ 4294967295 := by omega
  have hy0 : b % 4294967296 ≤ 4294967295 := by omega
  have p00 := s9 hx0 hy0
  have p01 := s9 hx0 hy1
  have p10 := s9 hx1 hy0
  have p11 := s9 hx1 hy1
  have hlo : IntKind.wrap .u64 ((a : Int) * (b : Int)) = ((a * b % 18446744073709551616 : Nat) : Int) := by
    rw [rW, ← Int.natCast_mul]; omega
  simp only [fg, yc, xf ha, xf hb, hlo]
  simp only [← Int.natCast_mul]
  generalize (a / 4294967296) * (b / 4294967296) = q11 at *
  generalize (a / 4294967296) * (b % 4294967296) = q10 at *
  generalize (a % 4294967296) * (b / 4294967296) = q01 at *
  generalize (a % 4294967296) * (b % 4294967296) = q00 at *
  generalize a * b = N at *
  have w1 : IntKind.wrap .u64 ((q00 : Nat) : Int) = ((q00 : Nat) : Int) := fi _ (by omega) (by omega)
  have w2 : IntKind.wrap .u64 ((q10 : Nat) : Int) = ((q10 : Nat) : Int) := fi _ (by omega) (by omega)
  have w3 : IntKind.wrap .u64 ((q01 : Nat) : Int) = ((q01 : Nat) : Int) := fi _ (by omega) (by omega)
  have w4 : IntKind.wrap .u64 ((q11 : Nat) : Int) = ((q11 : Nat) : Int) := fi _ (by omega) (by omega)
  rw [w1, w2, w3, w4, yc q00]
  have w5 : IntKind.wrap .u64 (((q10 : Nat) : Int) + ((q00 / 4294967296 : Nat) : Int)) = ((q10 + q00 / 4294967296 : Nat) : Int) := by rw [fi _ (by omega) (by omega)]; omega
  rw [w5, yc, xf (by omega)]
  have w6 : IntKind.wrap .u64 (((q11 : Nat) : Int) + (((q10 + q00 / 4294967296) / 4294967296 : Nat) : Int)) = ((q11 + (q10 + q00 / 4294967296) / 4294967296 : Nat) : Int) := by rw [fi _ (by omega) (by omega)]; omega
  have w7 : IntKind.wrap .u64 ((((q10 + q00 / 4294967296) % 4294967296 : Nat) : Int) + ((q01 : Nat) : Int)) = (((q10 + q00 / 4294967296) % 4294967296 + q01 : Nat) : Int) := by rw [fi _ (by omega) (by omega)]; omega
  rw [w6, w7, yc]
  have w8 : IntKind.wrap .u64 (((q11 + (q10 + q00 / 4294967296) / 4294967296 : Nat) : Int) + ((((q10 + q00 / 4294967296) % 4294967296 + q01) / 4294967296 : Nat) : Int)) = ((N / 18446744073709551616 : Nat) : Int) := by
    rw [fi _ (by omega) (by omega)]; omega
  rw [w8]
theorem BZ (n a b : Nat) (ha : a < 9223372036854775808) (hb : b < 9223372036854775808) : mi n (a : Int) (b : Int) = some (if a * b < 9223372036854775808 then (((a * b : Nat) : Int), 0) else (0, 15)) := by
  have d1 : decide ((a : Int) < 0) = false := decide_eq_false (by omega)
  have d2 : decide ((b : Int) < 0) = false := decide_eq_false (by omega)
  have w1 : IntKind.wrap .u64 (a : Int) = a := fi _ (by omega) (by omega)
  have w2 : IntKind.wrap .u64 (b : Int) = b := fi _ (by omega) (by omega)
  simp only [mi, kP, d1, d2, cond_false, w1, w2, ob, Dq n a b (by omega) (by omega)]
  generalize a * b = N
  by_cases h : 18446744073709551616 ≤ N
  · have d3 : decide (((N / 18446744073709551616 : Nat) : Int) > 0) = true := decide_eq_true (by omega)
    rw [d3, if_neg (by omega)]
    rfl
  · have d3 : decide (((N / 18446744073709551616 : Nat) : Int) > 0) = false := decide_eq_false (by omega)
    have e : N % 18446744073709551616 = N := Nat.mod_eq_of_lt (by omega)
    rw [d3, e]
    simp only [cond_false, BEq.rfl, Bool.not_true, kD, Bool.not_false, cond_true]
    by_cases h2 : N < 9223372036854775808
    · have d4 : decide (((N : Nat) : Int) ≤ 9223372036854775807) = true := decide_eq_true (by omega)
      rw [d4, if_pos h2, cond_true, wrap_i64 _ (by omega) (by omega)]
    · have d4 : decide (((N : Nat) : Int) ≤ 9223372036854775807) = false := decide_eq_false (by omega)
      rw [d4, if_neg h2, cond_false]
def E16 : Nat := 10000000000000000
theorem AG {x : Nat} (hx : 17 ≤ x) : E16 < 10 ^ x := by
  have : (10 : Nat) ^ 17 ≤ 10 ^ x := Nat.pow_le_pow_right (by decide) hx
  have h17 : (10 : Nat) ^ 17 = 100000000000000000 := by decide
  unfold E16
  omega
theorem wD (n : Nat) (g l : Bool) (d : List UInt8) (x : Nat) (s : Int) (hd : ∀ c ∈ d, aG c = true) (h0 : d ≠ []) (hl : d.length ≤ 17) (hx : x ≤ 18) (hn : 18 < n) :
    bU n g l d (x : Int) s = some (if dval 0 d * 10 ^ x ≤ E16 then (((dval 0 d * 10 ^ x : Nat) : Int), 0) else (0, 6)) := by
  obtain ⟨h1, h2⟩ := uZ hd h0 (by omega)
  have hv : dval 0 d < 10 ^ 17 := Nat.lt_of_lt_of_le h2 (Nat.pow_le_pow_right (by decide) hl)
  have hp : (10 : Nat) ^ x ≤ 10 ^ 18 := Nat.pow_le_pow_right (by decide) hx
  have h17 : (10 : Nat) ^ 17 = 100000000000000000 := by decide
  have h18 : (10 : Nat) ^ 18 = 1000000000000000000 := by decide
  have hb : Nat.ble d.length 9223372036854775806 = true := Nat.ble_eq_true_of_le (by omega)
  simp only [bU, hb, cond_true, h1, ob, zq n x hx hn, bne_self_eq_false, cond_false, BZ n _ _ (show dval 0 d < 9223372036854775808 by omega) (show 10 ^ x < 9223372036854775808 by omega)]
  generalize dval 0 d * 10 ^ x = N
  unfold E16
  by_cases h : N < 9223372036854775808
  · rw [if_pos h]
    simp only [bne_self_eq_false, cond_false]
    by_cases h3 : N ≤ 10000000000000000
    · have d1 : decide (((N : Nat) : Int) > 10000000000000000) = false := decide_eq_false (by omega)
      rw [d1, if_pos h3, cond_false]
    · have d1 : decide (((N : Nat) : Int) > 10000000000000000) = true := decide_eq_true (by omega)
      rw [d1, if_neg h3, cond_true]
  · rw [if_neg h, if_neg (by omega)]
    rfl
def pre (d : List UInt8) (i : Nat) : Nat := dval 0 (d.take i) * 10 ^ (i - d.length)
theorem zS {d : List UInt8} {i : Nat} {c : UInt8} (h : d[i]? = some c) : pre d (i + 1) = 10 * pre d i + (c.toNat - 48) := by
  have hlt := kV h
  unfold pre
  rw [List.take_add_one, h, show i + 1 - d.length = 0 by omega, show i - d.length = 0 by omega]
  simp only [Option.toList, tK, Nat.pow_zero, Nat.mul_one]
  omega
theorem zT {d : List UInt8} {i : Nat} (h : d.length ≤ i) : pre d (i + 1) = 10 * pre d i := by
  unfold pre
  rw [List.take_of_length_le (show d.length ≤ i + 1 by omega), List.take_of_length_le h, show i + 1 - d.length = (i - d.length) + 1 by omega, Nat.pow_succ]
  rw [← Nat.mul_assoc]
  omega
theorem tG (d : List UInt8) : ∀ k i, pre d i ≤ pre d (i + k)
  | 0, i => Nat.le_refl _
  | k + 1, i => by
    have ih := tG d k i
    rcases Nat.lt_or_ge (i + k) d.length with hlt | hge
    · have := zS (List.getElem?_eq_getElem hlt)
      rw [show i + (k + 1) = i + k + 1 by omega, this]
      omega
    · have := zT hge
      rw [show i + (k + 1) = i + k + 1 by omega, this]
      omega
theorem eX (n : Nat) (d : List UInt8) (x : Nat) (hd : ∀ c ∈ d, aG c = true) (hl : d.length ≤ 100) (hx : x ≤ 100) (hn : d.length + x < n) :
    ab n d (x : Int) = some (if dval 0 d * 10 ^ x ≤ E16 then (((dval 0 d * 10 ^ x : Nat) : Int), 1) else (0, 0)) := by
  have hend : pre d (d.length + x) = dval 0 d * 10 ^ x := by
    unfold pre
    rw [List.take_of_length_le (by omega), show d.length + x - d.length = x by omega]
  have w0 : IntKind.wrap .i64 (((d.length : Nat) : Int) + (x : Int)) = ((d.length + x : Nat) : Int) := by rw [wrap_i64 _ (by omega) (by omega)]; omega
  have := cN (step := cr n) (fun q => ∃ i : Nat, i ≤ d.length + x ∧ pre d i ≤ E16 ∧ q = (d, (x : Int), ((pre d i : Nat) : Int), (i : Int))) (fun q => d.length + x - q.2.2.2.toNat) (fun _ => if dval 0 d * 10 ^ x ≤ E16 then .inr ((dval 0 d * 10 ^ x : Nat) : Int) else .inl (0, 0)) (by
    rintro q ⟨i, hi, hp, rfl⟩
    simp only [cr, w0, cK]
    unfold E16 at hp ⊢
    have w1 : IntKind.wrap .i64 ((i : Int) + 1) = ((i + 1 : Nat) : Int) := by rw [wrap_i64 _ (by omega) (by omega)]; omega
    have w2 : IntKind.wrap .i64 (10 * ((pre d i : Nat) : Int)) = ((10 * pre d i : Nat) : Int) := by rw [wrap_i64 _ (by omega) (by omega)]; omega
    by_cases h1 : i < d.length + x
    · have hm := tG d (d.length + x - (i + 1)) (i + 1)
      rw [show i + 1 + (d.length + x - (i + 1)) = d.length + x by omega, hend] at hm
      simp only [h1, decide_true, cond_true, w1, w2]
      rcases Nat.lt_or_ge i d.length with hlt | hge
      · obtain ⟨c, hc⟩ : ∃ c, d[i]? = some c := ⟨d[i], List.getElem?_eq_getElem hlt⟩
        have hdig := (bz c).1 (hd c (List.mem_of_getElem? hc))
        have hs := zS hc
        have w3 : IntKind.wrap .u8 (((c.toNat : Nat) : Int) - 48) = ((c.toNat - 48 : Nat) : Int) := by rw [fR _ (by omega) (by omega)]; omega
        have w4 : IntKind.wrap .i64 ((c.toNat - 48 : Nat) : Int) = ((c.toNat - 48 : Nat) : Int) := wrap_i64 _ (by omega) (by omega)
        have w5 : IntKind.wrap .i64 (((10 * pre d i : Nat) : Int) + ((c.toNat - 48 : Nat) : Int)) = ((pre d (i + 1) : Nat) : Int) := by rw [wrap_i64 _ (by omega) (by omega)]; omega
        simp only [hlt, decide_true, cond_true, cJ hc, ob, w3, w4, w5]
        by_cases h2 : pre d (i + 1) ≤ 10000000000000000
        · have d1 : decide (((pre d (i + 1) : Nat) : Int) > 10000000000000000) = false := decide_eq_false (by omega)
          simp only [d1, cond_false]
          exact .inl ⟨_, rfl, ⟨i + 1, h1, h2, rfl⟩, by simp only [Int.toNat_natCast]; omega, trivial⟩
        · have d1 : decide (((pre d (i + 1) : Nat) : Int) > 10000000000000000) = true := decide_eq_true (by omega)
          simp only [d1, cond_true]
          rw [if_neg (by omega)]
          exact .inr rfl
      · have hs := zT hge
        have hnl : ¬ i < d.length := by omega
        simp only [hnl, decide_false, cond_false]
        rw [← hs]
        by_cases h2 : pre d (i + 1) ≤ 10000000000000000
        · have d1 : decide (((pre d (i + 1) : Nat) : Int) > 10000000000000000) = false := decide_eq_false (by omega)
          simp only [d1, cond_false]
          exact .inl ⟨_, rfl, ⟨i + 1, h1, h2, rfl⟩, by simp only [Int.toNat_natCast]; omega, trivial⟩
        · have d1 : decide (((pre d (i + 1) : Nat) : Int) > 10000000000000000) = true := decide_eq_true (by omega)
          simp only [d1, cond_true]
          rw [if_neg (by omega)]
          exact .inr rfl
    · have : i = d.length + x := by omega
      subst this
      simp only [Nat.lt_irrefl, decide_false, cond_false]
      rw [hend] at hp ⊢
      rw [if_pos hp]
      exact .inr rfl) n (d, (x : Int), 0, 0) ⟨0, by omega, by unfold pre E16; simp [iR], by unfold pre; simp [iR]⟩ (by simp; omega)
  simp only [ab, this, ob]
  by_cases h : dval 0 d * 10 ^ x ≤ E16
  · rw [if_pos h, if_pos h]
  · rw [if_neg h, if_neg h]
def okM (d : List UInt8) (x : Int) : Prop := (∀ c ∈ d, aG c = true) ∧ 1 ≤ d.length ∧ d.length ≤ 17 ∧ d.head? ≠ some 48 ∧ 0 ≤ x ∧ x ≤ 16 ∧ ¬ (x = 0 ∧ d.length < 5) ∧ dval 0 d * 10 ^ x.toNat ≤ E16
def okL (d : List UInt8) (x s : Int) : Prop := okM d x ∧ 0 ≤ s ∧ s ≤ (d.length : Int) + x
def okS (g : Bool) (d : List UInt8) (x s : Int) : Prop := d.length = 4 ∧ (∀ c ∈ d, aG c = true ∨ c = 88) ∧ x = 0 ∧ ¬ (g = true ∧ all0 d = true) ∧ 0 ≤ s ∧ s ≤ 4 ∧ ¬ (0 < s ∧ hasX d = true)
def okY (g l : Bool) (d : List UInt8) (x s : Int) : Prop := if l = true then okL d x s else okS g d x s
instance (d : List UInt8) (x : Int) : Decidable (okM d x) := by unfold okM; infer_instance
instance (d : List UInt8) (x s : Int) : Decidable (okL d x s) := by unfold okL; infer_instance
instance (g : Bool) (d : List UInt8) (x s : Int) : Decidable (okS g d x s) := by unfold okS; infer_instance
instance (g l : Bool) (d : List UInt8) (x s : Int) : Decidable (okY g l d x s) := by unfold okY; infer_instance
theorem wY (d : List UInt8) : d.all aG = true ↔ ∀ c ∈ d, aG c = true := List.all_eq_true
theorem tq (d : List UInt8) : (d.all fun c => aG c || c == 88) = true ↔ ∀ c ∈ d, aG c = true ∨ c = 88 := by
  rw [List.all_eq_true]
  constructor
  · intro h c hc
    have := h c hc
    simpa using this
  · intro h c hc
    have := h c hc
    simpa using this
theorem A9 (c : UInt8) : (((c.toNat : Nat) : Int) == 48) = (c == 48) := jd c 48
theorem Af (n : Nat) (g l : Bool) (d : List UInt8) (x s : Int) (hn : 200 < n) (hd : d.length ≤ 100) : ar n g l d x s = some (decide (okM d x)) := by
  unfold ar
  by_cases h1 : d.length < 1
  · have e : decide (((d.length : Nat) : Int) < 1) = true := decide_eq_true (by omega)
    rw [e, decide_eq_false (fun h : okM d x => by have := h.2.1; omega)]; rfl
  · have e : decide (((d.length : Nat) : Int) < 1) = false := decide_eq_false (by omega)
    rw [e, cond_false]
    by_cases h2 : d.length > 17
    · have e : decide (((d.length : Nat) : Int) > 17) = true := decide_eq_true (by omega)
      rw [e, decide_eq_false (fun h : okM d x => by have := h.2.2.1; omega)]; rfl
    · have e : decide (((d.length : Nat) : Int) > 17) = false := decide_eq_false (by omega)
      rw [e, cond_false, vq n d (by omega) (by omega)]
      simp only [ob]
      cases h3 : d.all aG with
      | false =>
        rw [decide_eq_false (fun h : okM d x => by rw [(wY d).2 h.1] at h3; cases h3)]; rfl
      | true =>
        have hdig := (wY d).1 h3
        obtain ⟨c, r, rfl⟩ : ∃ c r, d = c :: r := by
          cases d with
          | nil => simp at h1
          | cons c r => exact ⟨c, r, rfl⟩
        have hsx : sx (c :: r) 0 = some c := by simp [sx]
        simp only [Bool.not_true, cond_false, hsx, A9]
        by_cases h4 : c = 48
        · rw [decide_eq_false (fun h : okM (c :: r) x => h.2.2.2.1 (by rw [h4]; rfl)), h4]; rfl
        · have e : (c == 48) = false := beq_eq_false_iff_ne.2 h4
          rw [e, cond_false]
          by_cases h5 : x < 0
          · rw [decide_eq_true h5, decide_eq_false (fun h : okM (c :: r) x => by have := h.2.2.2.2.1; omega)]; rfl
          · rw [decide_eq_false h5, cond_false]
            by_cases h6 : x > 16
            · rw [decide_eq_true h6, decide_eq_false (fun h : okM (c :: r) x => by have := h.2.2.2.2.2.1; omega)]; rfl
            · rw [decide_eq_false h6, cond_false]
              obtain ⟨k, rfl⟩ : ∃ k : Nat, x = (k : Int) := ⟨x.toNat, by omega⟩
              have hmg := wD n g l (c :: r) k s hdig (by simp) (by omega) (by omega) (by omega)
              rw [hmg]
              have key : ¬ ((k : Int) = 0 ∧ (c :: r).length < 5) → (okM (c :: r) (k : Int) ↔ dval 0 (c :: r) * 10 ^ k ≤ E16) := by
                intro hk
                constructor
                · intro h
                  simpa using h.2.2.2.2.2.2.2
                · intro h
                  exact ⟨hdig, by omega, by omega, by simpa using h4, by omega, by omega, hk, by simpa using h⟩
              have fin : ¬ ((k : Int) = 0 ∧ (c :: r).length < 5) → (ob (some (if dval 0 (c :: r) * 10 ^ k ≤ E16 then (((dval 0 (c :: r) * 10 ^ k : Nat) : Int), (0 : Int)) else (0, 6))) fun q => (some (q.2 == 0))) = some (decide (okM (c :: r) (k : Int))) := by
                intro hk
                by_cases h7 : dval 0 (c :: r) * 10 ^ k ≤ E16
                · rw [if_pos h7, decide_eq_true ((key hk).2 h7)]; rfl
                · rw [if_neg h7, decide_eq_false (fun h => h7 ((key hk).1 h))]; rfl
              by_cases h8 : (k : Int) = 0
              · have e : ((k : Int) == 0) = true := beq_iff_eq.2 h8
                rw [e, cond_true]
                by_cases h9 : (c :: r).length < 5
                · have e : decide ((((c :: r).length : Nat) : Int) < 5) = true := decide_eq_true (by omega)
                  rw [e, decide_eq_false (fun h : okM (c :: r) (k : Int) => h.2.2.2.2.2.2.1 ⟨h8, h9⟩)]; rfl
                · have e : decide ((((c :: r).length : Nat) : Int) < 5) = false := decide_eq_false (by omega)
                  rw [e, cond_false]
                  exact fin (fun h => h9 h.2)
              · have e : ((k : Int) == 0) = false := beq_eq_false_iff_ne.2 h8
                rw [e, cond_false]
                exact fin (fun h => h8 h.1)
theorem zB (n : Nat) (g l : Bool) (d : List UInt8) (x s : Int) (hn : 200 < n) (hd : d.length ≤ 100) :
    (ob (ar n g l d x s) fun r => (cond (!r) (some (6 : Int)) (cond (decide (s < 0)) (some 6) (cond (decide (s > (IntKind.wrap .i64 (((d.length : Nat) : Int) + x)))) (some 6) (some 0))))) = some (if okL d x s then 0 else 6) := by
  rw [Af n g l d x s hn hd]
  simp only [ob]
  by_cases h : okM d x
  · rw [decide_eq_true h]
    have hx := h.2.2.2.2
    have w : IntKind.wrap .i64 (((d.length : Nat) : Int) + x) = ((d.length : Nat) : Int) + x := wrap_i64 _ (by omega) (by omega)
    rw [w]
    simp only [Bool.not_true, cond_false, ba]
    by_cases h1 : s < 0
    · rw [if_pos h1, if_neg (fun q : okL d x s => by have := q.2.1; omega)]
    · rw [if_neg h1]
      by_cases h2 : s > ((d.length : Nat) : Int) + x
      · rw [if_pos h2, if_neg (fun q : okL d x s => by have := q.2.2; omega)]
      · rw [if_neg h2, if_pos ⟨h, by omega, by omega⟩]
  · rw [decide_eq_false h, if_neg (fun q : okL d x s => h q.1)]; rfl
theorem tN (n : Nat) (g l : Bool) (d : List UInt8) (x s : Int) (hn : 200 < n) (hd : d.length ≤ 100) : dY n g l d x s = some (if okY g l d x s then 0 else 6) := by
  obtain ⟨y, ht, hy⟩ := AM n d (by omega) (by omega)
  unfold dY
  rw [uR n d (by omega) (by omega), ht, jw]
  cases l with
  | true =>
    have hok : (if okY g true d x s then (0 : Int) else 6) = if okL d x s then 0 else 6 := by simp only [okY, if_true]
    rw [hok]
    have st := zB n g true d x s hn hd
    simp only [cond_true]
    generalize (ob (ar n g true d x s) fun r => (cond (!r) (some (6 : Int)) (cond (decide (s < 0)) (some 6) (cond (decide (s > (IntKind.wrap .i64 (((d.length : Nat) : Int) + x)))) (some 6) (some 0))))) = T at st ⊢
    simp only [ob]
    rw [st]
    cases (((d.length : Nat) : Int) == 4) <;> cases (d.all fun c => aG c || c == 88) <;> cases (x == 0) <;> cases g <;> cases (y == []) <;> cases (s != 0) <;> rfl
  | false =>
    have hok : (if okY g false d x s then (0 : Int) else 6) = if okS g d x s then 0 else 6 := by simp only [okY, Bool.false_eq_true, if_false]
    rw [hok]
    simp only [cond_false, ob]
    by_cases h1 : d.length = 4
    · have e1 : (((d.length : Nat) : Int) == 4) = true := beq_iff_eq.2 (by omega)
      rw [e1, cond_true]
      cases h2 : (d.all fun c => aG c || c == 88) with
      | false =>
        rw [if_neg (fun q : okS g d x s => by rw [(tq d).2 q.2.1] at h2; cases h2)]; rfl
      | true =>
        have hdX := (tq d).1 h2
        rw [cond_true]
        by_cases h3 : x = 0
        · subst h3
          have w : IntKind.wrap .i64 (((d.length : Nat) : Int) + 0) = 4 := by rw [h1]; decide
          rw [w]
          have tail : ¬ (g = true ∧ all0 d = true) → (cond (s != 0) (cond (!(!hasX d)) (some (6 : Int)) (cond (decide (s < 0)) (some 6) (cond (decide (s > 4)) (some 6) (some 0)))) (cond (decide (s < 0)) (some 6) (cond (decide (s > 4)) (some 6) (some 0)))) = some (if okS g d 0 s then 0 else 6) := by
            intro hg
            simp only [ba, uj, Bool.not_not]
            by_cases s0 : s = 0
            · subst s0
              rw [if_pos rfl, if_neg (by omega), if_neg (by omega), if_pos ⟨h1, hdX, rfl, hg, by omega, by omega, by omega⟩]
            · rw [if_neg s0]
              cases hX : hasX d with
              | true =>
                by_cases s1 : s < 0
                · rw [if_neg (fun q : okS g d 0 s => by have := q.2.2.2.2.1; omega)]; rfl
                · rw [if_neg (fun q : okS g d 0 s => q.2.2.2.2.2.2 ⟨by omega, hX⟩)]; rfl
              | false =>
                rw [cond_false]
                by_cases s1 : s < 0
                · rw [if_pos s1, if_neg (fun q : okS g d 0 s => by have := q.2.2.2.2.1; omega)]
                · rw [if_neg s1]
                  by_cases s2 : s > 4
                  · rw [if_pos s2, if_neg (fun q : okS g d 0 s => by have := q.2.2.2.2.2.1; omega)]
                  · rw [if_neg s2, if_pos ⟨h1, hdX, rfl, hg, by omega, by omega, fun q => by rw [hX] at q; cases q.2⟩]
          have e3 : ((0 : Int) == 0) = true := rfl
          rw [e3, cond_true]
          cases g with
          | false =>
            simp only [cond_false]
            exact tail (by simp)
          | true =>
            simp only [cond_true]
            rw [hy]
            cases h4 : all0 d with
            | true => rw [if_neg (fun q : okS true d 0 s => q.2.2.2.1 ⟨rfl, h4⟩)]; rfl
            | false =>
              simp only [Bool.not_false, cond_true]
              exact tail (by rw [h4]; simp)
        · have e3 : (x == 0) = false := beq_eq_false_iff_ne.2 h3
          rw [e3, if_neg (fun q : okS g d x s => h3 q.2.2.1)]; rfl
    · have e1 : (((d.length : Nat) : Int) == 4) = false := beq_eq_false_iff_ne.2 (by omega)
      rw [e1, if_neg (fun q : okS g d x s => h1 q.1)]; rfl
theorem AW (d : List UInt8) : cnt 48 57 d = d.length ↔ ∀ c ∈ d, aG c = true := wg 48 57 d
theorem vp (n : Nat) (g l : Bool) (d : List UInt8) (x s : Int) (hn : 200 < n) (hd : d.length ≤ 100) : eK n g l d x s = some (if okY g l d x s then 1 else 0) := by
  have hs := w9 d
  have hXc := sH d
  have h0c := yS d
  have hDc := AW d
  unfold eK
  rw [tR n d 48 57 (by omega) (by omega), tR n d 88 88 (by omega) (by omega), tR n d 48 48 (by omega) (by omega)]
  simp only [ob]
  generalize hA : cnt 48 57 d = A at *
  generalize hB : cnt 88 88 d = B at *
  have w0 : IntKind.wrap .i64 (((A : Nat) : Int) + ((B : Nat) : Int)) = ((A + B : Nat) : Int) := by rw [wrap_i64 _ (by omega) (by omega)]; omega
  rw [w0]
  simp only [uj, ba, ue]
  by_cases h1 : A + B = d.length
  · rw [if_pos (by omega)]
    have hdX := hs.2.1 h1
    by_cases h2 : s < 0
    · rw [if_pos h2, if_neg]
      intro q
      unfold okY at q
      split at q
      · have := q.2.1; omega
      · have := q.2.2.2.2.1; omega
    · rw [if_neg h2]
      cases l with
      | false =>
        have hok : (if okY g false d x s then (1 : Int) else 0) = if okS g d x s then 1 else 0 := by simp only [okY, Bool.false_eq_true, if_false]
        rw [hok, cond_false]
        by_cases h3 : d.length = 4
        · rw [if_pos (by omega)]
          by_cases h4 : x = 0
          · rw [if_pos h4]
            have tail : ¬ (g = true ∧ all0 d = true) → (if s > 4 then some (0 : Int) else if s > 0 then (if ((B : Nat) : Int) > 0 then some 0 else some 1) else some 1) = some (if okS g d x s then 1 else 0) := by
              intro hg
              by_cases s2 : s > 4
              · rw [if_pos s2, if_neg (fun q : okS g d x s => by have := q.2.2.2.2.2.1; omega)]
              · rw [if_neg s2]
                by_cases s3 : s > 0
                · rw [if_pos s3]
                  by_cases hb : ((B : Nat) : Int) > 0
                  · rw [if_pos hb, if_neg (fun q : okS g d x s => q.2.2.2.2.2.2 ⟨by omega, by rw [hXc]; exact decide_eq_true (by omega)⟩)]
                  · rw [if_neg hb, if_pos ⟨h3, hdX, h4, hg, by omega, by omega, fun q => by
                      have := q.2
                      rw [hXc, decide_eq_true_eq] at this
                      omega⟩]
                · rw [if_neg s3, if_pos ⟨h3, hdX, h4, hg, by omega, by omega, fun q => by omega⟩]
            cases g with
            | false => rw [cond_false]; exact tail (by simp)
            | true =>
              rw [cond_true, fC]
              by_cases h5 : all0 d = true
              · rw [if_pos (by have := h0c.1 h5; omega), if_neg (fun q : okS true d x s => q.2.2.2.1 ⟨rfl, h5⟩)]
              · rw [if_neg (fun q => h5 (h0c.2 (by omega)))]
                exact tail (fun q => h5 q.2)
          · rw [if_neg h4, if_neg (fun q : okS g d x s => h4 q.2.2.1)]
        · rw [if_neg (by omega), if_neg (fun q : okS g d x s => h3 q.1)]
      | true =>
        have hok : (if okY g true d x s then (1 : Int) else 0) = if okL d x s then 1 else 0 := by simp only [okY, if_true]
        rw [hok, cond_true]
        by_cases hb : ((B : Nat) : Int) > 0
        · rw [if_pos hb, if_neg]
          intro q
          have := hDc.2 q.1.1
          omega
        · rw [if_neg hb]
          have hdig := hDc.1 (by omega)
          by_cases h3 : ((A : Nat) : Int) < 1
          · rw [if_pos h3, if_neg (fun q : okL d x s => by have := q.1.2.1; omega)]
          · rw [if_neg h3]
            by_cases h4 : ((A : Nat) : Int) > 17
            · rw [if_pos h4, if_neg (fun q : okL d x s => by have := q.1.2.2.1; omega)]
            · rw [if_neg h4]
              obtain ⟨c, r, rfl⟩ : ∃ c r, d = c :: r := by
                cases d with
                | nil => simp at h1; omega
                | cons c r => exact ⟨c, r, rfl⟩
              have hsx : sx (c :: r) 0 = some c := by simp [sx]
              simp only [hsx, A9, fC]
              by_cases h5 : c = 48
              · rw [if_pos h5, if_neg (fun q : okL (c :: r) x s => q.1.2.2.2.1 (by rw [h5]; rfl))]
              · rw [if_neg h5]
                by_cases h6 : x < 0
                · rw [if_pos h6, if_neg (fun q : okL (c :: r) x s => by have := q.1.2.2.2.2.1; omega)]
                · rw [if_neg h6]
                  by_cases h7 : x > 16
                  · rw [if_pos h7, if_neg (fun q : okL (c :: r) x s => by have := q.1.2.2.2.2.2.1; omega)]
                  · rw [if_neg h7]
                    obtain ⟨k, rfl⟩ : ∃ k : Nat, x = (k : Int) := ⟨x.toNat, by omega⟩
                    have w1 : IntKind.wrap .i64 (((A : Nat) : Int) + (k : Int)) = ((A + k : Nat) : Int) := by rw [wrap_i64 _ (by omega) (by omega)]; omega
                    rw [w1, eX n (c :: r) k hdig hd (by omega) (by omega)]
                    have hlen : (c :: r).length = A := by omega
                    have tail : ¬ ((k : Int) = 0 ∧ (c :: r).length < 5) → (if s > ((A + k : Nat) : Int) then some (0 : Int) else some (if dval 0 (c :: r) * 10 ^ k ≤ E16 then (((dval 0 (c :: r) * 10 ^ k : Nat) : Int), (1 : Int)) else (0, 0)).2) = some (if okL (c :: r) (k : Int) s then 1 else 0) := by
                      intro hk
                      by_cases s2 : s > ((A + k : Nat) : Int)
                      · rw [if_pos s2, if_neg (fun q : okL (c :: r) (k : Int) s => by have := q.2.2; rw [hlen] at this; omega)]
                      · rw [if_neg s2]
                        by_cases h8 : dval 0 (c :: r) * 10 ^ k ≤ E16
                        · rw [if_pos h8, if_pos ⟨⟨hdig, by omega, by omega, by simpa using h5, by omega, by omega, hk, by simpa using h8⟩, by omega, by omega⟩]
                        · rw [if_neg h8, if_neg (fun q : okL (c :: r) (k : Int) s => h8 (by simpa using q.1.2.2.2.2.2.2.2))]
                    by_cases h8 : (k : Int) = 0
                    · rw [if_pos h8]
                      by_cases h9 : ((A : Nat) : Int) < 5
                      · rw [if_pos h9, if_neg (fun q : okL (c :: r) (k : Int) s => q.1.2.2.2.2.2.2.1 ⟨h8, by omega⟩)]
                      · rw [if_neg h9]
                        exact tail (fun q => by omega)
                    · rw [if_neg h8]
                      exact tail (fun q => h8 q.1)
  · rw [if_neg (by omega), if_neg]
    intro q
    apply h1
    rw [hs.2]
    unfold okY at q
    split at q
    · exact fun c hc => .inl (q.1.1 c hc)
    · exact q.2.1
theorem vK : ∀ (l : List UInt8) (acc : Nat), acc * 10 ^ l.length ≤ dval acc l
  | [], acc => by rw [iR]; simp
  | c :: l, acc => by
    have ih := vK l (l9 acc c)
    rw [iq, List.length_cons, Nat.pow_succ]
    have h : acc * 10 ≤ l9 acc c := Nat.le_add_right _ _
    have h2 := Nat.mul_le_mul_right (10 ^ l.length) h
    have h3 : acc * (10 ^ l.length * 10) = acc * 10 * 10 ^ l.length := by rw [Nat.mul_comm (10 ^ l.length) 10, Nat.mul_assoc]
    omega
theorem lO : ∀ (l : List UInt8) (acc k : Nat), (∀ c ∈ l, aG c = true) → acc < 10 ^ k → dval acc l < 10 ^ (l.length + k)
  | [], acc, k, _, h => by rw [iR]; simpa using h
  | c :: l, acc, k, hd, h => by
    have hc := (bz c).1 (hd c (by simp))
    have hp : (10 : Nat) ^ (k + 1) = 10 ^ k * 10 := Nat.pow_succ 10 k
    have hs : l9 acc c = acc * 10 + (c.toNat - 48) := rfl
    have ih := lO l (l9 acc c) (k + 1) (fun d hd' => hd d (by simp [hd'])) (by omega)
    rw [iq, List.length_cons, show l.length + 1 + k = l.length + (k + 1) by omega]
    exact ih
structure Num (d : List UInt8) (k q : Nat) : Prop where
  dig : ∀ c ∈ d, aG c = true
  ne : d ≠ []
  wide : d.length + k ≤ 17
  small : dval 0 d * 10 ^ k ≤ E16
  sig : q ≤ d.length + k
theorem sM {d : List UInt8} (h : ∀ c ∈ d, aG c = true) : hasX d = false := by
  unfold hasX
  rw [List.any_eq_false]
  intro c hc he
  rw [beq_iff_eq] at he
  have := (bz c).1 (h c hc)
  rw [he] at this
  exact absurd this.2 (by decide)
theorem l4 {g l : Bool} {d : List UInt8} {x s : Int} (h : okY g l d x s) (hX : hasX d = false) : ∃ k q : Nat, x = (k : Int) ∧ s = (q : Int) ∧ Num d k q := by
  cases l with
  | true =>
    have h : okL d x s := by simpa [okY] using h
    obtain ⟨⟨h1, h2, h3, h4, h5, h6, h7, h8⟩, h9, h10⟩ := h
    refine ⟨x.toNat, s.toNat, by omega, by omega, h1, by intro e; subst e; simp at h2, ?_, h8, by omega⟩
    cases d with
    | nil => simp at h2
    | cons c r =>
      have hc := (bz c).1 (h1 c (by simp))
      have hne : c ≠ 48 := by simpa using h4
      have hc0 : 1 ≤ l9 0 c := by
        have : c.toNat ≠ 48 := fun e => hne (UInt8.toNat_inj.1 e)
        show 1 ≤ 0 * 10 + (c.toNat - 48)
        omega
      have hg := vK r (l9 0 c)
      rw [← iq] at hg
      have h9 : 10 ^ r.length ≤ dval 0 (c :: r) := by
        have := Nat.mul_le_mul_right (10 ^ r.length) hc0
        omega
      have h11 := Nat.mul_le_mul_right (10 ^ x.toNat) h9
      rw [← Nat.pow_add] at h11
      rcases Nat.lt_or_ge (r.length + x.toNat) 17 with hlt | hge
      · simp only [List.length_cons]; omega
      · have := AG hge
        omega
  | false =>
    have h : okS g d x s := by simpa [okY] using h
    obtain ⟨h1, h2, h3, h4, h5, h6, h7⟩ := h
    have hd : ∀ c ∈ d, aG c = true := by
      intro c hc
      rcases h2 c hc with h | h
      · exact h
      · exfalso
        unfold hasX at hX
        rw [List.any_eq_false] at hX
        exact hX c hc (beq_iff_eq.2 h)
    have hlt := lO d 0 0 hd (by simp)
    rw [h1] at hlt
    refine ⟨0, s.toNat, by omega, by omega, hd, by intro e; subst e; simp at h1, by omega, ?_, by omega⟩
    have h4 : (10 : Nat) ^ (4 + 0) = 10000 := by decide
    unfold E16
    simp only [Nat.pow_zero, Nat.mul_one]
    omega
def val (d : List UInt8) (k : Nat) : Nat := dval 0 d * 10 ^ k
theorem uf (n : Nat) (g l : Bool) (d : List UInt8) (x s : Int) (hn : 200 < n) (hd : d.length ≤ 100) :
    de n g l d x s = some (if okY g l d x s ∧ hasX d = false then (if g then -((val d x.toNat : Nat) : Int) else ((val d x.toNat : Nat) : Int), 0) else (0, 6)) := by
  unfold de
  rw [tN n g l d x s hn hd, jw]
  simp only [ob]
  by_cases h : okY g l d x s
  · rw [if_pos h]
    cases hX : hasX d with
    | true => rw [if_neg (by simp)]; rfl
    | false =>
      rw [if_pos ⟨h, rfl⟩]
      obtain ⟨k, q, rfl, rfl, hN⟩ := l4 h hX
      rw [wD n g l d k q hN.dig hN.ne (by have := hN.wide; omega) (by have := hN.wide; omega) (by omega), if_pos hN.small]
      have hs := hN.small
      unfold E16 at hs
      cases g with
      | true =>
        simp only [bne_self_eq_false, cond_false, cond_true, Int.toNat_natCast, val, if_true]
        rw [wrap_i64 _ (by omega) (by omega), Int.zero_sub]
      | false => simp [val]
  · rw [if_neg h, if_neg (fun q => h q.1)]; rfl
theorem lV {a b : List UInt8} (h : a.length + b.length ≤ 1000000) : cat a b = some (a ++ b) := by
  unfold cat; rw [if_pos (by omega)]
theorem cut1 {l : List UInt8} {i : Nat} {c : UInt8} (h : l[i]? = some c) : List.drop i (List.take (i + 1) l) = [c] := by
  have hlt := kV h
  rw [List.take_add_one, h, List.drop_left' (by rw [List.length_take]; omega)]
  rfl
theorem Be {l : List UInt8} {i : Nat} {c : UInt8} (h : l[i]? = some c) : List.take (i + 1) l = List.take i l ++ [c] := by
  rw [List.take_add_one, h]; rfl
theorem hO {g l : Bool} {d : List UInt8} {x s : Int} (h : okY g l d x s) (hX : hasX d = true) : l = false ∧ x = 0 ∧ s = 0 ∧ d.length = 4 ∧ ∀ c ∈ d, aG c = true ∨ c = 88 := by
  cases l with
  | true =>
    have h : okL d x s := by simpa [okY] using h
    rw [sM h.1.1] at hX
    cases hX
  | false =>
    have h : okS g d x s := by simpa [okY] using h
    obtain ⟨h1, h2, h3, h4, h5, h6, h7⟩ := h
    refine ⟨rfl, h3, ?_, h1, h2⟩
    have : ¬ 0 < s := fun e => h7 ⟨e, hX⟩
    omega
theorem la {g l : Bool} {d : List UInt8} {x s : Int} (h : okY g l d x s) : 0 ≤ x ∧ x ≤ 16 ∧ 0 ≤ s ∧ s ≤ 17 ∧ 1 ≤ d.length ∧ d.length ≤ 17 := by
  cases hX : hasX d with
  | true =>
    obtain ⟨rfl, rfl, rfl, hl, _⟩ := hO h hX
    omega
  | false =>
    obtain ⟨k, q, rfl, rfl, hN⟩ := l4 h hX
    have h1 := hN.wide
    have h2 := hN.sig
    have h3 : 1 ≤ d.length := by
      cases d with
      | nil => exact absurd rfl hN.ne
      | cons c r => simp
    omega
def numU (d : UInt8) : List UInt8 → Nat ⊕ (Nat × Nat)
  | [] => .inr (d.toNat - 48, 2)
  | e :: _ => if aG e = true then .inr (10 * (d.toNat - 48) + (e.toNat - 48), 3) else .inr (d.toNat - 48, 2)
def numT : List UInt8 → Nat ⊕ (Nat × Nat)
  | [] => .inl 1
  | d :: r => if 49 ≤ d.toNat ∧ d.toNat ≤ 57 then numU d r else .inl 1
def numS (letter : UInt8) : List UInt8 → Nat ⊕ (Nat × Nat)
  | [] => .inr (0, 0)
  | c :: r => if c = letter then numT r else .inr (0, 0)
theorem mB (letter : UInt8) : numS letter [] = .inr (0, 0) := rfl
theorem li (letter c : UInt8) (r : List UInt8) : numS letter (c :: r) = if c = letter then numT r else .inr (0, 0) := rfl
theorem o7 : numT [] = .inl 1 := rfl
theorem ld (d : UInt8) (r : List UInt8) : numT (d :: r) = if 49 ≤ d.toNat ∧ d.toNat ≤ 57 then numU d r else .inl 1 := rfl
theorem mn (d : UInt8) : numU d [] = .inr (d.toNat - 48, 2) := rfl
theorem jF (d e : UInt8) (r : List UInt8) : numU d (e :: r) = if aG e = true then .inr (10 * (d.toNat - 48) + (e.toNat - 48), 3) else .inr (d.toNat - 48, 2) := rfl
theorem oF (c : UInt8) (h : c.toNat < 128) : (Utf8.encode ((c.toNat : Nat) : Int)).data.toList = [c] := by
  have := jm (fun c => (decide (128 ≤ c.toNat)) || (Utf8.encode ((c.toNat : Nat) : Int)).data.toList == [c]) (by decide +kernel) c
  simp only [Bool.or_eq_true, decide_eq_true_eq, beq_iff_eq] at this
  rcases this with h2 | h2
  · omega
  · exact h2
theorem jl {c : UInt8} (h : 48 ≤ c.toNat ∧ c.toNat ≤ 57) : Lib.digitVal c = some (c.toNat - 48) := by
  unfold Lib.digitVal; rw [if_pos h]
theorem oV {c : UInt8} (h : 48 ≤ c.toNat ∧ c.toNat ≤ 57) (r : List UInt8) : Lib.atoi (c :: r) = (Lib.decNat (c :: r)).map fun (m : Nat) => (m : Int) := by
  have e1 : (c == 45) = false := by
    rw [beq_eq_false_iff_ne]; rintro rfl; exact absurd h.1 (by decide)
  have e2 : (c == 43) = false := by
    rw [beq_eq_false_iff_ne]; rintro rfl; exact absurd h.1 (by decide)
  simp only [Lib.atoi, e1, e2, Bool.false_eq_true, if_false]
theorem yM {c : UInt8} (h : 48 ≤ c.toNat ∧ c.toNat ≤ 57) : Lib.atoi [c] = some ((c.toNat - 48 : Nat) : Int) := by
  rw [oV h]
  simp only [Lib.decNat, List.isEmpty_cons, Bool.false_eq_true, if_false, Lib.decFrom, jl h, Option.map_some, Nat.zero_mul, Nat.zero_add]
theorem yR {c e : UInt8} (h : 48 ≤ c.toNat ∧ c.toNat ≤ 57) (he : 48 ≤ e.toNat ∧ e.toNat ≤ 57) : Lib.atoi [c, e] = some ((10 * (c.toNat - 48) + (e.toNat - 48) : Nat) : Int) := by
  rw [oV h]
  simp only [Lib.decNat, List.isEmpty_cons, Bool.false_eq_true, if_false, Lib.decFrom, jl h, jl he, Option.map_some, Nat.zero_mul, Nat.zero_add]
  rw [Nat.mul_comm]
theorem oO (c : UInt8) : hasB [49, 50, 51, 52, 53, 54, 55, 56, 57] c = decide (49 ≤ c.toNat ∧ c.toNat ≤ 57) := by
  have := jm (fun c => hasB [49, 50, 51, 52, 53, 54, 55, 56, 57] c == decide (49 ≤ c.toNat ∧ c.toNat ≤ 57)) (by decide +kernel) c
  simpa using this
theorem eV {p q : UInt8 → Bool} (h : ∀ c, p c = q c) : ∀ (k : Nat) (l : List UInt8), aW p k l = aW q k l
  | 0, _ => by simp [aW]
  | _ + 1, [] => by simp [aW]
  | k + 1, c :: l => by simp only [aW, h c, eV h k l]
theorem gQ {S : List UInt8} {a : Nat} {c : UInt8} {r : List UInt8} (h : S.drop a = c :: r) : a < S.length ∧ S[a]? = some c ∧ S.drop (a + 1) = r := by
  have hlt : a < S.length := by
    rcases Nat.lt_or_ge a S.length with q | q
    · exact q
    · rw [List.drop_eq_nil_of_le q] at h; cases h
  have hg : S[a]? = some S[a] := List.getElem?_eq_getElem hlt
  have hd := bg hg
  rw [h] at hd
  injection hd with h1 h2
  exact ⟨hlt, by rw [hg, h1], h2.symm⟩
theorem wK (n : Nat) (letter : UInt8) (S : List UInt8) (at_ : Nat) (h : at_ ≤ S.length) (hS : S.length < 100000) (hn : S.length < n) :
    br n [letter] S (at_ : Int) = some (match numS letter (S.drop at_) with | .inl k => .inr (((at_ + k : Nat) : Int), 5, S, ((at_ + k : Nat) : Int)) | .inr (v, k) => .inl ((v : Int), S, ((at_ + k : Nat) : Int))) := by
  unfold br
  rw [ui n [letter] S at_ h (by omega)]
  cases hd : S.drop at_ with
  | nil => simp [mB]
  | cons c r =>
    obtain ⟨hlt, hg, hr⟩ := gQ hd
    rw [li]
    by_cases hc : c = letter
    · have htk : List.take [letter].length (c :: r) = [letter] := by simp [hc]
      have hl1 : at_ + [letter].length = at_ + 1 := rfl
      rw [if_pos htk, hl1, if_pos hc]
      clear htk
      simp only [ob, Bool.not_true, cond_false]
      rw [sq n _ S (at_ + 1) (by omega) (by omega), hr]
      cases r with
      | nil => simp [o7]
      | cons d r2 =>
        obtain ⟨hlt2, hg2, hr2⟩ := gQ hr
        rw [ld]
        simp only [oO, decide_eq_true_eq]
        by_cases hd1 : 49 ≤ d.toNat ∧ d.toNat ≤ 57
        · rw [if_pos hd1, if_pos hd1]
          simp only []
          rw [mD n _ 0 1 S (at_ + 1 + 1) (by omega) (by omega) hn, hr2]
          have hk := gf (hasB [48, 49, 50, 51, 52, 53, 54, 55, 56, 57]) (1 : Int).toNat r2
          rw [if_neg (by omega)]
          rw [eV nr]
          simp only []
          rw [oF d (by omega)]
          have hb1 : Nat.ble ([d] : List UInt8).length 18 = true := rfl
          have hb2 : ∀ e : UInt8, Nat.ble ([d, e] : List UInt8).length 18 = true := fun _ => rfl
          have p2 : at_ + 1 + 1 = at_ + 2 := rfl
          have p3 : at_ + 2 + 1 = at_ + 3 := rfl
          have ad := yM (show 48 ≤ d.toNat ∧ d.toNat ≤ 57 by omega)
          cases r2 with
          | nil =>
            have hs : aW aG (1 : Int).toNat [] = 0 := rfl
            rw [hs, mn]
            rw [lV (by simp)]
            simp only [List.take_nil, List.append_nil, Nat.add_zero, hb1, cond_true, ad, opt, p2]
          | cons e r3 =>
            by_cases he : aG e = true
            · have hs : aW aG (1 : Int).toNat (e :: r3) = 1 := by
                show aW aG (0 + 1) (e :: r3) = 1
                simp [aW, he]
              have ade := yR (show 48 ≤ d.toNat ∧ d.toNat ≤ 57 by omega) ((bz e).1 he)
              rw [hs, jF, if_pos he]
              have ht : List.take 1 (e :: r3) = [e] := rfl
              rw [ht, lV (by simp)]
              simp only [List.cons_append, List.nil_append, hb2, cond_true, ade, opt, p2, p3]
            · have hs : aW aG (1 : Int).toNat (e :: r3) = 0 := by
                show aW aG (0 + 1) (e :: r3) = 0
                simp [aW, he]
              rw [hs, jF, if_neg he]
              have ht : List.take 0 (e :: r3) = [] := rfl
              rw [ht, lV (by simp)]
              simp only [List.append_nil, hb1, cond_true, ad, opt, Nat.add_zero, p2]
        · rw [if_neg hd1, if_neg hd1]
    · have e : ¬ List.take [letter].length (c :: r) = [letter] := by simp [hc]
      rw [if_neg e, if_neg hc]
      simp
theorem wA (n : Nat) (letter : UInt8) (S : List UInt8) (at_ : Nat) (h : at_ ≤ S.length) (hS : S.length < 100000) :
    aa n S (at_ : Int) ((letter.toNat : Nat) : Int) = some (match numS letter (S.drop at_) with | .inl k => (-1, ((at_ + k : Nat) : Int)) | .inr (v, k) => ((v : Int), ((at_ + k : Nat) : Int))) := by
  unfold aa
  rw [fY]
  cases hd : S.drop at_ with
  | nil =>
    have : S.length ≤ at_ := by
      rcases Nat.lt_or_ge at_ S.length with q | q
      · rw [bg (List.getElem?_eq_getElem q)] at hd; cases hd
      · exact q
    rw [decide_eq_true this]
    simp [mB]
  | cons c r =>
    obtain ⟨hlt, hg, hr⟩ := gQ hd
    have w1 : IntKind.wrap .i64 ((at_ : Int) + 1) = ((at_ + 1 : Nat) : Int) := by rw [wrap_i64 _ (by omega) (by omega)]; omega
    have w2 : IntKind.wrap .i64 (((at_ + 1 : Nat) : Int) + 1) = ((at_ + 2 : Nat) : Int) := by rw [wrap_i64 _ (by omega) (by omega)]; omega
    have w3 : IntKind.wrap .i64 (((at_ + 2 : Nat) : Int) + 1) = ((at_ + 3 : Nat) : Int) := by rw [wrap_i64 _ (by omega) (by omega)]; omega
    rw [decide_eq_false (show ¬ S.length ≤ at_ by omega), cond_false, cJ hg]
    simp only [ob, w1, w2, w3, fY, cK]
    have hcl : (((c.toNat : Nat) : Int) != ((letter.toNat : Nat) : Int)) = !(c == letter) := by rw [bne, jd]
    rw [hcl, li]
    by_cases hc : c = letter
    · have e : (!(c == letter)) = false := by rw [hc]; simp
      rw [e, cond_false, if_pos hc]
      cases r with
      | nil =>
        have : S.length ≤ at_ + 1 := by
          rcases Nat.lt_or_ge (at_ + 1) S.length with q | q
          · rw [bg (List.getElem?_eq_getElem q)] at hr; cases hr
          · exact q
        rw [decide_eq_true this]; rfl
      | cons d r2 =>
        obtain ⟨hlt2, hg2, hr2⟩ := gQ hr
        rw [ld]
        rw [decide_eq_false (show ¬ S.length ≤ at_ + 1 by omega), cond_false, cJ hg2]
        simp only []
        by_cases h1 : d.toNat < 49
        · have e1 : decide (((d.toNat : Nat) : Int) < 49) = true := decide_eq_true (by omega)
          rw [e1, cond_true, if_neg (by omega)]
        · have e1 : decide (((d.toNat : Nat) : Int) < 49) = false := decide_eq_false (by omega)
          rw [e1, cond_false]
          by_cases h2 : d.toNat > 57
          · have e2 : decide (((d.toNat : Nat) : Int) > 57) = true := decide_eq_true (by omega)
            rw [e2, cond_true, if_neg (by omega)]
          · have e2 : decide (((d.toNat : Nat) : Int) > 57) = false := decide_eq_false (by omega)
            rw [e2, cond_false, if_pos (by omega)]
            have wd : IntKind.wrap .i64 (IntKind.wrap .u8 (((d.toNat : Nat) : Int) - 48)) = ((d.toNat - 48 : Nat) : Int) := by
              rw [fR _ (by omega) (by omega), wrap_i64 _ (by omega) (by omega)]; omega
            rw [wd]
            cases r2 with
            | nil =>
              have : ¬ at_ + 2 < S.length := by
                intro q
                rw [bg (List.getElem?_eq_getElem (show at_ + 1 + 1 < S.length from q))] at hr2; cases hr2
              rw [decide_eq_false this, mn]; rfl
            | cons e r3 =>
              obtain ⟨hlt3, hg3, _⟩ := gQ hr2
              rw [jF]
              rw [decide_eq_true (show at_ + 2 < S.length from hlt3), cond_true, cJ hg3]
              simp only []
              by_cases h3 : e.toNat ≥ 48
              · have e3 : decide (((e.toNat : Nat) : Int) ≥ 48) = true := decide_eq_true (by omega)
                rw [e3, cond_true]
                by_cases h4 : e.toNat ≤ 57
                · have e4 : decide (((e.toNat : Nat) : Int) ≤ 57) = true := decide_eq_true (by omega)
                  have we : IntKind.wrap .i64 (IntKind.wrap .u8 (((e.toNat : Nat) : Int) - 48)) = ((e.toNat - 48 : Nat) : Int) := by
                    rw [fR _ (by omega) (by omega), wrap_i64 _ (by omega) (by omega)]; omega
                  have wt : IntKind.wrap .i64 (10 * ((d.toNat - 48 : Nat) : Int)) = ((10 * (d.toNat - 48) : Nat) : Int) := by rw [wrap_i64 _ (by omega) (by omega)]; omega
                  have ws : IntKind.wrap .i64 (((10 * (d.toNat - 48) : Nat) : Int) + ((e.toNat - 48 : Nat) : Int)) = ((10 * (d.toNat - 48) + (e.toNat - 48) : Nat) : Int) := by rw [wrap_i64 _ (by omega) (by omega)]; omega
                  rw [e4, cond_true, if_pos ((bz e).2 ⟨h3, h4⟩), we, wt, ws]
                · have e4 : decide (((e.toNat : Nat) : Int) ≤ 57) = false := decide_eq_false (by omega)
                  rw [e4, cond_false, if_neg (fun q => h4 ((bz e).1 q).2)]
              · have e3 : decide (((e.toNat : Nat) : Int) ≥ 48) = false := decide_eq_false (by omega)
                rw [e3, cond_false, if_neg (fun q => h3 ((bz e).1 q).1)]
    · have e : (!(c == letter)) = true := by rw [beq_eq_false_iff_ne.2 hc]; rfl
      rw [e, cond_true, if_neg hc]
      rfl
def isDX (c : UInt8) : Bool := aG c || c == 88
abbrev YR := Bool × Bool × List UInt8 × Nat × Nat × Nat
def mb (g : Bool) (o : Nat) : List UInt8 → Nat ⊕ YR
  | [] => .inl o
  | c :: r => if 49 ≤ c.toNat ∧ c.toNat ≤ 57 then
      (match numS 69 ((c :: r).drop (1 + aW aG 16 r)) with
      | .inl j => .inl (o + (1 + aW aG 16 r) + j)
      | .inr (x, j) => (match numS 83 ((c :: r).drop (1 + aW aG 16 r + j)) with
        | .inl i => .inl (o + (1 + aW aG 16 r) + j + i)
        | .inr (s, i) => .inr (g, true, (c :: r).take (1 + aW aG 16 r), x, s, o + (1 + aW aG 16 r) + j + i)))
    else .inl o
def oi (g : Bool) (o : Nat) (l : List UInt8) : Nat ⊕ YR :=
  if aW isDX 4 l < 4 then .inl (o + aW isDX 4 l) else
    (match numS 83 (l.drop 4) with
    | .inl i => .inl (o + 4 + i)
    | .inr (s, i) => .inr (g, false, l.take 4, 0, s, o + 4 + i))
def cY (c : UInt8) (l : List UInt8) : Nat := if l.take 1 = [c] then 1 else 0
def kS (l : List UInt8) : Nat ⊕ YR :=
  if cY 89 l = 1 then mb (cY 45 (l.drop 1) == 1) (1 + cY 45 (l.drop 1)) (l.drop (1 + cY 45 (l.drop 1)))
  else oi (cY 45 l == 1) (cY 45 l) (l.drop (cY 45 l))
theorem fQ (c : UInt8) (l : List UInt8) : cY c l = 0 ∨ cY c l = 1 := by
  unfold cY; split
  · exact .inr rfl
  · exact .inl rfl
theorem pl (c : UInt8) (l : List UInt8) : cY c l ≤ l.length := by
  unfold cY; split
  · rename_i h
    cases l with
    | nil => simp at h
    | cons a l => simp
  · omega
theorem lf (n : Nat) (c : UInt8) (S : List UInt8) (at_ : Nat) (h : at_ ≤ S.length) (hS : S.length < 100000) :
    aQ n [c] S (at_ : Int) = some (cY c (S.drop at_) == 1, S, ((at_ + cY c (S.drop at_) : Nat) : Int)) := by
  rw [ui n [c] S at_ h (by omega)]
  unfold cY
  have e : [c].length = 1 := rfl
  rw [e]
  split <;> rfl
def nX (S : List UInt8) (at_ : Nat) : Nat ⊕ YR → (Int × Int × List UInt8 × Int) ⊕ (Bool × Bool × List UInt8 × Int × Int × List UInt8 × Int)
  | .inl k => .inl (((at_ + k : Nat) : Int), 5, S, ((at_ + k : Nat) : Int))
  | .inr (g, l, d, x, s, k) => .inr (g, l, d, (x : Int), (s : Int), S, ((at_ + k : Nat) : Int))
def ie (at_ : Nat) : Nat ⊕ YR → Bool × Bool × List UInt8 × Int × Int × Int × Int
  | .inl k => (false, false, [], 0, 0, ((at_ + k : Nat) : Int), 5)
  | .inr (g, l, d, x, s, k) => (g, l, d, (x : Int), (s : Int), ((at_ + k : Nat) : Int), 0)
theorem Bv (letter : UInt8) (l : List UInt8) : (match numS letter l with | .inl k => k ≤ l.length | .inr (_, k) => k ≤ l.length) := by
  cases l with
  | nil => simp [mB]
  | cons c r =>
    rw [li]
    by_cases hc : c = letter
    · rw [if_pos hc]
      cases r with
      | nil => simp [o7]
      | cons d r2 =>
        rw [ld]
        by_cases hd : 49 ≤ d.toNat ∧ d.toNat ≤ 57
        · rw [if_pos hd]
          cases r2 with
          | nil => simp [mn]
          | cons e r3 =>
            rw [jF]
            by_cases he : aG e = true
            · rw [if_pos he]; simp
            · rw [if_neg he]; simp
        · rw [if_neg hd]; simp
    · rw [if_neg hc]; simp
theorem oL {letter : UInt8} {S : List UInt8} {a : Nat} (h : a ≤ S.length) {v k : Nat} (hk : numS letter (S.drop a) = .inr (v, k)) : a + k ≤ S.length := by
  have := Bv letter (S.drop a)
  rw [hk, List.length_drop] at this
  simp only at this
  omega
theorem Ar (n : Nat) (S : List UInt8) (at_ o : Nat) (g : Bool) (h : at_ + o ≤ S.length) (hS : S.length < 100000) (hn : S.length < n) :
    (ob (bh n [49, 50, 51, 52, 53, 54, 55, 56, 57] S ((at_ + o : Nat) : Int)) fun y336 => (Sum.casesOn (motive := fun _ => Option ((Int × Int × List UInt8 × Int) ⊕ (Bool × Bool × List UInt8 × Int × Int × List UInt8 × Int))) y336 (fun a337 => (some (.inl (a337.1, a337.2.1, a337.2.2.1, a337.2.2.2)))) (fun b338 => (ob (aR n [48, 49, 50, 51, 52, 53, 54, 55, 56, 57] 0 16 b338.2.1 b338.2.2) fun y339 => (Sum.casesOn (motive := fun _ => Option _) y339 (fun a340 => (some (.inl (a340.1, a340.2.1, a340.2.2.1, a340.2.2.2)))) (fun b341 => (ob (cat (Utf8.encode b338.1).data.toList b341.1) fun s342 => (ob (br n [69] b341.2.1 b341.2.2) fun y343 => (Sum.casesOn (motive := fun _ => Option _) y343 (fun a344 => (ob (br n [83] a344.2.1 a344.2.2) fun y346 => (Sum.casesOn (motive := fun _ => Option _) y346 (fun a347 => (some (.inr (g, true, s342, a344.1, a347.1, a347.2.1, a347.2.2)))) (fun b348 => (some (.inl (b348.1, b348.2.1, b348.2.2.1, b348.2.2.2))))))) (fun b345 => (some (.inl (b345.1, b345.2.1, b345.2.2.1, b345.2.2.2))))))))))))) = some (nX S at_ (mb g o (S.drop (at_ + o)))) := by
  rw [sq n _ S (at_ + o) h (by omega)]
  cases hd : S.drop (at_ + o) with
  | nil => simp [mb, nX, ob]
  | cons c r =>
    obtain ⟨hlt, hg, hr⟩ := gQ hd
    simp only [oO, decide_eq_true_eq]
    by_cases hc : 49 ≤ c.toNat ∧ c.toNat ≤ 57
    · rw [if_pos hc]
      simp only [ob]
      rw [mD n _ 0 16 S (at_ + o + 1) (by omega) (by omega) hn, hr]
      rw [if_neg (by omega), eV nr]
      simp only []
      rw [oF c (by omega)]
      have h16 : (16 : Int).toNat = 16 := rfl
      rw [h16]
      have hk := gf aG 16 r
      have hrl : r.length + (at_ + o + 1) = S.length := by
        have := congrArg List.length hr
        rw [List.length_drop] at this
        omega
      rw [lV (by simp only [List.length_cons, List.length_nil, List.length_take]; omega)]
      simp only [mb]
      rw [if_pos hc]
      generalize hK : aW aG 16 r = k at hk ⊢
      have e1 : [c] ++ List.take k r = List.take (1 + k) (c :: r) := by rw [Nat.add_comm]; rfl
      rw [e1]
      have hp1 : at_ + o + 1 + k ≤ S.length := by omega
      have hdr : List.drop (1 + k) (c :: r) = S.drop (at_ + o + 1 + k) := by
        rw [← hd, List.drop_drop]; congr 1; omega
      rw [wK n 69 S (at_ + o + 1 + k) hp1 hS hn, ← hdr]
      cases hq : numS 69 (List.drop (1 + k) (c :: r)) with
      | inl j =>
        simp only [nX]
        have : at_ + o + 1 + k + j = at_ + (o + (1 + k) + j) := by omega
        rw [this]
      | inr p =>
        obtain ⟨x, j⟩ := p
        have hj := hq
        rw [hdr] at hj
        have hp2 := oL hp1 hj
        have hdr2 : List.drop (1 + k + j) (c :: r) = S.drop (at_ + o + 1 + k + j) := by
          rw [← hd, List.drop_drop]; congr 1; omega
        simp only []
        rw [wK n 83 S (at_ + o + 1 + k + j) hp2 hS hn, ← hdr2]
        cases hq2 : numS 83 (List.drop (1 + k + j) (c :: r)) with
        | inl i =>
          simp only [nX]
          have : at_ + o + 1 + k + j + i = at_ + (o + (1 + k) + j + i) := by omega
          rw [this]
        | inr p2 =>
          obtain ⟨s, i⟩ := p2
          simp only [nX]
          have : at_ + o + 1 + k + j + i = at_ + (o + (1 + k) + j + i) := by omega
          rw [this]
    · rw [if_neg hc]
      simp only [ob, mb]
      rw [if_neg hc]
      rfl
theorem zj (n : Nat) (S : List UInt8) (at_ o : Nat) (g : Bool) (h : at_ + o ≤ S.length) (hS : S.length < 100000) (hn : S.length < n) :
    (ob (aR n [88, 48, 49, 50, 51, 52, 53, 54, 55, 56, 57] 4 4 S ((at_ + o : Nat) : Int)) fun y349 => (Sum.casesOn (motive := fun _ => Option ((Int × Int × List UInt8 × Int) ⊕ (Bool × Bool × List UInt8 × Int × Int × List UInt8 × Int))) y349 (fun a350 => (some (.inl (a350.1, a350.2.1, a350.2.2.1, a350.2.2.2)))) (fun b351 => (ob (br n [83] b351.2.1 b351.2.2) fun y352 => (Sum.casesOn (motive := fun _ => Option _) y352 (fun a353 => (some (.inr (g, false, b351.1, 0, a353.1, a353.2.1, a353.2.2)))) (fun b354 => (some (.inl (b354.1, b354.2.1, b354.2.2.1, b354.2.2.2))))))))) = some (nX S at_ (oi g o (S.drop (at_ + o)))) := by
  rw [mD n _ 4 4 S (at_ + o) h (by omega) hn]
  have hcg : ∀ c, hasB [88, 48, 49, 50, 51, 52, 53, 54, 55, 56, 57] c = isDX c := ln
  have h4 : (4 : Int).toNat = 4 := rfl
  rw [eV hcg, h4]
  unfold oi
  have hk := gf isDX 4 (S.drop (at_ + o))
  rw [List.length_drop] at hk
  by_cases hlt : aW isDX 4 (S.drop (at_ + o)) < 4
  · rw [if_pos (by omega), if_pos hlt]
    simp only [ob, nX]
    rw [Nat.add_assoc]
  · rw [if_neg (by omega), if_neg hlt]
    have hle : ∀ (k : Nat) (l : List UInt8), aW isDX k l ≤ k := by
      intro k
      induction k with
      | zero => intro l; simp [aW]
      | succ k ih =>
        intro l
        cases l with
        | nil => simp [aW]
        | cons c l =>
          have := ih l
          simp only [aW]
          split <;> omega
    have he : aW isDX 4 (S.drop (at_ + o)) = 4 := by have := hle 4 (S.drop (at_ + o)); omega
    rw [he] at hk ⊢
    simp only [ob]
    have hp : at_ + o + 4 ≤ S.length := by omega
    rw [wK n 83 S (at_ + o + 4) hp hS hn, List.drop_drop]
    cases hq : numS 83 (S.drop (at_ + o + 4)) with
    | inl i =>
      simp only [nX]
      have : at_ + o + 4 + i = at_ + (o + 4 + i) := by omega
      rw [this]
    | inr p =>
      obtain ⟨s, i⟩ := p
      simp only [nX]
      have : at_ + o + 4 + i = at_ + (o + 4 + i) := by omega
      rw [this]
      rfl
theorem Bp (n : Nat) (S : List UInt8) (at_ : Nat) (h : at_ ≤ S.length) (hS : S.length < 100000) (hn : S.length < n) :
    gk n S (at_ : Int) = some (nX S at_ (kS (S.drop at_))) := by
  unfold gk
  rw [lf n 89 S at_ h hS]
  have hle1 := pl 89 (S.drop at_)
  rw [List.length_drop] at hle1
  simp only [ob]
  rw [lf n 45 S (at_ + cY 89 (S.drop at_)) (by omega) hS]
  have hle2 := pl 45 (S.drop (at_ + cY 89 (S.drop at_)))
  rw [List.length_drop] at hle2
  simp only []
  unfold kS
  rcases fQ 89 (S.drop at_) with ht | ht
  · rw [ht] at hle2 ⊢
    simp only [Nat.add_zero, show ((0 : Nat) == 1) = false from rfl, cond_false, show ¬ ((0 : Nat) = 1) from by decide, if_false, List.drop_drop] at hle2 ⊢
    have := zj n S at_ (cY 45 (S.drop at_)) (cY 45 (S.drop at_) == 1) (by omega) hS hn
    exact this
  · rw [ht] at hle2 ⊢
    simp only [show ((1 : Nat) == 1) = true from rfl, cond_true, if_true, List.drop_drop] at hle2 ⊢
    have := Ar n S at_ (1 + cY 45 (S.drop (at_ + 1))) (cY 45 (S.drop (at_ + 1)) == 1) (by omega) hS hn
    rw [← Nat.add_assoc] at this
    rw [← Nat.add_assoc]
    exact this
abbrev stR (S : List UInt8) (a b M : Int) (g L : Bool) : List UInt8 × Int × Int × Int × Bool × Bool × List UInt8 × Int × Int × Bool × Bool × List UInt8 × Int × Int := (S, a, b, M, false, false, [], 0, 0, g, L, [], 0, 0)
def isYB (L : Bool) (c : UInt8) : Bool := aG c || (c == 88 && !L)
theorem wG (n : Nat) (S : List UInt8) (b M : Nat) (g : Bool) (hM : 0 < M) (hS : S.length < 100000) (h48 : S[b]? = some 48) : af (ah (n + 1)) (n + 1) (stR S (b : Int) (b : Int) (M : Int) g true) = some (.inl ((b : Int), 5, false, false, [], 0, 0)) := by
  have hlt := kV h48
  have d1 : decide ((b : Int) < ((S.length : Nat) : Int)) = true := decide_eq_true (by omega)
  have w1 : IntKind.wrap .i64 ((b : Int) - (b : Int)) = 0 := by rw [Int.sub_self]; rfl
  have d2 : decide ((0 : Int) < (M : Int)) = true := decide_eq_true (by omega)
  have e1 : decide ((((48 : UInt8).toNat : Nat) : Int) ≥ 48) = true := rfl
  have e2 : decide ((((48 : UInt8).toNat : Nat) : Int) ≤ 57) = true := rfl
  have e3 : ((((48 : UInt8).toNat : Nat) : Int) == 48) = true := rfl
  simp only [af, ah, d1, cond_true, w1, d2, cJ h48, ob, e1, e2, e3, BEq.rfl]
theorem pE (n : Nat) (S : List UInt8) (b M : Nat) (g L : Bool) (hb : b ≤ S.length) (hS : S.length < 100000) (hn : S.length < n) (h48 : ¬ (L = true ∧ S[b]? = some 48)) :
    af (ah n) n (stR S (b : Int) (b : Int) (M : Int) g L) = some (.inr (S, ((b + aW (isYB L) M (S.drop b) : Nat) : Int), (b : Int), false, false, [], 0, 0, g, L, [], 0, 0)) := by
  have := cN (step := ah n) (fun x => ∃ j : Nat, b + j ≤ S.length ∧ x = stR S ((b + j : Nat) : Int) (b : Int) (M : Int) g L) (fun x => S.length - x.2.1.toNat)
    (fun x => .inr (S, ((x.2.1.toNat + aW (isYB L) (M - (x.2.1.toNat - b)) (S.drop x.2.1.toNat) : Nat) : Int), (b : Int), false, false, [], 0, 0, g, L, [], 0, 0)) ?_ n (stR S (b : Int) (b : Int) (M : Int) g L) ⟨0, by omega, rfl⟩ (by simp; omega)
  · rw [this]; simp
  rintro x ⟨j, hj, rfl⟩
  simp only [Int.toNat_natCast]
  rcases Nat.lt_or_ge (b + j) S.length with hlt | hge
  · obtain ⟨c, hc⟩ : ∃ c, S[b + j]? = some c := ⟨S[b + j], List.getElem?_eq_getElem hlt⟩
    have d1 : decide (((b + j : Nat) : Int) < ((S.length : Nat) : Int)) = true := decide_eq_true (by omega)
    have w1 : IntKind.wrap .i64 (((b + j : Nat) : Int) - (b : Int)) = (j : Int) := by rw [wrap_i64 _ (by omega) (by omega)]; omega
    have w2 : IntKind.wrap .i64 (((b + j : Nat) : Int) + 1) = ((b + (j + 1) : Nat) : Int) := by rw [wrap_i64 _ (by omega) (by omega)]; omega
    have hsub : b + j - b = j := by omega
    rw [bg hc, hsub]
    by_cases hM : j < M
    · have d2 : decide ((j : Int) < (M : Int)) = true := decide_eq_true (by omega)
      obtain ⟨q, hq⟩ : ∃ q, M - j = q + 1 := ⟨M - j - 1, by omega⟩
      have hq2 : M - (j + 1) = q := by omega
      rw [hq]
      simp only [aW]
      have go : isYB L c = true → ah n (stR S ((b + j : Nat) : Int) (b : Int) (M : Int) g L) = some (.inl (stR S ((b + (j + 1) : Nat) : Int) (b : Int) (M : Int) g L)) := by
        intro hy
        by_cases hdg : aG c = true
        · have hcd := (bz c).1 hdg
          have e1 : decide (((c.toNat : Nat) : Int) ≥ 48) = true := decide_eq_true (by omega)
          have e2 : decide (((c.toNat : Nat) : Int) ≤ 57) = true := decide_eq_true (by omega)
          simp only [ah, d1, cond_true, w1, d2, cJ hc, ob, e1, e2, w2]
          cases L with
          | false => rfl
          | true =>
            by_cases hj0 : j = 0
            · subst hj0
              have hc48 : c ≠ 48 := by
                intro e
                exact h48 ⟨rfl, by rw [← e]; exact hc⟩
              have e3 : (((c.toNat : Nat) : Int) == 48) = false := by rw [A9]; exact beq_eq_false_iff_ne.2 hc48
              simp only [Nat.add_zero, BEq.rfl, cond_true, e3, cond_false]
            · have e4 : (((b + j : Nat) : Int) == (b : Int)) = false := beq_eq_false_iff_ne.2 (by omega)
              simp only [e4, cond_false, cond_true]
        · have hdf : aG c = false := by cases h : aG c with | false => rfl | true => exact absurd h hdg
          unfold isYB at hy
          rw [hdf] at hy
          simp only [Bool.false_or, Bool.and_eq_true, beq_iff_eq, Bool.not_eq_true'] at hy
          obtain ⟨rfl, rfl⟩ := hy
          have e1 : decide ((((88 : UInt8).toNat : Nat) : Int) ≥ 48) = true := rfl
          have e2 : decide ((((88 : UInt8).toNat : Nat) : Int) ≤ 57) = false := rfl
          have e3 : ((((88 : UInt8).toNat : Nat) : Int) == 88) = true := rfl
          simp only [ah, d1, cond_true, w1, d2, cJ hc, ob, e1, e2, e3, w2, cond_false, Bool.not_false]
      have stop : isYB L c = false → ah n (stR S ((b + j : Nat) : Int) (b : Int) (M : Int) g L) = some (.inr (.inr (S, ((b + j : Nat) : Int), (b : Int), false, false, [], 0, 0, g, L, [], 0, 0))) := by
        intro hy
        unfold isYB at hy
        simp only [Bool.or_eq_false_iff, Bool.and_eq_false_iff] at hy
        obtain ⟨hdf, hX⟩ := hy
        have hnd : ¬ (48 ≤ c.toNat ∧ c.toNat ≤ 57) := fun q => by rw [(bz c).2 q] at hdf; cases hdf
        have hx8 : (((c.toNat : Nat) : Int) == 88) = (c == 88) := jd c 88
        have fin : (cond (c == 88) (cond (!L) (0 : Nat) 1) 1) = 1 := by
          rcases hX with h | h
          · rw [h]; rfl
          · have : L = true := by simpa using h
            rw [this]; cases c == 88 <;> rfl
        by_cases h1 : c.toNat ≥ 48
        · have e1 : decide (((c.toNat : Nat) : Int) ≥ 48) = true := decide_eq_true (by omega)
          have e2 : decide (((c.toNat : Nat) : Int) ≤ 57) = false := decide_eq_false (by omega)
          simp only [ah, d1, cond_true, w1, d2, cJ hc, ob, e1, e2, cond_false, hx8]
          rcases hX with h | h
          · rw [h]; rfl
          · have : L = true := by simpa using h
            rw [this]; cases c == 88 <;> rfl
        · have e1 : decide (((c.toNat : Nat) : Int) ≥ 48) = false := decide_eq_false (by omega)
          simp only [ah, d1, cond_true, w1, d2, cJ hc, ob, e1, cond_false, hx8]
          rcases hX with h | h
          · rw [h]; rfl
          · have : L = true := by simpa using h
            rw [this]; cases c == 88 <;> rfl
      cases hy : isYB L c with
      | true =>
        refine .inl ⟨_, go hy, ⟨j + 1, by omega, rfl⟩, by simp only [Int.toNat_natCast]; omega, ?_⟩
        simp only [Int.toNat_natCast, if_true]
        have e5 : b + (j + 1) - b = j + 1 := by omega
        rw [e5, hq2, show b + (j + 1) = b + j + 1 by omega]
        have e6 : b + j + 1 + aW (isYB L) q (S.drop (b + j + 1)) = b + j + (aW (isYB L) q (S.drop (b + j + 1)) + 1) := by omega
        rw [e6]
      | false =>
        refine .inr ?_
        rw [stop hy]
        simp
    · have d2 : decide ((j : Int) < (M : Int)) = false := decide_eq_false (by omega)
      have hz : M - j = 0 := by omega
      refine .inr ?_
      rw [hz]
      simp only [ah, d1, cond_true, w1, d2, cond_false, aW, Nat.add_zero]
  · have d1 : decide (((b + j : Nat) : Int) < ((S.length : Nat) : Int)) = false := decide_eq_false (by omega)
    refine .inr ?_
    rw [List.drop_eq_nil_of_le hge]
    have hz : ∀ q, aW (isYB L) q [] = 0 := fun q => by cases q <;> rfl
    simp only [ah, d1, cond_false, hz, Nat.add_zero]
theorem wu (n : Nat) (S : List UInt8) (at_ : Nat) (h : at_ ≤ S.length) (hS : S.length < 100000) :
    aa n S (at_ : Int) 69 = some (match numS 69 (S.drop at_) with | .inl k => (-1, ((at_ + k : Nat) : Int)) | .inr (v, k) => ((v : Int), ((at_ + k : Nat) : Int))) := wA n 69 S at_ h hS
theorem rj (n : Nat) (S : List UInt8) (at_ : Nat) (h : at_ ≤ S.length) (hS : S.length < 100000) :
    aa n S (at_ : Int) 83 = some (match numS 83 (S.drop at_) with | .inl k => (-1, ((at_ + k : Nat) : Int)) | .inr (v, k) => ((v : Int), ((at_ + k : Nat) : Int))) := wA n 83 S at_ h hS
noncomputable def vo (n : Nat) (a0 : List UInt8) (B M : Int) (g L : Bool) : Option (Bool × Bool × List UInt8 × Int × Int × Int × Int) :=
  (ob (af (ah n) n (a0, B, B, M, false, false, [], 0, 0, g, L, [], 0, 0)) fun y559 => (Sum.casesOn (motive := fun _ => Option (Bool × Bool × List UInt8 × Int × Int × Int × Int)) y559 (fun a560 => (some (a560.2.2.1, a560.2.2.2.1, a560.2.2.2.2.1, a560.2.2.2.2.2.1, a560.2.2.2.2.2.2, a560.1, a560.2.1))) (fun b561 => (cond (decide ((IntKind.wrap .i64 (b561.2.1 - b561.2.2.1)) < 1)) (some (false, false, [], 0, 0, b561.2.1, 5)) (cond (!b561.2.2.2.2.2.2.2.2.2.1) (cond (decide ((IntKind.wrap .i64 (b561.2.1 - b561.2.2.1)) < 4)) (some (false, false, [], 0, 0, b561.2.1, 5)) (ob (bx (List.length b561.1) b561.2.1) fun j562 => (ob (bx j562 b561.2.2.1) fun j563 => (cond b561.2.2.2.2.2.2.2.2.2.1 (ob (aa n b561.1 b561.2.1 69) fun r571 => (cond (decide (r571.1 < 0)) (some (false, false, [], 0, 0, r571.2, 5)) (ob (aa n b561.1 r571.2 83) fun r572 => (cond (decide (r572.1 < 0)) (some (false, false, [], 0, 0, r572.2, 5)) (some (b561.2.2.2.2.2.2.2.2.1, b561.2.2.2.2.2.2.2.2.2.1, (List.drop j563 (List.take j562 b561.1)), r571.1, r572.1, r572.2, 0)))))) (ob (aa n b561.1 b561.2.1 83) fun r573 => (cond (decide (r573.1 < 0)) (some (false, false, [], 0, 0, r573.2, 5)) (some (b561.2.2.2.2.2.2.2.2.1, b561.2.2.2.2.2.2.2.2.2.1, (List.drop j563 (List.take j562 b561.1)), b561.2.2.2.2.2.2.2.2.2.2.2.1, r573.1, r573.2, 0)))))))) (ob (bx (List.length b561.1) b561.2.1) fun j574 => (ob (bx j574 b561.2.2.1) fun j575 => (cond b561.2.2.2.2.2.2.2.2.2.1 (ob (aa n b561.1 b561.2.1 69) fun r576 => (cond (decide (r576.1 < 0)) (some (false, false, [], 0, 0, r576.2, 5)) (ob (aa n b561.1 r576.2 83) fun r577 => (cond (decide (r577.1 < 0)) (some (false, false, [], 0, 0, r577.2, 5)) (some (b561.2.2.2.2.2.2.2.2.1, b561.2.2.2.2.2.2.2.2.2.1, (List.drop j575 (List.take j574 b561.1)), r576.1, r577.1, r577.2, 0)))))) (ob (aa n b561.1 b561.2.1 83) fun r578 => (cond (decide (r578.1 < 0)) (some (false, false, [], 0, 0, r578.2, 5)) (some (b561.2.2.2.2.2.2.2.2.1, b561.2.2.2.2.2.2.2.2.2.1, (List.drop j575 (List.take j574 b561.1)), b561.2.2.2.2.2.2.2.2.2.2.2.1, r578.1, r578.2, 0))))))))))))
theorem wl (c : UInt8) : isYB true c = aG c := by unfold isYB; cases aG c <;> simp
theorem uJ (c : UInt8) : isYB false c = isDX c := by unfold isYB isDX; simp
theorem jn (p : UInt8 → Bool) : ∀ (k : Nat) (l : List UInt8), aW p k l ≤ k
  | 0, l => by simp [aW]
  | k + 1, [] => by simp [aW]
  | k + 1, c :: l => by
    have := jn p k l
    simp only [aW]
    split <;> omega
theorem su : decide ((-1 : Int) < 0) = true := rfl
theorem sj (x : Nat) : decide (((x : Nat) : Int) < 0) = false := decide_eq_false (by omega)
theorem wM (n : Nat) (S : List UInt8) (at_ o : Nat) (g : Bool) (h : at_ + o ≤ S.length) (hS : S.length < 100000) (hn : S.length < n) :
    vo n S ((at_ + o : Nat) : Int) 17 g true = some (ie at_ (mb g o (S.drop (at_ + o)))) := by
  unfold vo
  cases hd : S.drop (at_ + o) with
  | nil =>
    have hnone : ¬ (true = true ∧ S[at_ + o]? = some 48) := by
      rintro ⟨_, q⟩
      rw [bg q] at hd
      cases hd
    have hl := pE n S (at_ + o) 17 g true h hS hn hnone
    rw [hd] at hl
    have hz : aW (isYB true) 17 [] = 0 := rfl
    rw [hz, Nat.add_zero] at hl
    have hl' : af (ah n) n (S, ((at_ + o : Nat) : Int), ((at_ + o : Nat) : Int), (17 : Int), false, false, [], 0, 0, g, true, [], 0, 0) = _ := hl
    rw [hl']
    have w : IntKind.wrap .i64 (((at_ + o : Nat) : Int) - ((at_ + o : Nat) : Int)) = 0 := by rw [Int.sub_self]; rfl
    simp only [ob, w, mb, ie]
    rfl
  | cons c r =>
    obtain ⟨hlt, hg, hr⟩ := gQ hd
    by_cases hc : c = 48
    · subst hc
      obtain ⟨n', rfl⟩ : ∃ q, n = q + 1 := ⟨n - 1, by omega⟩
      have hl := wG n' S (at_ + o) 17 g (by omega) hS hg
      have hl' : af (ah (n' + 1)) (n' + 1) (S, ((at_ + o : Nat) : Int), ((at_ + o : Nat) : Int), (17 : Int), false, false, [], 0, 0, g, true, [], 0, 0) = _ := hl
      rw [hl']
      have hno : ¬ (49 ≤ (48 : UInt8).toNat ∧ (48 : UInt8).toNat ≤ 57) := by decide
      simp only [ob, mb, ie]
      rw [if_neg hno]
    · have hno : ¬ (true = true ∧ S[at_ + o]? = some 48) := by
        rintro ⟨_, q⟩
        rw [hg] at q
        exact hc (by simpa using q)
      have hl := pE n S (at_ + o) 17 g true h hS hn hno
      rw [hd, eV wl] at hl
      have hk := gf aG 17 (c :: r)
      have hrl : (c :: r).length + (at_ + o) = S.length := by
        have := congrArg List.length hd
        rw [List.length_drop] at this
        omega
      have hl' : af (ah n) n (S, ((at_ + o : Nat) : Int), ((at_ + o : Nat) : Int), (17 : Int), false, false, [], 0, 0, g, true, [], 0, 0) = _ := hl
      rw [hl']
      have w : ∀ k : Nat, k ≤ 17 → IntKind.wrap .i64 (((at_ + o + k : Nat) : Int) - ((at_ + o : Nat) : Int)) = (k : Int) := by
        intro k hk17
        rw [wrap_i64 _ (by omega) (by omega)]; omega
      by_cases hdg : aG c = true
      · have hcd := (bz c).1 hdg
        have h49 : 49 ≤ c.toNat ∧ c.toNat ≤ 57 := by
          have : c.toNat ≠ 48 := fun e => hc (UInt8.toNat_inj.1 e)
          omega
        have hs17 : aW aG 17 (c :: r) = 1 + aW aG 16 r := by
          show aW aG (16 + 1) (c :: r) = _
          simp only [aW, hdg, if_true]
          omega
        rw [hs17] at hk ⊢
        have htop := jn aG 16 r
        simp only [mb]
        rw [if_pos h49]
        generalize aW aG 16 r = k at hk htop ⊢
        have d1 : decide (((1 + k : Nat) : Int) < 1) = false := decide_eq_false (by omega)
        simp only [ob, w (1 + k) (by omega), d1, cond_false, Bool.not_true, cond_true, eZ (show at_ + o + (1 + k) ≤ S.length by omega), eZ (show at_ + o ≤ at_ + o + (1 + k) by omega)]
        have hp1 : at_ + o + (1 + k) ≤ S.length := by omega
        have hdr : S.drop (at_ + o + (1 + k)) = List.drop (1 + k) (c :: r) := by rw [← hd, List.drop_drop]
        rw [wu n S (at_ + o + (1 + k)) hp1 hS, hdr, iG, hd]
        cases hq : numS 69 (List.drop (1 + k) (c :: r)) with
        | inl j =>
          simp only [su, cond_true, ie]
          have : at_ + o + (1 + k) + j = at_ + (o + (1 + k) + j) := by omega
          rw [this]
        | inr p =>
          obtain ⟨x, j⟩ := p
          have hj := hq
          rw [← hdr] at hj
          have hp2 := oL hp1 hj
          have hdr2 : S.drop (at_ + o + (1 + k) + j) = List.drop (1 + k + j) (c :: r) := by rw [← hd, List.drop_drop]; congr 1; omega
          simp only [sj, cond_false]
          rw [rj n S (at_ + o + (1 + k) + j) hp2 hS, hdr2]
          cases hq2 : numS 83 (List.drop (1 + k + j) (c :: r)) with
          | inl i =>
            simp only [su, cond_true, ie]
            have : at_ + o + (1 + k) + j + i = at_ + (o + (1 + k) + j + i) := by omega
            rw [this]
          | inr p2 =>
            obtain ⟨s, i⟩ := p2
            simp only [sj, cond_false, ie]
            have : at_ + o + (1 + k) + j + i = at_ + (o + (1 + k) + j + i) := by omega
            rw [this]
      · have hs17 : aW aG 17 (c :: r) = 0 := by
          show aW aG (16 + 1) (c :: r) = 0
          simp only [aW]
          rw [if_neg hdg]
        have h49 : ¬ (49 ≤ c.toNat ∧ c.toNat ≤ 57) := fun q => hdg ((bz c).2 (by omega))
        rw [hs17]
        simp only [mb]
        rw [if_neg h49]
        simp only [ob, w 0 (by omega), ie]
        rfl
theorem uv (n : Nat) (S : List UInt8) (at_ o : Nat) (g : Bool) (h : at_ + o ≤ S.length) (hS : S.length < 100000) (hn : S.length < n) :
    vo n S ((at_ + o : Nat) : Int) 4 g false = some (ie at_ (oi g o (S.drop (at_ + o)))) := by
  unfold vo
  have hl := pE n S (at_ + o) 4 g false h hS hn (by rintro ⟨q, _⟩; cases q)
  rw [eV uJ] at hl
  have hk := gf isDX 4 (S.drop (at_ + o))
  have htop := jn isDX 4 (S.drop (at_ + o))
  rw [List.length_drop] at hk
  have hl' : af (ah n) n (S, ((at_ + o : Nat) : Int), ((at_ + o : Nat) : Int), (4 : Int), false, false, [], 0, 0, g, false, [], 0, 0) = _ := hl
  rw [hl']
  unfold oi
  generalize hK : aW isDX 4 (S.drop (at_ + o)) = k at hk htop ⊢
  have w : IntKind.wrap .i64 (((at_ + o + k : Nat) : Int) - ((at_ + o : Nat) : Int)) = (k : Int) := by rw [wrap_i64 _ (by omega) (by omega)]; omega
  simp only [ob, w, Bool.not_false, cond_true, cond_false]
  by_cases h4 : k < 4
  · rw [if_pos h4]
    have e1 : decide ((k : Int) < 4) = true := decide_eq_true (by omega)
    rw [e1]
    have e2 : at_ + o + k = at_ + (o + k) := by omega
    simp only [cond_true, ie, e2]
    cases decide ((k : Int) < 1) <;> rfl
  · rw [if_neg h4]
    have hk4 : k = 4 := by omega
    subst hk4
    have e1 : decide (((4 : Nat) : Int) < 4) = false := rfl
    have e2 : decide (((4 : Nat) : Int) < 1) = false := rfl
    have hp : at_ + o + 4 ≤ S.length := by omega
    simp only [e1, e2, cond_false, eZ hp, eZ (show at_ + o ≤ at_ + o + 4 by omega)]
    rw [rj n S (at_ + o + 4) hp hS, iG, List.drop_drop]
    cases hq : numS 83 (S.drop (at_ + o + 4)) with
    | inl i =>
      simp only [su, cond_true, ie]
      have : at_ + o + 4 + i = at_ + (o + 4 + i) := by omega
      rw [this]
    | inr p =>
      obtain ⟨s, i⟩ := p
      simp only [sj, cond_false, ie]
      have : at_ + o + 4 + i = at_ + (o + 4 + i) := by omega
      rw [this]
      rfl
theorem ig (c a : UInt8) (l : List UInt8) : cY c (a :: l) = if a = c then 1 else 0 := by
  unfold cY; simp
theorem nO (c : UInt8) : cY c [] = 0 := by unfold cY; simp
theorem ye (n : Nat) (S : List UInt8) (at_ : Nat) (h : at_ ≤ S.length) (hS : S.length < 100000) (hn : S.length < n) :
    fB n S (at_ : Int) = some (ie at_ (kS (S.drop at_))) := by
  have tl := fun o g q => wM n S at_ o g q hS hn
  have ts := fun o g q => uv n S at_ o g q hS hn
  unfold vo at tl ts
  have w1 : IntKind.wrap .i64 ((at_ : Int) + 1) = ((at_ + 1 : Nat) : Int) := by rw [wrap_i64 _ (by omega) (by omega)]; omega
  have w2 : IntKind.wrap .i64 (((at_ + 1 : Nat) : Int) + 1) = ((at_ + 2 : Nat) : Int) := by rw [wrap_i64 _ (by omega) (by omega)]; omega
  unfold fB kS
  rw [w1, w2]
  have t0 := ts 0 false (by omega)
  simp only [Nat.add_zero] at t0
  cases hd : S.drop at_ with
  | nil =>
    have hge : ¬ at_ < S.length := by
      intro q
      rw [bg (List.getElem?_eq_getElem q)] at hd; cases hd
    rw [cK, decide_eq_false hge, cond_false, cond_false, t0, hd]
    rfl
  | cons c r =>
    obtain ⟨hlt, hg, hr⟩ := gQ hd
    have hc89 : (((c.toNat : Nat) : Int) == 89) = (c == 89) := jd c 89
    have hc45 : (((c.toNat : Nat) : Int) == 45) = (c == 45) := jd c 45
    rw [cK, decide_eq_true hlt, cond_true, cJ hg]
    simp only [ob]
    rw [hc89, hc45, ig]
    by_cases h89 : c = 89
    · have e : (c == 89) = true := beq_iff_eq.2 h89
      rw [e, cond_true, if_pos h89, if_pos rfl, cK]
      have hdd : List.drop 1 (c :: r) = r := rfl
      rw [hdd]
      have t1 := tl 1 false (by omega)
      cases hr' : r with
      | nil =>
        rw [hr'] at hr
        have hge : ¬ at_ + 1 < S.length := by
          intro q
          rw [bg (List.getElem?_eq_getElem q)] at hr; cases hr
        simp only [ob] at t1
        rw [decide_eq_false hge, cond_false, t1, hr, nO]
        rfl
      | cons d r2 =>
        rw [hr'] at hr
        obtain ⟨hlt2, hg2, hr2⟩ := gQ hr
        have hd45 : (((d.toNat : Nat) : Int) == 45) = (d == 45) := jd d 45
        rw [decide_eq_true hlt2, cond_true, cJ hg2]
        simp only []
        rw [hd45, ig]
        by_cases h45 : d = 45
        · have e2 : (d == 45) = true := beq_iff_eq.2 h45
          have t2 := tl 2 true (by omega)
          simp only [ob] at t2
          rw [e2, cond_true, if_pos h45, t2]
          rw [show at_ + 2 = at_ + 1 + 1 from rfl, hr2]
          rfl
        · have e2 : (d == 45) = false := beq_eq_false_iff_ne.2 h45
          simp only [ob] at t1
          rw [e2, cond_false, if_neg h45, t1, hr]
          rfl
    · have e : (c == 89) = false := beq_eq_false_iff_ne.2 h89
      rw [e, cond_false, if_neg h89, if_neg (by decide), ig]
      by_cases h45 : c = 45
      · have e2 : (c == 45) = true := beq_iff_eq.2 h45
        have t2 := ts 1 true (by omega)
        simp only [ob] at t2
        rw [e2, if_pos h45]
        simp only [cond_true]
        rw [t2, hr]
        rfl
      · have e2 : (c == 45) = false := beq_eq_false_iff_ne.2 h45
        simp only [ob] at t0
        rw [e2, if_neg h45]
        simp only [cond_false]
        rw [t0, hd]
        rfl
def wint (c : Int) : Bool := c == 24 || c == 28 || c == 30
def l8 (g : Bool) (d : List UInt8) (x : Int) : Bool := !hasX d && !g && decide (val d x.toNat = E16)
def yrB (g : Bool) (d : List UInt8) (x s : Int) (m : List UInt8) : Bool := !(decide (0 < s) && !(m == [])) && !(wint (sea m) && l8 g d x)
theorem rk (n : Nat) (hn : 200 < n) (g l : Bool) (dg : List UInt8) (x q : Int) (m d : List UInt8) (k0 k1 k2 : Int) (hm : m.length ≤ 18) (hd : dg.length ≤ 100) :
    cF n g l dg x q m d k0 k1 k2 = some (if okY g l dg x q then yrB g dg x q m else false) := by
  unfold cF
  rw [tN n g l dg x q hn hd, nA n g l dg x q m d k0 k1 k2 hm, jw, uf n g l dg x q hn hd]
  by_cases h : okY g l dg x q
  rotate_left
  · rw [if_neg h, if_neg h]; rfl
  rw [if_pos h, if_pos h]
  have body : (ob (some (sea m, decide (0 < sea m))) fun r => (cond (!r.2) (some true) (ob (some (hasX dg)) fun r1 => (cond r1 (some true) (ob (some (if okY g l dg x q ∧ hasX dg = false then (if g then -((val dg x.toNat : Nat) : Int) else ((val dg x.toNat : Nat) : Int), (0 : Int)) else (0, 6))) fun r2 => (ob (fW n r2.1 r.1) fun r3 => (some (r3.2.2.2.2 == 0)))))))) = some (!(wint (sea m) && l8 g dg x)) := by
    rcases jE m with h0 | ⟨j, hj, rfl⟩
    · rw [h0]; rfl
    · have hs := mI hj
      rw [hs]
      have hp : decide (0 < ((21 + j : Nat) : Int)) = true := by simp; omega
      rw [hp]
      cases hX : hasX dg with
      | true =>
        have : l8 g dg x = false := by unfold l8; rw [hX]; rfl
        rw [this, Bool.and_false]
        rfl
      | false =>
        rw [if_pos ⟨h, rfl⟩]
        obtain ⟨k, q', rfl, rfl, hN⟩ := l4 h hX
        have hv : val dg k ≤ E16 := hN.small
        unfold E16 at hv
        have hc : dl (if g then -((val dg k : Nat) : Int) else ((val dg k : Nat) : Int)) := by
          unfold dl
          cases g <;> simp <;> omega
        obtain ⟨a, b, c, e, hr⟩ := B7 n (by omega) hc hj
        simp only [ob, Bool.not_true, cond_false, Int.toNat_natCast]
        rw [hr]
        simp only [Option.some.injEq]
        have hw : wint ((21 + j : Nat) : Int) = decide (j = 3 ∨ j = 7 ∨ j = 9) := by
          unfold wint
          rw [Bool.eq_iff_iff]
          simp only [Bool.or_eq_true, beq_iff_eq, decide_eq_true_eq]
          omega
        have hl : l8 g dg (k : Int) = decide ((if g then -((val dg k : Nat) : Int) else ((val dg k : Nat) : Int)) = 10000000000000000) := by
          unfold l8 E16
          rw [hX, Int.toNat_natCast]
          cases g
          · simp only [Bool.not_false, Bool.true_and, Bool.false_eq_true, if_false, decide_eq_decide]
            omega
          · simp
            omega
        rw [hw, hl]
        by_cases h1 : (if g then -((val dg k : Nat) : Int) else ((val dg k : Nat) : Int)) = 10000000000000000 <;> by_cases h2 : j = 3 ∨ j = 7 ∨ j = 9
        · rw [if_pos ⟨h1, h2⟩, decide_eq_true h1, decide_eq_true h2]; rfl
        · rw [if_neg (fun z => h2 z.2), decide_eq_false h2]; rfl
        · rw [if_neg (fun z => h1 z.1), decide_eq_false h1, Bool.and_false]; rfl
        · rw [if_neg (fun z => h1 z.1), decide_eq_false h1, Bool.and_false]; rfl
  show cond (decide (q > 0)) (cond (!(m == [])) (some false) _) _ = _
  unfold yrB
  rw [show (decide (q > 0)) = decide (0 < q) from rfl]
  cases decide (0 < q) with
  | false => exact body
  | true =>
    cases (m == []) with
    | false => rfl
    | true => exact body
theorem y8 (n : Nat) (hn : 200 < n) (g l : Bool) (dg : List UInt8) (x q : Int) (m d : List UInt8) (k0 k1 k2 : Int) (hd : dg.length ≤ 100) :
    dZ n g l dg x q m d k0 k1 k2 = some (if okY g l dg x q ∧ yrB g dg x q m = true then 1 else 0) := by
  unfold dZ
  rw [vp n g l dg x q hn hd, ly n (by omega) g l dg x q m d k0 k1 k2, iv n g l dg x q (by omega) (by omega)]
  by_cases h : okY g l dg x q
  rotate_left
  · rw [if_neg h, if_neg (show ¬ (okY g l dg x q ∧ yrB g dg x q m = true) from fun z => h z.1)]; rfl
  rw [if_pos h]
  have T : (ob (some (if hasX dg then (1 : Int) else 0)) fun r => (cond (r == 1) (some (1 : Int)) (ob (ab n dg x) fun v => (cond (v.1 == 10000000000000000) (cond (!g) (some 0) (some 1)) (some 1))))) = some (if l8 g dg x then 0 else 1) := by
    cases hX : hasX dg with
    | true =>
      have : l8 g dg x = false := by unfold l8; rw [hX]; rfl
      rw [this]
      rfl
    | false =>
      obtain ⟨k, q', rfl, rfl, hN⟩ := l4 h hX
      have hv := hN.small
      have hw := hN.wide
      have hr := eX n dg k hN.dig (by omega) (by omega) (by omega)
      rw [if_pos hv] at hr
      show ob (ab n dg (k : Int)) _ = _
      rw [hr]
      show cond (((dval 0 dg * 10 ^ k : Nat) : Int) == 10000000000000000) _ _ = _
      unfold l8 val
      rw [hX, Int.toNat_natCast]
      have e : (((dval 0 dg * 10 ^ k : Nat) : Int) == 10000000000000000) = decide (dval 0 dg * 10 ^ k = E16) := by
        generalize dval 0 dg * 10 ^ k = v
        unfold E16
        rw [Bool.eq_iff_iff]
        simp only [beq_iff_eq, decide_eq_true_eq]
        omega
      rw [e]
      cases decide (dval 0 dg * 10 ^ k = E16) <;> cases g <;> rfl
  have body : (ob (some (sea m)) fun r => (cond (r != 24) (cond (r != 28) (cond (r != 30) (some (1 : Int)) (ob (some (if hasX dg then (1 : Int) else 0)) fun r => (cond (r == 1) (some (1 : Int)) (ob (ab n dg x) fun v => (cond (v.1 == 10000000000000000) (cond (!g) (some 0) (some 1)) (some 1)))))) (ob (some (if hasX dg then (1 : Int) else 0)) fun r => (cond (r == 1) (some (1 : Int)) (ob (ab n dg x) fun v => (cond (v.1 == 10000000000000000) (cond (!g) (some 0) (some 1)) (some 1)))))) (ob (some (if hasX dg then (1 : Int) else 0)) fun r => (cond (r == 1) (some (1 : Int)) (ob (ab n dg x) fun v => (cond (v.1 == 10000000000000000) (cond (!g) (some 0) (some 1)) (some 1))))))) = some (if (!(wint (sea m) && l8 g dg x)) = true then 1 else 0) := by
    rw [T]
    show cond (sea m != 24) _ _ = _
    unfold wint
    simp only [bne]
    cases (sea m == 24) <;> cases (sea m == 28) <;> cases (sea m == 30) <;> cases l8 g dg x <;> rfl
  unfold yrB
  show cond (decide (q > 0)) (cond (!(m == [])) (some 0) _) _ = _
  rw [show (decide (q > 0)) = decide (0 < q) from rfl]
  simp only [h, true_and]
  cases decide (0 < q) with
  | false => exact body
  | true =>
    cases (m == []) with
    | false => rfl
    | true => exact body
def je (m d : List UInt8) : Nat := 1 + (if m == [] then 0 else 1) + (if d == [] then 0 else 1)
theorem pI (n : Nat) (hn : 100 < n) (g l : Bool) (dg : List UInt8) (x q : Int) (m d : List UInt8) (k0 k1 k2 : Int) : aI n g l dg x q m d k0 k1 k2 = some ((je m d : Nat) : Int) := by
  obtain ⟨n, rfl⟩ : ∃ j, n = j + 3 := ⟨n - 3, by omega⟩
  unfold aI je
  have s0 : ∀ a : Int, aO (n + 3) (a, m, d, 0) = some (.inl (if m == [] then a else IntKind.wrap .i64 (a + 1), m, d, 1)) := fun a => by
    unfold aO
    show cond (!(m == [])) _ _ = _
    cases (m == []) <;> rfl
  have s1 : ∀ a : Int, aO (n + 3) (a, m, d, 1) = some (.inl (if d == [] then a else IntKind.wrap .i64 (a + 1), m, d, 2)) := fun a => by
    unfold aO
    show cond (!(d == [])) _ _ = _
    cases (d == []) <;> rfl
  have s2 : ∀ a : Int, aO (n + 3) (a, m, d, 2) = some (.inr a) := fun a => rfl
  rw [af, s0]
  show ob (af _ (n + 2) _) _ = _
  rw [af, s1]
  show ob (af _ (n + 1) _) _ = _
  rw [af, s2]
  cases (m == []) <;> cases (d == []) <;> rfl
theorem n8 (n : Nat) (g l : Bool) (dg : List UInt8) (x q : Int) (m d : List UInt8) (k0 k1 k2 : Int) : aF n g l dg x q m d k0 k1 k2 = some ((je m d : Nat) : Int) := by
  unfold aF je
  cases (m == []) <;> cases (d == []) <;> rfl
def allM (a b c : Int) (k : Nat) : Int := if 3 < a ∨ 3 < b ∨ 3 < c ∨ (k < 2 ∧ b ≠ 0) ∨ (k < 3 ∧ c ≠ 0) then 9 else 0
theorem sV (n : Nat) (hn : 3 < n) (a b c : Int) (k : Nat) (hk : 1 ≤ k ∧ k ≤ 3) (ha : 0 ≤ a) (hb : 0 ≤ b) (hc : 0 ≤ c) :
    bQ n [a, b, c] (k : Int) = some (allM a b c k) ∧ aM n [a, b, c] (k : Int) = some (allM a b c k) := by
  obtain ⟨j, rfl⟩ : ∃ j, n = j + 4 := ⟨n - 4, by omega⟩
  have w1 : IntKind.wrap .i64 1 = 1 := rfl
  have w2 : IntKind.wrap .i64 2 = 2 := rfl
  have w3 : IntKind.wrap .i64 3 = 3 := rfl
  have i0 : ix 3 0 = some 0 := rfl
  have i1 : ix 3 1 = some 1 := rfl
  have i2 : ix 3 2 = some 2 := rfl
  have hk' : k = 1 ∨ k = 2 ∨ k = 3 := by omega
  unfold allM
  by_cases cx : a > 3
  · rcases hk' with rfl | rfl | rfl <;> constructor <;> simp [aM, bQ, af, bA, dn, d9, ob, w1, w2, w3, i0, i1, i2, cx]
  by_cases cy : b > 3
  · rcases hk' with rfl | rfl | rfl <;> constructor <;> simp [aM, bQ, af, bA, dn, d9, ob, w1, w2, w3, i0, i1, i2, cx, cy]
  by_cases dy : k = 1 ∧ b ≠ 0
  · obtain ⟨rfl, dy⟩ := dy
    have h0 : b > 0 := by omega
    have eb : (b != 0) = true := by simp [dy]
    constructor <;> simp [aM, bQ, af, bA, dn, d9, ob, w1, w2, w3, i0, i1, i2, cx, cy, h0, dy, eb]
  by_cases cz : c > 3
  · rcases hk' with rfl | rfl | rfl <;> (try (simp at dy; subst dy)) <;> constructor <;> simp [aM, bQ, af, bA, dn, d9, ob, w1, w2, w3, i0, i1, i2, cx, cy, cz]
  by_cases dz : k < 3 ∧ c ≠ 0
  · have h0 : c > 0 := by omega
    have eb : (c != 0) = true := by simp [dz.2]
    rcases hk' with rfl | rfl | rfl <;> (try (simp at dy; subst dy)) <;> simp at dz <;> constructor <;> simp [aM, bQ, af, bA, dn, d9, ob, w1, w2, w3, i0, i1, i2, cx, cy, cz, h0, dz, eb]
  rcases hk' with rfl | rfl | rfl <;> (try (simp at dy; subst dy)) <;> (try (simp at dz; subst dz)) <;> constructor <;> simp [aM, bQ, af, bA, dn, d9, ob, w1, w2, w3, i0, i1, i2, cx, cy, cz]
theorem qw (m d : List UInt8) : 1 ≤ je m d ∧ je m d ≤ 3 := by
  unfold je
  cases (m == []) <;> cases (d == []) <;> simp
def yrD (g l : Bool) (dg : List UInt8) (x q : Int) (m : List UInt8) : Bool := if okY g l dg x q then yrB g dg x q m else false
def chkD (g l : Bool) (dg : List UInt8) (x q : Int) (m d : List UInt8) (k0 k1 k2 : Int) : Int :=
  cond (!(yrD g l dg x q m)) 6 (cond (!(m == []) && (!(decide (0 < sea m)) && !(dp m 12))) 7
    (cond (!(d == []) && ((m == []) || (decide (0 < sea m) || !(dp d 31)))) 8 (allM k0 k1 k2 (je m d))))
theorem zL (m : List UInt8) : 0 ≤ sea m := by
  rcases jE m with h | ⟨j, hj, rfl⟩
  · omega
  · rw [mI hj]; omega
theorem Bi (m : List UInt8) : (sea m == 0) = !(decide (0 < sea m)) := by
  have := zL m
  by_cases h : sea m = 0
  · rw [h]; rfl
  · have h2 : 0 < sea m := by omega
    rw [beq_eq_false_iff_ne.2 h, decide_eq_true h2]; rfl
theorem tM (n : Nat) (hn : 200 < n) (g l : Bool) (dg : List UInt8) (x q : Int) (m d : List UInt8) (k0 k1 k2 : Int) (hm : m.length ≤ 18) (hd : dg.length ≤ 100) (h0 : 0 ≤ k0) (h1 : 0 ≤ k1) (h2 : 0 ≤ k2) :
    dQ n g l dg x q m d k0 k1 k2 = some (chkD g l dg x q m d k0 k1 k2) := by
  have hy : cF n g l dg x q m d k0 k1 k2 = some (yrD g l dg x q m) := rk n hn g l dg x q m d k0 k1 k2 hm hd
  have a1 : bq n m 12 = some (dp m 12) := qL n (by omega) m 12 (by omega)
  have a2 : bq n d 31 = some (dp d 31) := qL n (by omega) d 31 (by omega)
  have ha := (sV n (by omega) k0 k1 k2 (je m d) (qw m d) h0 h1 h2).1
  unfold dQ chkD
  rw [nA n g l dg x q m d k0 k1 k2 hm, hy, a1, a2, pI n (by omega)]
  simp only [ob]
  rw [ha]
  generalize yrD g l dg x q m = b1
  generalize (m == []) = b2
  generalize decide (0 < sea m) = b3
  generalize dp m 12 = b4
  generalize (d == []) = b5
  generalize dp d 31 = b6
  cases b1 <;> cases b2 <;> cases b3 <;> cases b4 <;> cases b5 <;> cases b6 <;> rfl
theorem m5 (n : Nat) (hn : 200 < n) (g l : Bool) (dg : List UInt8) (x q : Int) (m d : List UInt8) (k0 k1 k2 : Int) (hd : dg.length ≤ 100) (h0 : 0 ≤ k0) (h1 : 0 ≤ k1) (h2 : 0 ≤ k2) :
    dE n g l dg x q m d k0 k1 k2 = some (chkD g l dg x q m d k0 k1 k2) := by
  have hy : dZ n g l dg x q m d k0 k1 k2 = some (if yrD g l dg x q m then 1 else 0) := by
    rw [y8 n hn g l dg x q m d k0 k1 k2 hd]
    unfold yrD
    by_cases h : okY g l dg x q
    · simp only [h, true_and, if_true]
    · simp only [h, false_and, if_false]; rfl
  have a1 : bJ n m 12 = some (if dp m 12 then 1 else 0) := tg n (by omega) m 12 (by omega)
  have a2 : bJ n d 31 = some (if dp d 31 then 1 else 0) := tg n (by omega) d 31 (by omega)
  have ha := (sV n (by omega) k0 k1 k2 (je m d) (qw m d) h0 h1 h2).2
  unfold dE chkD
  rw [ly n (by omega) g l dg x q m d k0 k1 k2, hy, a1, a2, n8 n]
  simp only [ob]
  rw [ha, Bi]
  show cond ((if yrD g l dg x q m then (1 : Int) else 0) == 0) _ (cond _ (cond _ (cond _ _ (cond _ (cond _ _ (cond (decide (0 < sea m)) _ _)) _)) (cond _ (cond _ _ (cond (decide (0 < sea m)) _ _)) _)) (cond _ (cond _ _ (cond (decide (0 < sea m)) _ _)) _)) = _
  generalize yrD g l dg x q m = b1
  generalize (m == []) = b2
  generalize decide (0 < sea m) = b3
  generalize dp m 12 = b4
  generalize (d == []) = b5
  generalize dp d 31 = b6
  cases b1 <;> cases b2 <;> cases b3 <;> cases b4 <;> cases b5 <;> cases b6 <;> rfl
theorem zQ {g l : Bool} {dg : List UInt8} {x q : Int} {m d : List UInt8} {k0 k1 k2 : Int} (h : chkD g l dg x q m d k0 k1 k2 = 0) : yrD g l dg x q m = true ∧ (m = [] ∨ 0 < sea m ∨ dp m 12 = true) ∧ (d = [] ∨ (m ≠ [] ∧ sea m = 0 ∧ dp d 31 = true)) ∧ allM k0 k1 k2 (je m d) = 0 := by
  have hs := zL m
  unfold chkD at h
  cases b1 : yrD g l dg x q m with
  | false => rw [b1] at h; exact absurd h (by simp)
  | true =>
    rw [b1] at h
    simp only [Bool.not_true, cond_false] at h
    cases b2 : (!(m == []) && (!(decide (0 < sea m)) && !(dp m 12))) with
    | true => rw [b2] at h; exact absurd h (by simp)
    | false =>
      rw [b2] at h
      simp only [cond_false] at h
      cases b3 : (!(d == []) && ((m == []) || (decide (0 < sea m) || !(dp d 31)))) with
      | true => rw [b3] at h; exact absurd h (by simp)
      | false =>
        rw [b3] at h
        simp only [cond_false] at h
        refine ⟨rfl, ?_, ?_, h⟩
        · by_cases h1 : m = []
          · exact .inl h1
          · by_cases h2 : 0 < sea m
            · exact .inr (.inl h2)
            · simp [h1, h2] at b2
              exact .inr (.inr b2)
        · by_cases h1 : d = []
          · exact .inl h1
          · by_cases h2 : m = []
            · simp [h1, h2] at b3
            · by_cases h3 : 0 < sea m
              · simp [h1, h2, h3] at b3
              · simp [h1, h2, h3] at b3
                exact .inr ⟨h2, by omega, b3⟩
theorem oQ {s : List UInt8} {g : Nat} (hg : g ≤ 31) (h : dp s g = true) : s.length = 2 ∧ ∀ c ∈ s, isDX c = true := by
  unfold dp at h
  obtain ⟨i, hm, hi⟩ := List.any_eq_true.1 h
  have hi31 : i < g := List.mem_range.1 hm
  have dig : ∀ k : Nat, k < 10 → isDX (UInt8.ofNat (48 + k)) = true := by decide
  have h88 : isDX 88 = true := by decide
  match s, hi with
  | [], hi => simp [agr] at hi
  | [_], hi => simp [agr] at hi
  | [a, b], hi =>
    refine ⟨rfl, ?_⟩
    simp only [agr, Bool.and_eq_true, Bool.or_eq_true, beq_iff_eq] at hi
    obtain ⟨ha, hb⟩ := hi
    intro c hc
    simp only [List.mem_cons, List.not_mem_nil, or_false] at hc
    rcases hc with rfl | rfl
    · rcases ha with rfl | rfl
      · exact h88
      · exact dig _ (by omega)
    · rcases hb with rfl | rfl
      · exact h88
      · exact dig _ (by omega)
  | _ :: _ :: _ :: _, hi => simp [agr] at hi
theorem Bq {m : List UInt8} (h : 0 < sea m) : m.length = 2 ∧ ∀ c ∈ m, isDX c = true := by
  rcases jE m with h0 | ⟨j, hj, rfl⟩
  · omega
  · refine ⟨rfl, ?_⟩
    have : ((List.range 21).all fun j => (two (21 + j)).all isDX) = true := by decide +kernel
    have := (List.all_eq_true.1 this) j (by simpa using hj)
    exact List.all_eq_true.1 this
def mkOf (c : UInt8) : Nat := if c = 63 then 1 else if c = 126 then 2 else if c = 37 then 3 else 0
def l3 (p : Nat × Nat × Nat) : List Int := [(p.1 : Int), (p.2.1 : Int), (p.2.2 : Int)]
def spM (A B : Nat × Nat × Nat) : Nat × Nat × Nat := (A.1 ||| B.1 ||| B.2.1 ||| B.2.2, A.2.1 ||| B.2.1 ||| B.2.2, A.2.2 ||| B.2.2)
noncomputable def CE (m j : Nat) : Bool :=
  (iW (m + 300) (j : Int) == some (((mkOf (UInt8.ofNat j) : Nat) : Int), decide (0 < mkOf (UInt8.ofNat j)))) && (ft (m + 300) (j : Int) == some ((mkOf (UInt8.ofNat j) : Nat) : Int))
theorem xO (m : Nat) : (List.range 256).all (CE m) = true := by kernel_rfl
theorem vD (m : Nat) (c : UInt8) : iW (m + 300) ((c.toNat : Nat) : Int) = some (((mkOf c : Nat) : Int), decide (0 < mkOf c)) ∧ ft (m + 300) ((c.toNat : Nat) : Int) = some ((mkOf c : Nat) : Int) := by
  have h := (List.all_eq_true.1 (xO m)) c.toNat (List.mem_range.2 c.toNat_lt)
  unfold CE at h
  rw [show UInt8.ofNat c.toNat = c by simp] at h
  simp only [Bool.and_eq_true, beq_iff_eq] at h
  exact h
theorem r4 {p : Nat → Bool} (h : (List.range 4).all p = true) {a : Nat} (ha : a < 4) : p a = true := (List.all_eq_true.1 h) a (List.mem_range.2 ha)
def inM (k : Nat) (A : Nat × Nat × Nat) : Prop := A.1 < 4 ∧ A.2.1 < 4 ∧ A.2.2 < 4 ∧ (k < 2 → A.2.1 = 0) ∧ (k < 3 → A.2.2 = 0)
theorem jk {k : Nat} {A : Nat × Nat × Nat} (h : inM k A) : allM (A.1 : Int) (A.2.1 : Int) (A.2.2 : Int) k = 0 := by
  obtain ⟨h0, h1, h2, h3, h4⟩ := h
  unfold allM
  rw [if_neg (by omega)]
theorem or4 {a b : Nat} (ha : a < 4) (hb : b < 4) : bits .or .u8 (a : Int) (b : Int) = ((a ||| b : Nat) : Int) ∧ a ||| b < 4 := by
  have : ((List.range 4).all fun a => (List.range 4).all fun b => bits .or .u8 (a : Int) (b : Int) == ((a ||| b : Nat) : Int) && decide (a ||| b < 4)) = true := by decide +kernel
  have := r4 (r4 this ha) hb
  simpa using this
theorem m4 (n : Nat) (hn : 9 < n) (k : Nat) (A B : Nat × Nat × Nat) (hk : 1 ≤ k ∧ k ≤ 3) (hA : inM k A) (hB : inM k B) : bZ n (l3 A) (l3 B) (k : Int) = some (l3 (spM A B), 0) := by
  obtain ⟨n, rfl⟩ : ∃ j, n = j + 5 := ⟨n - 5, by omega⟩
  have eA := (sV (n + 5) (by omega) (A.1 : Int) (A.2.1 : Int) (A.2.2 : Int) k hk (by omega) (by omega) (by omega)).1
  have eB := (sV (n + 5) (by omega) (B.1 : Int) (B.2.1 : Int) (B.2.2 : Int) k hk (by omega) (by omega) (by omega)).1
  rw [jk hA] at eA
  rw [jk hB] at eB
  have h0 : ∀ x : Nat, x < 4 → bits .or .u8 0 (x : Int) = (x : Int) := fun x hx => by
    have := (or4 (show 0 < 4 by omega) hx).1
    simpa using this
  have oo : ∀ x y : Nat, x < 4 → y < 4 → bits .or .u8 (x : Int) (y : Int) = ((x ||| y : Nat) : Int) := fun x y hx hy => (or4 hx hy).1
  have ol : ∀ x y : Nat, x < 4 → y < 4 → x ||| y < 4 := fun x y hx hy => (or4 hx hy).2
  unfold bZ
  show ob (bQ (n + 5) [(A.1 : Int), (A.2.1 : Int), (A.2.2 : Int)] (k : Int)) _ = _
  rw [eA]
  show ob (bQ (n + 5) [(B.1 : Int), (B.2.1 : Int), (B.2.2 : Int)] (k : Int)) _ = _
  rw [eB]
  obtain ⟨a0, a1, a2⟩ := A
  obtain ⟨b0, b1, b2⟩ := B
  obtain ⟨g0, g1, g2, g3, g4⟩ := hA
  obtain ⟨f0, f1, f2, f3, f4⟩ := hB
  simp only at g0 g1 g2 g3 g4 f0 f1 f2 f3 f4
  have hk' : k = 1 ∨ k = 2 ∨ k = 3 := by omega
  rcases hk' with rfl | rfl | rfl
  · obtain rfl := g3 (by omega)
    obtain rfl := g4 (by omega)
    obtain rfl := f3 (by omega)
    obtain rfl := f4 (by omega)
    show some (([bits .or .u8 (a0 : Int) (bits .or .u8 0 (b0 : Int)), 0, 0] : List Int), (0 : Int)) = _
    rw [h0 b0 f0, oo _ _ g0 f0]
    simp [l3, spM]
  · obtain rfl := g4 (by omega)
    obtain rfl := f4 (by omega)
    show some (([bits .or .u8 (a0 : Int) (bits .or .u8 (bits .or .u8 0 (b1 : Int)) (b0 : Int)), bits .or .u8 (a1 : Int) (bits .or .u8 0 (b1 : Int)), 0] : List Int), (0 : Int)) = _
    rw [h0 b1 f1, oo _ _ f1 f0, oo _ _ g0 (ol _ _ f1 f0), oo _ _ g1 f1]
    simp [l3, spM, Nat.or_assoc, Nat.or_comm b1 b0]
  · show some (([bits .or .u8 (a0 : Int) (bits .or .u8 (bits .or .u8 (bits .or .u8 0 (b2 : Int)) (b1 : Int)) (b0 : Int)), bits .or .u8 (a1 : Int) (bits .or .u8 (bits .or .u8 0 (b2 : Int)) (b1 : Int)), bits .or .u8 (a2 : Int) (bits .or .u8 0 (b2 : Int))] : List Int), (0 : Int)) = _
    rw [h0 b2 f2, oo _ _ f2 f1, oo _ _ (ol _ _ f2 f1) f0, oo _ _ g0 (ol _ _ (ol _ _ f2 f1) f0), oo _ _ g1 (ol _ _ f2 f1), oo _ _ g2 f2]
    have e1 : a0 ||| (b2 ||| b1 ||| b0) = a0 ||| b0 ||| b1 ||| b2 := by rw [Nat.or_comm (b2 ||| b1) b0, Nat.or_comm b2 b1]; simp only [Nat.or_assoc]
    have e2 : a1 ||| (b2 ||| b1) = a1 ||| b1 ||| b2 := by rw [Nat.or_comm b2 b1]; simp only [Nat.or_assoc]
    rw [e1, e2]
    rfl
abbrev cI (x : Nat) : Int := (x : Int)
def bt (b a : Nat) : Nat := if b = 1 then a % 2 else a / 2 % 2
theorem zJ (n : Nat) {a b : Nat} (ha : a < 4) (hb : b = 1 ∨ b = 2) : dL n (a : Int) (b : Int) = some ((bt b a : Nat) : Int) := by
  have h : a = 0 ∨ a = 1 ∨ a = 2 ∨ a = 3 := by omega
  rcases h with rfl | rfl | rfl | rfl <;> rcases hb with rfl | rfl <;> rfl
theorem Bd (b a : Nat) : bt b a ≤ 1 := by unfold bt; split <;> omega
def bts (b : Nat) : List Nat → Nat
  | [] => 0
  | x :: l => bt b x + bts b l
theorem C8 (n k b i : Nat) (hb : b = 1 ∨ b = 2) (hk : k ≤ 3) (A X Y : List Int) (bl : List Nat) (hl : bl.length = 3) (h4 : ∀ x ∈ bl, x < 4) : ∀ (r j acc : Nat), j + r = k → acc ≤ j + 1 → ∀ N, r < N →
    af (aT n) N ((k : Int), (b : Int), (i : Int), (acc : Int), (j : Int), A, bl.map cI, X, Y) = some ((k : Int), (b : Int), (i : Int), ((acc + bts b ((bl.take k).drop j) : Nat) : Int), A, bl.map cI, X, Y) := by
  intro r
  induction r with
  | zero =>
    intro j acc hj hacc N hN
    obtain ⟨N, rfl⟩ : ∃ k, N = k + 1 := ⟨N - 1, by omega⟩
    have s : aT n ((k : Int), (b : Int), (i : Int), (acc : Int), (j : Int), A, bl.map cI, X, Y) = some (.inr ((k : Int), (b : Int), (i : Int), (acc : Int), A, bl.map cI, X, Y)) := by
      unfold aT
      rw [ba, if_neg (show ¬ ((j : Int) < (k : Int)) by omega)]
    have e : (bl.take k).drop j = [] := List.drop_eq_nil_of_le (by rw [List.length_take]; omega)
    rw [af, s, e]
    rfl
  | succ r ih =>
    intro j acc hj hacc N hN
    obtain ⟨N, rfl⟩ : ∃ k, N = k + 1 := ⟨N - 1, by omega⟩
    have hjl : j < bl.length := by omega
    obtain ⟨x, hx⟩ : ∃ x, bl[j]? = some x := ⟨bl[j], List.getElem?_eq_getElem hjl⟩
    have hxm : (bl.map cI)[j]? = some (x : Int) := by rw [List.getElem?_map, hx]; rfl
    have hx4 := h4 x (List.mem_of_getElem? hx)
    have w : IntKind.wrap .i64 ((acc : Int) + ((bt b x : Nat) : Int)) = ((acc + bt b x : Nat) : Int) := by have := Bd b x; rw [wrap_i64 _ (by omega) (by omega)]; omega
    have w2 : IntKind.wrap .i64 ((j : Int) + 1) = ((j + 1 : Nat) : Int) := by rw [wrap_i64 _ (by omega) (by omega)]; omega
    have s : aT n ((k : Int), (b : Int), (i : Int), (acc : Int), (j : Int), A, bl.map cI, X, Y) = some (.inl ((k : Int), (b : Int), (i : Int), ((acc + bt b x : Nat) : Int), ((j + 1 : Nat) : Int), A, bl.map cI, X, Y)) := by
      unfold aT
      rw [ba, if_pos (show (j : Int) < (k : Int) by omega)]
      show ob (ix 3 (j : Int)) _ = _
      rw [dj (show j < 3 by omega)]
      show ob ((bl.map cI)[j]?) _ = _
      rw [hxm]
      show ob (dL n (x : Int) (b : Int)) _ = _
      rw [zJ n hx4 hb]
      show some (Sum.inl ((k : Int), (b : Int), (i : Int), IntKind.wrap .i64 ((acc : Int) + ((bt b x : Nat) : Int)), IntKind.wrap .i64 ((j : Int) + 1), _)) = _
      rw [w, w2]
    have e : (bl.take k).drop j = x :: (bl.take k).drop (j + 1) := bg (by rw [List.getElem?_take_of_lt (by omega)]; exact hx)
    rw [af, s]
    have := Bd b x
    show af _ N _ = _
    rw [ih (j + 1) (acc + bt b x) (by omega) (by omega) N (by omega), e]
    simp only [bts, Nat.add_assoc]
def hit (k b i : Nat) (al bl : List Nat) : Bool := decide (0 < bt b (al.getD i 0) + bts b ((bl.take k).drop i))
theorem CM (n k b i : Nat) (hn : 9 < n) (hb : b = 1 ∨ b = 2) (hk : k ≤ 3) (hi : i < k) (X : List Int) (al bl : List Nat) (ha : al.length = 3) (hl : bl.length = 3) (a4 : ∀ x ∈ al, x < 4) (h4 : ∀ x ∈ bl, x < 4) (out : List Int) (o : Int) (ho : out[i]? = some o) :
    aE n ((k : Int), (b : Int), (i : Int), al.map cI, bl.map cI, X, out) = some (.inl ((k : Int), (b : Int), ((i + 1 : Nat) : Int), al.map cI, bl.map cI, X, cond (hit k b i al bl) (out.set i (IntKind.wrap .u8 (o + (b : Int)))) out)) := by
  obtain ⟨x, hx⟩ : ∃ x, al[i]? = some x := ⟨al[i], List.getElem?_eq_getElem (by omega)⟩
  have hxm : (al.map cI)[i]? = some (x : Int) := by rw [List.getElem?_map, hx]; rfl
  have hx4 := a4 x (List.mem_of_getElem? hx)
  have hbx := Bd b x
  have w2 : IntKind.wrap .i64 ((i : Int) + 1) = ((i + 1 : Nat) : Int) := by rw [wrap_i64 _ (by omega) (by omega)]; omega
  have hl2 := C8 n k b i hb hk (al.map cI) X out bl hl h4 (k - i) i (bt b x) (by omega) (by omega) n (by omega)
  unfold aE
  rw [ba, if_pos (show (i : Int) < (k : Int) by omega)]
  show ob (ix 3 (i : Int)) _ = _
  rw [dj (show i < 3 by omega)]
  show ob ((al.map cI)[i]?) _ = _
  rw [hxm]
  show ob (dL n (x : Int) (b : Int)) _ = _
  rw [zJ n hx4 hb]
  show ob (af (aT n) n ((k : Int), (b : Int), (i : Int), ((bt b x : Nat) : Int), (i : Int), al.map cI, bl.map cI, X, out)) _ = _
  rw [hl2]
  have eh : hit k b i al bl = decide (((bt b x + bts b ((bl.take k).drop i) : Nat) : Int) > 0) := by
    unfold hit
    rw [List.getD_eq_getElem?_getD, hx]
    rw [decide_eq_decide]
    simp only [Option.getD_some]
    omega
  rw [eh]
  show cond (decide (((bt b x + bts b ((bl.take k).drop i) : Nat) : Int) > 0)) (ob (ix 3 (i : Int)) fun j => ob (out[j]?) fun y => ob (ix 3 (i : Int)) fun j2 => cond (Nat.blt j2 3) (some (Sum.inl ((k : Int), (b : Int), IntKind.wrap .i64 ((i : Int) + 1), al.map cI, bl.map cI, X, out.set j2 (IntKind.wrap .u8 (y + (b : Int)))))) none) (some (Sum.inl ((k : Int), (b : Int), IntKind.wrap .i64 ((i : Int) + 1), al.map cI, bl.map cI, X, out))) = _
  rw [dj (show i < 3 by omega), w2]
  have hb3 : Nat.blt i 3 = true := Nat.ble_eq_true_of_le (by omega)
  simp only [ob, ho, hb3, cond_true]
  cases decide (((bt b x + bts b ((bl.take k).drop i) : Nat) : Int) > 0) <;> rfl
def addB (k b : Nat) (al bl : List Nat) (o : List Int) : List Int := [cond (decide (0 < k) && hit k b 0 al bl) (IntKind.wrap .u8 (o.getD 0 0 + (b : Int))) (o.getD 0 0), cond (decide (1 < k) && hit k b 1 al bl) (IntKind.wrap .u8 (o.getD 1 0 + (b : Int))) (o.getD 1 0), cond (decide (2 < k) && hit k b 2 al bl) (IntKind.wrap .u8 (o.getD 2 0 + (b : Int))) (o.getD 2 0)]
theorem yg (n k b : Nat) (hn : 9 < n) (hb : b = 1 ∨ b = 2) (hk : 1 ≤ k ∧ k ≤ 3) (X : List Int) (al bl : List Nat) (ha : al.length = 3) (hl : bl.length = 3) (a4 : ∀ x ∈ al, x < 4) (h4 : ∀ x ∈ bl, x < 4) (o0 o1 o2 : Int) :
    af (aE n) n ((k : Int), (b : Int), 0, al.map cI, bl.map cI, X, [o0, o1, o2]) = some ((k : Int), (b : Int), al.map cI, bl.map cI, X, addB k b al bl [o0, o1, o2]) := by
  obtain ⟨n, rfl⟩ : ∃ j, n = j + 5 := ⟨n - 5, by omega⟩
  have fin : ∀ (N : Nat) (out : List Int), af (aE (n + 5)) (N + 1) ((k : Int), (b : Int), ((k : Nat) : Int), al.map cI, bl.map cI, X, out) = some ((k : Int), (b : Int), al.map cI, bl.map cI, X, out) := fun N out => by
    rw [af]
    have : aE (n + 5) ((k : Int), (b : Int), ((k : Nat) : Int), al.map cI, bl.map cI, X, out) = some (.inr ((k : Int), (b : Int), al.map cI, bl.map cI, X, out)) := by
      unfold aE
      rw [ba, if_neg (show ¬ ((k : Int) < (k : Int)) by omega)]
    rw [this]
  have go := fun (i : Nat) (hi : i < k) (out : List Int) (o : Int) (ho : out[i]? = some o) => CM (n + 5) k b i hn hb hk.2 hi X al bl ha hl a4 h4 out o ho
  have hk' : k = 1 ∨ k = 2 ∨ k = 3 := by omega
  have s1 := go 0 (by omega) [o0, o1, o2] o0 rfl
  rcases hk' with rfl | rfl | rfl
  · rw [af]
    rw [show ((0 : Nat) : Int) = 0 from rfl] at s1
    rw [s1]
    show af _ (n + 3 + 1) (((1 : Nat) : Int), (b : Int), ((1 : Nat) : Int), _) = _
    rw [fin]
    unfold addB
    cases hit 1 b 0 al bl <;> rfl
  · rw [af]
    rw [show ((0 : Nat) : Int) = 0 from rfl] at s1
    rw [s1]
    show af _ (n + 4) (((2 : Nat) : Int), (b : Int), ((1 : Nat) : Int), _) = _
    rw [af, go 1 (by omega) _ o1 (by cases hit 2 b 0 al bl <;> rfl)]
    show af _ (n + 2 + 1) (((2 : Nat) : Int), (b : Int), ((2 : Nat) : Int), _) = _
    rw [fin]
    unfold addB
    cases hit 2 b 0 al bl <;> cases hit 2 b 1 al bl <;> rfl
  · rw [af]
    rw [show ((0 : Nat) : Int) = 0 from rfl] at s1
    rw [s1]
    show af _ (n + 4) (((3 : Nat) : Int), (b : Int), ((1 : Nat) : Int), _) = _
    rw [af, go 1 (by omega) _ o1 (by cases hit 3 b 0 al bl <;> rfl)]
    show af _ (n + 3) (((3 : Nat) : Int), (b : Int), ((2 : Nat) : Int), _) = _
    rw [af, go 2 (by omega) _ o2 (by cases hit 3 b 0 al bl <;> cases hit 3 b 1 al bl <;> rfl)]
    show af _ (n + 1 + 1) (((3 : Nat) : Int), (b : Int), ((3 : Nat) : Int), _) = _
    rw [fin]
    unfold addB
    cases hit 3 b 0 al bl <;> cases hit 3 b 1 al bl <;> cases hit 3 b 2 al bl <;> rfl
def lN (p : Nat × Nat × Nat) : List Nat := [p.1, p.2.1, p.2.2]
theorem jq {x y : Nat} (hx : x < 4) (hy : y < 4) (b : Nat) (hb : b = 1 ∨ b = 2) : decide (0 < bt b (x ||| y)) = decide (0 < bt b x + bt b y) := by
  have : ((List.range 4).all fun a => (List.range 4).all fun c => (decide (0 < bt 1 (a ||| c)) == decide (0 < bt 1 a + bt 1 c)) && (decide (0 < bt 2 (a ||| c)) == decide (0 < bt 2 a + bt 2 c))) = true := by decide +kernel
  have := r4 (r4 this hx) hy
  simp only [Bool.and_eq_true, beq_iff_eq] at this
  rcases hb with rfl | rfl
  · exact this.1
  · exact this.2
theorem jI {x : Nat} (hx : x < 4) : cond (decide (0 < bt 2 x)) (IntKind.wrap .u8 (cond (decide (0 < bt 1 x)) (IntKind.wrap .u8 (0 + ((1 : Nat) : Int))) 0 + ((2 : Nat) : Int))) (cond (decide (0 < bt 1 x)) (IntKind.wrap .u8 (0 + ((1 : Nat) : Int))) 0) = (x : Int) := by
  have h : x = 0 ∨ x = 1 ∨ x = 2 ∨ x = 3 := by omega
  rcases h with rfl | rfl | rfl | rfl <;> decide
theorem lp (n : Nat) (hn : 9 < n) (k : Nat) (A B : Nat × Nat × Nat) (hk : 1 ≤ k ∧ k ≤ 3) (hA : inM k A) (hB : inM k B) : bT n (l3 A) (l3 B) (k : Int) = some (l3 (spM A B)) := by
  obtain ⟨a0, a1, a2⟩ := A
  obtain ⟨b0, b1, b2⟩ := B
  obtain ⟨g0, g1, g2, g3, g4⟩ := hA
  obtain ⟨f0, f1, f2, f3, f4⟩ := hB
  simp only at g0 g1 g2 g3 g4 f0 f1 f2 f3 f4
  have ol : ∀ x y : Nat, x < 4 → y < 4 → x ||| y < 4 := fun x y hx hy => (or4 hx hy).2
  have a4 : ∀ x ∈ lN (a0, a1, a2), x < 4 := by
    intro x hx
    simp only [lN, List.mem_cons, List.not_mem_nil, or_false] at hx
    rcases hx with rfl | rfl | rfl <;> assumption
  have b4 : ∀ x ∈ lN (b0, b1, b2), x < 4 := by
    intro x hx
    simp only [lN, List.mem_cons, List.not_mem_nil, or_false] at hx
    rcases hx with rfl | rfl | rfl <;> assumption
  have run := fun (b : Nat) (hb : b = 1 ∨ b = 2) (o0 o1 o2 : Int) => yg n k b hn hb hk [0, 0, 0] (lN (a0, a1, a2)) (lN (b0, b1, b2)) rfl rfl a4 b4 o0 o1 o2
  have r1 := run 1 (.inl rfl) 0 0 0
  obtain ⟨p0, p1, p2, hp⟩ : ∃ p0 p1 p2, addB k 1 (lN (a0, a1, a2)) (lN (b0, b1, b2)) [0, 0, 0] = [p0, p1, p2] := ⟨_, _, _, rfl⟩
  have r2 := run 2 (.inr rfl) p0 p1 p2
  rw [hp] at r1
  obtain ⟨n, rfl⟩ : ∃ j, n = j + 5 := ⟨n - 5, by omega⟩
  have s1 : bf (n + 5) ((k : Int), 1, l3 (a0, a1, a2), l3 (b0, b1, b2), [0, 0, 0], [0, 0, 0]) = some (.inl ((k : Int), 2, l3 (a0, a1, a2), l3 (b0, b1, b2), [0, 0, 0], [p0, p1, p2])) := by
    unfold bf
    show cond (decide ((1 : Int) ≤ 2)) (ob (af (aE (n + 5)) (n + 5) ((k : Int), ((1 : Nat) : Int), 0, (lN (a0, a1, a2)).map cI, (lN (b0, b1, b2)).map cI, [0, 0, 0], [0, 0, 0])) _) _ = _
    rw [r1]
    rfl
  have s2 : bf (n + 5) ((k : Int), 2, l3 (a0, a1, a2), l3 (b0, b1, b2), [0, 0, 0], [p0, p1, p2]) = some (.inl ((k : Int), 3, l3 (a0, a1, a2), l3 (b0, b1, b2), [0, 0, 0], addB k 2 (lN (a0, a1, a2)) (lN (b0, b1, b2)) [p0, p1, p2])) := by
    unfold bf
    show cond (decide ((2 : Int) ≤ 2)) (ob (af (aE (n + 5)) (n + 5) ((k : Int), ((2 : Nat) : Int), 0, (lN (a0, a1, a2)).map cI, (lN (b0, b1, b2)).map cI, [0, 0, 0], [p0, p1, p2])) _) _ = _
    rw [r2]
    rfl
  have s3 : ∀ out : List Int, bf (n + 5) ((k : Int), 3, l3 (a0, a1, a2), l3 (b0, b1, b2), [0, 0, 0], out) = some (.inr ([0, 0, 0], out)) := fun out => rfl
  unfold bT
  rw [af, s1]
  show ob (af _ (n + 4) _) _ = _
  rw [af, s2]
  show ob (af _ (n + 3) _) _ = _
  rw [af, s3]
  show some (addB k 2 (lN (a0, a1, a2)) (lN (b0, b1, b2)) [p0, p1, p2]) = _
  rw [← hp]
  have hk' : k = 1 ∨ k = 2 ∨ k = 3 := by omega
  have or2 := fun (x y : Nat) (hx : x < 4) (hy : y < 4) (b : Nat) (hb : b = 1 ∨ b = 2) => jq hx hy b hb
  rcases hk' with rfl | rfl | rfl
  · obtain rfl := g3 (by omega)
    obtain rfl := g4 (by omega)
    obtain rfl := f3 (by omega)
    obtain rfl := f4 (by omega)
    have e : ∀ b, b = 1 ∨ b = 2 → hit 1 b 0 (lN (a0, 0, 0)) (lN (b0, 0, 0)) = decide (0 < bt b (a0 ||| b0)) := fun b hb => by rw [jq g0 f0 b hb]; rfl
    show some [cond (hit 1 2 0 (lN (a0, 0, 0)) (lN (b0, 0, 0))) (IntKind.wrap .u8 (cond (hit 1 1 0 (lN (a0, 0, 0)) (lN (b0, 0, 0))) (IntKind.wrap .u8 (0 + ((1 : Nat) : Int))) 0 + ((2 : Nat) : Int))) (cond (hit 1 1 0 (lN (a0, 0, 0)) (lN (b0, 0, 0))) (IntKind.wrap .u8 (0 + ((1 : Nat) : Int))) 0), 0, 0] = _
    rw [e 1 (.inl rfl), e 2 (.inr rfl), jI (ol _ _ g0 f0)]
    simp [l3, spM]
  · obtain rfl := g4 (by omega)
    obtain rfl := f4 (by omega)
    have h2 : ∀ b, b = 1 ∨ b = 2 → hit 2 b 1 (lN (a0, a1, 0)) (lN (b0, b1, 0)) = decide (0 < bt b (a1 ||| b1)) := fun b hb => by rw [jq g1 f1 b hb]; rfl
    have h1 : ∀ b, b = 1 ∨ b = 2 → hit 2 b 0 (lN (a0, a1, 0)) (lN (b0, b1, 0)) = decide (0 < bt b (a0 ||| b0 ||| b1)) := fun b hb => by
      have q1 := jq (ol _ _ g0 f0) f1 b hb
      have q2 := jq g0 f0 b hb
      rw [q1]
      have : hit 2 b 0 (lN (a0, a1, 0)) (lN (b0, b1, 0)) = decide (0 < bt b a0 + (bt b b0 + (bt b b1 + 0))) := rfl
      rw [this]
      simp only [decide_eq_decide] at q2 ⊢
      omega
    show some [cond (hit 2 2 0 (lN (a0, a1, 0)) (lN (b0, b1, 0))) (IntKind.wrap .u8 (cond (hit 2 1 0 (lN (a0, a1, 0)) (lN (b0, b1, 0))) (IntKind.wrap .u8 (0 + ((1 : Nat) : Int))) 0 + ((2 : Nat) : Int))) (cond (hit 2 1 0 (lN (a0, a1, 0)) (lN (b0, b1, 0))) (IntKind.wrap .u8 (0 + ((1 : Nat) : Int))) 0), cond (hit 2 2 1 (lN (a0, a1, 0)) (lN (b0, b1, 0))) (IntKind.wrap .u8 (cond (hit 2 1 1 (lN (a0, a1, 0)) (lN (b0, b1, 0))) (IntKind.wrap .u8 (0 + ((1 : Nat) : Int))) 0 + ((2 : Nat) : Int))) (cond (hit 2 1 1 (lN (a0, a1, 0)) (lN (b0, b1, 0))) (IntKind.wrap .u8 (0 + ((1 : Nat) : Int))) 0), 0] = _
    rw [h1 1 (.inl rfl), h1 2 (.inr rfl), h2 1 (.inl rfl), h2 2 (.inr rfl), jI (ol _ _ (ol _ _ g0 f0) f1), jI (ol _ _ g1 f1)]
    simp [l3, spM]
  · have h3 : ∀ b, b = 1 ∨ b = 2 → hit 3 b 2 (lN (a0, a1, a2)) (lN (b0, b1, b2)) = decide (0 < bt b (a2 ||| b2)) := fun b hb => by rw [jq g2 f2 b hb]; rfl
    have h2 : ∀ b, b = 1 ∨ b = 2 → hit 3 b 1 (lN (a0, a1, a2)) (lN (b0, b1, b2)) = decide (0 < bt b (a1 ||| b1 ||| b2)) := fun b hb => by
      have q1 := jq (ol _ _ g1 f1) f2 b hb
      have q2 := jq g1 f1 b hb
      rw [q1]
      have : hit 3 b 1 (lN (a0, a1, a2)) (lN (b0, b1, b2)) = decide (0 < bt b a1 + (bt b b1 + (bt b b2 + 0))) := rfl
      rw [this]
      simp only [decide_eq_decide] at q2 ⊢
      omega
    have h1 : ∀ b, b = 1 ∨ b = 2 → hit 3 b 0 (lN (a0, a1, a2)) (lN (b0, b1, b2)) = decide (0 < bt b (a0 ||| b0 ||| b1 ||| b2)) := fun b hb => by
      have q1 := jq (ol _ _ (ol _ _ g0 f0) f1) f2 b hb
      have q2 := jq (ol _ _ g0 f0) f1 b hb
      have q3 := jq g0 f0 b hb
      rw [q1]
      have : hit 3 b 0 (lN (a0, a1, a2)) (lN (b0, b1, b2)) = decide (0 < bt b a0 + (bt b b0 + (bt b b1 + (bt b b2 + 0)))) := rfl
      rw [this]
      simp only [decide_eq_decide] at q2 q3 ⊢
      omega
    show some [cond (hit 3 2 0 (lN (a0, a1, a2)) (lN (b0, b1, b2))) (IntKind.wrap .u8 (cond (hit 3 1 0 (lN (a0, a1, a2)) (lN (b0, b1, b2))) (IntKind.wrap .u8 (0 + ((1 : Nat) : Int))) 0 + ((2 : Nat) : Int))) (cond (hit 3 1 0 (lN (a0, a1, a2)) (lN (b0, b1, b2))) (IntKind.wrap .u8 (0 + ((1 : Nat) : Int))) 0), cond (hit 3 2 1 (lN (a0, a1, a2)) (lN (b0, b1, b2))) (IntKind.wrap .u8 (cond (hit 3 1 1 (lN (a0, a1, a2)) (lN (b0, b1, b2))) (IntKind.wrap .u8 (0 + ((1 : Nat) : Int))) 0 + ((2 : Nat) : Int))) (cond (hit 3 1 1 (lN (a0, a1, a2)) (lN (b0, b1, b2))) (IntKind.wrap .u8 (0 + ((1 : Nat) : Int))) 0), cond (hit 3 2 2 (lN (a0, a1, a2)) (lN (b0, b1, b2))) (IntKind.wrap .u8 (cond (hit 3 1 2 (lN (a0, a1, a2)) (lN (b0, b1, b2))) (IntKind.wrap .u8 (0 + ((1 : Nat) : Int))) 0 + ((2 : Nat) : Int))) (cond (hit 3 1 2 (lN (a0, a1, a2)) (lN (b0, b1, b2))) (IntKind.wrap .u8 (0 + ((1 : Nat) : Int))) 0)] = _
    rw [h1 1 (.inl rfl), h1 2 (.inr rfl), h2 1 (.inl rfl), h2 2 (.inr rfl), h3 1 (.inl rfl), h3 2 (.inr rfl), jI (ol _ _ (ol _ _ (ol _ _ g0 f0) f1) f2), jI (ol _ _ (ol _ _ g1 f1) f2), jI (ol _ _ g2 f2)]
    rfl
def mkS (l : List UInt8) : Nat := match l with | [] => 0 | c :: _ => mkOf c
def mkN (l : List UInt8) : Nat := if mkS l = 0 then 0 else 1
def twoN (l : List UInt8) : Nat := aW isDX 2 l
theorem AT (c : UInt8) : mkOf c < 4 := by
  unfold mkOf
  split
  · omega
  · split
    · omega
    · split <;> omega
theorem vQ (l : List UInt8) : mkS l < 4 := by
  cases l with
  | nil => show 0 < 4; omega
  | cons c r => exact AT c
theorem BB (l : List UInt8) : mkN l ≤ l.length := by
  cases l with
  | nil => exact Nat.le_refl 0
  | cons c r =>
    unfold mkN
    split <;> simp
theorem At (c : UInt8) : hasB [63, 126, 37] c = decide (0 < mkOf c) := by
  have := jm (fun c => hasB [63, 126, 37] c == decide (0 < mkOf c)) (by decide +kernel) c
  simpa using this
theorem Bn (m : Nat) (S : List UInt8) (a : Nat) (h : a ≤ S.length) (hS : S.length < 100000) :
    aZ (m + 300) S (a : Int) = some (.inr (((mkS (S.drop a) : Nat) : Int), S, ((a + mkN (S.drop a) : Nat) : Int))) := by
  unfold aZ
  rw [mj (m + 300) S a h]
  cases hd : S.drop a with
  | nil =>
    have h0 : iW (m + 300) 0 = some (0, false) := by kernel_rfl
    show ob (iW (m + 300) 0) _ = _
    rw [h0]
    rfl
  | cons c r =>
    show ob (iW (m + 300) ((c.toNat : Nat) : Int)) _ = _
    rw [(vD m c).1]
    show cond (decide (0 < mkOf c)) _ _ = _
    have e1 : mkS (c :: r) = mkOf c := rfl
    by_cases hc : 0 < mkOf c
    · rw [decide_eq_true hc]
      show ob (bh (m + 300) [63, 126, 37] S (a : Int)) _ = _
      rw [sq (m + 300) _ S a h (by omega), hd]
      have hb : hasB [63, 126, 37] c = true := by rw [At, decide_eq_true hc]
      have e2 : mkN (c :: r) = 1 := by unfold mkN; rw [e1, if_neg (by omega)]
      rw [e1, e2]
      simp only [hb, if_true, ob]
    · rw [decide_eq_false hc]
      have e2 : mkN (c :: r) = 0 := by unfold mkN; rw [e1, if_pos (by omega)]
      rw [e1, e2]
      rfl
theorem pd (m : Nat) (S : List UInt8) (a : Nat) (h : a ≤ S.length) (hS : S.length < 100000) (e : Int) :
    b7 (m + 300) S (a : Int) e = some (((mkS (S.drop a) : Nat) : Int), S, ((a + mkN (S.drop a) : Nat) : Int), e) := by
  unfold b7
  rw [fY]
  rcases Nat.lt_or_ge a S.length with hlt | hge
  · have : decide (S.length ≤ a) = false := by simp; omega
    rw [this]
    obtain ⟨c, hc⟩ : ∃ c, S[a]? = some c := ⟨S[a], List.getElem?_eq_getElem hlt⟩
    rw [cJ hc, bg hc]
    show ob (ft (m + 300) ((c.toNat : Nat) : Int)) _ = _
    rw [(vD m c).2]
    have e1 : mkS (c :: S.drop (a + 1)) = mkOf c := rfl
    show cond (decide (((mkOf c : Nat) : Int) > 0)) _ _ = _
    by_cases h0 : 0 < mkOf c
    · have e2 : mkN (c :: S.drop (a + 1)) = 1 := by unfold mkN; rw [e1, if_neg (by omega)]
      have : decide (((mkOf c : Nat) : Int) > 0) = true := by simp; omega
      rw [this, e1, e2, cond_true]
      have w : IntKind.wrap .i64 ((a : Int) + 1) = ((a + 1 : Nat) : Int) := by rw [wrap_i64 _ (by omega) (by omega)]; omega
      rw [w]
    · have e2 : mkN (c :: S.drop (a + 1)) = 0 := by unfold mkN; rw [e1, if_pos (by omega)]
      have : decide (((mkOf c : Nat) : Int) > 0) = false := by simp; omega
      rw [this, e1, e2, cond_false]
      rfl
  · have : decide (S.length ≤ a) = true := by simp; omega
    rw [this, List.drop_eq_nil_of_le hge]
    rfl
theorem Ae (n : Nat) (S : List UInt8) (a : Nat) (h : a ≤ S.length) (hS : S.length < 100000) (hn : S.length < n) :
    dF n S (a : Int) = some (if twoN (S.drop a) < 2 then .inl (((a + twoN (S.drop a) : Nat) : Int), 5, S, ((a + twoN (S.drop a) : Nat) : Int)) else .inr ((S.drop a).take 2, S, ((a + 2 : Nat) : Int))) := by
  unfold dF
  rw [mD n _ 2 2 S a h (by omega) hn]
  have e : aW (hasB [88, 48, 49, 50, 51, 52, 53, 54, 55, 56, 57]) (2 : Int).toNat (S.drop a) = twoN (S.drop a) := by
    unfold twoN
    have e2 : (2 : Int).toNat = 2 := rfl
    rw [e2]
    exact eV (fun c => by rw [ln]; rfl) _ _
  rw [e]
  by_cases h2 : twoN (S.drop a) < 2
  · rw [if_pos h2, if_pos (by omega)]
    rfl
  · have h3 : twoN (S.drop a) = 2 := by
      have := jn isDX 2 (S.drop a)
      unfold twoN at h2 ⊢
      omega
    rw [if_neg h2, if_neg (by omega), h3]
    rfl
theorem B6 (c : UInt8) : isDX c = ((decide (48 ≤ c.toNat) && decide (c.toNat ≤ 57)) || c == 88) := by
  unfold isDX
  congr 1
  rw [Bool.eq_iff_iff, bz]
  simp
theorem tk (n : Nat) (S : List UInt8) (a b i e : Int) (j : Nat) (hS : S.length < 100000) (hi : i < 2) (hj : j ≤ S.length) (i0 : 0 ≤ i) :
    dc n (b, i, S, (j : Int), e, [], 0, 0) = some (match S.drop j with
      | [] => .inr (.inl ([], S, (j : Int), 5))
      | c :: _ => if isDX c then .inl (b, i + 1, S, ((j + 1 : Nat) : Int), e, [], 0, 0) else .inr (.inl ([], S, (j : Int), 5))) := by
  unfold dc
  have d1 : decide (i < 2) = true := decide_eq_true hi
  show cond (decide (i < 2)) (cond (decide ((j : Int) ≥ ((S.length : Nat) : Int))) _ _) _ = _
  rw [d1, fY]
  rcases Nat.lt_or_ge j S.length with hlt | hge
  · have : decide (S.length ≤ j) = false := by simp; omega
    rw [this]
    obtain ⟨c, hc⟩ : ∃ c, S[j]? = some c := ⟨S[j], List.getElem?_eq_getElem hlt⟩
    have w1 : IntKind.wrap .i64 (i + 1) = i + 1 := wrap_i64 _ (by omega) (by omega)
    have w2 : IntKind.wrap .i64 ((j : Int) + 1) = ((j + 1 : Nat) : Int) := by rw [wrap_i64 _ (by omega) (by omega)]; omega
    rw [bg hc]
    simp only [cJ hc, ob, cond_true, cond_false, w1, w2]
    rw [B6]
    have e88 : (((c.toNat : Nat) : Int) != 88) = !(c == 88) := by rw [bne]; congr 1; exact jd c 88
    rw [e88]
    by_cases h1 : c.toNat < 48
    · have q1 : decide (((c.toNat : Nat) : Int) < 48) = true := by simp; omega
      have q2 : decide (48 ≤ c.toNat) = false := by simp; omega
      rw [q1, q2]
      cases (c == 88) <;> rfl
    · have q1 : decide (((c.toNat : Nat) : Int) < 48) = false := by simp; omega
      have q2 : decide (48 ≤ c.toNat) = true := by simp; omega
      rw [q1, q2]
      by_cases h2 : c.toNat ≤ 57
      · have q3 : decide (((c.toNat : Nat) : Int) > 57) = false := by simp; omega
        have q4 : decide (c.toNat ≤ 57) = true := by simp; omega
        rw [q3, q4]
        rfl
      · have q3 : decide (((c.toNat : Nat) : Int) > 57) = true := by simp; omega
        have q4 : decide (c.toNat ≤ 57) = false := by simp; omega
        rw [q3, q4]
        cases (c == 88) <;> rfl
  · have : decide (S.length ≤ j) = true := by simp; omega
    rw [this, List.drop_eq_nil_of_le hge]
    rfl
theorem vd (n : Nat) (hn : 10 < n) (S : List UInt8) (a : Nat) (h : a ≤ S.length) (hS : S.length < 100000) (e : Int) :
    eG n S (a : Int) e = some (if twoN (S.drop a) < 2 then ([], S, ((a + twoN (S.drop a) : Nat) : Int), 5) else ((S.drop a).take 2, S, ((a + 2 : Nat) : Int), e)) := by
  obtain ⟨n, rfl⟩ : ∃ j, n = j + 3 := ⟨n - 3, by omega⟩
  unfold eG
  rw [af, tk (n + 3) S 0 (a : Int) 0 e a hS (by omega) h (by omega)]
  cases hd : S.drop a with
  | nil => rfl
  | cons c r =>
    obtain ⟨hlt, hg, hr⟩ := gQ hd
    cases hc : isDX c with
    | false =>
      have : twoN (c :: r) = 0 := by unfold twoN; simp [aW, hc]
      rw [this]
      simp [hc, ob]
    | true =>
      simp only [hc, if_true]
      rw [af, tk (n + 3) S 0 (a : Int) (0 + 1) e (a + 1) hS (by omega) (by omega) (by omega), hr]
      cases r with
      | nil =>
        have : twoN [c] = 1 := by unfold twoN; simp [aW, hc]
        rw [this]
        rfl
      | cons d r2 =>
        obtain ⟨hlt2, hg2, hr2⟩ := gQ hr
        cases hd2 : isDX d with
        | false =>
          have : twoN (c :: d :: r2) = 1 := by unfold twoN; simp [aW, hc, hd2]
          rw [this]
          simp [hd2, ob]
        | true =>
          have : twoN (c :: d :: r2) = 2 := by unfold twoN; simp [aW, hc, hd2]
          rw [this]
          simp only [hd2, if_true]
          have s3 : dc (n + 3) ((a : Int), 0 + 1 + 1, S, ((a + 1 + 1 : Nat) : Int), e, [], 0, 0) = some (.inr (.inr ((a : Int), S, ((a + 1 + 1 : Nat) : Int), e, [], 0, 0))) := rfl
          rw [af, s3]
          show ob (bx S.length ((a + 1 + 1 : Nat) : Int)) _ = _
          rw [eZ (show a + 1 + 1 ≤ S.length by omega)]
          show ob (bx (a + 1 + 1) (a : Int)) _ = _
          rw [eZ (show a ≤ a + 1 + 1 by omega)]
          have : List.drop a (List.take (a + 1 + 1) S) = [c, d] := by
            rw [List.drop_take, hd]
            have : a + 1 + 1 - a = 2 := by omega
            rw [this]
            rfl
          show some (List.drop a (List.take (a + 1 + 1) S), S, ((a + 1 + 1 : Nat) : Int), e) = _
          rw [this]
          rfl
theorem zR {k : Nat} (h : k < 10) : Lib.decDigits k = [UInt8.ofNat (48 + k)] := by
  rw [Lib.decDigits, dif_pos h]
theorem A2 {k : Nat} (h : ¬ k < 10) (h2 : k < 100) : Lib.decDigits k = [UInt8.ofNat (48 + k / 10), UInt8.ofNat (48 + k % 10)] := by
  rw [Lib.decDigits, dif_neg h, zR (by omega)]; rfl
def rF (letter : UInt8) (v : Nat) : List UInt8 := if 0 < v then letter :: Lib.decDigits v else []
theorem sc (g l : Bool) (d : List UInt8) (x s : Nat) : xz g l d (x : Int) (s : Int) = (if l then [89] else []) ++ (if g then [45] else []) ++ d ++ rF 69 x ++ rF 83 s := by
  unfold xz rF
  simp only [Int.toNat_natCast]
  have e1 : (0 < (x : Int)) = (0 < x) := by simp
  have e2 : (0 < (s : Int)) = (0 < s) := by simp
  simp only [e1, e2]
theorem qU {k : Nat} (h : k < 10) : (UInt8.ofNat (48 + k)).toNat = 48 + k := by
  rw [UInt8.toNat_ofNat']
  exact Nat.mod_eq_of_lt (by omega)
theorem nE (letter : UInt8) (l : List UInt8) (v k : Nat) (h : numS letter l = .inr (v, k)) : v < 100 ∧ l.take k = rF letter v ∧ k ≤ l.length := by
  cases l with
  | nil =>
    simp only [mB, Sum.inr.injEq, Prod.mk.injEq] at h
    obtain ⟨rfl, rfl⟩ := h
    exact ⟨by omega, rfl, by simp⟩
  | cons c r =>
    rw [li] at h
    by_cases hc : c = letter
    · rw [if_pos hc] at h
      cases r with
      | nil => simp [o7] at h
      | cons d r2 =>
        rw [ld] at h
        by_cases hd : 49 ≤ d.toNat ∧ d.toNat ≤ 57
        · rw [if_pos hd] at h
          have e9 : d.toNat - 48 < 10 := by omega
          have hdd : UInt8.ofNat (48 + (d.toNat - 48)) = d := by
            apply UInt8.toNat_inj.1
            rw [qU e9]; omega
          have one : (c :: d :: r2).take 2 = rF letter (d.toNat - 48) := by
            unfold rF
            rw [if_pos (by omega), zR e9, hdd, hc]; rfl
          cases r2 with
          | nil =>
            simp only [mn, Sum.inr.injEq, Prod.mk.injEq] at h
            obtain ⟨rfl, rfl⟩ := h
            exact ⟨by omega, one, by simp⟩
          | cons e r3 =>
            rw [jF] at h
            by_cases he : aG e = true
            · rw [if_pos he] at h
              simp only [Sum.inr.injEq, Prod.mk.injEq] at h
              obtain ⟨rfl, rfl⟩ := h
              have hei := (bz e).1 he
              refine ⟨by omega, ?_, by simp⟩
              unfold rF
              have h1 : (10 * (d.toNat - 48) + (e.toNat - 48)) / 10 = d.toNat - 48 := by omega
              have h2 : (10 * (d.toNat - 48) + (e.toNat - 48)) % 10 = e.toNat - 48 := by omega
              have hee : UInt8.ofNat (48 + (e.toNat - 48)) = e := by
                apply UInt8.toNat_inj.1
                rw [qU (by omega)]; omega
              rw [if_pos (by omega), A2 (by omega) (by omega), h1, h2, hdd, hee, hc]; rfl
            · rw [if_neg he] at h
              simp only [Sum.inr.injEq, Prod.mk.injEq] at h
              obtain ⟨rfl, rfl⟩ := h
              exact ⟨by omega, one, by simp⟩
        · rw [if_neg hd] at h; cases h
    · rw [if_neg hc] at h
      simp only [Sum.inr.injEq, Prod.mk.injEq] at h
      obtain ⟨rfl, rfl⟩ := h
      exact ⟨by omega, rfl, by simp⟩
theorem lr (c : UInt8) (l : List UInt8) : l.take (cY c l) = if cY c l = 1 then [c] else [] := by
  rcases fQ c l with h | h
  · rw [h]; simp
  · rw [h, if_pos rfl]
    unfold cY at h
    split at h
    · assumption
    · cases h
theorem iA (l : List UInt8) (i j : Nat) : l.take (i + j) = l.take i ++ (l.drop i).take j := by
  rw [List.take_add]
theorem lc {l : List UInt8} {g lng : Bool} {d : List UInt8} {x s k : Nat} (h : kS l = .inr (g, lng, d, x, s, k)) : l.take k = xz g lng d (x : Int) (s : Int) ∧ k ≤ l.length ∧ x < 100 ∧ s < 100 ∧ d.length ≤ 17 := by
  rw [sc]
  unfold kS at h
  by_cases h89 : cY 89 l = 1
  · rw [if_pos h89] at h
    have t89 := lr 89 l
    rw [h89, if_pos rfl] at t89
    have t45 := lr 45 (l.drop 1)
    have c45 := fQ 45 (l.drop 1)
    generalize hu : cY 45 (l.drop 1) = u at *
    have hpre : l.take (1 + u) = [89] ++ (if (u == 1) = true then [45] else []) := by
      rw [iA, t89, t45]
      rcases c45 with rfl | rfl <;> rfl
    cases hd : l.drop (1 + u) with
    | nil => rw [hd] at h; simp [mb] at h
    | cons c r =>
      rw [hd] at h
      simp only [mb] at h
      by_cases hc : 49 ≤ c.toNat ∧ c.toNat ≤ 57
      · rw [if_pos hc] at h
        have htop := jn aG 16 r
        have hKl : 1 + aW aG 16 r ≤ (c :: r).length := by have := gf aG 16 r; simp only [List.length_cons]; omega
        generalize hK : 1 + aW aG 16 r = K at *
        cases hq : numS 69 (List.drop K (c :: r)) with
        | inl j => rw [hq] at h; simp at h
        | inr p =>
          obtain ⟨x', j⟩ := p
          rw [hq] at h
          simp only at h
          cases hq2 : numS 83 (List.drop (K + j) (c :: r)) with
          | inl i => rw [hq2] at h; simp at h
          | inr p2 =>
            obtain ⟨s', i⟩ := p2
            rw [hq2] at h
            simp only [Sum.inr.injEq, Prod.mk.injEq] at h
            obtain ⟨rfl, rfl, rfl, rfl, rfl, rfl⟩ := h
            obtain ⟨a1, a2, a3⟩ := nE _ _ _ _ hq
            obtain ⟨b1, b2, b3⟩ := nE _ _ _ _ hq2
            rw [List.length_drop] at a3 b3
            have hll : l.length = 1 + u + (c :: r).length := by
              have := congrArg List.length hd
              rw [List.length_drop] at this
              simp only [List.length_cons] at this ⊢
              omega
            refine ⟨?_, by simp only [List.length_cons] at *; omega, a1, b1, by rw [List.length_take]; omega⟩
            rw [show 1 + u + K + j + i = (1 + u) + (K + (j + i)) by omega, iA, hpre, hd, iA _ K, iA _ j, a2, List.drop_drop, b2]
            simp
      · rw [if_neg hc] at h; simp at h
  · rw [if_neg h89] at h
    have t45 := lr 45 l
    have c45 := fQ 45 l
    generalize hu : cY 45 l = u at *
    have hpre : l.take u = (if (u == 1) = true then [45] else []) := by
      rw [t45]
      rcases c45 with rfl | rfl <;> rfl
    unfold oi at h
    by_cases h4 : aW isDX 4 (l.drop u) < 4
    · rw [if_pos h4] at h; simp at h
    · rw [if_neg h4] at h
      have hle := gf isDX 4 (l.drop u)
      rw [List.length_drop] at hle
      cases hq : numS 83 (List.drop 4 (l.drop u)) with
      | inl i => rw [hq] at h; simp at h
      | inr p2 =>
        obtain ⟨s', i⟩ := p2
        rw [hq] at h
        simp only [Sum.inr.injEq, Prod.mk.injEq] at h
        obtain ⟨rfl, rfl, rfl, rfl, rfl, rfl⟩ := h
        obtain ⟨b1, b2, b3⟩ := nE _ _ _ _ hq
        rw [List.length_drop, List.length_drop] at b3
        refine ⟨?_, by omega, by omega, b1, by rw [List.length_take]; omega⟩
        rw [show u + 4 + i = u + (4 + i) by omega, iA, hpre, iA _ 4, b2]
        have ht0 : rF 69 0 = [] := rfl
        rw [ht0]
        simp
abbrev DR := Bool × Bool × List UInt8 × Nat × Nat × List UInt8 × List UInt8 × (Nat × Nat × Nat) × (Nat × Nat × Nat) × Nat
def mkE (S : List UInt8) (p : Nat) : Nat := p + mkN (S.drop p)
def rd3 (S : List UInt8) (y : YR) (A0 B0 A1 B1 p0 c1 q2 : Nat) (mm : List UInt8) : Nat ⊕ DR :=
  if twoN (S.drop (mkE S (q2 + 1))) < 2 then .inl (mkE S (q2 + 1) + twoN (S.drop (mkE S (q2 + 1))))
  else .inr (y.1, y.2.1, y.2.2.1, y.2.2.2.1, y.2.2.2.2.1, mm, (S.drop (mkE S (q2 + 1))).take 2, spM (A0, A1, mkS (S.drop (q2 + 1))) (B0, B1, mkS (S.drop (mkE S (q2 + 1) + 2))), (p0, c1, mkE S (q2 + 1)), mkE S (mkE S (q2 + 1) + 2))
def rd2 (S : List UInt8) (y : YR) (A0 B0 p0 q1 : Nat) : Nat ⊕ DR :=
  if twoN (S.drop (mkE S (q1 + 1))) < 2 then .inl (mkE S (q1 + 1) + twoN (S.drop (mkE S (q1 + 1))))
  else if cY 45 (S.drop (mkE S (mkE S (q1 + 1) + 2))) = 0 then .inr (y.1, y.2.1, y.2.2.1, y.2.2.2.1, y.2.2.2.2.1, (S.drop (mkE S (q1 + 1))).take 2, [], spM (A0, mkS (S.drop (q1 + 1)), 0) (B0, mkS (S.drop (mkE S (q1 + 1) + 2)), 0), (p0, mkE S (q1 + 1), 0), mkE S (mkE S (q1 + 1) + 2))
  else rd3 S y A0 B0 (mkS (S.drop (q1 + 1))) (mkS (S.drop (mkE S (q1 + 1) + 2))) p0 (mkE S (q1 + 1)) (mkE S (mkE S (q1 + 1) + 2)) ((S.drop (mkE S (q1 + 1))).take 2)
def kA (S : List UInt8) (a : Nat) : Nat ⊕ DR := match kS (S.drop (mkE S a)) with
  | .inl k => .inl (mkE S a + k)
  | .inr y => if 0 < y.2.2.2.2.1 ∨ cY 45 (S.drop (mkE S (mkE S a + y.2.2.2.2.2))) = 0
    then .inr (y.1, y.2.1, y.2.2.1, y.2.2.2.1, y.2.2.2.2.1, [], [], spM (mkS (S.drop a), 0, 0) (mkS (S.drop (mkE S a + y.2.2.2.2.2)), 0, 0), (mkE S a, 0, 0), mkE S (mkE S a + y.2.2.2.2.2))
    else rd2 S y (mkS (S.drop a)) (mkS (S.drop (mkE S a + y.2.2.2.2.2))) (mkE S a) (mkE S (mkE S a + y.2.2.2.2.2))
def Bw (S : List UInt8) : Nat ⊕ DR → (Int × Int × List UInt8 × Int) ⊕ (Bool × Bool × List UInt8 × Int × Int × List UInt8 × List UInt8 × Int × Int × Int × List Int × List UInt8 × Int)
  | .inl k => .inl ((k : Int), 5, S, (k : Int))
  | .inr (g, l, dg, x, s, m, d, M, P, e) => .inr (g, l, dg, (x : Int), (s : Int), m, d, (M.1 : Int), (M.2.1 : Int), (M.2.2 : Int), l3 P, S, (e : Int))
theorem fD {S : List UInt8} {p : Nat} (h : p ≤ S.length) : mkE S p ≤ S.length := by
  have := BB (S.drop p)
  rw [List.length_drop] at this
  unfold mkE
  omega
theorem nF {S : List UInt8} {p : Nat} (h2 : ¬ twoN (S.drop p) < 2) : p + 2 ≤ S.length := by
  have := gf isDX 2 (S.drop p)
  unfold twoN at h2
  rw [List.length_drop] at this
  omega
theorem jH {S : List UInt8} {p : Nat} (h : ¬ cY 45 (S.drop p) = 0) : p + 1 ≤ S.length := by
  have := pl 45 (S.drop p)
  rw [List.length_drop] at this
  omega
theorem yv (n : Nat) (g l : Bool) (d : List UInt8) (x s : Int) (mm dd : List UInt8) (k0 k1 k2 : Int) (S : List UInt8) (p : Nat) (h : p ≤ S.length) (hS : S.length < 100000) (hn : S.length < n) :
    eQ n g l d x s mm dd k0 k1 k2 S (p : Int) = some (match kS (S.drop p) with
      | .inl k => .inl (((p + k : Nat) : Int), 5, g, l, d, x, s, mm, dd, k0, k1, k2, S, ((p + k : Nat) : Int))
      | .inr y => .inr (y.1, y.2.1, y.2.2.1, (y.2.2.2.1 : Int), (y.2.2.2.2.1 : Int), mm, dd, k0, k1, k2, S, ((p + y.2.2.2.2.2 : Nat) : Int))) := by
  unfold eQ
  rw [Bp n S p h hS hn]
  cases kS (S.drop p) with
  | inl k => rfl
  | inr y => rfl
theorem zt (n : Nat) (g l : Bool) (d : List UInt8) (x s : Int) (mm dd : List UInt8) (k0 k1 k2 : Int) (S : List UInt8) (p : Nat) (h : p ≤ S.length) (hS : S.length < 100000) (hn : S.length < n) :
    eT n g l d x s mm dd k0 k1 k2 S (p : Int) = some (if twoN (S.drop p) < 2
      then .inl (((p + twoN (S.drop p) : Nat) : Int), 5, g, l, d, x, s, mm, dd, k0, k1, k2, S, ((p + twoN (S.drop p) : Nat) : Int))
      else .inr (g, l, d, x, s, (S.drop p).take 2, dd, k0, k1, k2, S, ((p + 2 : Nat) : Int))) := by
  unfold eT
  rw [Ae n S p h hS hn]
  by_cases h2 : twoN (S.drop p) < 2
  · rw [if_pos h2, if_pos h2]; rfl
  · rw [if_neg h2, if_neg h2]; rfl
theorem yE (n : Nat) (g l : Bool) (d : List UInt8) (x s : Int) (mm dd : List UInt8) (k0 k1 k2 : Int) (S : List UInt8) (p : Nat) (h : p ≤ S.length) (hS : S.length < 100000) (hn : S.length < n) :
    eN n g l d x s mm dd k0 k1 k2 S (p : Int) = some (if twoN (S.drop p) < 2
      then .inl (((p + twoN (S.drop p) : Nat) : Int), 5, g, l, d, x, s, mm, dd, k0, k1, k2, S, ((p + twoN (S.drop p) : Nat) : Int))
      else .inr (g, l, d, x, s, mm, (S.drop p).take 2, k0, k1, k2, S, ((p + 2 : Nat) : Int))) := by
  unfold eN
  rw [Ae n S p h hS hn]
  by_cases h2 : twoN (S.drop p) < 2
  · rw [if_pos h2, if_pos h2]; rfl
  · rw [if_neg h2, if_neg h2]; rfl
theorem xA (m : Nat) (S : List UInt8) (a : Nat) (h : a ≤ S.length) (hS : S.length < 100000) (hn : S.length < m + 300) :
    dI (m + 300) S (a : Int) = some (Bw S (kA S a)) := by
  have hm : ∀ p, p ≤ S.length → aZ (m + 300) S (p : Int) = some (.inr (((mkS (S.drop p) : Nat) : Int), S, ((mkE S p : Nat) : Int))) := fun p hp => Bn m S p hp hS
  have z4 : ∀ p, mkS (S.drop p) < 4 := fun p => vQ _
  have sp1 : ∀ p q, bZ (m + 300) [((mkS (S.drop p) : Nat) : Int), 0, 0] [((mkS (S.drop q) : Nat) : Int), 0, 0] 1 = some (l3 (spM (mkS (S.drop p), 0, 0) (mkS (S.drop q), 0, 0)), 0) := fun p q =>
    m4 (m + 300) (by omega) 1 (mkS (S.drop p), 0, 0) (mkS (S.drop q), 0, 0) (by omega) ⟨z4 p, by simp, by simp, by simp, by simp⟩ ⟨z4 q, by simp, by simp, by simp, by simp⟩
  have sp2 : ∀ p q p' q', bZ (m + 300) [((mkS (S.drop p) : Nat) : Int), ((mkS (S.drop p') : Nat) : Int), 0] [((mkS (S.drop q) : Nat) : Int), ((mkS (S.drop q') : Nat) : Int), 0] 2 = some (l3 (spM (mkS (S.drop p), mkS (S.drop p'), 0) (mkS (S.drop q), mkS (S.drop q'), 0)), 0) := fun p q p' q' =>
    m4 (m + 300) (by omega) 2 (mkS (S.drop p), mkS (S.drop p'), 0) (mkS (S.drop q), mkS (S.drop q'), 0) (by omega) ⟨z4 p, z4 p', by simp, by simp, by simp⟩ ⟨z4 q, z4 q', by simp, by simp, by simp⟩
  have sp3 : ∀ p q p' q' p'' q'', bZ (m + 300) [((mkS (S.drop p) : Nat) : Int), ((mkS (S.drop p') : Nat) : Int), ((mkS (S.drop p'') : Nat) : Int)] [((mkS (S.drop q) : Nat) : Int), ((mkS (S.drop q') : Nat) : Int), ((mkS (S.drop q'') : Nat) : Int)] 3 = some (l3 (spM (mkS (S.drop p), mkS (S.drop p'), mkS (S.drop p'')) (mkS (S.drop q), mkS (S.drop q'), mkS (S.drop q''))), 0) := fun p q p' q' p'' q'' =>
    m4 (m + 300) (by omega) 3 (mkS (S.drop p), mkS (S.drop p'), mkS (S.drop p'')) (mkS (S.drop q), mkS (S.drop q'), mkS (S.drop q'')) (by omega) ⟨z4 p, z4 p', z4 p'', by simp, by simp⟩ ⟨z4 q, z4 q', z4 q'', by simp, by simp⟩
  have b0 := fD h
  unfold dI kA
  rw [hm a h]
  simp only [ob, s7]
  rw [yv _ _ _ _ _ _ _ _ _ _ _ S (mkE S a) b0 hS hn]
  cases hr : kS (S.drop (mkE S a)) with
  | inl k => rfl
  | inr y =>
    obtain ⟨g, l, dg, x, s, k⟩ := y
    have bk : mkE S a + k ≤ S.length := by
      have := (lc hr).2.1
      rw [List.length_drop] at this
      omega
    have b1 := fD bk
    simp only [ob, d4, d8]
    rw [hm (mkE S a + k) bk]
    simp only [ob]
    by_cases hs : 0 < s
    · have : decide (((s : Nat) : Int) > 0) = true := by simp; omega
      rw [this, if_pos (.inl hs)]
      simp only [cond_true]
      rw [sp1]
      rfl
    · have : decide (((s : Nat) : Int) > 0) = false := by simp; omega
      rw [this]
      simp only [cond_false]
      rw [lf (m + 300) 45 S _ b1 hS]
      simp only [ob]
      by_cases ht : cY 45 (S.drop (mkE S (mkE S a + k))) = 0
      · rw [if_pos (.inr ht), ht]
        simp only [show ((0 : Nat) == 1) = false from rfl, Bool.not_false, cond_true, Nat.add_zero]
        rw [sp1]
        rfl
      · have ht1 : cY 45 (S.drop (mkE S (mkE S a + k))) = 1 := (fQ 45 _).resolve_left ht
        have bt1 := jH ht
        rw [if_neg (fun z => z.elim hs ht), ht1]
        simp only [show ((1 : Nat) == 1) = true from rfl, Bool.not_true, cond_false]
        unfold rd2
        rw [hm _ bt1]
        simp only [ob]
        have bc := fD bt1
        rw [zt _ _ _ _ _ _ _ _ _ _ _ S _ bc hS hn]
        by_cases h2 : twoN (S.drop (mkE S (mkE S (mkE S a + k) + 1))) < 2
        · rw [if_pos h2, if_pos h2]; rfl
        · rw [if_neg h2, if_neg h2]
          have b2 := nF h2
          simp only [ob, d4, d8]
          rw [hm _ b2]
          simp only [ob]
          rw [this]
          simp only [cond_false]
          have b3 := fD b2
          rw [lf (m + 300) 45 S _ b3 hS]
          simp only [ob]
          by_cases ht2 : cY 45 (S.drop (mkE S (mkE S (mkE S (mkE S a + k) + 1) + 2))) = 0
          · rw [if_pos ht2, ht2]
            simp only [show ((0 : Nat) == 1) = false from rfl, Bool.not_false, cond_true, Nat.add_zero]
            rw [sp2]
            rfl
          · have ht21 := (fQ 45 (S.drop (mkE S (mkE S (mkE S (mkE S a + k) + 1) + 2)))).resolve_left ht2
            have bt2 := jH ht2
            rw [if_neg ht2, ht21]
            simp only [show ((1 : Nat) == 1) = true from rfl, Bool.not_true, cond_false]
            unfold rd3
            rw [hm _ bt2]
            simp only [ob]
            have bc2 := fD bt2
            rw [yE _ _ _ _ _ _ _ _ _ _ _ S _ bc2 hS hn]
            by_cases h3 : twoN (S.drop (mkE S (mkE S (mkE S (mkE S (mkE S a + k) + 1) + 2) + 1))) < 2
            · rw [if_pos h3, if_pos h3]; rfl
            · rw [if_neg h3, if_neg h3]
              have b4 := nF h3
              simp only [ob, d4, d8]
              rw [hm _ b4]
              simp only [ob]
              rw [sp3]
              rfl
def AE (S : List UInt8) (P : List Int) : Nat ⊕ DR → Bool × Bool × List UInt8 × Int × Int × List UInt8 × List UInt8 × Int × Int × Int × List Int × List UInt8 × Int × Int
  | .inl k => (false, false, [], 0, 0, [], [], 0, 0, 0, P, S, (k : Int), 5)
  | .inr (g, l, dg, x, s, m, d, M, Q, e) => (g, l, dg, (x : Int), (s : Int), m, d, (M.1 : Int), (M.2.1 : Int), (M.2.2 : Int), l3 Q, S, (e : Int), 0)
abbrev RdSt := List UInt8 × Int × Int × List Int × Bool × Bool × List UInt8 × Int × Int × List UInt8 × List UInt8 × List Int × List Int × List Int × List UInt8 × Int × Int
def rdSt (S : List UInt8) (i : Int) (g l : Bool) (dg : List UInt8) (x s : Int) (mm dd : List UInt8) (P A B : List Int) (p : Nat) : RdSt :=
  (S, i, i, [0, 0, 0], g, l, dg, x, s, mm, dd, P, A, B, S, (p : Int), 0)
theorem C4 (m : Nat) (S : List UInt8) (a : Nat) (h : a ≤ S.length) (hS : S.length < 100000) (hn : S.length < m + 300) :
    ay (m + 300) (rdSt S 0 false false [] 0 0 [] [] [0, 0, 0] [0, 0, 0] [0, 0, 0] a) = some (match kS (S.drop (mkE S a)) with
      | .inl k => .inr (.inr (false, false, [], 0, 0, [], [], 0, 0, 0, [((mkE S a : Nat) : Int), 0, 0], S, ((mkE S a + k : Nat) : Int), 5))
      | .inr y => .inl (rdSt S 1 y.1 y.2.1 y.2.2.1 (y.2.2.2.1 : Int) (y.2.2.2.2.1 : Int) [] [] [((mkE S a : Nat) : Int), 0, 0] [((mkS (S.drop a) : Nat) : Int), 0, 0] [((mkS (S.drop (mkE S a + y.2.2.2.2.2)) : Nat) : Int), 0, 0] (mkE S (mkE S a + y.2.2.2.2.2)))) := by
  have hm : ∀ p, p ≤ S.length → b7 (m + 300) S (p : Int) 0 = some (((mkS (S.drop p) : Nat) : Int), S, ((mkE S p : Nat) : Int), 0) := fun p hp => pd m S p hp hS 0
  have b0 := fD h
  unfold ay rdSt
  simp only [d4, d8, d16, cD, show (decide ((0 : Int) < 3)) = true from rfl, show (decide ((0 : Int) > 0)) = false from rfl, cond_true, cond_false, ob]
  rw [hm a h]
  simp only [ob, show ix 3 0 = some 0 from rfl, show Nat.blt 0 3 = true from rfl, cond_true, cG, show ((0 : Int) == 0) = true from rfl]
  rw [ye (m + 300) S (mkE S a) b0 hS hn]
  cases hr : kS (S.drop (mkE S a)) with
  | inl k => rfl
  | inr y =>
    obtain ⟨g, l, dg, x, s, k⟩ := y
    have bk : mkE S a + k ≤ S.length := by
      have := (lc hr).2.1
      rw [List.length_drop] at this
      omega
    simp only [ie, ob, d4, d8, d16, show ((0 : Int) != 0) = false from rfl, cond_false]
    rw [hm _ bk]
    rfl
theorem Dd (m : Nat) (S : List UInt8) (g l : Bool) (dg : List UInt8) (x s : Nat) (P0 A0 B0 : Int) (q : Nat) (h : q ≤ S.length) (hS : S.length < 100000) (hn : S.length < m + 300) :
    ay (m + 300) (rdSt S 1 g l dg (x : Int) (s : Int) [] [] [P0, 0, 0] [A0, 0, 0] [B0, 0, 0] q) = some (
      if 0 < s ∨ cY 45 (S.drop q) = 0 then .inr (.inl (1, false, false, [], 0, 0, [], [], 0, 0, 0, [0, 0, 0], [], 0, 0, g, l, dg, (x : Int), (s : Int), [], [], 0, 0, 0, [P0, 0, 0], [A0, 0, 0], [B0, 0, 0], S, (q : Int), 0))
      else if twoN (S.drop (mkE S (q + 1))) < 2 then .inr (.inr (false, false, [], 0, 0, [], [], 0, 0, 0, [P0, ((mkE S (q + 1) : Nat) : Int), 0], S, ((mkE S (q + 1) + twoN (S.drop (mkE S (q + 1))) : Nat) : Int), 5))
      else .inl (rdSt S 2 g l dg (x : Int) (s : Int) ((S.drop (mkE S (q + 1))).take 2) [] [P0, ((mkE S (q + 1) : Nat) : Int), 0] [A0, ((mkS (S.drop (q + 1)) : Nat) : Int), 0] [B0, ((mkS (S.drop (mkE S (q + 1) + 2)) : Nat) : Int), 0] (mkE S (mkE S (q + 1) + 2)))) := by
  have hm : ∀ p, p ≤ S.length → b7 (m + 300) S (p : Int) 0 = some (((mkS (S.drop p) : Nat) : Int), S, ((mkE S p : Nat) : Int), 0) := fun p hp => pd m S p hp hS 0
  unfold ay rdSt
  simp only [d4, d8, d16, cD, dq, show (decide ((1 : Int) < 3)) = true from rfl, show (decide ((1 : Int) > 0)) = true from rfl, cond_true, cond_false, ob, fY]
  by_cases hs : 0 < s
  · have : decide (((s : Nat) : Int) > 0) = true := by simp; omega
    rw [this, if_pos (.inl hs)]
    rfl
  · have : decide (((s : Nat) : Int) > 0) = false := by simp; omega
    rw [this]
    simp only [cond_false]
    rcases Nat.lt_or_ge q S.length with hlt | hge
    · obtain ⟨c, hc⟩ : ∃ c, S[q]? = some c := ⟨S[q], List.getElem?_eq_getElem hlt⟩
      have hle : decide (S.length ≤ q) = false := by simp; omega
      rw [hle]
      simp only [cond_false, cJ hc, ob]
      have e45 : (((c.toNat : Nat) : Int) != 45) = !(c == 45) := by rw [bne]; congr 1; exact jd c 45
      rw [e45, bg hc, ig]
      by_cases h45 : c = 45
      · have w : IntKind.wrap .i64 ((q : Int) + 1) = ((q + 1 : Nat) : Int) := by rw [wrap_i64 _ (by omega) (by omega)]; omega
        rw [if_pos h45, if_neg (show ¬ (0 < s ∨ (1 : Nat) = 0) from fun z => z.elim hs (by omega)), h45]
        simp only [BEq.rfl, Bool.not_true, cond_false, ob, w]
        rw [hm _ (by omega)]
        simp only [ob, show ix 3 1 = some 1 from rfl, show Nat.blt 1 3 = true from rfl, cond_true, cG, dw, show ((1 : Int) == 0) = false from rfl, show ((1 : Int) == 1) = true from rfl, cond_false]
        have b1 := fD (show q + 1 ≤ S.length by omega)
        rw [vd (m + 300) (by omega) S _ b1 hS 0]
        by_cases h2 : twoN (S.drop (mkE S (q + 1))) < 2
        · rw [if_pos h2, if_pos h2]; rfl
        · rw [if_neg h2, if_neg h2]
          simp only [ob, d4, d8, d16, show ((0 : Int) != 0) = false from rfl, cond_false]
          rw [hm _ (nF h2)]
          rfl
      · have : (c == 45) = false := beq_eq_false_iff_ne.2 h45
        rw [if_neg h45, if_pos (.inr rfl), this]
        rfl
    · have hle : decide (S.length ≤ q) = true := by simp; omega
      rw [hle, List.drop_eq_nil_of_le hge, nO, if_pos (.inr rfl)]
      rfl
theorem Dl (m : Nat) (S : List UInt8) (g l : Bool) (dg : List UInt8) (x s : Nat) (mm : List UInt8) (P0 A0 B0 P1 A1 B1 : Int) (q : Nat) (h : q ≤ S.length) (hS : S.length < 100000) (hn : S.length < m + 300) (hs : ¬ 0 < s) :
    ay (m + 300) (rdSt S 2 g l dg (x : Int) (s : Int) mm [] [P0, P1, 0] [A0, A1, 0] [B0, B1, 0] q) = some (
      if cY 45 (S.drop q) = 0 then .inr (.inl (2, false, false, [], 0, 0, [], [], 0, 0, 0, [0, 0, 0], [], 0, 0, g, l, dg, (x : Int), (s : Int), mm, [], 0, 0, 0, [P0, P1, 0], [A0, A1, 0], [B0, B1, 0], S, (q : Int), 0))
      else if twoN (S.drop (mkE S (q + 1))) < 2 then .inr (.inr (false, false, [], 0, 0, [], [], 0, 0, 0, [P0, P1, ((mkE S (q + 1) : Nat) : Int)], S, ((mkE S (q + 1) + twoN (S.drop (mkE S (q + 1))) : Nat) : Int), 5))
      else .inl (rdSt S 3 g l dg (x : Int) (s : Int) mm ((S.drop (mkE S (q + 1))).take 2) [P0, P1, ((mkE S (q + 1) : Nat) : Int)] [A0, A1, ((mkS (S.drop (q + 1)) : Nat) : Int)] [B0, B1, ((mkS (S.drop (mkE S (q + 1) + 2)) : Nat) : Int)] (mkE S (mkE S (q + 1) + 2)))) := by
  have hm : ∀ p, p ≤ S.length → b7 (m + 300) S (p : Int) 0 = some (((mkS (S.drop p) : Nat) : Int), S, ((mkE S p : Nat) : Int), 0) := fun p hp => pd m S p hp hS 0
  unfold ay rdSt
  simp only [d4, d8, d16, cD, dq, show (decide ((2 : Int) < 3)) = true from rfl, show (decide ((2 : Int) > 0)) = true from rfl, cond_true, cond_false, ob, fY]
  have : decide (((s : Nat) : Int) > 0) = false := by simp; omega
  rw [this]
  simp only [cond_false]
  rcases Nat.lt_or_ge q S.length with hlt | hge
  · obtain ⟨c, hc⟩ : ∃ c, S[q]? = some c := ⟨S[q], List.getElem?_eq_getElem hlt⟩
    have hle : decide (S.length ≤ q) = false := by simp; omega
    rw [hle]
    simp only [cond_false, cJ hc, ob]
    have e45 : (((c.toNat : Nat) : Int) != 45) = !(c == 45) := by rw [bne]; congr 1; exact jd c 45
    rw [e45, bg hc, ig]
    by_cases h45 : c = 45
    · have w : IntKind.wrap .i64 ((q : Int) + 1) = ((q + 1 : Nat) : Int) := by rw [wrap_i64 _ (by omega) (by omega)]; omega
      rw [if_pos h45, if_neg (show ¬ ((1 : Nat) = 0) by omega), h45]
      simp only [BEq.rfl, Bool.not_true, cond_false, ob, w]
      rw [hm _ (by omega)]
      simp only [ob, show ix 3 2 = some 2 from rfl, show Nat.blt 2 3 = true from rfl, cond_true, cG, dw, show ((2 : Int) == 0) = false from rfl, show ((2 : Int) == 1) = false from rfl, cond_false]
      have b1 := fD (show q + 1 ≤ S.length by omega)
      rw [vd (m + 300) (by omega) S _ b1 hS 0]
      by_cases h2 : twoN (S.drop (mkE S (q + 1))) < 2
      · rw [if_pos h2, if_pos h2]; rfl
      · rw [if_neg h2, if_neg h2]
        simp only [ob, d4, d8, d16, show ((0 : Int) != 0) = false from rfl, cond_false]
        rw [hm _ (nF h2)]
        rfl
    · have : (c == 45) = false := beq_eq_false_iff_ne.2 h45
      rw [if_neg h45, if_pos rfl, this]
      rfl
  · have hle : decide (S.length ≤ q) = true := by simp; omega
    rw [hle, List.drop_eq_nil_of_le hge, nO, if_pos rfl]
    rfl
theorem lH (m : Nat) (S : List UInt8) (a : Nat) (h : a ≤ S.length) (hS : S.length < 100000) (hn : S.length < m + 300) :
    ∃ P, di (m + 300) S (a : Int) = some (AE S P (kA S a)) := by
  have z4 : ∀ p, mkS (S.drop p) < 4 := fun p => vQ _
  have sp1 : ∀ p q, bT (m + 300) [((mkS (S.drop p) : Nat) : Int), 0, 0] [((mkS (S.drop q) : Nat) : Int), 0, 0] 1 = some (l3 (spM (mkS (S.drop p), 0, 0) (mkS (S.drop q), 0, 0))) := fun p q =>
    lp (m + 300) (by omega) 1 (mkS (S.drop p), 0, 0) (mkS (S.drop q), 0, 0) (by omega) ⟨z4 p, by simp, by simp, by simp, by simp⟩ ⟨z4 q, by simp, by simp, by simp, by simp⟩
  have sp2 : ∀ p q p' q', bT (m + 300) [((mkS (S.drop p) : Nat) : Int), ((mkS (S.drop p') : Nat) : Int), 0] [((mkS (S.drop q) : Nat) : Int), ((mkS (S.drop q') : Nat) : Int), 0] 2 = some (l3 (spM (mkS (S.drop p), mkS (S.drop p'), 0) (mkS (S.drop q), mkS (S.drop q'), 0))) := fun p q p' q' =>
    lp (m + 300) (by omega) 2 (mkS (S.drop p), mkS (S.drop p'), 0) (mkS (S.drop q), mkS (S.drop q'), 0) (by omega) ⟨z4 p, z4 p', by simp, by simp, by simp⟩ ⟨z4 q, z4 q', by simp, by simp, by simp⟩
  have sp3 : ∀ p q p' q' p'' q'', bT (m + 300) [((mkS (S.drop p) : Nat) : Int), ((mkS (S.drop p') : Nat) : Int), ((mkS (S.drop p'') : Nat) : Int)] [((mkS (S.drop q) : Nat) : Int), ((mkS (S.drop q') : Nat) : Int), ((mkS (S.drop q'') : Nat) : Int)] 3 = some (l3 (spM (mkS (S.drop p), mkS (S.drop p'), mkS (S.drop p'')) (mkS (S.drop q), mkS (S.drop q'), mkS (S.drop q'')))) := fun p q p' q' p'' q'' =>
    lp (m + 300) (by omega) 3 (mkS (S.drop p), mkS (S.drop p'), mkS (S.drop p'')) (mkS (S.drop q), mkS (S.drop q'), mkS (S.drop q'')) (by omega) ⟨z4 p, z4 p', z4 p'', by simp, by simp⟩ ⟨z4 q, z4 q', z4 q'', by simp, by simp⟩
  have b0 := fD h
  unfold di kA
  show ∃ P, ob (af (ay (m + 300)) (m + 299 + 1) (rdSt S 0 false false [] 0 0 [] [] [0, 0, 0] [0, 0, 0] [0, 0, 0] a)) _ = _
  rw [af, C4 m S a h hS hn]
  cases hr : kS (S.drop (mkE S a)) with
  | inl k => exact ⟨_, rfl⟩
  | inr y =>
    obtain ⟨g, l, dg, x, s, k⟩ := y
    have bk : mkE S a + k ≤ S.length := by
      have := (lc hr).2.1
      rw [List.length_drop] at this
      omega
    have b1 := fD bk
    show ∃ P, ob (af (ay (m + 300)) (m + 298 + 1) (rdSt S 1 g l dg (x : Int) (s : Int) [] [] [((mkE S a : Nat) : Int), 0, 0] [((mkS (S.drop a) : Nat) : Int), 0, 0] [((mkS (S.drop (mkE S a + k)) : Nat) : Int), 0, 0] (mkE S (mkE S a + k)))) _ = _
    rw [af, Dd m S g l dg x s _ _ _ _ b1 hS hn]
    simp only []
    by_cases hc : 0 < s ∨ cY 45 (S.drop (mkE S (mkE S a + k))) = 0
    · rw [if_pos hc, if_pos hc]
      refine ⟨[0, 0, 0], ?_⟩
      simp only [ob, d4, d8, d16]
      rw [sp1]
      rfl
    · rw [if_neg hc, if_neg hc]
      have hs : ¬ 0 < s := fun z => hc (.inl z)
      have bt1 := jH (fun z => hc (.inr z))
      have bc := fD bt1
      unfold rd2
      by_cases h2 : twoN (S.drop (mkE S (mkE S (mkE S a + k) + 1))) < 2
      · rw [if_pos h2, if_pos h2]; exact ⟨_, rfl⟩
      · rw [if_neg h2, if_neg h2]
        have b2 := nF h2
        have b3 := fD b2
        show ∃ P, ob (af (ay (m + 300)) (m + 297 + 1) (rdSt S 2 g l dg (x : Int) (s : Int) _ [] [_, _, 0] [_, _, 0] [_, _, 0] (mkE S (mkE S (mkE S (mkE S a + k) + 1) + 2)))) _ = _
        rw [af, Dl m S g l dg x s _ _ _ _ _ _ _ _ b3 hS hn hs]
        by_cases ht2 : cY 45 (S.drop (mkE S (mkE S (mkE S (mkE S a + k) + 1) + 2))) = 0
        · rw [if_pos ht2, if_pos ht2]
          refine ⟨[0, 0, 0], ?_⟩
          simp only [ob, d4, d8, d16]
          rw [sp2]
          rfl
        · rw [if_neg ht2, if_neg ht2]
          have bt2 := jH ht2
          have bc2 := fD bt2
          unfold rd3
          by_cases h3 : twoN (S.drop (mkE S (mkE S (mkE S (mkE S (mkE S a + k) + 1) + 2) + 1))) < 2
          · rw [if_pos h3, if_pos h3]; exact ⟨_, rfl⟩
          · rw [if_neg h3, if_neg h3]
            have s3 : ∀ (mm dd : List UInt8) (P A B : List Int) (p : Nat), ay (m + 300) (rdSt S 3 g l dg (x : Int) (s : Int) mm dd P A B p) = some (.inr (.inl (3, false, false, [], 0, 0, [], [], 0, 0, 0, [0, 0, 0], [], 0, 0, g, l, dg, (x : Int), (s : Int), mm, dd, 0, 0, 0, P, A, B, S, (p : Int), 0))) := fun _ _ _ _ _ _ => rfl
            show ∃ P, ob (af (ay (m + 300)) (m + 296 + 1) (rdSt S 3 g l dg (x : Int) (s : Int) _ _ _ _ _ _)) _ = _
            rw [af, s3]
            refine ⟨[0, 0, 0], ?_⟩
            simp only [ob, d4, d8, d16]
            rw [sp3]
            rfl
theorem Cw {m : List UInt8} (h : m ≠ []) : je m [] = 2 := by unfold je; rw [beq_eq_false_iff_ne.2 h]; rfl
theorem zK {m d : List UInt8} (h : m ≠ []) (h2 : d ≠ []) : je m d = 3 := by unfold je; rw [beq_eq_false_iff_ne.2 h, beq_eq_false_iff_ne.2 h2]; rfl
theorem iz {d : List UInt8} (h : d.length = 2) : d ≠ [] := by rintro rfl; simp at h
abbrev PD := Bool × Bool × List UInt8 × Int × Int × List UInt8 × List UInt8 × Int × Int × Int × Int × Int
def pz (a e : Int) : PD := (false, false, [], 0, 0, [], [], 0, 0, 0, a, e)
def rK (S : List UInt8) : Nat ⊕ DR → PD
  | .inl k => pz (k : Int) 5
  | .inr (g, l, dg, x, s, m, d, M, P, e) => if e < S.length then pz (e : Int) 5 else
      if chkD g l dg (x : Int) (s : Int) m d (M.1 : Int) (M.2.1 : Int) (M.2.2 : Int) = 0 then (g, l, dg, (x : Int), (s : Int), m, d, (M.1 : Int), (M.2.1 : Int), (M.2.2 : Int), 0, 0)
      else pz ((l3 P).getD (chkD g l dg (x : Int) (s : Int) m d (M.1 : Int) (M.2.1 : Int) (M.2.2 : Int) - 6).toNat 0) (chkD g l dg (x : Int) (s : Int) m d (M.1 : Int) (M.2.1 : Int) (M.2.2 : Int))
def og (S : List UInt8) : PD := rK S (kA S 0)
theorem AO {A B : Nat × Nat × Nat} (h0 : A.1 < 4) (h1 : A.2.1 < 4) (h2 : A.2.2 < 4) (g0 : B.1 < 4) (g1 : B.2.1 < 4) (g2 : B.2.2 < 4) : (spM A B).1 < 4 ∧ (spM A B).2.1 < 4 ∧ (spM A B).2.2 < 4 := by
  have ol : ∀ x y : Nat, x < 4 → y < 4 → x ||| y < 4 := fun x y hx hy => (or4 hx hy).2
  exact ⟨ol _ _ (ol _ _ (ol _ _ h0 g0) g1) g2, ol _ _ (ol _ _ h1 g1) g2, ol _ _ h2 g2⟩
structure RdOK (S : List UInt8) (a : Nat) (dg m d : List UInt8) (M : Nat × Nat × Nat) (e : Nat) : Prop where
  dg17 : dg.length ≤ 17
  m2 : m.length ≤ 2
  d2 : d.length ≤ 2
  all : inM (je m d) M
  le : a ≤ e
  end_ : e ≤ S.length
theorem jG {S : List UInt8} {a : Nat} (h : a ≤ S.length) {g l : Bool} {dg : List UInt8} {x s : Nat} {m d : List UInt8} {M P : Nat × Nat × Nat} {e : Nat} (hr : kA S a = .inr (g, l, dg, x, s, m, d, M, P, e)) : RdOK S a dg m d M e := by
  have z4 : ∀ p, mkS (S.drop p) < 4 := fun p => vQ _
  have z0 : 0 < 4 := by omega
  have b0 := fD h
  have g0 : a ≤ mkE S a := Nat.le_add_right _ _
  have gE : ∀ p, p ≤ mkE S p := fun p => Nat.le_add_right _ _
  unfold kA at hr
  cases hy : kS (S.drop (mkE S a)) with
  | inl k => rw [hy] at hr; cases hr
  | inr y =>
    obtain ⟨g', l', dg', x', s', k⟩ := y
    obtain ⟨_, bk, _, _, hdg⟩ := lc hy
    have bk : mkE S a + k ≤ S.length := by
      rw [List.length_drop] at bk
      omega
    have b1 := fD bk
    rw [hy] at hr
    simp only [] at hr
    by_cases hc : 0 < s' ∨ cY 45 (S.drop (mkE S (mkE S a + k))) = 0
    · rw [if_pos hc] at hr
      cases hr
      have := AO (A := (mkS (S.drop a), 0, 0)) (B := (mkS (S.drop (mkE S a + k)), 0, 0)) (z4 _) z0 z0 (z4 _) z0 z0
      refine ⟨hdg, by simp, by simp, ⟨this.1, this.2.1, this.2.2, fun _ => by simp [spM], fun _ => by simp [spM]⟩, ?_, b1⟩
      have := gE (mkE S a + k)
      omega
    · rw [if_neg hc] at hr
      have bt1 := jH (fun z => hc (.inr z))
      have bc := fD bt1
      unfold rd2 at hr
      by_cases h2 : twoN (S.drop (mkE S (mkE S (mkE S a + k) + 1))) < 2
      · rw [if_pos h2] at hr; cases hr
      · rw [if_neg h2] at hr
        have b2 := nF h2
        have b3 := fD b2
        have hml : (List.take 2 (S.drop (mkE S (mkE S (mkE S a + k) + 1)))).length = 2 := by rw [List.length_take, List.length_drop]; omega
        have g1 := gE (mkE S a + k)
        have g2 := gE (mkE S (mkE S a + k) + 1)
        have g3 := gE (mkE S (mkE S (mkE S a + k) + 1) + 2)
        by_cases ht2 : cY 45 (S.drop (mkE S (mkE S (mkE S (mkE S a + k) + 1) + 2))) = 0
        · rw [if_pos ht2] at hr
          cases hr
          have := AO (A := (mkS (S.drop a), mkS (S.drop (mkE S (mkE S a + k) + 1)), 0)) (B := (mkS (S.drop (mkE S a + k)), mkS (S.drop (mkE S (mkE S (mkE S a + k) + 1) + 2)), 0)) (z4 _) (z4 _) z0 (z4 _) (z4 _) z0
          refine ⟨hdg, by omega, by simp, ⟨this.1, this.2.1, this.2.2, fun z => ?_, fun _ => by simp [spM]⟩, by omega, b3⟩
          rw [Cw (iz hml)] at z
          omega
        · rw [if_neg ht2] at hr
          have bt2 := jH ht2
          have bc2 := fD bt2
          unfold rd3 at hr
          by_cases h3 : twoN (S.drop (mkE S (mkE S (mkE S (mkE S (mkE S a + k) + 1) + 2) + 1))) < 2
          · rw [if_pos h3] at hr; cases hr
          · rw [if_neg h3] at hr
            have b4 := nF h3
            have b5 := fD b4
            have hdl : (List.take 2 (S.drop (mkE S (mkE S (mkE S (mkE S (mkE S a + k) + 1) + 2) + 1)))).length = 2 := by rw [List.length_take, List.length_drop]; omega
            cases hr
            have g4 := gE (mkE S (mkE S (mkE S (mkE S a + k) + 1) + 2) + 1)
            have g5 := gE (mkE S (mkE S (mkE S (mkE S (mkE S a + k) + 1) + 2) + 1) + 2)
            have := AO (A := (mkS (S.drop a), mkS (S.drop (mkE S (mkE S a + k) + 1)), mkS (S.drop (mkE S (mkE S (mkE S (mkE S a + k) + 1) + 2) + 1)))) (B := (mkS (S.drop (mkE S a + k)), mkS (S.drop (mkE S (mkE S (mkE S a + k) + 1) + 2)), mkS (S.drop (mkE S (mkE S (mkE S (mkE S (mkE S a + k) + 1) + 2) + 1) + 2)))) (z4 _) (z4 _) (z4 _) (z4 _) (z4 _) (z4 _)
            refine ⟨hdg, by omega, by omega, ⟨this.1, this.2.1, this.2.2, fun z => ?_, fun z => ?_⟩, by omega, b5⟩
            · rw [zK (iz hml) (iz hdl)] at z
              omega
            · rw [zK (iz hml) (iz hdl)] at z
              omega
theorem jr {g l : Bool} {dg : List UInt8} {x q : Int} {m d : List UInt8} {k0 k1 k2 : Int} (hk : allM k0 k1 k2 (je m d) = 0) : chkD g l dg x q m d k0 k1 k2 = 0 ∨ chkD g l dg x q m d k0 k1 k2 = 6 ∨ chkD g l dg x q m d k0 k1 k2 = 7 ∨ chkD g l dg x q m d k0 k1 k2 = 8 := by
  unfold chkD
  rw [hk]
  generalize yrD g l dg x q m = b1
  generalize (!(m == []) && (!(decide (0 < sea m)) && !(dp m 12))) = b2
  generalize (!(d == []) && ((m == []) || (decide (0 < sea m) || !(dp d 31)))) = b3
  cases b1 <;> cases b2 <;> cases b3 <;> simp
theorem xF (m : Nat) (S : List UInt8) (hS : S.length < 100000) (hn : S.length < m + 300) : dR (m + 300) S = some (og S) := by
  have hr := xA m S 0 (by omega) hS hn
  rw [show ((0 : Nat) : Int) = 0 from rfl] at hr
  unfold dR cg fV og
  rw [hr]
  cases hd : kA S 0 with
  | inl k => rfl
  | inr r =>
    obtain ⟨g, l, dg, x, s, mm, d, M, P, e⟩ := r
    have hok := jG (by omega) hd
    have hM := hok.all
    simp only [ob, Bw, d4, d8, rK, cK]
    by_cases he : e < S.length
    · rw [decide_eq_true he, if_pos he]
      rfl
    · rw [decide_eq_false he, if_neg he]
      simp only [cond_false, show ((0 : Int) == 0) = true from rfl, cond_true]
      have h2 := hok.m2
      have h17 := hok.dg17
      rw [tM (m + 300) (by omega) g l dg _ _ mm d _ _ _ (by omega) (by omega) (by omega) (by omega) (by omega)]
      simp only [ob]
      have hcs := jr (g := g) (l := l) (dg := dg) (x := (x : Int)) (q := (s : Int)) (m := mm) (d := d) (k0 := (M.1 : Int)) (k1 := (M.2.1 : Int)) (k2 := (M.2.2 : Int)) (jk hM)
      rcases hcs with hc | hc | hc | hc <;> rw [hc] <;> rfl
theorem sC (m : Nat) (S : List UInt8) (hS : S.length < 100000) (hn : S.length < m + 300) : cL (m + 300) S = some (og S) := by
  obtain ⟨Q, hr⟩ := lH m S 0 (by omega) hS hn
  rw [show ((0 : Nat) : Int) = 0 from rfl] at hr
  unfold cL og
  rw [hr]
  cases hd : kA S 0 with
  | inl k => rfl
  | inr r =>
    obtain ⟨g, l, dg, x, s, mm, d, M, P, e⟩ := r
    have hok := jG (by omega) hd
    have hM := hok.all
    simp only [ob, AE, d4, d8, rK, cK, show ((0 : Int) != 0) = false from rfl, cond_false]
    show cond (decide (((e : Nat) : Int) < ((S.length : Nat) : Int))) _ _ = _
    by_cases he : e < S.length
    · have hlt : decide (((e : Nat) : Int) < ((S.length : Nat) : Int)) = true := by simp; omega
      rw [hlt, if_pos he]
      rfl
    · have hlt : decide (((e : Nat) : Int) < ((S.length : Nat) : Int)) = false := by simp; omega
      rw [hlt, if_neg he]
      simp only [cond_false]
      have h17 := hok.dg17
      rw [m5 (m + 300) (by omega) g l dg _ _ mm d _ _ _ (by omega) (by omega) (by omega) (by omega)]
      simp only [ob]
      have hcs := jr (g := g) (l := l) (dg := dg) (x := (x : Int)) (q := (s : Int)) (m := mm) (d := d) (k0 := (M.1 : Int)) (k1 := (M.2.1 : Int)) (k2 := (M.2.2 : Int)) (jk hM)
      rcases hcs with hc | hc | hc | hc <;> rw [hc] <;> rfl
end Go.Sh
