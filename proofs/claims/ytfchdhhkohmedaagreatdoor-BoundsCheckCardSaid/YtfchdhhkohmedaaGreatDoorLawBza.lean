/- Plain proofs, kept as far as they are needed here (printed by prune.py).
   Conditions: none. -/
import Derived.Test.YtfchdhhkohmedaaGreatDoorAbsX
import Derived.Laws.RangeString
import Derived.Laws.RangeAny
import Derived.Test.YtfchdhhkohmedaaGreatDoorShB
import Derived.Lib.Atoi
import Derived.KernelRfl
import Derived.Lib.IndexLaws
set_option linter.unusedVariables false
set_option linter.unusedSimpArgs false
set_option maxRecDepth 100000
namespace Go.Sh
open Go.Abs
theorem dH {X Y : Type} {step : X → Option (X ⊕ Y)} (I : X → Prop) (μ : X → Nat) (G : X → Y)
    (h : ∀ x, I x → (∃ x', step x = some (.inl x') ∧ I x' ∧ μ x' < μ x ∧ G x' = G x) ∨ step x = some (.inr (G x))) :
    ∀ (n : Nat) (x : X), I x → μ x < n → ae step n x = some (G x)
  | 0, x, _, hm => by omega
  | n + 1, x, hx, hm => by
    rcases h x hx with ⟨x', h1, h2, h3, h4⟩ | h1
    · simp only [ae, h1]
      rw [dH I μ G h n x' h2 (by omega), h4]
    · simp only [ae, h1]
theorem kA {X Y : Type} {step : X → Option (X ⊕ Y)} (I : X → Prop) (μ : X → Nat) (Q : Y → Prop)
    (h : ∀ x, I x → (∃ x', step x = some (.inl x') ∧ I x' ∧ μ x' < μ x) ∨ ∃ y, step x = some (.inr y) ∧ Q y) :
    ∀ (n : Nat) (x : X), I x → μ x < n → ∃ y, ae step n x = some y ∧ Q y
  | 0, x, _, hm => by omega
  | n + 1, x, hx, hm => by
    rcases h x hx with ⟨x', h1, h2, h3⟩ | ⟨y, h1, h2⟩
    · simp only [ae, h1]
      exact kA I μ Q h n x' h2 (by omega)
    · exact ⟨y, by simp only [ae, h1], h2⟩
theorem qw (x : Int) : 0 ≤ IntKind.wrap .u8 x ∧ IntKind.wrap .u8 x < 256 := by
  show 0 ≤ x % 256 ∧ x % 256 < 256
  omega
theorem fY (x : Int) (h0 : 0 ≤ x) (h1 : x < 256) : IntKind.wrap .u8 x = x := by
  show x % 256 = x
  omega
theorem vn (x : Int) : IntKind.wrap .u8 x = x % 256 := rfl
theorem wrap_i64 (x : Int) (h0 : -9223372036854775808 ≤ x) (h1 : x < 9223372036854775808) : IntKind.wrap .i64 x = x := by
  simp only [IntKind.wrap, IntKind.signed, IntKind.bits]
  simp
  omega
theorem gT {l : List UInt8} {i : Nat} {c : UInt8} (h : l[i]? = some c) : sx l (i : Int) = some c := by
  simp [sx, h]
theorem dl {n i : Nat} (h : i < n) : ix n (i : Int) = some i := by
  simp [ix]; omega
theorem ii {n i : Nat} (h : i ≤ n) : bx n (i : Int) = some i := by
  simp [bx]; omega
theorem tA {l : List UInt8} {i : Nat} {c : UInt8} (h : l[i]? = some c) (hc : c.toNat < 128) : dec l i = (c.toNat, 1) := by
  have hlt : i < l.length := by
    rcases Nat.lt_or_ge i l.length with h' | h'
    · exact h'
    · rw [List.getElem?_eq_none h'] at h; cases h
  have hs : i < (ByteArray.mk l.toArray).size := hlt
  have hg : (ByteArray.mk l.toArray)[i]'hs = c := by
    rw [List.getElem?_eq_getElem hlt] at h
    simp only [Option.some.injEq] at h
    exact h
  unfold dec
  rw [decode_ascii _ i hs (by rw [hg]; exact hc), hg]
theorem uZ {l : List UInt8} {i : Nat} {c : UInt8} (h : l[i]? = some c) (hc : 128 ≤ c.toNat) : 128 ≤ (dec l i).1 ∧ 1 ≤ (dec l i).2 := by
  have hlt : i < l.length := by
    rcases Nat.lt_or_ge i l.length with h' | h'
    · exact h'
    · rw [List.getElem?_eq_none h'] at h; cases h
  have hs : i < (ByteArray.mk l.toArray).size := hlt
  have hg : (ByteArray.mk l.toArray)[i]'hs = c := by
    rw [List.getElem?_eq_getElem hlt] at h
    simp only [Option.some.injEq] at h
    exact h
  unfold dec
  exact decode_high _ i hs (by rw [hg]; exact hc)
theorem oZ {α : Type} {l : List α} {i : Nat} {c : α} (h : l[i]? = some c) : i < l.length := by
  rcases Nat.lt_or_ge i l.length with h' | h'
  · exact h'
  · rw [List.getElem?_eq_none h'] at h; cases h
theorem ga {α : Type} {l : List α} {i : Nat} {c : α} (h : l[i]? = some c) : l.drop i = c :: l.drop (i + 1) := by
  have hlt := oZ h
  rw [List.getElem?_eq_getElem hlt] at h
  simp only [Option.some.injEq] at h
  rw [← h, List.drop_eq_getElem_cons hlt]
theorem ia {α β : Type} [BEq α] [LawfulBEq α] [DecidableEq α] (a b : α) (x y : β) : (cond (a == b) x y) = if a = b then x else y := by
  by_cases h : a = b
  · subst h; simp
  · rw [beq_eq_false_iff_ne.2 h]; simp [h]
theorem nd {α β : Type} [BEq α] [LawfulBEq α] [DecidableEq α] (a b : α) (x y : β) : (cond (a != b) x y) = if a = b then y else x := by
  by_cases h : a = b
  · subst h; simp
  · rw [bne, beq_eq_false_iff_ne.2 h]; simp [h]
theorem aN {β : Type} (p : Prop) [Decidable p] (x y : β) : (cond (decide p) x y) = if p then x else y := by
  by_cases h : p <;> simp [h]
theorem zR {β : Type} (b : Bool) (x y : β) : (cond (!b) x y) = cond b y x := by cases b <;> rfl
theorem ie (a b : Nat) : (decide (((a : Nat) : Int) < ((b : Nat) : Int))) = decide (a < b) := by
  by_cases h : a < b <;> simp [h]
theorem uh (c d : UInt8) : ((((c.toNat : Nat) : Int)) == ((d.toNat : Nat) : Int)) = (c == d) := by
  by_cases h : c = d
  · subst h; simp
  · have h1 : c.toNat ≠ d.toNat := fun e => h (UInt8.toNat_inj.1 e)
    have h2 : ((c.toNat : Nat) : Int) ≠ ((d.toNat : Nat) : Int) := by omega
    rw [beq_eq_false_iff_ne.2 h2, beq_eq_false_iff_ne.2 h]
theorem Ea (c : UInt8) : UInt8.ofNat (Int.toNat ((c.toNat : Nat) : Int)) = c := by simp
def two (c : Nat) : List UInt8 := [UInt8.ofNat (48 + c / 10), UInt8.ofNat (48 + c % 10)]
def sea (m : List UInt8) : Int := match (List.range 21).find? (fun j => m == two (21 + j)) with | some j => ((21 + j : Nat) : Int) | none => 0
theorem fV {j : Nat} (hj : j < 21) : sea (two (21 + j)) = ((21 + j : Nat) : Int) := by
  have : ((List.range 21).all fun j => sea (two (21 + j)) == ((21 + j : Nat) : Int)) = true := by decide +kernel
  simpa using (List.all_eq_true.1 this) j (by simpa using hj)
theorem jo (m : List UInt8) : sea m = 0 ∨ ∃ j, j < 21 ∧ m = two (21 + j) := by
  unfold sea
  split
  · rename_i j h
    have h1 := List.find?_some h
    have h2 := List.mem_of_find?_eq_some h
    exact .inr ⟨j, by simpa using h2, by simpa using h1⟩
  · exact .inl rfl
theorem jE {b : UInt8} {d : Nat} (h : Lib.digitVal b = some d) : d < 10 ∧ b.toNat = 48 + d := by
  unfold Lib.digitVal at h
  split at h
  · cases h; omega
  · cases h
theorem yE {a b : UInt8} {v : Int} (h : Lib.atoi [a, b] = some v) (h1 : 21 ≤ v) (h2 : v < 42) : ∃ j, j < 21 ∧ [a, b] = two (21 + j) ∧ v = ((21 + j : Nat) : Int) := by
  obtain ⟨b0, r, e, h3⟩ := Lib.atoi_cases h
  cases e
  rcases h3 with ⟨_, m, _, _, h4⟩ | ⟨_, m, _, h5, h4⟩ | ⟨_, _, m, h5, h4⟩
  · omega
  · simp only [Lib.decFrom] at h5
    split at h5
    · rename_i d hd
      have := (jE hd).1
      simp only [Option.some.injEq] at h5
      omega
    · cases h5
  · simp only [Lib.decFrom] at h5
    split at h5
    · rename_i d hd
      split at h5
      · rename_i d' hd'
        obtain ⟨k1, k2⟩ := jE hd
        obtain ⟨k3, k4⟩ := jE hd'
        simp only [Option.some.injEq] at h5
        refine ⟨m - 21, by omega, ?_, by omega⟩
        have e0 : (21 + (m - 21)) / 10 = d := by omega
        have e1 : (21 + (m - 21)) % 10 = d' := by omega
        unfold two
        rw [e0, e1, ← k2, ← k4]
        simp
      · cases h5
    · cases h5
theorem oY {j : Nat} (hj : j < 21) : Lib.atoi (two (21 + j)) = some ((21 + j : Nat) : Int) := by
  have : ((List.range 21).all fun j => Lib.atoi (two (21 + j)) == some ((21 + j : Nat) : Int)) = true := by decide +kernel
  simpa using (List.all_eq_true.1 this) j (by simpa using hj)
theorem lX (n : Nat) (g l : Bool) (dg : List UInt8) (x q : Int) (m d : List UInt8) (k0 k1 k2 : Int) (hm : m.length ≤ 18) : aW n g l dg x q m d k0 k1 k2 = some (sea m, decide (0 < sea m)) := by
  have hb : Nat.ble m.length 18 = true := Nat.ble_eq_true_of_le hm
  rcases jo m with h0 | ⟨j, hj, rfl⟩
  · unfold aW
    rw [hb, h0]
    show opt (Lib.atoi m) _ _ = _
    cases ha : Lib.atoi m with
    | none => rfl
    | some v =>
      show cond _ _ _ = _
      by_cases hl : m.length = 2
      · rw [hl]
        obtain ⟨a, b, rfl⟩ : ∃ a b, m = [a, b] := by
          match m, hl with
          | [a, b], _ => exact ⟨a, b, rfl⟩
        show ob (bv n v) _ = _
        unfold bv
        rw [aN, aN]
        split
        · rfl
        · split
          · rfl
          · exfalso
            obtain ⟨j, hj, e, _⟩ := yE ha (by omega) (by omega)
            rw [e, fV hj] at h0
            omega
      · rw [show (((m.length : Nat) : Int) != 2) = true by simp; omega]
        rfl
  · rw [fV hj]
    have e : aW n g l dg x q (two (21 + j)) d k0 k1 k2 = some (((21 + j : Nat) : Int), true) := by
      unfold aW
      rw [hb, oY hj]
      show ob (bv n ((21 + j : Nat) : Int)) _ = _
      unfold bv
      rw [aN, aN, if_neg (by omega), if_neg (by omega)]
      rfl
    rw [e]
    have : decide (0 < ((21 + j : Nat) : Int)) = true := by simp; omega
    rw [this]
theorem xz (n : Nat) {c : Nat} (hc : c < 100) : db n (c : Int) = some (two c) := by
  have e1 : Int.tdiv (c : Int) 10 = ((c / 10 : Nat) : Int) := by
    rw [show (10 : Int) = ((10 : Nat) : Int) from rfl, ← Int.ofNat_tdiv]
  have e2 : Int.tmod (c : Int) 10 = ((c % 10 : Nat) : Int) := by
    rw [show (10 : Int) = ((10 : Nat) : Int) from rfl, ← Int.ofNat_tmod]
  have h1 : c / 10 < 10 := by omega
  have h2 : c % 10 < 10 := by omega
  unfold db
  rw [e1, e2]
  have w1 : IntKind.wrap .i64 ((c / 10 : Nat) : Int) = ((c / 10 : Nat) : Int) := wrap_i64 _ (by omega) (by omega)
  have w2 : IntKind.wrap .i64 (((c / 10 : Nat) : Int) + 1) = ((c / 10 + 1 : Nat) : Int) := by rw [wrap_i64 _ (by omega) (by omega)]; omega
  have w3 : IntKind.wrap .i64 (((c % 10 : Nat) : Int) + 1) = ((c % 10 + 1 : Nat) : Int) := by rw [wrap_i64 _ (by omega) (by omega)]; omega
  rw [w1, w2, w3, ii (by omega), ii (by omega)]
  show ob (bx (c / 10 + 1) ((c / 10 : Nat) : Int)) _ = _
  rw [ii (by omega)]
  show ob (bx (c % 10 + 1) ((c % 10 : Nat) : Int)) _ = _
  rw [ii (by omega)]
  unfold two
  generalize c / 10 = a at *
  generalize c % 10 = b at *
  have : ((List.range 10).all fun a => (List.range 10).all fun b => ob (cat (List.drop a (List.take (a + 1) ([48, 49, 50, 51, 52, 53, 54, 55, 56, 57] : List UInt8))) (List.drop b (List.take (b + 1) ([48, 49, 50, 51, 52, 53, 54, 55, 56, 57] : List UInt8)))) (fun s => some s) == some [UInt8.ofNat (48 + a), UInt8.ofNat (48 + b)]) = true := by decide +kernel
  have h3 := (List.all_eq_true.1 ((List.all_eq_true.1 this) a (by simpa using h1))) b (by simpa using h2)
  simpa using h3
theorem zn {m : List UInt8} (h : ∀ j, j < 21 → m ≠ two (21 + j)) : sea m = 0 := by
  rcases jo m with h0 | ⟨j, hj, e⟩
  · exact h0
  · exact absurd e (h j hj)
theorem nR (n : Nat) (g l : Bool) (dg : List UInt8) (x q : Int) (m d : List UInt8) (k0 k1 k2 : Int) : ∀ (r j : Nat), j + r = 21 → (∀ i, i < j → m ≠ two (21 + i)) → ∀ N, r < N →
    ae (aG n) N (((21 + j : Nat) : Int), g, l, dg, x, q, m, d, k0, k1, k2) = some (if sea m = 0 then .inr () else .inl (sea m)) := by
  intro r
  induction r with
  | zero =>
    intro j hj hne N hN
    obtain ⟨N, rfl⟩ : ∃ k, N = k + 1 := ⟨N - 1, by omega⟩
    have hs : sea m = 0 := zn (fun i hi => hne i (by omega))
    rw [ae]
    have : aG n (((21 + j : Nat) : Int), g, l, dg, x, q, m, d, k0, k1, k2) = some (.inr (.inr ())) := by
      unfold aG
      rw [aN, if_neg (by show ¬ (((21 + j : Nat) : Int) ≤ 41); omega)]
    rw [this, if_pos hs]
  | succ r ih =>
    intro j hj hne N hN
    obtain ⟨N, rfl⟩ : ∃ k, N = k + 1 := ⟨N - 1, by omega⟩
    rw [ae]
    by_cases hm : m = two (21 + j)
    · have hs : sea m = ((21 + j : Nat) : Int) := by rw [hm]; exact fV (by omega)
      have : aG n (((21 + j : Nat) : Int), g, l, dg, x, q, m, d, k0, k1, k2) = some (.inr (.inl ((21 + j : Nat) : Int))) := by
        unfold aG
        rw [aN, if_pos (by show ((21 + j : Nat) : Int) ≤ 41; omega)]
        show ob (db n ((21 + j : Nat) : Int)) _ = _
        rw [xz n (by omega)]
        show cond (m == two (21 + j)) _ _ = _
        rw [ia, if_pos hm]
      rw [this, hs, if_neg (by omega)]
    · have : aG n (((21 + j : Nat) : Int), g, l, dg, x, q, m, d, k0, k1, k2) = some (.inl (((21 + (j + 1) : Nat) : Int), g, l, dg, x, q, m, d, k0, k1, k2)) := by
        unfold aG
        rw [aN, if_pos (by show ((21 + j : Nat) : Int) ≤ 41; omega)]
        show ob (db n ((21 + j : Nat) : Int)) _ = _
        rw [xz n (by omega)]
        show cond (m == two (21 + j)) _ _ = _
        rw [ia, if_neg hm]
        have : IntKind.wrap .i64 (((21 + j : Nat) : Int) + 1) = ((21 + (j + 1) : Nat) : Int) := by rw [wrap_i64 _ (by omega) (by omega)]; omega
        show some (Sum.inl (IntKind.wrap .i64 (((21 + j : Nat) : Int) + 1), _)) = _
        rw [this]
      rw [this]
      exact ih (j + 1) (by omega) (fun i hi => by
        rcases Nat.lt_or_ge i j with h | h
        · exact hne i h
        · have : i = j := by omega
          rw [this]; exact hm) N (by omega)
theorem kE (n : Nat) (hn : 100 < n) (g l : Bool) (dg : List UInt8) (x q : Int) (m d : List UInt8) (k0 k1 k2 : Int) : av n g l dg x q m d k0 k1 k2 = some (sea m) := by
  unfold av
  have := nR n g l dg x q m d k0 k1 k2 21 0 rfl (fun i hi => absurd hi (by omega)) n (by omega)
  rw [show ((21 + 0 : Nat) : Int) = 21 from rfl] at this
  rw [this]
  by_cases h : sea m = 0
  · rw [if_pos h, h]; rfl
  · rw [if_neg h]; rfl
def agr (s : List UInt8) (k : Nat) : Bool := match s with
  | [a, b] => (a == 88 || a == UInt8.ofNat (48 + k / 10)) && (b == 88 || b == UInt8.ofNat (48 + k % 10))
  | _ => false
def dR (s : List UInt8) (g : Nat) : Bool := (List.range g).any fun i => agr s (i + 1)
theorem t8 {X Y : Type} {step : X → Option (X ⊕ Y)} {f : Nat → X} {p : Nat → Bool} {g : Nat} {yes no : Y} (h : ∀ k, 1 ≤ k → k ≤ g → step (f k) = some (if p k then .inr yes else .inl (f (k + 1)))) (he : step (f (g + 1)) = some (.inr no)) {N : Nat} (hN : g < N) :
    ae step N (f 1) = some (if (List.range g).any (fun i => p (i + 1)) then yes else no) := by
  have go : ∀ (r j : Nat), j + r = g → (∀ i, i < j → p (i + 1) = false) → ∀ N, r < N → ae step N (f (j + 1)) = some (if (List.range g).any (fun i => p (i + 1)) then yes else no) := by
    intro r
    induction r with
    | zero =>
      intro j hj hne N hN
      obtain ⟨N, rfl⟩ : ∃ k, N = k + 1 := ⟨N - 1, by omega⟩
      have : (List.range g).any (fun i => p (i + 1)) = false := by
        rw [List.any_eq_false]
        intro i hi
        rw [hne i (by have := List.mem_range.1 hi; omega)]
        simp
      rw [ae, show j + 1 = g + 1 by omega, he, this]
      rfl
    | succ r ih =>
      intro j hj hne N hN
      obtain ⟨N, rfl⟩ : ∃ k, N = k + 1 := ⟨N - 1, by omega⟩
      rw [ae, h (j + 1) (by omega) (by omega)]
      cases hp : p (j + 1) with
      | true =>
        have : (List.range g).any (fun i => p (i + 1)) = true := List.any_eq_true.2 ⟨j, List.mem_range.2 (by omega), hp⟩
        rw [this]
        rfl
      | false =>
        exact ih (j + 1) (by omega) (fun i hi => by
          rcases Nat.lt_or_ge i j with h | h
          · exact hne i h
          · have : i = j := by omega
            rw [this]; exact hp) N (by omega)
  exact go g 0 (by omega) (fun i hi => absurd hi (by omega)) N hN
theorem mT {a : UInt8} {k : Nat} (hk : k < 256) : ((((a.toNat : Nat) : Int)) == ((k : Nat) : Int)) = (a == UInt8.ofNat k) := by
  have h : (UInt8.ofNat k).toNat = k := by simp; omega
  rw [← uh, h]
theorem yL (n : Nat) (a b : UInt8) {g k : Nat} (h1 : 1 ≤ k) (h2 : k ≤ g) (h3 : g ≤ 31) :
    bh n ([a, b], (g : Int), (k : Int)) = some (if agr [a, b] k then .inr (.inl true) else .inl ([a, b], (g : Int), ((k + 1 : Nat) : Int))) := by
  have e1 : Int.tdiv (k : Int) 10 = ((k / 10 : Nat) : Int) := by
    rw [show (10 : Int) = ((10 : Nat) : Int) from rfl, ← Int.ofNat_tdiv]
  have e2 : Int.tmod (k : Int) 10 = ((k % 10 : Nat) : Int) := by
    rw [show (10 : Int) = ((10 : Nat) : Int) from rfl, ← Int.ofNat_tmod]
  have w1 : IntKind.wrap .u8 (48 + IntKind.wrap .u8 (IntKind.wrap .i64 (Int.tdiv (k : Int) 10))) = ((48 + k / 10 : Nat) : Int) := by
    rw [e1, wrap_i64 _ (by omega) (by omega), fY ((k / 10 : Nat) : Int) (by omega) (by omega), fY _ (by omega) (by omega)]
    omega
  have w2 : IntKind.wrap .u8 (48 + IntKind.wrap .u8 (Int.tmod (k : Int) 10)) = ((48 + k % 10 : Nat) : Int) := by
    rw [e2, fY ((k % 10 : Nat) : Int) (by omega) (by omega), fY _ (by omega) (by omega)]
    omega
  have w3 : IntKind.wrap .i64 ((k : Int) + 1) = ((k + 1 : Nat) : Int) := by rw [wrap_i64 _ (by omega) (by omega)]; omega
  have x88 : (88 : Int) = ((88 : Nat) : Int) := rfl
  have s0 : sx [a, b] 0 = some a := rfl
  have s1 : sx [a, b] 1 = some b := rfl
  unfold bh
  rw [aN, if_pos (show (k : Int) ≤ (g : Int) by omega)]
  simp only [s0, s1, ob, w1, w2, w3]
  rw [x88, mT (by omega), mT (by omega), mT (by omega), mT (by omega)]
  show _ = some (if ((a == UInt8.ofNat 88 || a == UInt8.ofNat (48 + k / 10)) && (b == UInt8.ofNat 88 || b == UInt8.ofNat (48 + k % 10))) = true then _ else _)
  generalize (a == UInt8.ofNat 88) = p1
  generalize (b == UInt8.ofNat 88) = p2
  generalize (a == UInt8.ofNat (48 + k / 10)) = p3
  generalize (b == UInt8.ofNat (48 + k % 10)) = p4
  cases p1 <;> cases p2 <;> cases p3 <;> cases p4 <;> rfl
theorem sJ (n : Nat) (hn : 100 < n) (s : List UInt8) (g : Nat) (hg : g ≤ 31) : bd n s (g : Int) = some (dR s g) := by
  unfold bd
  by_cases hl : s.length = 2
  · obtain ⟨a, b, rfl⟩ : ∃ a b, s = [a, b] := by
      match s, hl with
      | [a, b], _ => exact ⟨a, b, rfl⟩
    have he : bh n ([a, b], (g : Int), ((g + 1 : Nat) : Int)) = some (.inr (.inr ())) := by
      unfold bh
      rw [aN, if_neg (show ¬ ((g + 1 : Nat) : Int) ≤ (g : Int) by omega)]
    have := t8 (f := fun k => ([a, b], (g : Int), ((k : Nat) : Int))) (p := agr [a, b]) (g := g) (N := n) (fun k h1 h2 => yL n a b h1 h2 hg) he (by omega)
    show ob (ae (bh n) n ([a, b], (g : Int), ((1 : Nat) : Int))) _ = _
    rw [this]
    unfold dR
    split <;> simp_all [ob]
  · rw [show (((s.length : Nat) : Int) != 2) = true by simp; omega]
    have : dR s g = false := by
      unfold dR
      rw [List.any_eq_false]
      intro i _
      match s, hl with
      | [], _ => simp [agr]
      | [_], _ => simp [agr]
      | [_, _], h => exact absurd rfl h
      | _ :: _ :: _ :: _, _ => simp [agr]
    rw [this]
    rfl
theorem mJ (n : Nat) (s : List UInt8) (k : Nat) (hk : k < 100) : bN n s (k : Int) = some (if agr s k then 1 else 0) := by
  unfold bN
  rw [xz n hk]
  show cond _ _ _ = _
  by_cases hl : s.length = 2
  · obtain ⟨a, b, rfl⟩ : ∃ a b, s = [a, b] := by
      match s, hl with
      | [a, b], _ => exact ⟨a, b, rfl⟩
    have s0 : sx [a, b] 0 = some a := rfl
    have s1 : sx [a, b] 1 = some b := rfl
    have t0 : sx (two k) 0 = some (UInt8.ofNat (48 + k / 10)) := rfl
    have t1 : sx (two k) 1 = some (UInt8.ofNat (48 + k % 10)) := rfl
    have x88 : (88 : Int) = ((88 : Nat) : Int) := rfl
    rw [show (((([a, b] : List UInt8).length : Nat) : Int) == 2) = true from rfl]
    simp only [s0, s1, t0, t1, ob, cond_true]
    rw [x88, mT (by omega), mT (by omega), uh, uh]
    show _ = some (if ((a == UInt8.ofNat 88 || a == UInt8.ofNat (48 + k / 10)) && (b == UInt8.ofNat 88 || b == UInt8.ofNat (48 + k % 10))) = true then _ else _)
    generalize (a == UInt8.ofNat 88) = p1
    generalize (b == UInt8.ofNat 88) = p2
    generalize (a == UInt8.ofNat (48 + k / 10)) = p3
    generalize (b == UInt8.ofNat (48 + k % 10)) = p4
    cases p1 <;> cases p2 <;> cases p3 <;> cases p4 <;> rfl
  · rw [show (((s.length : Nat) : Int) == 2) = false by simp; omega]
    have : agr s k = false := by
      match s, hl with
      | [], _ => rfl
      | [_], _ => rfl
      | [_, _], h => exact absurd rfl h
      | _ :: _ :: _ :: _, _ => rfl
    rw [this]
    rfl
theorem uX (n : Nat) (hn : 100 < n) (s : List UInt8) (g : Nat) (hg : g ≤ 31) : bw n s (g : Int) = some (if dR s g then 1 else 0) := by
  unfold bw
  have he : bz n (s, (g : Int), ((g + 1 : Nat) : Int)) = some (.inr (.inr ())) := by
    unfold bz
    rw [aN, if_neg (show ¬ ((g + 1 : Nat) : Int) ≤ (g : Int) by omega)]
  have := t8 (f := fun k => (s, (g : Int), ((k : Nat) : Int))) (p := agr s) (g := g) (N := n) (step := bz n) (yes := .inl 1) (no := .inr ()) (fun k h1 h2 => by
    unfold bz
    rw [aN, if_pos (show (k : Int) ≤ (g : Int) by omega)]
    show ob (bN n s (k : Int)) _ = _
    rw [mJ n s k (by omega)]
    have w3 : IntKind.wrap .i64 ((k : Int) + 1) = ((k + 1 : Nat) : Int) := by rw [wrap_i64 _ (by omega) (by omega)]; omega
    simp only [ob, w3]
    cases agr s k <;> rfl) he (by omega)
  show ob (ae (bz n) n (s, (g : Int), ((1 : Nat) : Int))) _ = _
  rw [this]
  unfold dR
  split <;> simp_all [ob]
theorem oP (n : Nat) {a b : Int} (hb : 1 < b) (hb2 : b < 1000) (ha : -4611686018427387904 ≤ a) (ha2 : a < 4611686018427387904) : gc n a b = some (a / b, 0) := by
  have n0 : (b == 0) = false := by simp; omega
  have n1 : (b == -1) = false := by simp; omega
  unfold gc
  simp only [n0, n1, cond_false]
  have hq : a / b * b + a % b = a := Int.ediv_mul_add_emod a b
  have hr := Int.emod_nonneg a (show b ≠ 0 by omega)
  have hr2 := Int.emod_lt_of_pos a (show 0 < b by omega)
  have hq1 : -4611686018427387904 ≤ a / b := by
    rw [Int.le_ediv_iff_mul_le (by omega)]
    have : (-4611686018427387904 : Int) * b ≤ -4611686018427387904 * 1 := Int.mul_le_mul_of_nonpos_left (by omega) (by omega)
    omega
  have hq2 : a / b < 4611686018427387904 := by
    rw [Int.ediv_lt_iff_lt_mul (by omega)]
    have : (4611686018427387904 : Int) * 1 ≤ 4611686018427387904 * b := Int.mul_le_mul_of_nonneg_left (by omega) (by omega)
    omega
  by_cases h0 : 0 ≤ a
  · have e1 : Int.tdiv a b = a / b := Int.tdiv_eq_ediv_of_nonneg h0
    have d1 : decide (a < 0) = false := by simp; omega
    have d2 : decide (b < 0) = false := by simp; omega
    rw [e1, d1, d2, wrap_i64 (a / b) (by omega) (by omega)]
    cases (Int.tmod a b != 0) <;> rfl
  · have d1 : decide (a < 0) = true := by simp; omega
    have d2 : decide (b < 0) = false := by simp; omega
    have e1 := Int.tdiv_eq_ediv (a := a) (b := b)
    have e2 := Int.tmod_eq_emod (a := a) (b := b)
    rw [d1, d2]
    by_cases hd : b ∣ a
    · have hm : Int.tmod a b = 0 := by
        rw [e2, if_pos (.inr hd)]
        have := Int.emod_eq_zero_of_dvd hd
        omega
      rw [hm, e1, if_pos (.inr hd)]
      rw [Int.add_zero, wrap_i64 (a / b) (by omega) (by omega)]
      rfl
    · have hm0 : a % b ≠ 0 := fun h => hd (Int.dvd_of_emod_eq_zero h)
      have hm : (Int.tmod a b != 0) = true := by
        rw [e2, if_neg (by rintro (h | h); exact h0 h; exact hd h)]
        simp
        omega
      have hs : b.sign = 1 := Int.sign_eq_one_of_pos (by omega)
      rw [hm, e1, if_neg (by rintro (h | h); exact h0 h; exact hd h), hs]
      rw [wrap_i64 (a / b + 1) (by omega) (by omega), Int.add_sub_cancel, wrap_i64 (a / b) (by omega) (by omega)]
      rfl
theorem Di (n : Nat) {a b : Int} (hb : 1 < b) (hb2 : b < 1000) : nD n a b = some (a % b, 0) := by
  have n0 : (b == 0) = false := by simp; omega
  have n1 : (b == -1) = false := by simp; omega
  unfold nD
  simp only [n0, n1, cond_false]
  have hr := Int.emod_nonneg a (show b ≠ 0 by omega)
  have hr2 := Int.emod_lt_of_pos a (show 0 < b by omega)
  have e2 := Int.tmod_eq_emod (a := a) (b := b)
  have d2 : decide (b < 0) = false := by simp; omega
  by_cases hc : 0 ≤ a ∨ b ∣ a
  · rw [if_pos hc] at e2
    have : Int.tmod a b = a % b := by omega
    rw [this, d2]
    have d1 : decide (a % b < 0) = false := by simp; omega
    rw [d1]
    cases h : (a % b != 0)
    · rfl
    · rfl
  · rw [if_neg hc] at e2
    have hn : (b.natAbs : Int) = b := by omega
    rw [hn] at e2
    have hm0 : a % b ≠ 0 := fun h => hc (.inr (Int.dvd_of_emod_eq_zero h))
    have hm : (Int.tmod a b != 0) = true := by simp; omega
    have d1 : decide (Int.tmod a b < 0) = true := by simp; omega
    rw [hm, d1, d2, e2, wrap_i64 _ (by omega) (by omega), Int.sub_add_cancel]
    rfl
def bI (y : Int) : Prop := -10000000000000000 ≤ y ∧ y ≤ 10000000000000000
instance (y : Int) : Decidable (bI y) := by unfold bI; infer_instance
theorem cR (n : Nat) (y : Int) : ed n y = some (if bI y then 0 else 6) := by
  unfold ed
  rw [aN, aN]
  by_cases h1 : y < -10000000000000000
  · rw [if_pos h1, if_neg (show ¬ bI y by unfold bI; omega)]
  · by_cases h2 : y > 10000000000000000
    · rw [if_neg h1, if_pos h2, if_neg (show ¬ bI y by unfold bI; omega)]
    · rw [if_neg h1, if_neg h2, if_pos (show bI y by unfold bI; omega)]
theorem lg (n : Nat) {y : Int} (h : -20000000000000000 ≤ y ∧ y ≤ 20000000000000000) : ∃ z, cr n y = some z := by
  unfold cr
  rw [wrap_i64 (y - 1) (by omega) (by omega), oP n (by omega) (by omega) (by omega) (by omega), oP n (by omega) (by omega) (by omega) (by omega), oP n (by omega) (by omega) (by omega) (by omega)]
  exact ⟨_, rfl⟩
theorem we (n : Nat) {y : Int} (h : bI y) : ∃ b e, eZ n y = some (b, e) := by
  unfold eZ
  have h' := h
  unfold bI at h'
  obtain ⟨z1, e1⟩ := lg n (y := y + 1) (by omega)
  obtain ⟨z2, e2⟩ := lg n (y := y) (by omega)
  rw [cR, if_pos h, wrap_i64 (y + 1) (by omega) (by omega), e1, e2]
  exact ⟨_, _, rfl⟩
theorem ll (n : Nat) {y : Int} (h : bI y) {m : Nat} (h1 : 1 ≤ m) (h2 : m ≤ 12) : ∃ v, bS n y (m : Int) = some v := by
  unfold bS
  obtain ⟨b, e, hl⟩ := we n h
  rw [hl]
  show ∃ v, cond (b && ((m : Int) == 2)) _ _ = some v
  cases (b && ((m : Int) == 2)) with
  | true => exact ⟨_, rfl⟩
  | false =>
    have : IntKind.wrap .i64 ((m : Int) - 1) = ((m - 1 : Nat) : Int) := by rw [wrap_i64 _ (by omega) (by omega)]; omega
    rw [this, dl (by omega)]
    have hl : na.length = 12 := rfl
    exact ⟨_, List.getElem?_eq_getElem (show m - 1 < na.length by omega)⟩
theorem uR (n : Nat) {y : Int} (h : bI y) {m : Nat} (h1 : 1 ≤ m) (h2 : m ≤ 12) : e7 n y (m : Int) = some 0 := by
  unfold e7
  rw [cR, if_pos h]
  show cond (decide ((m : Int) < 1)) _ _ = _
  rw [aN, aN, if_neg (by omega), if_neg (by omega)]
theorem vj (n : Nat) {y : Int} (h : bI y) {m : Nat} (hm : m ≤ 11) : ∀ (r j : Nat), j + r = m → ∀ (a : Int) (N : Nat), r < N → ∃ v, ae (aD n) N (y, a, (m : Int), (j : Int)) = some v := by
  intro r
  induction r with
  | zero =>
    intro j hj a N hN
    obtain ⟨N, rfl⟩ : ∃ k, N = k + 1 := ⟨N - 1, by omega⟩
    have : aD n (y, a, (m : Int), (j : Int)) = some (.inr a) := by
      unfold aD
      rw [aN, if_neg (show ¬ ((j : Int) < (m : Int)) by omega)]
    rw [ae, this]
    exact ⟨_, rfl⟩
  | succ r ih =>
    intro j hj a N hN
    obtain ⟨N, rfl⟩ : ∃ k, N = k + 1 := ⟨N - 1, by omega⟩
    obtain ⟨v, hv⟩ := ll n h (m := j + 1) (by omega) (by omega)
    have w : IntKind.wrap .i64 ((j : Int) + 1) = ((j + 1 : Nat) : Int) := by rw [wrap_i64 _ (by omega) (by omega)]; omega
    have : aD n (y, a, (m : Int), (j : Int)) = some (.inl (y, IntKind.wrap .i64 (a + v), (m : Int), ((j + 1 : Nat) : Int))) := by
      unfold aD
      rw [aN, if_pos (show ((j : Int) < (m : Int)) by omega)]
      simp only [w, hv, ob]
    rw [ae, this]
    exact ih (j + 1) (by omega) _ N (by omega)
theorem xJ (n : Nat) (hn : 100 < n) {y : Int} (h : bI y) {m : Nat} (h1 : 1 ≤ m) (h2 : m ≤ 12) : ∃ v, ct n y (m : Int) = some (v, 0) := by
  unfold ct fP fR
  have h' := h
  unfold bI at h'
  obtain ⟨z, e⟩ := lg n (y := y) (by omega)
  have w : IntKind.wrap .i64 ((m : Int) - 1) = ((m - 1 : Nat) : Int) := by rw [wrap_i64 _ (by omega) (by omega)]; omega
  rw [uR n h h1 h2, cR, if_pos h, e, w]
  obtain ⟨v, hv⟩ := vj n h (m := m - 1) (by omega) (m - 1) 0 (by omega) (IntKind.wrap .i64 (IntKind.wrap .i64 (365 * y) + z)) n (by omega)
  refine ⟨v, ?_⟩
  show ob (ae (aD n) n (y, IntKind.wrap .i64 (IntKind.wrap .i64 (365 * y) + z), ((m - 1 : Nat) : Int), ((0 : Nat) : Int))) _ = _
  rw [hv]
  rfl
theorem madd (n : Nat) {y : Int} (h : bI y) {m c : Nat} (h1 : 1 ≤ m) (h2 : m ≤ 12) (hc : 1 ≤ c) (hc2 : c ≤ 6) : iZ n y (m : Int) (IntKind.wrap .i64 ((c : Int) - 1)) =
    some (if 12 < m + c - 1 then (if y = 10000000000000000 then (0, 0, 6) else (y + 1, ((m + c - 1 - 12 : Nat) : Int), 0)) else (y, ((m + c - 1 : Nat) : Int), 0)) := by
  have h' := h
  unfold bI at h'
  unfold iZ
  rw [uR n h h1 h2, wrap_i64 (12 * y) (by omega) (by omega), wrap_i64 ((m : Int) - 1) (by omega) (by omega), wrap_i64 (12 * y + ((m : Int) - 1)) (by omega) (by omega), wrap_i64 ((c : Int) - 1) (by omega) (by omega)]
  have ha : kv n (12 * y + ((m : Int) - 1)) ((c : Int) - 1) = some (12 * y + ((m : Int) - 1) + ((c : Int) - 1), 0) := by
    unfold kv
    rw [wrap_i64 (12 * y + ((m : Int) - 1) + ((c : Int) - 1)) (by omega) (by omega), ia]
    by_cases h0 : (c : Int) - 1 = 0
    · rw [if_pos h0]
      have d1 : decide (12 * y + ((m : Int) - 1) > 12 * y + ((m : Int) - 1)) = false := by simp
      have d2 : decide ((c : Int) - 1 > 0) = false := by simp; omega
      rw [d1, d2, h0, Int.add_zero]
      rfl
    · rw [if_neg h0]
      have d1 : decide (12 * y + ((m : Int) - 1) + ((c : Int) - 1) > 12 * y + ((m : Int) - 1)) = true := by simp; omega
      have d2 : decide ((c : Int) - 1 > 0) = true := by simp; omega
      rw [d1, d2]
      rfl
  simp only [ob, ha, bne_self_eq_false, cond_false]
  rw [oP n (by omega) (by omega) (by omega) (by omega), Di n (by omega) (by omega)]
  simp only [cR]
  by_cases hb : 12 < m + c - 1
  · have e1 : (12 * y + ((m : Int) - 1) + ((c : Int) - 1)) / 12 = y + 1 := by omega
    have e2 : (12 * y + ((m : Int) - 1) + ((c : Int) - 1)) % 12 = ((m + c - 1 - 12 : Nat) : Int) - 1 := by omega
    rw [e1, e2, if_pos hb]
    by_cases hy : y = 10000000000000000
    · rw [if_pos hy, if_neg (show ¬ bI (y + 1) by unfold bI; omega)]
      rfl
    · rw [if_neg hy, if_pos (show bI (y + 1) by unfold bI; omega), wrap_i64 (((m + c - 1 - 12 : Nat) : Int) - 1 + 1) (by omega) (by omega), Int.sub_add_cancel]
      rfl
  · have e1 : (12 * y + ((m : Int) - 1) + ((c : Int) - 1)) / 12 = y := by omega
    have e2 : (12 * y + ((m : Int) - 1) + ((c : Int) - 1)) % 12 = ((m + c - 1 : Nat) : Int) - 1 := by omega
    rw [e1, e2, if_neg hb, if_pos h, wrap_i64 (((m + c - 1 : Nat) : Int) - 1 + 1) (by omega) (by omega), Int.sub_add_cancel]
    rfl
theorem tQ {j : Nat} (hj : j < 21) : ∃ m c : Nat, iD[j]? = some ((m : Int), (c : Int)) ∧ 1 ≤ m ∧ m ≤ 12 ∧ 1 ≤ c ∧ c ≤ 6 ∧ (12 < m + c - 1 ↔ j = 3 ∨ j = 7 ∨ j = 9) := by
  have : ((List.range 21).all fun j => match iD[j]? with
    | some (m, c) => decide (0 ≤ m) && decide (0 ≤ c) && decide (1 ≤ m.toNat) && decide (m.toNat ≤ 12) && decide (1 ≤ c.toNat) && decide (c.toNat ≤ 6) && (decide (12 < m.toNat + c.toNat - 1) == decide (j = 3 ∨ j = 7 ∨ j = 9))
    | none => false) = true := by decide +kernel
  have h := (List.all_eq_true.1 this) j (by simpa using hj)
  split at h
  · rename_i m c e
    simp only [Bool.and_eq_true, decide_eq_true_eq, beq_iff_eq, decide_eq_decide] at h
    obtain ⟨⟨⟨⟨⟨⟨h1, h2⟩, h3⟩, h4⟩, h5⟩, h6⟩, h7⟩ := h
    exact ⟨m.toNat, c.toNat, by rw [e, Int.toNat_of_nonneg h1, Int.toNat_of_nonneg h2], h3, h4, h5, h6, h7⟩
  · cases h
theorem Db (n : Nat) (hn : 100 < n) {y : Int} (h : bI y) {j : Nat} (hj : j < 21) :
    ∃ a b c d, dx n y ((21 + j : Nat) : Int) = some (a, b, c, d, if y = 10000000000000000 ∧ (j = 3 ∨ j = 7 ∨ j = 9) then 6 else 0) := by
  obtain ⟨m, c, e, h1, h2, h3, h4, h5⟩ := tQ hj
  have hM : cq n ((21 + j : Nat) : Int) = some ((m : Int), (c : Int), 0) := by
    unfold cq bv
    rw [aN, aN, if_neg (by omega), if_neg (by omega)]
    have : IntKind.wrap .i64 (((21 + j : Nat) : Int) - 21) = (j : Int) := by rw [wrap_i64 _ (by omega) (by omega)]; omega
    rw [this, dl hj]
    show ob (iD[j]?) _ = _
    rw [e]
    rfl
  obtain ⟨v, hv⟩ := xJ n hn h h1 h2
  unfold dx
  rw [hM]
  show ∃ a b c d, ob (ct n y (m : Int)) _ = _
  rw [hv]
  show ∃ a b c' d, ob (iZ n y (m : Int) (IntKind.wrap .i64 ((c : Int) - 1))) _ = _
  rw [madd n h h1 h2 h3 h4]
  have h' := h
  unfold bI at h'
  by_cases hb : 12 < m + c - 1
  · rw [if_pos hb]
    by_cases hy : y = 10000000000000000
    · rw [if_pos hy, if_pos ⟨hy, h5.1 hb⟩]
      exact ⟨_, _, _, _, rfl⟩
    · rw [if_neg hy, if_neg (fun x => hy x.1)]
      have hc1 : bI (y + 1) := by unfold bI; omega
      obtain ⟨v2, hv2⟩ := xJ n hn hc1 (m := m + c - 1 - 12) (by omega) (by omega)
      obtain ⟨u, hu⟩ := ll n hc1 (m := m + c - 1 - 12) (by omega) (by omega)
      have hE : dj n (y + 1) ((m + c - 1 - 12 : Nat) : Int) = some (IntKind.wrap .i64 (IntKind.wrap .i64 (v2 + u) - 1), 0) := by
        unfold dj
        rw [hv2, hu]
        rfl
      show ∃ a b c' d, ob (dj n (y + 1) ((m + c - 1 - 12 : Nat) : Int)) _ = _
      rw [hE]
      exact ⟨_, _, _, _, rfl⟩
  · rw [if_neg hb, if_neg (fun x => hb (h5.2 x.2))]
    obtain ⟨v2, hv2⟩ := xJ n hn h (m := m + c - 1) (by omega) (by omega)
    obtain ⟨u, hu⟩ := ll n h (m := m + c - 1) (by omega) (by omega)
    have hE : dj n y ((m + c - 1 : Nat) : Int) = some (IntKind.wrap .i64 (IntKind.wrap .i64 (v2 + u) - 1), 0) := by
      unfold dj
      rw [hv2, hu]
      rfl
    show ∃ a b c' d, ob (dj n y ((m + c - 1 : Nat) : Int)) _ = _
    rw [hE]
    exact ⟨_, _, _, _, rfl⟩
def hasB (set : List UInt8) (c : UInt8) : Bool := set.any fun d => d == c
theorem lN (set : List UInt8) (c : UInt8) : (decide (Lib.indexByte set c < 0)) = !hasB set c := by
  induction set with
  | nil => simp [Lib.indexByte, hasB]
  | cons d l ih =>
    have hge := Lib.indexByte_ge l c
    simp only [hasB, List.any_cons] at ih ⊢
    unfold Lib.indexByte
    by_cases h : d = c
    · simp [h]
    · have hb : (d == c) = false := by simpa using h
      simp only [hb, Bool.false_eq_true, if_false, Bool.false_or]
      rw [← ih]
      by_cases h1 : Lib.indexByte l c = -1
      · simp [h1]
      · have hb1 : (Lib.indexByte l c == -1) = false := by simpa using h1
        simp only [hb1, Bool.false_eq_true, if_false]
        have : ¬ Lib.indexByte l c + 1 < 0 := by omega
        have : ¬ Lib.indexByte l c < 0 := by omega
        simp [*]
theorem mn (set : List UInt8) (c : UInt8) : (decide (Lib.indexByte set c ≥ 0)) = hasB set c := by
  have := lN set c
  by_cases h : Lib.indexByte set c < 0
  · have h2 : ¬ Lib.indexByte set c ≥ 0 := by omega
    simp only [h, h2, decide_true, decide_false] at this ⊢
    revert this; cases hasB set c <;> simp
  · have h2 : Lib.indexByte set c ≥ 0 := by omega
    simp only [h, h2, decide_true, decide_false] at this ⊢
    revert this; cases hasB set c <;> simp
def kQ (p : UInt8 → Bool) : Nat → List UInt8 → Nat
  | 0, _ => 0
  | _ + 1, [] => 0
  | k + 1, c :: l => if p c then kQ p k l + 1 else 0
theorem gL (n : Nat) (set : List UInt8) (c : UInt8) : bn n set ((c.toNat : Nat) : Int) = some (Lib.indexByte set c) := by
  simp only [bn, bc, ob, Ea]
def asc (l : List UInt8) : Prop := ∀ c ∈ l, c.toNat < 128
theorem xB (r : Int) (h : 128 ≤ r) : ∃ p e, (Utf8.encode r).data.toList = p ++ [e] ∧ 1 ≤ p.length ∧ p.length ≤ 3 ∧ 128 ≤ e.toNat := by
  unfold Utf8.encode
  have hc : 128 ≤ (if Utf8.valid r then r.toNat else Utf8.runeError) := by
    split
    · omega
    · decide
  generalize (if Utf8.valid r then r.toNat else Utf8.runeError) = c at hc
  have he : 128 ≤ (UInt8.ofNat (0x80 + c % 64)).toNat := by
    simp only [UInt8.toNat_ofNat']
    omega
  simp only
  split
  · omega
  · split
    · exact ⟨[_], _, rfl, by simp, by simp, he⟩
    · split
      · exact ⟨[_, _], _, rfl, by simp, by simp, he⟩
      · exact ⟨[_, _, _], _, rfl, by simp, by simp, he⟩
theorem vY {l : List UInt8} (h : asc l) {i : Nat} {c : UInt8} (hi : l[i]? = some c) : c.toNat < 128 := h c (List.mem_of_getElem? hi)
theorem so (n : Nat) (set : List UInt8) (h : asc set) (hn : set.length < n) : ae (bB n) n (set, 0) = some (.inr ()) := by
  refine dH (step := bB n) (fun x => x.1 = set) (fun x => set.length - x.2) (fun x => .inr ()) ?_ n _ rfl (by simp; omega)
  rintro ⟨s, i⟩ rfl
  simp only [bB]
  by_cases hi : i < s.length
  · have hb : Nat.blt i s.length = true := Nat.ble_eq_true_of_le hi
    obtain ⟨c, hc⟩ : ∃ c, s[i]? = some c := ⟨s[i], List.getElem?_eq_getElem hi⟩
    have hlow := vY h hc
    have hne : (((c.toNat : Nat) : Int) == 65533) = false := by rw [beq_eq_false_iff_ne]; omega
    simp only [hb, cond_true, tA hc hlow, hne, cond_false]
    exact .inl ⟨_, rfl, rfl, by simp only; omega, trivial⟩
  · have hb : Nat.blt i s.length = false := by
      cases hb : Nat.blt i s.length with
      | false => rfl
      | true => exact absurd (Nat.le_of_ble_eq_true hb) (by omega)
    simp only [hb, cond_false]
    exact .inr trivial
theorem pf {l : List UInt8} {c : UInt8} (h : c ∉ l) : Lib.indexByte l c < 0 := by
  have h1 := lN l c
  have h2 : hasB l c = false := by
    unfold hasB
    rw [List.any_eq_false]
    intro x hx he
    simp only [beq_iff_eq] at he
    exact h (he ▸ hx)
  rw [h2] at h1
  simpa using h1
theorem rU (n : Nat) (set : List UInt8) (h : asc set) (hn : set.length < n) (hs : set.length ≤ 100) (r : Int) (hr : 128 ≤ r) : bP n set r = some (-1) := by
  have h0 : decide ((0 : Int) ≤ r) = true := decide_eq_true (by omega)
  have h1 : decide (r < 128) = false := decide_eq_false (by omega)
  simp only [bP, h0, h1, cond_true, cond_false]
  by_cases hrr : r = 65533
  · have : (r == 65533) = true := beq_iff_eq.2 hrr
    simp only [this, cond_true, so n set h hn, ob]
  · have : (r == 65533) = false := beq_eq_false_iff_ne.2 hrr
    simp only [this, cond_false]
    obtain ⟨v, hv⟩ : ∃ v, bJ n r = some v := by
      unfold bJ
      generalize decide ((0 : Int) ≤ r) = d1
      generalize decide (r < 55296) = d2
      generalize decide ((57343 : Int) < r) = d3
      generalize decide (r ≤ 1114111) = d4
      cases d1 <;> cases d2 <;> cases d3 <;> cases d4 <;> exact ⟨_, rfl⟩
    simp only [hv, ob]
    cases v with
    | false => rfl
    | true =>
      simp only [Bool.not_true, cond_false]
      obtain ⟨p, e, hp, hp1, hp3, he⟩ := xB r hr
      simp only [hp]
      have hw : IntKind.wrap .i64 (((p ++ [e]).length : Nat) - 1 : Int) = (p.length : Int) := by
        rw [wrap_i64 _ (by simp <;> omega) (by simp <;> omega)]; simp
      rw [hw]
      obtain ⟨m, rfl⟩ : ∃ m, n = m + 1 := ⟨n - 1, by omega⟩
      have hstep : bD (m + 1) (set, p ++ [e], (p.length : Int), (p.length : Int)) = some (.inr (.inl (-1))) ∨ bD (m + 1) (set, p ++ [e], (p.length : Int), (p.length : Int)) = some (.inr (.inr ())) := by
        simp only [bD, ie]
        by_cases hl : p.length < set.length
        · obtain ⟨c, hc⟩ : ∃ c, set[p.length]? = some c := ⟨set[p.length], List.getElem?_eq_getElem hl⟩
          have hlow := vY h hc
          have hpe : (p ++ [e])[p.length]? = some e := by simp
          have hne : (((c.toNat : Nat) : Int) != ((e.toNat : Nat) : Int)) = true := by simp only [bne, Bool.not_eq_true', beq_eq_false_iff_ne]; omega
          have hw2 : IntKind.wrap .i64 ((p.length : Int) + 1) = ((p.length + 1 : Nat) : Int) := by rw [wrap_i64 _ (by omega) (by omega)]; omega
          have hx : e ∉ List.drop (p.length + 1) (List.take set.length set) := by
            intro hm
            have := h e (by simpa using List.mem_of_mem_drop hm)
            omega
          left
          simp only [hl, decide_true, cond_true, gT hc, gT hpe, ob, hne, hw2, ii (show p.length + 1 ≤ set.length by omega), gL, pf hx]
        · right
          simp only [hl, decide_false, cond_false]
      rcases hstep with hs1 | hs1 <;> simp only [ae, hs1, ob]
theorem pa (n : Nat) (set : List UInt8) (c : UInt8) (r : Int) (hr : r = ((c.toNat : Nat) : Int)) (hc : c.toNat < 128) : bP n set r = some (Lib.indexByte set c) := by
  have h0 : decide ((0 : Int) ≤ r) = true := decide_eq_true (by omega)
  have h1 : decide (r < 128) = true := decide_eq_true (by omega)
  have hw : IntKind.wrap .u8 r = r := fY _ (by omega) (by omega)
  have hb : bn n set r = some (Lib.indexByte set c) := by rw [hr]; exact gL n set c
  simp only [bP, h0, h1, cond_true, hw, hb, ob]
theorem qD (n : Nat) (set : List UInt8) (c : UInt8) (hc : c.toNat < 128) : bP n set ((c.toNat : Nat) : Int) = some (Lib.indexByte set c) := pa n set c _ rfl hc
theorem m9 (n : Nat) (set : List UInt8) (c : UInt8) (hc : c.toNat < 128) : bA n set ((c.toNat : Nat) : Int) = some (hasB set c) := by
  simp only [bA, qD n set c hc, ob, mn]
theorem oN (n : Nat) (set : List UInt8) (h : asc set) (hn : set.length < n) (hs : set.length ≤ 100) (r : Int) (hr : 128 ≤ r) : bA n set r = some false := by
  simp only [bA, rU n set h hn hs r hr, ob]; rfl
theorem sw (w a : Nat) : BitVec.ofInt w (a : Int) = BitVec.ofNat w a := by
  apply BitVec.eq_of_toNat_eq
  simp
theorem BI (k : Nat) : (2 : Int) ^ k = ((2 ^ k : Nat) : Int) := by simp
theorem yH (a k : Nat) : Int.fdiv (a : Int) (2 ^ k) = ((a / 2 ^ k : Nat) : Int) := by
  rw [BI k, Int.fdiv_eq_ediv_of_nonneg _ (Int.natCast_nonneg _)]
  rfl
def inR (lo hi : Int) (c : UInt8) : Bool := decide (((c.toNat : Nat) : Int) ≥ lo) && decide (((c.toNat : Nat) : Int) ≤ hi)
def cnt (lo hi : Int) (l : List UInt8) : Nat := l.countP (inR lo hi)
theorem xF (lo hi : Int) (l : List UInt8) : cnt lo hi l ≤ l.length := List.countP_le_length
theorem yQ (lo hi : Int) {l : List UInt8} {i : Nat} {c : UInt8} (h : l[i]? = some c) : cnt lo hi (l.take (i + 1)) = cnt lo hi (l.take i) + if inR lo hi c then 1 else 0 := by
  unfold cnt
  rw [List.take_add_one, h, List.countP_append]
  simp [List.countP_cons]
theorem uk (n : Nat) (s : List UInt8) (lo hi : Int) (hs : s.length < n) (hb : s.length < 100000) : da n s lo hi = some ((cnt lo hi s : Nat) : Int) := by
  have := dH (step := dh n) (fun x => ∃ i : Nat, i ≤ s.length ∧ x = (s, lo, hi, ((cnt lo hi (s.take i) : Nat) : Int), (i : Int))) (fun x => s.length - x.2.2.2.2.toNat) (fun _ => ((cnt lo hi s : Nat) : Int)) ?_ n (s, lo, hi, 0, 0) ⟨0, by omega, by simp [cnt]⟩ (by simp; omega)
  · simp only [da, this, ob]
  rintro x ⟨i, hi', rfl⟩
  rcases Nat.lt_or_ge i s.length with hlt | hge
  · obtain ⟨c, hc⟩ : ∃ c, s[i]? = some c := ⟨s[i], List.getElem?_eq_getElem hlt⟩
    have hct := yQ lo hi hc
    have hle := xF lo hi (s.take i)
    rw [List.length_take] at hle
    have w1 : IntKind.wrap .i64 ((i : Int) + 1) = ((i + 1 : Nat) : Int) := by rw [wrap_i64 _ (by omega) (by omega)]; omega
    have w2 : IntKind.wrap .i64 (((cnt lo hi (s.take i) : Nat) : Int) + 1) = ((cnt lo hi (s.take i) + 1 : Nat) : Int) := by rw [wrap_i64 _ (by omega) (by omega)]; omega
    refine .inl ⟨(s, lo, hi, ((cnt lo hi (s.take (i + 1)) : Nat) : Int), ((i + 1 : Nat) : Int)), ?_, ⟨i + 1, hlt, rfl⟩, by simp only [Int.toNat_natCast]; omega, rfl⟩
    simp only [dh, ie, hlt, decide_true, cond_true, gT hc, ob, w1, w2]
    rw [hct]
    by_cases h1 : ((c.toNat : Nat) : Int) ≥ lo
    · by_cases h2 : ((c.toNat : Nat) : Int) ≤ hi
      · simp [h1, h2, inR]
      · simp [h1, h2, inR]
    · simp [h1, inR]
  · have : i = s.length := by omega
    subst this
    refine .inr ?_
    simp only [dh, ie, Nat.lt_irrefl, decide_false, cond_false, List.take_length]
theorem vO (lo hi : Int) (l : List UInt8) : cnt lo hi l = l.length ↔ ∀ c ∈ l, inR lo hi c = true := by
  unfold cnt
  rw [List.countP_eq_length]
theorem zy (lo hi : Int) (l : List UInt8) : cnt lo hi l = 0 ↔ ∀ c ∈ l, inR lo hi c = false := by
  unfold cnt
  rw [List.countP_eq_zero]
  simp
def bq (c : UInt8) : Bool := inR 48 57 c
theorem cN (c : UInt8) : bq c = true ↔ 48 ≤ c.toNat ∧ c.toNat ≤ 57 := by
  unfold bq inR
  simp only [Bool.and_eq_true, decide_eq_true_eq]
  omega
theorem qT (c : UInt8) : inR 88 88 c = true ↔ c = 88 := by
  unfold inR
  simp only [Bool.and_eq_true, decide_eq_true_eq]
  constructor
  · intro h
    apply UInt8.toNat_inj.1
    show c.toNat = 88
    omega
  · rintro rfl; decide
theorem wN (c : UInt8) : inR 48 48 c = true ↔ c = 48 := by
  unfold inR
  simp only [Bool.and_eq_true, decide_eq_true_eq]
  constructor
  · intro h
    apply UInt8.toNat_inj.1
    show c.toNat = 48
    omega
  · rintro rfl; decide
theorem xR : ∀ l : List UInt8, cnt 48 57 l + cnt 88 88 l ≤ l.length ∧ (cnt 48 57 l + cnt 88 88 l = l.length ↔ ∀ c ∈ l, bq c = true ∨ c = 88)
  | [] => by simp [cnt]
  | c :: l => by
    have ih := xR l
    have e1 : cnt 48 57 (c :: l) = cnt 48 57 l + if inR 48 57 c then 1 else 0 := by simp [cnt, List.countP_cons]
    have e2 : cnt 88 88 (c :: l) = cnt 88 88 l + if inR 88 88 c then 1 else 0 := by simp [cnt, List.countP_cons]
    have hd : ¬ (inR 48 57 c = true ∧ inR 88 88 c = true) := by
      rintro ⟨h1, h2⟩
      have := (cN c).1 h1
      rw [(qT c).1 h2] at this
      exact absurd this.2 (by decide)
    rw [e1, e2, List.length_cons]
    simp only [List.mem_cons, forall_eq_or_imp]
    have hx := qT c
    have hg : bq c = inR 48 57 c := rfl
    rw [hg]
    cases h1 : inR 48 57 c <;> cases h2 : inR 88 88 c
    · simp only [h1, h2] at hx ⊢
      have : c ≠ 88 := fun e => by simpa using hx.2 e
      simp [this]; omega
    · simp only [h1, h2] at hx ⊢
      have : c = 88 := hx.1 trivial
      simp only [this, Bool.false_eq_true, if_true, if_false, false_or, true_and]
      rw [← ih.2]
      omega
    · simp only [h1, h2] at hx ⊢
      simp only [Bool.false_eq_true, if_true, if_false, true_or, true_and]
      rw [← ih.2]
      omega
    · exact absurd ⟨h1, h2⟩ hd
theorem xC (n : Nat) (s set : List UInt8) (ha : asc set) (hn : set.length < n) (hl : set.length ≤ 100) (hs : s.length < n) :
    ∃ y, ae (aY n) n (true, set, s, 0) = some y ∧ ((y = .inr () ∧ s.all (hasB set) = true) ∨ ∃ i : Nat, y = .inl (i : Int) ∧ s.all (hasB set) = false) := by
  refine kA (step := aY n) (fun x => x.1 = true ∧ x.2.1 = set ∧ x.2.2.1 = s ∧ s.all (hasB set) = (s.drop x.2.2.2).all (hasB set)) (fun x => s.length - x.2.2.2) _ ?_ n _ ⟨rfl, rfl, rfl, rfl⟩ (by simp only; omega)
  rintro ⟨b, st, s', p⟩ ⟨hb, hst, hs', hall⟩
  simp only at hb hst hs' hall
  rw [hb, hst, hs']
  clear hb hst hs' b st s'
  rcases Nat.lt_or_ge p s.length with hlt | hge
  · obtain ⟨c, hc⟩ : ∃ c, s[p]? = some c := ⟨s[p], List.getElem?_eq_getElem hlt⟩
    have hbl : Nat.blt p s.length = true := Nat.ble_eq_true_of_le hlt
    rw [ga hc, List.all_cons] at hall
    rcases Nat.lt_or_ge c.toNat 128 with h128 | h128
    · have hd := tA hc h128
      simp only [aY, hbl, cond_true, eO, hd, m9 n set c h128, ob]
      cases hh : hasB set c with
      | true =>
        rw [hh, Bool.true_and] at hall
        exact .inl ⟨_, rfl, ⟨rfl, rfl, rfl, hall⟩, by simp only; omega⟩
      | false =>
        rw [hh, Bool.false_and] at hall
        exact .inr ⟨_, rfl, .inr ⟨p, rfl, hall⟩⟩
    · have hd := uZ hc h128
      have hh : hasB set c = false := by
        unfold hasB
        rw [List.any_eq_false]
        intro x hx he
        simp only [beq_iff_eq] at he
        have := ha x hx
        rw [he] at this
        omega
      rw [hh, Bool.false_and] at hall
      have hcr := oN n set ha hn hl (((dec s p).1 : Nat) : Int) (by omega)
      simp only [aY, hbl, cond_true, eO, hcr, ob]
      exact .inr ⟨_, rfl, .inr ⟨p, rfl, hall⟩⟩
  · have hbl : Nat.blt p s.length = false := by
      cases hb : Nat.blt p s.length with
      | false => rfl
      | true => exact absurd (Nat.le_of_ble_eq_true hb) (by omega)
    simp only [aY, hbl, cond_false]
    rw [List.drop_eq_nil_of_le hge] at hall
    exact .inr ⟨_, rfl, .inl ⟨rfl, by rw [hall]; rfl⟩⟩
theorem xZ (n : Nat) (s set : List UInt8) (ha : asc set) (hn : set.length < n) (hl : set.length ≤ 100) (hs : s.length < n) : cT n s set = some (s.all (hasB set)) := by
  obtain ⟨y, h1, h2⟩ := xC n s set ha hn hl hs
  simp only [cT, fU, fZ, h1, ob]
  rcases h2 with ⟨rfl, h3⟩ | ⟨i, rfl, h3⟩
  · rw [h3]; rfl
  · rw [h3]
    simp only [Option.some.injEq, decide_eq_false_iff_not]
    omega
theorem yF : asc [48, 49, 50, 51, 52, 53, 54, 55, 56, 57] := by unfold asc; decide
theorem wF : asc [88, 48, 49, 50, 51, 52, 53, 54, 55, 56, 57] := by unfold asc; decide
theorem rh (p : UInt8 → Bool) (h : ∀ i : Fin 256, p (UInt8.ofNat i.val) = true) (c : UInt8) : p c = true := by
  have := h ⟨c.toNat, c.toNat_lt⟩
  simpa using this
theorem w9 (c : UInt8) : hasB [48, 49, 50, 51, 52, 53, 54, 55, 56, 57] c = bq c := by
  have := rh (fun c => hasB [48, 49, 50, 51, 52, 53, 54, 55, 56, 57] c == bq c) (by decide +kernel) c
  simpa using this
theorem vh (c : UInt8) : hasB [88, 48, 49, 50, 51, 52, 53, 54, 55, 56, 57] c = (bq c || c == 88) := by
  have := rh (fun c => hasB [88, 48, 49, 50, 51, 52, 53, 54, 55, 56, 57] c == (bq c || c == 88)) (by decide +kernel) c
  simpa using this
theorem xD (n : Nat) (s : List UInt8) (hn : 100 < n) (hs : s.length < n) : cT n s [48, 49, 50, 51, 52, 53, 54, 55, 56, 57] = some (s.all bq) := by
  rw [xZ n s _ yF (by simp; omega) (by simp) hs]
  congr 2
  funext c
  exact w9 c
theorem vp (n : Nat) (s : List UInt8) (hn : 100 < n) (hs : s.length < n) : cT n s [88, 48, 49, 50, 51, 52, 53, 54, 55, 56, 57] = some (s.all fun c => bq c || c == 88) := by
  rw [xZ n s _ wF (by simp; omega) (by simp) hs]
  congr 2
  funext c
  exact vh c
def all0 (s : List UInt8) : Bool := s.all fun c => c == 48
theorem DV (n : Nat) (s : List UInt8) (hs : s.length < n) (hb : s.length < 100000) : ∃ y, cO n s 48 = some y ∧ all0 s = all0 y ∧ y.length ≤ s.length := by
  obtain ⟨y, h1, h2⟩ := kA (step := bm n) (fun x => x.2 = 48 ∧ all0 s = all0 x.1 ∧ x.1.length ≤ s.length) (fun x => x.1.length) (fun y => all0 s = all0 y ∧ y.length ≤ s.length) (by
    rintro ⟨l, c⟩ ⟨rfl, h, hl⟩
    simp only at h hl
    by_cases h0 : l.length > 0
    · have d0 : decide (((l.length : Nat) : Int) > 0) = true := decide_eq_true (by omega)
      have w1 : IntKind.wrap .i64 (((l.length : Nat) : Int) - 1) = ((l.length - 1 : Nat) : Int) := by rw [wrap_i64 _ (by omega) (by omega)]; omega
      obtain ⟨c, hc⟩ : ∃ c, l[l.length - 1]? = some c := ⟨l[l.length - 1], List.getElem?_eq_getElem (by omega)⟩
      simp only [bm, d0, cond_true, w1, gT hc, ob]
      by_cases he : c = 48
      · have e1 : (((c.toNat : Nat) : Int) == 48) = true := by rw [he]; rfl
        simp only [e1, cond_true, ii (show l.length - 1 ≤ l.length by omega), List.drop_zero]
        refine .inl ⟨(List.take (l.length - 1) l, 48), rfl, ⟨rfl, ?_, by show (List.take (l.length - 1) l).length ≤ s.length; rw [List.length_take]; omega⟩, by show (List.take (l.length - 1) l).length < l.length; rw [List.length_take]; omega⟩
        rw [h]
        have : l = l.take (l.length - 1) ++ [c] := by
          have h2 := List.take_add_one (l := l) (i := l.length - 1)
          rw [hc, show l.length - 1 + 1 = l.length by omega, List.take_length] at h2
          exact h2
        rw [this]
        simp only [all0, List.all_append, List.all_cons, List.all_nil, he]
        simp
      · have e1 : (((c.toNat : Nat) : Int) == 48) = false := by
          rw [beq_eq_false_iff_ne]
          intro e
          exact he (UInt8.toNat_inj.1 (by show c.toNat = 48; omega))
        simp only [e1, cond_false]
        exact .inr ⟨_, rfl, h, hl⟩
    · have d0 : decide (((l.length : Nat) : Int) > 0) = false := decide_eq_false (by omega)
      simp only [bm, d0, cond_false]
      exact .inr ⟨_, rfl, h, hl⟩) n (s, 48) ⟨rfl, rfl, Nat.le_refl _⟩ hs
  exact ⟨y, by simp only [cO, h1, ob], h2⟩
theorem D9 (n : Nat) (s : List UInt8) (hs : s.length < n) (hb : s.length < 100000) : ∃ y, dc n s 48 = some y ∧ all0 s = (y == []) := by
  obtain ⟨y, h1, h2⟩ := kA (step := ck n) (fun x => x.2 = 48 ∧ all0 s = all0 x.1 ∧ x.1.length ≤ s.length) (fun x => x.1.length) (fun y => all0 s = (y == [])) (by
    rintro ⟨l, c⟩ ⟨rfl, h, hl⟩
    simp only at h hl
    cases l with
    | nil => exact .inr ⟨[], rfl, by rw [h]; rfl⟩
    | cons c l =>
      have d0 : decide ((((c :: l).length : Nat) : Int) > 0) = true := decide_eq_true (by simp only [List.length_cons]; omega)
      have hc : sx (c :: l) 0 = some c := by simp [sx]
      simp only [ck, d0, cond_true, hc, ob]
      by_cases he : c = 48
      · have e1 : (((c.toNat : Nat) : Int) == 48) = true := by rw [he]; rfl
        have hbx : bx (c :: l).length 1 = some 1 := ii (i := 1) (by simp)
        simp only [e1, cond_true, hbx, List.take_length, List.drop_succ_cons, List.drop_zero]
        refine .inl ⟨_, rfl, ⟨rfl, ?_, by show l.length ≤ s.length; simp only [List.length_cons] at hl; omega⟩, by simp⟩
        rw [h]
        simp [all0, he]
      · have e1 : (((c.toNat : Nat) : Int) == 48) = false := by
          rw [beq_eq_false_iff_ne]
          intro e
          exact he (UInt8.toNat_inj.1 (by show c.toNat = 48; omega))
        simp only [e1, cond_false]
        refine .inr ⟨_, rfl, ?_⟩
        rw [h]
        have e2 : (c == 48) = false := beq_eq_false_iff_ne.2 he
        simp [all0, e2]) n (s, 48) ⟨rfl, rfl, Nat.le_refl _⟩ hs
  exact ⟨y, by simp only [dc, h1, ob], h2⟩
theorem Bb (n : Nat) (s : List UInt8) (hs : s.length < n) (hb : s.length < 100000) : ∃ y, iJ n s = some y ∧ (y == []) = all0 s := by
  unfold iJ
  by_cases h : s = []
  · subst h; exact ⟨[], rfl, rfl⟩
  · have : (s == ([] : List UInt8)) = false := beq_eq_false_iff_ne.2 h
    obtain ⟨y, h1, h2, h3⟩ := DV n s hs hb
    obtain ⟨z, h4, h5⟩ := D9 n y (by omega) (by omega)
    exact ⟨z, by simp only [this, cond_false, h1, h4, ob], by rw [h2, h5]⟩
theorem zk (s : List UInt8) : all0 s = true ↔ cnt 48 48 s = s.length := by
  rw [vO]
  unfold all0
  rw [List.all_eq_true]
  constructor
  · intro h c hc
    have := h c hc
    rw [beq_iff_eq] at this
    exact (wN c).2 this
  · intro h c hc
    rw [beq_iff_eq]
    exact (wN c).1 (h c hc)
def hasX (s : List UInt8) : Bool := s.any fun c => c == 88
theorem tM (s : List UInt8) : hasX s = decide (0 < cnt 88 88 s) := by
  have := zy 88 88 s
  unfold hasX
  cases h : s.any fun c => c == 88 with
  | true =>
    obtain ⟨c, hc, he⟩ := List.any_eq_true.1 h
    rw [beq_iff_eq] at he
    symm
    rw [decide_eq_true_eq]
    rcases Nat.eq_zero_or_pos (cnt 88 88 s) with h0 | h0
    · have := this.1 h0 c hc
      rw [(qT c).2 he] at this
      cases this
    · exact h0
  | false =>
    symm
    rw [decide_eq_false_iff_not]
    intro h0
    have : cnt 88 88 s = 0 := this.2 fun c hc => by
      cases hx : inR 88 88 c with
      | false => rfl
      | true =>
        rw [List.any_eq_false] at h
        exact absurd (beq_iff_eq.2 ((qT c).1 hx)) (h c hc)
    omega
theorem sK (n : Nat) (s : List UInt8) : dI n s = some (hasX s) := by
  have e : UInt8.ofNat (Int.toNat 88) = (88 : UInt8) := rfl
  have hi : gX n s = some (Lib.indexByte s 88) := by
    simp only [gX, dU, bc, ob, e]
    by_cases h : ([88] : List UInt8) = s
    · subst h; rfl
    · have : (([88] : List UInt8) == s) = false := beq_eq_false_iff_ne.2 h
      simp only [this, cond_false]
  simp only [dI, hi, ob, mn]
  rfl
theorem ml (n : Nat) (g l : Bool) (d : List UInt8) (x q : Int) : be n g l d x q = some (hasX d) := by
  simp only [be, sK, ob]
theorem jd (n : Nat) (g l : Bool) (d : List UInt8) (x q : Int) (hs : d.length < n) (hb : d.length < 100000) : af n g l d x q = some (if hasX d then 1 else 0) := by
  simp only [af, uk n d 88 88 hs hb, ob, tM, decide_eq_true_eq]
  by_cases h : 0 < cnt 88 88 d
  · have : decide (((cnt 88 88 d : Nat) : Int) < 1) = false := decide_eq_false (by omega)
    simp [this, h]
  · have : decide (((cnt 88 88 d : Nat) : Int) < 1) = true := decide_eq_true (by omega)
    have h0 : cnt 88 88 d = 0 := by omega
    simp [this, h0]
def m5 (acc : Nat) (c : UInt8) : Nat := acc * 10 + (c.toNat - 48)
def dval (acc : Nat) (l : List UInt8) : Nat := l.foldl m5 acc
theorem ju (acc : Nat) : dval acc [] = acc := by unfold dval; rw [List.foldl_nil]
theorem jg (acc : Nat) (c : UInt8) (l : List UInt8) : dval acc (c :: l) = dval (m5 acc c) l := by
  unfold dval; rw [List.foldl_cons]
theorem us (l : List UInt8) (acc : Nat) (c : UInt8) : dval acc (l ++ [c]) = dval acc l * 10 + (c.toNat - 48) := by
  have : dval acc (l ++ [c]) = m5 (dval acc l) c := by
    unfold dval; rw [List.foldl_append, List.foldl_cons, List.foldl_nil]
  rw [this]
  rfl
theorem Bm (M : Nat) (hM : 10000000000000000000 ≤ M) (l : List UInt8) : ∀ (acc k : Nat), (∀ c ∈ l, bq c = true) → acc < 10 ^ k → l.length + k ≤ 18 → Lib.parseUintM M acc l = .ok (dval acc l) ∧ dval acc l < 10 ^ (l.length + k) := by
  induction l with
  | nil =>
    intro acc k _ h1 _
    rw [ju]
    refine ⟨rfl, ?_⟩
    simpa using h1
  | cons c l ih =>
    intro acc k h h1 h2
    have hc := (cN c).1 (h c (by simp))
    simp only [List.length_cons] at h2
    have hp : (10 : Nat) ^ (k + 1) = 10 ^ k * 10 := Nat.pow_succ 10 k
    have hle : (10 : Nat) ^ (k + 1) ≤ 10 ^ 18 := Nat.pow_le_pow_right (by decide) (by omega)
    have h18 : (10 : Nat) ^ 18 = 1000000000000000000 := by decide
    have hd : m5 acc c = acc * 10 + (c.toNat - 48) := rfl
    have ih := ih (m5 acc c) (k + 1) (fun d hd => h d (by simp [hd])) (by omega) (by omega)
    refine ⟨?_, ?_⟩
    · simp only [Lib.parseUintM]
      rw [if_pos hc, if_neg (by omega), if_neg (by omega), ← hd, ih.1, jg]
    · rw [jg, List.length_cons, show l.length + 1 + k = l.length + (k + 1) by omega]
      exact ih.2
theorem u6 {l : List UInt8} (h : ∀ c ∈ l, bq c = true) (h0 : l ≠ []) (hl : l.length ≤ 18) : oX l = some ((dval 0 l : Nat) : Int) ∧ dval 0 l < 10 ^ l.length := by
  obtain ⟨h1, h2⟩ := Bm (2 ^ 64 - 1) (by decide) l 0 0 h (by simp) (by omega)
  refine ⟨?_, by simpa using h2⟩
  have hlt : dval 0 l < 10 ^ 18 := Nat.lt_of_lt_of_le h2 (Nat.pow_le_pow_right (by decide) (by omega))
  cases l with
  | nil => exact absurd rfl h0
  | cons c r =>
    have hc := (cN c).1 (h c (by simp))
    have hu : Lib.parseUintB 64 (c :: r) = .ok (dval 0 (c :: r)) := by
      unfold Lib.parseUintB
      rw [if_neg h0, h1]
    have hs : ¬ (c.toNat = 43 ∨ c.toNat = 45) := by omega
    simp only [oX, Lib.parseIntB, hs, if_false, hu]
    have h18 : (10 : Nat) ^ 18 = 1000000000000000000 := by decide
    have h63 : (2 : Nat) ^ (64 - 1) = 9223372036854775808 := by decide
    have hn : ¬ c.toNat = 45 := by omega
    simp only [hn, not_false_eq_true, true_and, false_and, if_false]
    rw [h63, if_neg (by omega)]
theorem yZ (n k : Nat) (hk : k ≤ 18) (hn : 18 < n) : je n (k : Int) = some (((10 ^ k : Nat) : Int), 0) := by
  have h18 : (10 : Nat) ^ 18 = 1000000000000000000 := by decide
  have := dH (step := fE n) (fun x => ∃ i : Nat, i ≤ k ∧ x = (((10 ^ i : Nat) : Int), (k : Int), (i : Int))) (fun x => k - x.2.2.toNat) (fun _ => ((10 ^ k : Nat) : Int)) (by
    rintro x ⟨i, hi, rfl⟩
    rcases Nat.lt_or_ge i k with hlt | hge
    · have hle : (10 : Nat) ^ (i + 1) ≤ 10 ^ 18 := Nat.pow_le_pow_right (by decide) (by omega)
      have hp : (10 : Nat) ^ (i + 1) = 10 ^ i * 10 := Nat.pow_succ 10 i
      have w1 : IntKind.wrap .i64 (((10 ^ i : Nat) : Int) * 10) = ((10 ^ (i + 1) : Nat) : Int) := by rw [wrap_i64 _ (by omega) (by omega)]; omega
      have w2 : IntKind.wrap .i64 ((i : Int) + 1) = ((i + 1 : Nat) : Int) := by rw [wrap_i64 _ (by omega) (by omega)]; omega
      refine .inl ⟨_, ?_, ⟨i + 1, hlt, rfl⟩, by simp only [Int.toNat_natCast]; omega, rfl⟩
      simp only [fE, ie, hlt, decide_true, cond_true, w1, w2]
    · have : i = k := by omega
      subst this
      refine .inr ?_
      simp only [fE, ie, Nat.lt_irrefl, decide_false, cond_false]) n (1, (k : Int), 0) ⟨0, by omega, rfl⟩ (by simp; omega)
  have d1 : decide ((k : Int) < 0) = false := decide_eq_false (by omega)
  have d2 : decide ((k : Int) > 18) = false := decide_eq_false (by omega)
  simp only [je, d1, d2, cond_false, this, ob]
theorem fD (x : Int) (h0 : 0 ≤ x) (h1 : x < 18446744073709551616) : IntKind.wrap .u64 x = x := by
  show x % 18446744073709551616 = x
  omega
theorem sX (x : Int) : IntKind.wrap .u64 x = x % 18446744073709551616 := rfl
theorem xV {a : Nat} (ha : a < 18446744073709551616) : bits .and .u64 (a : Int) 4294967295 = ((a % 4294967296 : Nat) : Int) := by
  show IntKind.wrap .u64 ((BitVec.ofInt 64 (a : Int) &&& BitVec.ofInt 64 ((4294967295 : Nat) : Int)).toNat : Int) = _
  rw [sw, sw, BitVec.toNat_and, BitVec.toNat_ofNat, BitVec.toNat_ofNat, Nat.mod_eq_of_lt (show a < 2 ^ 64 from ha), Nat.mod_eq_of_lt (by decide)]
  have := Nat.and_two_pow_sub_one_eq_mod a 32
  rw [show (2 : Nat) ^ 32 - 1 = 4294967295 from by decide, show (2 : Nat) ^ 32 = 4294967296 from by decide] at this
  rw [this]
  exact fD _ (by omega) (by omega)
theorem yY (a : Nat) : Int.fdiv (a : Int) (2 ^ 32) = ((a / 4294967296 : Nat) : Int) := by
  rw [yH]
theorem uI {a b A B : Nat} (ha : a ≤ A) (hb : b ≤ B) : a * b ≤ A * B := Nat.mul_le_mul ha hb
theorem ya (a b : Nat) : a * b = (a / 4294967296) * (b / 4294967296) * 18446744073709551616 + ((a / 4294967296) * (b % 4294967296) + (a % 4294967296) * (b / 4294967296)) * 4294967296 + (a % 4294967296) * (b % 4294967296) := by
  have e1 : a = (a / 4294967296) * 4294967296 + a % 4294967296 := by omega
  have e2 : b = (b / 4294967296) * 4294967296 + b % 4294967296 := by omega
  generalize a / 4294967296 = x1 at e1 ⊢
  generalize a % 4294967296 = x0 at e1 ⊢
  generalize b / 4294967296 = y1 at e2 ⊢
  generalize b % 4294967296 = y0 at e2 ⊢
  subst e1 e2
  rw [Nat.add_mul, Nat.mul_add, Nat.mul_add]
  have h1 : x1 * 4294967296 * (y1 * 4294967296) = x1 * y1 * 18446744073709551616 := by
    rw [Nat.mul_mul_mul_comm]
  have h2 : x1 * 4294967296 * y0 = x1 * y0 * 4294967296 := by rw [Nat.mul_right_comm]
  have h3 : x0 * (y1 * 4294967296) = x0 * y1 * 4294967296 := by rw [Nat.mul_assoc]
  rw [h1, h2, h3, Nat.add_mul]
  omega
theorem Et (n a b : Nat) (ha : a < 18446744073709551616) (hb : b < 18446744073709551616) : fq n (a : Int) (b : Int) = some (((a * b / 18446744073709551616 : Nat) : Int), ((a * b % 18446744073709551616 : Nat) : Int)) := by
  have hsp := ya a b
  have hx1 : a / 4294967296 ≤ 4294967295 := by omega
  have hx0 : a % 4294967296 ≤ 4294967295 := by omega
  have hy1 : b / 4294967296 ≤ 4294967295 := by omega
  have hy0 : b % 4294967296 ≤ 4294967295 := by omega
  have p00 := uI hx0 hy0
  have p01 := uI hx0 hy1
  have p10 := uI hx1 hy0
  have p11 := uI hx1 hy1
  have hlo : IntKind.wrap .u64 ((a : Int) * (b : Int)) = ((a * b % 18446744073709551616 : Nat) : Int) := by
    rw [sX, ← Int.natCast_mul]; omega
  simp only [fq, yY, xV ha, xV hb, hlo]
  simp only [← Int.natCast_mul]
  generalize (a / 4294967296) * (b / 4294967296) = q11 at *
  generalize (a / 4294967296) * (b % 4294967296) = q10 at *
  generalize (a % 4294967296) * (b / 4294967296) = q01 at *
  generalize (a % 4294967296) * (b % 4294967296) = q00 at *
  generalize a * b = N at *
  have w1 : IntKind.wrap .u64 ((q00 : Nat) : Int) = ((q00 : Nat) : Int) := fD _ (by omega) (by omega)
  have w2 : IntKind.wrap .u64 ((q10 : Nat) : Int) = ((q10 : Nat) : Int) := fD _ (by omega) (by omega)
  have w3 : IntKind.wrap .u64 ((q01 : Nat) : Int) = ((q01 : Nat) : Int) := fD _ (by omega) (by omega)
  have w4 : IntKind.wrap .u64 ((q11 : Nat) : Int) = ((q11 : Nat) : Int) := fD _ (by omega) (by omega)
  rw [w1, w2, w3, w4, yY q00]
  have w5 : IntKind.wrap .u64 (((q10 : Nat) : Int) + ((q00 / 4294967296 : Nat) : Int)) = ((q10 + q00 / 4294967296 : Nat) : Int) := by rw [fD _ (by omega) (by omega)]; omega
  rw [w5, yY, xV (by omega)]
  have w6 : IntKind.wrap .u64 (((q11 : Nat) : Int) + (((q10 + q00 / 4294967296) / 4294967296 : Nat) : Int)) = ((q11 + (q10 + q00 / 4294967296) / 4294967296 : Nat) : Int) := by rw [fD _ (by omega) (by omega)]; omega
  have w7 : IntKind.wrap .u64 ((((q10 + q00 / 4294967296) % 4294967296 : Nat) : Int) + ((q01 : Nat) : Int)) = (((q10 + q00 / 4294967296) % 4294967296 + q01 : Nat) : Int) := by rw [fD _ (by omega) (by omega)]; omega
  rw [w6, w7, yY]
  have w8 : IntKind.wrap .u64 (((q11 + (q10 + q00 / 4294967296) / 4294967296 : Nat) : Int) + ((((q10 + q00 / 4294967296) % 4294967296 + q01) / 4294967296 : Nat) : Int)) = ((N / 18446744073709551616 : Nat) : Int) := by
    rw [fD _ (by omega) (by omega)]; omega
  rw [w8]
theorem Cn (n a b : Nat) (ha : a < 9223372036854775808) (hb : b < 9223372036854775808) : nB n (a : Int) (b : Int) = some (if a * b < 9223372036854775808 then (((a * b : Nat) : Int), 0) else (0, 15)) := by
  have d1 : decide ((a : Int) < 0) = false := decide_eq_false (by omega)
  have d2 : decide ((b : Int) < 0) = false := decide_eq_false (by omega)
  have w1 : IntKind.wrap .u64 (a : Int) = a := fD _ (by omega) (by omega)
  have w2 : IntKind.wrap .u64 (b : Int) = b := fD _ (by omega) (by omega)
  simp only [nB, l7, d1, d2, cond_false, w1, w2, ob, Et n a b (by omega) (by omega)]
  generalize a * b = N
  by_cases h : 18446744073709551616 ≤ N
  · have d3 : decide (((N / 18446744073709551616 : Nat) : Int) > 0) = true := decide_eq_true (by omega)
    rw [d3, if_neg (by omega)]
    rfl
  · have d3 : decide (((N / 18446744073709551616 : Nat) : Int) > 0) = false := decide_eq_false (by omega)
    have e : N % 18446744073709551616 = N := Nat.mod_eq_of_lt (by omega)
    rw [d3, e]
    simp only [cond_false, BEq.rfl, Bool.not_true, lp, Bool.not_false, cond_true]
    by_cases h2 : N < 9223372036854775808
    · have d4 : decide (((N : Nat) : Int) ≤ 9223372036854775807) = true := decide_eq_true (by omega)
      rw [d4, if_pos h2, cond_true, wrap_i64 _ (by omega) (by omega)]
    · have d4 : decide (((N : Nat) : Int) ≤ 9223372036854775807) = false := decide_eq_false (by omega)
      rw [d4, if_neg h2, cond_false]
def E16 : Nat := 10000000000000000
theorem BD {x : Nat} (hx : 17 ≤ x) : E16 < 10 ^ x := by
  have : (10 : Nat) ^ 17 ≤ 10 ^ x := Nat.pow_le_pow_right (by decide) hx
  have h17 : (10 : Nat) ^ 17 = 100000000000000000 := by decide
  unfold E16
  omega
theorem yd (n : Nat) (g l : Bool) (d : List UInt8) (x : Nat) (s : Int) (hd : ∀ c ∈ d, bq c = true) (h0 : d ≠ []) (hl : d.length ≤ 17) (hx : x ≤ 18) (hn : 18 < n) :
    bL n g l d (x : Int) s = some (if dval 0 d * 10 ^ x ≤ E16 then (((dval 0 d * 10 ^ x : Nat) : Int), 0) else (0, 6)) := by
  obtain ⟨h1, h2⟩ := u6 hd h0 (by omega)
  have hv : dval 0 d < 10 ^ 17 := Nat.lt_of_lt_of_le h2 (Nat.pow_le_pow_right (by decide) hl)
  have hp : (10 : Nat) ^ x ≤ 10 ^ 18 := Nat.pow_le_pow_right (by decide) hx
  have h17 : (10 : Nat) ^ 17 = 100000000000000000 := by decide
  have h18 : (10 : Nat) ^ 18 = 1000000000000000000 := by decide
  have hb : Nat.ble d.length 9223372036854775806 = true := Nat.ble_eq_true_of_le (by omega)
  simp only [bL, hb, cond_true, h1, ob, yZ n x hx hn, bne_self_eq_false, cond_false, Cn n _ _ (show dval 0 d < 9223372036854775808 by omega) (show 10 ^ x < 9223372036854775808 by omega)]
  generalize dval 0 d * 10 ^ x = N
  unfold E16
  by_cases h : N < 9223372036854775808
  · rw [if_pos h]
    simp only [bne_self_eq_false, cond_false]
    by_cases h3 : N ≤ 10000000000000000
    · have d1 : decide (((N : Nat) : Int) > 10000000000000000) = false := decide_eq_false (by omega)
      rw [d1, if_pos h3, cond_false]
    · have d1 : decide (((N : Nat) : Int) > 10000000000000000) = true := decide_eq_true (by omega)
      rw [d1, if_neg h3, cond_true]
  · rw [if_neg h, if_neg (by omega)]
    rfl
def pre (d : List UInt8) (i : Nat) : Nat := dval 0 (d.take i) * 10 ^ (i - d.length)
theorem AM {d : List UInt8} {i : Nat} {c : UInt8} (h : d[i]? = some c) : pre d (i + 1) = 10 * pre d i + (c.toNat - 48) := by
  have hlt := oZ h
  unfold pre
  rw [List.take_add_one, h, show i + 1 - d.length = 0 by omega, show i - d.length = 0 by omega]
  simp only [Option.toList, us, Nat.pow_zero, Nat.mul_one]
  omega
theorem AL {d : List UInt8} {i : Nat} (h : d.length ≤ i) : pre d (i + 1) = 10 * pre d i := by
  unfold pre
  rw [List.take_of_length_le (show d.length ≤ i + 1 by omega), List.take_of_length_le h, show i + 1 - d.length = (i - d.length) + 1 by omega, Nat.pow_succ]
  rw [← Nat.mul_assoc]
  omega
theorem uE (d : List UInt8) : ∀ k i, pre d i ≤ pre d (i + k)
  | 0, i => Nat.le_refl _
  | k + 1, i => by
    have ih := uE d k i
    rcases Nat.lt_or_ge (i + k) d.length with hlt | hge
    · have := AM (List.getElem?_eq_getElem hlt)
      rw [show i + (k + 1) = i + k + 1 by omega, this]
      omega
    · have := AL hge
      rw [show i + (k + 1) = i + k + 1 by omega, this]
      omega
theorem ek (n : Nat) (d : List UInt8) (x : Nat) (hd : ∀ c ∈ d, bq c = true) (hl : d.length ≤ 100) (hx : x ≤ 100) (hn : d.length + x < n) :
    aa n d (x : Int) = some (if dval 0 d * 10 ^ x ≤ E16 then (((dval 0 d * 10 ^ x : Nat) : Int), 1) else (0, 0)) := by
  have hend : pre d (d.length + x) = dval 0 d * 10 ^ x := by
    unfold pre
    rw [List.take_of_length_le (by omega), show d.length + x - d.length = x by omega]
  have w0 : IntKind.wrap .i64 (((d.length : Nat) : Int) + (x : Int)) = ((d.length + x : Nat) : Int) := by rw [wrap_i64 _ (by omega) (by omega)]; omega
  have := dH (step := co n) (fun q => ∃ i : Nat, i ≤ d.length + x ∧ pre d i ≤ E16 ∧ q = (d, (x : Int), ((pre d i : Nat) : Int), (i : Int))) (fun q => d.length + x - q.2.2.2.toNat) (fun _ => if dval 0 d * 10 ^ x ≤ E16 then .inr ((dval 0 d * 10 ^ x : Nat) : Int) else .inl (0, 0)) (by
    rintro q ⟨i, hi, hp, rfl⟩
    simp only [co, w0, ie]
    unfold E16 at hp ⊢
    have w1 : IntKind.wrap .i64 ((i : Int) + 1) = ((i + 1 : Nat) : Int) := by rw [wrap_i64 _ (by omega) (by omega)]; omega
    have w2 : IntKind.wrap .i64 (10 * ((pre d i : Nat) : Int)) = ((10 * pre d i : Nat) : Int) := by rw [wrap_i64 _ (by omega) (by omega)]; omega
    by_cases h1 : i < d.length + x
    · have hm := uE d (d.length + x - (i + 1)) (i + 1)
      rw [show i + 1 + (d.length + x - (i + 1)) = d.length + x by omega, hend] at hm
      simp only [h1, decide_true, cond_true, w1, w2]
      rcases Nat.lt_or_ge i d.length with hlt | hge
      · obtain ⟨c, hc⟩ : ∃ c, d[i]? = some c := ⟨d[i], List.getElem?_eq_getElem hlt⟩
        have hdig := (cN c).1 (hd c (List.mem_of_getElem? hc))
        have hs := AM hc
        have w3 : IntKind.wrap .u8 (((c.toNat : Nat) : Int) - 48) = ((c.toNat - 48 : Nat) : Int) := by rw [fY _ (by omega) (by omega)]; omega
        have w4 : IntKind.wrap .i64 ((c.toNat - 48 : Nat) : Int) = ((c.toNat - 48 : Nat) : Int) := wrap_i64 _ (by omega) (by omega)
        have w5 : IntKind.wrap .i64 (((10 * pre d i : Nat) : Int) + ((c.toNat - 48 : Nat) : Int)) = ((pre d (i + 1) : Nat) : Int) := by rw [wrap_i64 _ (by omega) (by omega)]; omega
        simp only [hlt, decide_true, cond_true, gT hc, ob, w3, w4, w5]
        by_cases h2 : pre d (i + 1) ≤ 10000000000000000
        · have d1 : decide (((pre d (i + 1) : Nat) : Int) > 10000000000000000) = false := decide_eq_false (by omega)
          simp only [d1, cond_false]
          exact .inl ⟨_, rfl, ⟨i + 1, h1, h2, rfl⟩, by simp only [Int.toNat_natCast]; omega, trivial⟩
        · have d1 : decide (((pre d (i + 1) : Nat) : Int) > 10000000000000000) = true := decide_eq_true (by omega)
          simp only [d1, cond_true]
          rw [if_neg (by omega)]
          exact .inr rfl
      · have hs := AL hge
        have hnl : ¬ i < d.length := by omega
        simp only [hnl, decide_false, cond_false]
        rw [← hs]
        by_cases h2 : pre d (i + 1) ≤ 10000000000000000
        · have d1 : decide (((pre d (i + 1) : Nat) : Int) > 10000000000000000) = false := decide_eq_false (by omega)
          simp only [d1, cond_false]
          exact .inl ⟨_, rfl, ⟨i + 1, h1, h2, rfl⟩, by simp only [Int.toNat_natCast]; omega, trivial⟩
        · have d1 : decide (((pre d (i + 1) : Nat) : Int) > 10000000000000000) = true := decide_eq_true (by omega)
          simp only [d1, cond_true]
          rw [if_neg (by omega)]
          exact .inr rfl
    · have : i = d.length + x := by omega
      subst this
      simp only [Nat.lt_irrefl, decide_false, cond_false]
      rw [hend] at hp ⊢
      rw [if_pos hp]
      exact .inr rfl) n (d, (x : Int), 0, 0) ⟨0, by omega, by unfold pre E16; simp [ju], by unfold pre; simp [ju]⟩ (by simp; omega)
  simp only [aa, this, ob]
  by_cases h : dval 0 d * 10 ^ x ≤ E16
  · rw [if_pos h, if_pos h]
  · rw [if_neg h, if_neg h]
def okM (d : List UInt8) (x : Int) : Prop := (∀ c ∈ d, bq c = true) ∧ 1 ≤ d.length ∧ d.length ≤ 17 ∧ d.head? ≠ some 48 ∧ 0 ≤ x ∧ x ≤ 16 ∧ ¬ (x = 0 ∧ d.length < 5) ∧ dval 0 d * 10 ^ x.toNat ≤ E16
def okL (d : List UInt8) (x s : Int) : Prop := okM d x ∧ 0 ≤ s ∧ s ≤ (d.length : Int) + x
def okS (g : Bool) (d : List UInt8) (x s : Int) : Prop := d.length = 4 ∧ (∀ c ∈ d, bq c = true ∨ c = 88) ∧ x = 0 ∧ ¬ (g = true ∧ all0 d = true) ∧ 0 ≤ s ∧ s ≤ 4 ∧ ¬ (0 < s ∧ hasX d = true)
def okY (g l : Bool) (d : List UInt8) (x s : Int) : Prop := if l = true then okL d x s else okS g d x s
instance (d : List UInt8) (x : Int) : Decidable (okM d x) := by unfold okM; infer_instance
instance (d : List UInt8) (x s : Int) : Decidable (okL d x s) := by unfold okL; infer_instance
instance (g : Bool) (d : List UInt8) (x s : Int) : Decidable (okS g d x s) := by unfold okS; infer_instance
instance (g l : Bool) (d : List UInt8) (x s : Int) : Decidable (okY g l d x s) := by unfold okY; infer_instance
theorem wR (d : List UInt8) : d.all bq = true ↔ ∀ c ∈ d, bq c = true := List.all_eq_true
theorem tJ (d : List UInt8) : (d.all fun c => bq c || c == 88) = true ↔ ∀ c ∈ d, bq c = true ∨ c = 88 := by
  rw [List.all_eq_true]
  constructor
  · intro h c hc
    have := h c hc
    simpa using this
  · intro h c hc
    have := h c hc
    simpa using this
theorem CY (c : UInt8) : (((c.toNat : Nat) : Int) == 48) = (c == 48) := uh c 48
theorem A9 (n : Nat) (g l : Bool) (d : List UInt8) (x s : Int) (hn : 200 < n) (hd : d.length ≤ 100) : ar n g l d x s = some (decide (okM d x)) := by
  unfold ar
  by_cases h1 : d.length < 1
  · have e : decide (((d.length : Nat) : Int) < 1) = true := decide_eq_true (by omega)
    rw [e, decide_eq_false (fun h : okM d x => by have := h.2.1; omega)]; rfl
  · have e : decide (((d.length : Nat) : Int) < 1) = false := decide_eq_false (by omega)
    rw [e, cond_false]
    by_cases h2 : d.length > 17
    · have e : decide (((d.length : Nat) : Int) > 17) = true := decide_eq_true (by omega)
      rw [e, decide_eq_false (fun h : okM d x => by have := h.2.2.1; omega)]; rfl
    · have e : decide (((d.length : Nat) : Int) > 17) = false := decide_eq_false (by omega)
      rw [e, cond_false, xD n d (by omega) (by omega)]
      simp only [ob]
      cases h3 : d.all bq with
      | false =>
        rw [decide_eq_false (fun h : okM d x => by rw [(wR d).2 h.1] at h3; cases h3)]; rfl
      | true =>
        have hdig := (wR d).1 h3
        obtain ⟨c, r, rfl⟩ : ∃ c r, d = c :: r := by
          cases d with
          | nil => simp at h1
          | cons c r => exact ⟨c, r, rfl⟩
        have hsx : sx (c :: r) 0 = some c := by simp [sx]
        simp only [Bool.not_true, cond_false, hsx, CY]
        by_cases h4 : c = 48
        · rw [decide_eq_false (fun h : okM (c :: r) x => h.2.2.2.1 (by rw [h4]; rfl)), h4]; rfl
        · have e : (c == 48) = false := beq_eq_false_iff_ne.2 h4
          rw [e, cond_false]
          by_cases h5 : x < 0
          · rw [decide_eq_true h5, decide_eq_false (fun h : okM (c :: r) x => by have := h.2.2.2.2.1; omega)]; rfl
          · rw [decide_eq_false h5, cond_false]
            by_cases h6 : x > 16
            · rw [decide_eq_true h6, decide_eq_false (fun h : okM (c :: r) x => by have := h.2.2.2.2.2.1; omega)]; rfl
            · rw [decide_eq_false h6, cond_false]
              obtain ⟨k, rfl⟩ : ∃ k : Nat, x = (k : Int) := ⟨x.toNat, by omega⟩
              have hmg := yd n g l (c :: r) k s hdig (by simp) (by omega) (by omega) (by omega)
              rw [hmg]
              have key : ¬ ((k : Int) = 0 ∧ (c :: r).length < 5) → (okM (c :: r) (k : Int) ↔ dval 0 (c :: r) * 10 ^ k ≤ E16) := by
                intro hk
                constructor
                · intro h
                  simpa using h.2.2.2.2.2.2.2
                · intro h
                  exact ⟨hdig, by omega, by omega, by simpa using h4, by omega, by omega, hk, by simpa using h⟩
              have fin : ¬ ((k : Int) = 0 ∧ (c :: r).length < 5) → (ob (some (if dval 0 (c :: r) * 10 ^ k ≤ E16 then (((dval 0 (c :: r) * 10 ^ k : Nat) : Int), (0 : Int)) else (0, 6))) fun q => (some (q.2 == 0))) = some (decide (okM (c :: r) (k : Int))) := by
                intro hk
                by_cases h7 : dval 0 (c :: r) * 10 ^ k ≤ E16
                · rw [if_pos h7, decide_eq_true ((key hk).2 h7)]; rfl
                · rw [if_neg h7, decide_eq_false (fun h => h7 ((key hk).1 h))]; rfl
              by_cases h8 : (k : Int) = 0
              · have e : ((k : Int) == 0) = true := beq_iff_eq.2 h8
                rw [e, cond_true]
                by_cases h9 : (c :: r).length < 5
                · have e : decide ((((c :: r).length : Nat) : Int) < 5) = true := decide_eq_true (by omega)
                  rw [e, decide_eq_false (fun h : okM (c :: r) (k : Int) => h.2.2.2.2.2.2.1 ⟨h8, h9⟩)]; rfl
                · have e : decide ((((c :: r).length : Nat) : Int) < 5) = false := decide_eq_false (by omega)
                  rw [e, cond_false]
                  exact fin (fun h => h9 h.2)
              · have e : ((k : Int) == 0) = false := beq_eq_false_iff_ne.2 h8
                rw [e, cond_false]
                exact fin (fun h => h8 h.1)
theorem zH (n : Nat) (g l : Bool) (d : List UInt8) (x s : Int) (hn : 200 < n) (hd : d.length ≤ 100) :
    (ob (ar n g l d x s) fun r => (cond (!r) (some (6 : Int)) (cond (decide (s < 0)) (some 6) (cond (decide (s > (IntKind.wrap .i64 (((d.length : Nat) : Int) + x)))) (some 6) (some 0))))) = some (if okL d x s then 0 else 6) := by
  rw [A9 n g l d x s hn hd]
  simp only [ob]
  by_cases h : okM d x
  · rw [decide_eq_true h]
    have hx := h.2.2.2.2
    have w : IntKind.wrap .i64 (((d.length : Nat) : Int) + x) = ((d.length : Nat) : Int) + x := wrap_i64 _ (by omega) (by omega)
    rw [w]
    simp only [Bool.not_true, cond_false, aN]
    by_cases h1 : s < 0
    · rw [if_pos h1, if_neg (fun q : okL d x s => by have := q.2.1; omega)]
    · rw [if_neg h1]
      by_cases h2 : s > ((d.length : Nat) : Int) + x
      · rw [if_pos h2, if_neg (fun q : okL d x s => by have := q.2.2; omega)]
      · rw [if_neg h2, if_pos ⟨h, by omega, by omega⟩]
  · rw [decide_eq_false h, if_neg (fun q : okL d x s => h q.1)]; rfl
theorem qE (n : Nat) (g l : Bool) (d : List UInt8) (x s : Int) (hn : 200 < n) (hd : d.length ≤ 100) : aS n g l d x s = some (if okY g l d x s then 0 else 6) := by
  obtain ⟨y, ht, hy⟩ := Bb n d (by omega) (by omega)
  unfold aS
  rw [vp n d (by omega) (by omega), ht, ml]
  cases l with
  | true =>
    have hok : (if okY g true d x s then (0 : Int) else 6) = if okL d x s then 0 else 6 := by simp only [okY, if_true]
    rw [hok]
    have st := zH n g true d x s hn hd
    simp only [cond_true]
    generalize (ob (ar n g true d x s) fun r => (cond (!r) (some (6 : Int)) (cond (decide (s < 0)) (some 6) (cond (decide (s > (IntKind.wrap .i64 (((d.length : Nat) : Int) + x)))) (some 6) (some 0))))) = T at st ⊢
    simp only [ob]
    rw [st]
    cases (((d.length : Nat) : Int) == 4) <;> cases (d.all fun c => bq c || c == 88) <;> cases (x == 0) <;> cases g <;> cases (y == []) <;> cases (s != 0) <;> rfl
  | false =>
    have hok : (if okY g false d x s then (0 : Int) else 6) = if okS g d x s then 0 else 6 := by simp only [okY, Bool.false_eq_true, if_false]
    rw [hok]
    simp only [cond_false, ob]
    by_cases h1 : d.length = 4
    · have e1 : (((d.length : Nat) : Int) == 4) = true := beq_iff_eq.2 (by omega)
      rw [e1, cond_true]
      cases h2 : (d.all fun c => bq c || c == 88) with
      | false =>
        rw [if_neg (fun q : okS g d x s => by rw [(tJ d).2 q.2.1] at h2; cases h2)]; rfl
      | true =>
        have hdX := (tJ d).1 h2
        rw [cond_true]
        by_cases h3 : x = 0
        · subst h3
          have w : IntKind.wrap .i64 (((d.length : Nat) : Int) + 0) = 4 := by rw [h1]; decide
          rw [w]
          have tail : ¬ (g = true ∧ all0 d = true) → (cond (s != 0) (cond (!(!hasX d)) (some (6 : Int)) (cond (decide (s < 0)) (some 6) (cond (decide (s > 4)) (some 6) (some 0)))) (cond (decide (s < 0)) (some 6) (cond (decide (s > 4)) (some 6) (some 0)))) = some (if okS g d 0 s then 0 else 6) := by
            intro hg
            simp only [aN, nd, Bool.not_not]
            by_cases s0 : s = 0
            · subst s0
              rw [if_pos rfl, if_neg (by omega), if_neg (by omega), if_pos ⟨h1, hdX, rfl, hg, by omega, by omega, by omega⟩]
            · rw [if_neg s0]
              cases hX : hasX d with
              | true =>
                by_cases s1 : s < 0
                · rw [if_neg (fun q : okS g d 0 s => by have := q.2.2.2.2.1; omega)]; rfl
                · rw [if_neg (fun q : okS g d 0 s => q.2.2.2.2.2.2 ⟨by omega, hX⟩)]; rfl
              | false =>
                rw [cond_false]
                by_cases s1 : s < 0
                · rw [if_pos s1, if_neg (fun q : okS g d 0 s => by have := q.2.2.2.2.1; omega)]
                · rw [if_neg s1]
                  by_cases s2 : s > 4
                  · rw [if_pos s2, if_neg (fun q : okS g d 0 s => by have := q.2.2.2.2.2.1; omega)]
                  · rw [if_neg s2, if_pos ⟨h1, hdX, rfl, hg, by omega, by omega, fun q => by rw [hX] at q; cases q.2⟩]
          have e3 : ((0 : Int) == 0) = true := rfl
          rw [e3, cond_true]
          cases g with
          | false =>
            simp only [cond_false]
            exact tail (by simp)
          | true =>
            simp only [cond_true]
            rw [hy]
            cases h4 : all0 d with
            | true => rw [if_neg (fun q : okS true d 0 s => q.2.2.2.1 ⟨rfl, h4⟩)]; rfl
            | false =>
              simp only [Bool.not_false, cond_true]
              exact tail (by rw [h4]; simp)
        · have e3 : (x == 0) = false := beq_eq_false_iff_ne.2 h3
          rw [e3, if_neg (fun q : okS g d x s => h3 q.2.2.1)]; rfl
    · have e1 : (((d.length : Nat) : Int) == 4) = false := beq_eq_false_iff_ne.2 (by omega)
      rw [e1, if_neg (fun q : okS g d x s => h1 q.1)]; rfl
theorem BU (d : List UInt8) : cnt 48 57 d = d.length ↔ ∀ c ∈ d, bq c = true := vO 48 57 d
theorem wa (n : Nat) (g l : Bool) (d : List UInt8) (x s : Int) (hn : 200 < n) (hd : d.length ≤ 100) : eP n g l d x s = some (if okY g l d x s then 1 else 0) := by
  have hs := xR d
  have hXc := tM d
  have h0c := zk d
  have hDc := BU d
  unfold eP
  rw [uk n d 48 57 (by omega) (by omega), uk n d 88 88 (by omega) (by omega), uk n d 48 48 (by omega) (by omega)]
  simp only [ob]
  generalize hA : cnt 48 57 d = A at *
  generalize hB : cnt 88 88 d = B at *
  have w0 : IntKind.wrap .i64 (((A : Nat) : Int) + ((B : Nat) : Int)) = ((A + B : Nat) : Int) := by rw [wrap_i64 _ (by omega) (by omega)]; omega
  rw [w0]
  simp only [nd, aN, zR]
  by_cases h1 : A + B = d.length
  · rw [if_pos (by omega)]
    have hdX := hs.2.1 h1
    by_cases h2 : s < 0
    · rw [if_pos h2, if_neg]
      intro q
      unfold okY at q
      split at q
      · have := q.2.1; omega
      · have := q.2.2.2.2.1; omega
    · rw [if_neg h2]
      cases l with
      | false =>
        have hok : (if okY g false d x s then (1 : Int) else 0) = if okS g d x s then 1 else 0 := by simp only [okY, Bool.false_eq_true, if_false]
        rw [hok, cond_false]
        by_cases h3 : d.length = 4
        · rw [if_pos (by omega)]
          by_cases h4 : x = 0
          · rw [if_pos h4]
            have tail : ¬ (g = true ∧ all0 d = true) → (if s > 4 then some (0 : Int) else if s > 0 then (if ((B : Nat) : Int) > 0 then some 0 else some 1) else some 1) = some (if okS g d x s then 1 else 0) := by
              intro hg
              by_cases s2 : s > 4
              · rw [if_pos s2, if_neg (fun q : okS g d x s => by have := q.2.2.2.2.2.1; omega)]
              · rw [if_neg s2]
                by_cases s3 : s > 0
                · rw [if_pos s3]
                  by_cases hb : ((B : Nat) : Int) > 0
                  · rw [if_pos hb, if_neg (fun q : okS g d x s => q.2.2.2.2.2.2 ⟨by omega, by rw [hXc]; exact decide_eq_true (by omega)⟩)]
                  · rw [if_neg hb, if_pos ⟨h3, hdX, h4, hg, by omega, by omega, fun q => by
                      have := q.2
                      rw [hXc, decide_eq_true_eq] at this
                      omega⟩]
                · rw [if_neg s3, if_pos ⟨h3, hdX, h4, hg, by omega, by omega, fun q => by omega⟩]
            cases g with
            | false => rw [cond_false]; exact tail (by simp)
            | true =>
              rw [cond_true, ia]
              by_cases h5 : all0 d = true
              · rw [if_pos (by have := h0c.1 h5; omega), if_neg (fun q : okS true d x s => q.2.2.2.1 ⟨rfl, h5⟩)]
              · rw [if_neg (fun q => h5 (h0c.2 (by omega)))]
                exact tail (fun q => h5 q.2)
          · rw [if_neg h4, if_neg (fun q : okS g d x s => h4 q.2.2.1)]
        · rw [if_neg (by omega), if_neg (fun q : okS g d x s => h3 q.1)]
      | true =>
        have hok : (if okY g true d x s then (1 : Int) else 0) = if okL d x s then 1 else 0 := by simp only [okY, if_true]
        rw [hok, cond_true]
        by_cases hb : ((B : Nat) : Int) > 0
        · rw [if_pos hb, if_neg]
          intro q
          have := hDc.2 q.1.1
          omega
        · rw [if_neg hb]
          have hdig := hDc.1 (by omega)
          by_cases h3 : ((A : Nat) : Int) < 1
          · rw [if_pos h3, if_neg (fun q : okL d x s => by have := q.1.2.1; omega)]
          · rw [if_neg h3]
            by_cases h4 : ((A : Nat) : Int) > 17
            · rw [if_pos h4, if_neg (fun q : okL d x s => by have := q.1.2.2.1; omega)]
            · rw [if_neg h4]
              obtain ⟨c, r, rfl⟩ : ∃ c r, d = c :: r := by
                cases d with
                | nil => simp at h1; omega
                | cons c r => exact ⟨c, r, rfl⟩
              have hsx : sx (c :: r) 0 = some c := by simp [sx]
              simp only [hsx, CY, ia]
              by_cases h5 : c = 48
              · rw [if_pos h5, if_neg (fun q : okL (c :: r) x s => q.1.2.2.2.1 (by rw [h5]; rfl))]
              · rw [if_neg h5]
                by_cases h6 : x < 0
                · rw [if_pos h6, if_neg (fun q : okL (c :: r) x s => by have := q.1.2.2.2.2.1; omega)]
                · rw [if_neg h6]
                  by_cases h7 : x > 16
                  · rw [if_pos h7, if_neg (fun q : okL (c :: r) x s => by have := q.1.2.2.2.2.2.1; omega)]
                  · rw [if_neg h7]
                    obtain ⟨k, rfl⟩ : ∃ k : Nat, x = (k : Int) := ⟨x.toNat, by omega⟩
                    have w1 : IntKind.wrap .i64 (((A : Nat) : Int) + (k : Int)) = ((A + k : Nat) : Int) := by rw [wrap_i64 _ (by omega) (by omega)]; omega
                    rw [w1, ek n (c :: r) k hdig hd (by omega) (by omega)]
                    have hlen : (c :: r).length = A := by omega
                    have tail : ¬ ((k : Int) = 0 ∧ (c :: r).length < 5) → (if s > ((A + k : Nat) : Int) then some (0 : Int) else some (if dval 0 (c :: r) * 10 ^ k ≤ E16 then (((dval 0 (c :: r) * 10 ^ k : Nat) : Int), (1 : Int)) else (0, 0)).2) = some (if okL (c :: r) (k : Int) s then 1 else 0) := by
                      intro hk
                      by_cases s2 : s > ((A + k : Nat) : Int)
                      · rw [if_pos s2, if_neg (fun q : okL (c :: r) (k : Int) s => by have := q.2.2; rw [hlen] at this; omega)]
                      · rw [if_neg s2]
                        by_cases h8 : dval 0 (c :: r) * 10 ^ k ≤ E16
                        · rw [if_pos h8, if_pos ⟨⟨hdig, by omega, by omega, by simpa using h5, by omega, by omega, hk, by simpa using h8⟩, by omega, by omega⟩]
                        · rw [if_neg h8, if_neg (fun q : okL (c :: r) (k : Int) s => h8 (by simpa using q.1.2.2.2.2.2.2.2))]
                    by_cases h8 : (k : Int) = 0
                    · rw [if_pos h8]
                      by_cases h9 : ((A : Nat) : Int) < 5
                      · rw [if_pos h9, if_neg (fun q : okL (c :: r) (k : Int) s => q.1.2.2.2.2.2.2.1 ⟨h8, by omega⟩)]
                      · rw [if_neg h9]
                        exact tail (fun q => by omega)
                    · rw [if_neg h8]
                      exact tail (fun q => h8 q.1)
  · rw [if_neg (by omega), if_neg]
    intro q
    apply h1
    rw [hs.2]
    unfold okY at q
    split at q
    · exact fun c hc => .inl (q.1.1 c hc)
    · exact q.2.1
theorem wz : ∀ (l : List UInt8) (acc : Nat), acc * 10 ^ l.length ≤ dval acc l
  | [], acc => by rw [ju]; simp
  | c :: l, acc => by
    have ih := wz l (m5 acc c)
    rw [jg, List.length_cons, Nat.pow_succ]
    have h : acc * 10 ≤ m5 acc c := Nat.le_add_right _ _
    have h2 := Nat.mul_le_mul_right (10 ^ l.length) h
    have h3 : acc * (10 ^ l.length * 10) = acc * 10 * 10 ^ l.length := by rw [Nat.mul_comm (10 ^ l.length) 10, Nat.mul_assoc]
    omega
theorem mM : ∀ (l : List UInt8) (acc k : Nat), (∀ c ∈ l, bq c = true) → acc < 10 ^ k → dval acc l < 10 ^ (l.length + k)
  | [], acc, k, _, h => by rw [ju]; simpa using h
  | c :: l, acc, k, hd, h => by
    have hc := (cN c).1 (hd c (by simp))
    have hp : (10 : Nat) ^ (k + 1) = 10 ^ k * 10 := Nat.pow_succ 10 k
    have hs : m5 acc c = acc * 10 + (c.toNat - 48) := rfl
    have ih := mM l (m5 acc c) (k + 1) (fun d hd' => hd d (by simp [hd'])) (by omega)
    rw [jg, List.length_cons, show l.length + 1 + k = l.length + (k + 1) by omega]
    exact ih
structure Num (d : List UInt8) (k q : Nat) : Prop where
  dig : ∀ c ∈ d, bq c = true
  ne : d ≠ []
  wide : d.length + k ≤ 17
  small : dval 0 d * 10 ^ k ≤ E16
  sig : q ≤ d.length + k
theorem tL {d : List UInt8} (h : ∀ c ∈ d, bq c = true) : hasX d = false := by
  unfold hasX
  rw [List.any_eq_false]
  intro c hc he
  rw [beq_iff_eq] at he
  have := (cN c).1 (h c hc)
  rw [he] at this
  exact absurd this.2 (by decide)
theorem lR {g l : Bool} {d : List UInt8} {x s : Int} (h : okY g l d x s) (hX : hasX d = false) : ∃ k q : Nat, x = (k : Int) ∧ s = (q : Int) ∧ Num d k q := by
  cases l with
  | true =>
    have h : okL d x s := by simpa [okY] using h
    obtain ⟨⟨h1, h2, h3, h4, h5, h6, h7, h8⟩, h9, h10⟩ := h
    refine ⟨x.toNat, s.toNat, by omega, by omega, h1, by intro e; subst e; simp at h2, ?_, h8, by omega⟩
    cases d with
    | nil => simp at h2
    | cons c r =>
      have hc := (cN c).1 (h1 c (by simp))
      have hne : c ≠ 48 := by simpa using h4
      have hc0 : 1 ≤ m5 0 c := by
        have : c.toNat ≠ 48 := fun e => hne (UInt8.toNat_inj.1 e)
        show 1 ≤ 0 * 10 + (c.toNat - 48)
        omega
      have hg := wz r (m5 0 c)
      rw [← jg] at hg
      have h9 : 10 ^ r.length ≤ dval 0 (c :: r) := by
        have := Nat.mul_le_mul_right (10 ^ r.length) hc0
        omega
      have h11 := Nat.mul_le_mul_right (10 ^ x.toNat) h9
      rw [← Nat.pow_add] at h11
      rcases Nat.lt_or_ge (r.length + x.toNat) 17 with hlt | hge
      · simp only [List.length_cons]; omega
      · have := BD hge
        omega
  | false =>
    have h : okS g d x s := by simpa [okY] using h
    obtain ⟨h1, h2, h3, h4, h5, h6, h7⟩ := h
    have hd : ∀ c ∈ d, bq c = true := by
      intro c hc
      rcases h2 c hc with h | h
      · exact h
      · exfalso
        unfold hasX at hX
        rw [List.any_eq_false] at hX
        exact hX c hc (beq_iff_eq.2 h)
    have hlt := mM d 0 0 hd (by simp)
    rw [h1] at hlt
    refine ⟨0, s.toNat, by omega, by omega, hd, by intro e; subst e; simp at h1, by omega, ?_, by omega⟩
    have h4 : (10 : Nat) ^ (4 + 0) = 10000 := by decide
    unfold E16
    simp only [Nat.pow_zero, Nat.mul_one]
    omega
def val (d : List UInt8) (k : Nat) : Nat := dval 0 d * 10 ^ k
theorem qB (n : Nat) (g l : Bool) (d : List UInt8) (x s : Int) (hn : 200 < n) (hd : d.length ≤ 100) :
    bU n g l d x s = some (if okY g l d x s ∧ hasX d = false then (if g then -((val d x.toNat : Nat) : Int) else ((val d x.toNat : Nat) : Int), 0) else (0, 6)) := by
  unfold bU
  rw [qE n g l d x s hn hd, ml]
  simp only [ob]
  by_cases h : okY g l d x s
  · rw [if_pos h]
    cases hX : hasX d with
    | true => rw [if_neg (by simp)]; rfl
    | false =>
      rw [if_pos ⟨h, rfl⟩]
      obtain ⟨k, q, rfl, rfl, hN⟩ := lR h hX
      rw [yd n g l d k q hN.dig hN.ne (by have := hN.wide; omega) (by have := hN.wide; omega) (by omega), if_pos hN.small]
      have hs := hN.small
      unfold E16 at hs
      cases g with
      | true =>
        simp only [bne_self_eq_false, cond_false, cond_true, Int.toNat_natCast, val, if_true]
        rw [wrap_i64 _ (by omega) (by omega), Int.zero_sub]
      | false => simp [val]
  · rw [if_neg h, if_neg (fun q => h q.1)]; rfl
theorem eB {a b : List UInt8} (h : a.length + b.length ≤ 1000000) : cat a b = some (a ++ b) := by
  unfold cat; rw [if_pos (by omega)]
theorem cut1 {l : List UInt8} {i : Nat} {c : UInt8} (h : l[i]? = some c) : List.drop i (List.take (i + 1) l) = [c] := by
  have hlt := oZ h
  rw [List.take_add_one, h, List.drop_left' (by rw [List.length_take]; omega)]
  rfl
theorem BZ {l : List UInt8} {i : Nat} {c : UInt8} (h : l[i]? = some c) : List.take (i + 1) l = List.take i l ++ [c] := by
  rw [List.take_add_one, h]; rfl
theorem jV {g l : Bool} {d : List UInt8} {x s : Int} (h : okY g l d x s) (hX : hasX d = true) : l = false ∧ x = 0 ∧ s = 0 ∧ d.length = 4 ∧ ∀ c ∈ d, bq c = true ∨ c = 88 := by
  cases l with
  | true =>
    have h : okL d x s := by simpa [okY] using h
    rw [tL h.1.1] at hX
    cases hX
  | false =>
    have h : okS g d x s := by simpa [okY] using h
    obtain ⟨h1, h2, h3, h4, h5, h6, h7⟩ := h
    refine ⟨rfl, h3, ?_, h1, h2⟩
    have : ¬ 0 < s := fun e => h7 ⟨e, hX⟩
    omega
theorem gY {g l : Bool} {d : List UInt8} {x s : Int} (h : okY g l d x s) : 0 ≤ x ∧ x ≤ 16 ∧ 0 ≤ s ∧ s ≤ 17 ∧ 1 ≤ d.length ∧ d.length ≤ 17 := by
  cases hX : hasX d with
  | true =>
    obtain ⟨rfl, rfl, rfl, hl, _⟩ := jV h hX
    omega
  | false =>
    obtain ⟨k, q, rfl, rfl, hN⟩ := lR h hX
    have h1 := hN.wide
    have h2 := hN.sig
    have h3 : 1 ≤ d.length := by
      cases d with
      | nil => exact absurd rfl hN.ne
      | cons c r => simp
    omega
theorem wE {g l : Bool} {d : List UInt8} {x s : Int} (h : okY g l d x s) : mS d x s = true := by
  obtain ⟨h1, h2, h3, h4, h5, h6⟩ := gY h
  unfold mS
  rw [decide_eq_true (by omega), Nat.ble_eq_true_of_le (by omega)]
  rfl
def numU (d : UInt8) : List UInt8 → Nat ⊕ (Nat × Nat)
  | [] => .inr (d.toNat - 48, 2)
  | e :: _ => if bq e = true then .inr (10 * (d.toNat - 48) + (e.toNat - 48), 3) else .inr (d.toNat - 48, 2)
def numT : List UInt8 → Nat ⊕ (Nat × Nat)
  | [] => .inl 1
  | d :: r => if 49 ≤ d.toNat ∧ d.toNat ≤ 57 then numU d r else .inl 1
def numS (letter : UInt8) : List UInt8 → Nat ⊕ (Nat × Nat)
  | [] => .inr (0, 0)
  | c :: r => if c = letter then numT r else .inr (0, 0)
theorem nM (letter c : UInt8) (r : List UInt8) : numS letter (c :: r) = if c = letter then numT r else .inr (0, 0) := rfl
theorem rC (d : UInt8) (r : List UInt8) : numT (d :: r) = if 49 ≤ d.toNat ∧ d.toNat ≤ 57 then numU d r else .inl 1 := rfl
theorem zZ (d : UInt8) : numU d [] = .inr (d.toNat - 48, 2) := rfl
theorem q9 (d e : UInt8) (r : List UInt8) : numU d (e :: r) = if bq e = true then .inr (10 * (d.toNat - 48) + (e.toNat - 48), 3) else .inr (d.toNat - 48, 2) := rfl
theorem mW {c : UInt8} (h : 48 ≤ c.toNat ∧ c.toNat ≤ 57) : Lib.digitVal c = some (c.toNat - 48) := by
  unfold Lib.digitVal; rw [if_pos h]
theorem vI {c : UInt8} (h : 48 ≤ c.toNat ∧ c.toNat ≤ 57) (r : List UInt8) : Lib.atoi (c :: r) = (Lib.decNat (c :: r)).map fun (m : Nat) => (m : Int) := by
  have e1 : (c == 45) = false := by
    rw [beq_eq_false_iff_ne]; rintro rfl; exact absurd h.1 (by decide)
  have e2 : (c == 43) = false := by
    rw [beq_eq_false_iff_ne]; rintro rfl; exact absurd h.1 (by decide)
  simp only [Lib.atoi, e1, e2, Bool.false_eq_true, if_false]
theorem zE {c e : UInt8} (h : 48 ≤ c.toNat ∧ c.toNat ≤ 57) (he : 48 ≤ e.toNat ∧ e.toNat ≤ 57) : Lib.atoi [c, e] = some ((10 * (c.toNat - 48) + (e.toNat - 48) : Nat) : Int) := by
  rw [vI h]
  simp only [Lib.decNat, List.isEmpty_cons, Bool.false_eq_true, if_false, Lib.decFrom, mW h, mW he, Option.map_some, Nat.zero_mul, Nat.zero_add]
  rw [Nat.mul_comm]
def isDX (c : UInt8) : Bool := bq c || c == 88
abbrev YR := Bool × Bool × List UInt8 × Nat × Nat × Nat
def BP (g : Bool) (o : Nat) : List UInt8 → Nat ⊕ YR
  | [] => .inl o
  | c :: r => if 49 ≤ c.toNat ∧ c.toNat ≤ 57 then
      (match numS 69 ((c :: r).drop (1 + kQ bq 16 r)) with
      | .inl j => .inl (o + (1 + kQ bq 16 r) + j)
      | .inr (x, j) => (match numS 83 ((c :: r).drop (1 + kQ bq 16 r + j)) with
        | .inl i => .inl (o + (1 + kQ bq 16 r) + j + i)
        | .inr (s, i) => .inr (g, true, (c :: r).take (1 + kQ bq 16 r), x, s, o + (1 + kQ bq 16 r) + j + i)))
    else .inl o
def xo (g : Bool) (o : Nat) (l : List UInt8) : Nat ⊕ YR :=
  if kQ isDX 4 l < 4 then .inl (o + kQ isDX 4 l) else
    (match numS 83 (l.drop 4) with
    | .inl i => .inl (o + 4 + i)
    | .inr (s, i) => .inr (g, false, l.take 4, 0, s, o + 4 + i))
def oF (c : UInt8) (l : List UInt8) : Nat := if l.take 1 = [c] then 1 else 0
def Bk (l : List UInt8) : Nat ⊕ YR :=
  if oF 89 l = 1 then BP (oF 45 (l.drop 1) == 1) (1 + oF 45 (l.drop 1)) (l.drop (1 + oF 45 (l.drop 1)))
  else xo (oF 45 l == 1) (oF 45 l) (l.drop (oF 45 l))
theorem pP (c a : UInt8) (l : List UInt8) : oF c (a :: l) = if a = c then 1 else 0 := by
  unfold oF; simp
def wint (c : Int) : Bool := c == 24 || c == 28 || c == 30
def mN (g : Bool) (d : List UInt8) (x : Int) : Bool := !hasX d && !g && decide (val d x.toNat = E16)
def yrB (g : Bool) (d : List UInt8) (x s : Int) (m : List UInt8) : Bool := !(decide (0 < s) && !(m == [])) && !(wint (sea m) && mN g d x)
theorem sA (n : Nat) (hn : 200 < n) (g l : Bool) (dg : List UInt8) (x q : Int) (m d : List UInt8) (k0 k1 k2 : Int) (hm : m.length ≤ 18) (hd : dg.length ≤ 100) :
    cE n g l dg x q m d k0 k1 k2 = some (if okY g l dg x q then yrB g dg x q m else false) := by
  unfold cE
  rw [qE n g l dg x q hn hd, lX n g l dg x q m d k0 k1 k2 hm, ml, qB n g l dg x q hn hd]
  by_cases h : okY g l dg x q
  rotate_left
  · rw [if_neg h, if_neg h]; rfl
  rw [if_pos h, if_pos h]
  have body : (ob (some (sea m, decide (0 < sea m))) fun r => (cond (!r.2) (some true) (ob (some (hasX dg)) fun r1 => (cond r1 (some true) (ob (some (if okY g l dg x q ∧ hasX dg = false then (if g then -((val dg x.toNat : Nat) : Int) else ((val dg x.toNat : Nat) : Int), (0 : Int)) else (0, 6))) fun r2 => (ob (dx n r2.1 r.1) fun r3 => (some (r3.2.2.2.2 == 0)))))))) = some (!(wint (sea m) && mN g dg x)) := by
    rcases jo m with h0 | ⟨j, hj, rfl⟩
    · rw [h0]; rfl
    · have hs := fV hj
      rw [hs]
      have hp : decide (0 < ((21 + j : Nat) : Int)) = true := by simp; omega
      rw [hp]
      cases hX : hasX dg with
      | true =>
        have : mN g dg x = false := by unfold mN; rw [hX]; rfl
        rw [this, Bool.and_false]
        rfl
      | false =>
        rw [if_pos ⟨h, rfl⟩]
        obtain ⟨k, q', rfl, rfl, hN⟩ := lR h hX
        have hv : val dg k ≤ E16 := hN.small
        unfold E16 at hv
        have hc : bI (if g then -((val dg k : Nat) : Int) else ((val dg k : Nat) : Int)) := by
          unfold bI
          cases g <;> simp <;> omega
        obtain ⟨a, b, c, e, hr⟩ := Db n (by omega) hc hj
        simp only [ob, Bool.not_true, cond_false, Int.toNat_natCast]
        rw [hr]
        simp only [Option.some.injEq]
        have hw : wint ((21 + j : Nat) : Int) = decide (j = 3 ∨ j = 7 ∨ j = 9) := by
          unfold wint
          rw [Bool.eq_iff_iff]
          simp only [Bool.or_eq_true, beq_iff_eq, decide_eq_true_eq]
          omega
        have hl : mN g dg (k : Int) = decide ((if g then -((val dg k : Nat) : Int) else ((val dg k : Nat) : Int)) = 10000000000000000) := by
          unfold mN E16
          rw [hX, Int.toNat_natCast]
          cases g
          · simp only [Bool.not_false, Bool.true_and, Bool.false_eq_true, if_false, decide_eq_decide]
            omega
          · simp
            omega
        rw [hw, hl]
        by_cases h1 : (if g then -((val dg k : Nat) : Int) else ((val dg k : Nat) : Int)) = 10000000000000000 <;> by_cases h2 : j = 3 ∨ j = 7 ∨ j = 9
        · rw [if_pos ⟨h1, h2⟩, decide_eq_true h1, decide_eq_true h2]; rfl
        · rw [if_neg (fun z => h2 z.2), decide_eq_false h2]; rfl
        · rw [if_neg (fun z => h1 z.1), decide_eq_false h1, Bool.and_false]; rfl
        · rw [if_neg (fun z => h1 z.1), decide_eq_false h1, Bool.and_false]; rfl
  show cond (decide (q > 0)) (cond (!(m == [])) (some false) _) _ = _
  unfold yrB
  rw [show (decide (q > 0)) = decide (0 < q) from rfl]
  cases decide (0 < q) with
  | false => exact body
  | true =>
    cases (m == []) with
    | false => rfl
    | true => exact body
theorem yv (n : Nat) (hn : 200 < n) (g l : Bool) (dg : List UInt8) (x q : Int) (m d : List UInt8) (k0 k1 k2 : Int) (hd : dg.length ≤ 100) :
    d6 n g l dg x q m d k0 k1 k2 = some (if okY g l dg x q ∧ yrB g dg x q m = true then 1 else 0) := by
  unfold d6
  rw [wa n g l dg x q hn hd, kE n (by omega) g l dg x q m d k0 k1 k2, jd n g l dg x q (by omega) (by omega)]
  by_cases h : okY g l dg x q
  rotate_left
  · rw [if_neg h, if_neg (show ¬ (okY g l dg x q ∧ yrB g dg x q m = true) from fun z => h z.1)]; rfl
  rw [if_pos h]
  have T : (ob (some (if hasX dg then (1 : Int) else 0)) fun r => (cond (r == 1) (some (1 : Int)) (ob (aa n dg x) fun v => (cond (v.1 == 10000000000000000) (cond (!g) (some 0) (some 1)) (some 1))))) = some (if mN g dg x then 0 else 1) := by
    cases hX : hasX dg with
    | true =>
      have : mN g dg x = false := by unfold mN; rw [hX]; rfl
      rw [this]
      rfl
    | false =>
      obtain ⟨k, q', rfl, rfl, hN⟩ := lR h hX
      have hv := hN.small
      have hw := hN.wide
      have hr := ek n dg k hN.dig (by omega) (by omega) (by omega)
      rw [if_pos hv] at hr
      show ob (aa n dg (k : Int)) _ = _
      rw [hr]
      show cond (((dval 0 dg * 10 ^ k : Nat) : Int) == 10000000000000000) _ _ = _
      unfold mN val
      rw [hX, Int.toNat_natCast]
      have e : (((dval 0 dg * 10 ^ k : Nat) : Int) == 10000000000000000) = decide (dval 0 dg * 10 ^ k = E16) := by
        generalize dval 0 dg * 10 ^ k = v
        unfold E16
        rw [Bool.eq_iff_iff]
        simp only [beq_iff_eq, decide_eq_true_eq]
        omega
      rw [e]
      cases decide (dval 0 dg * 10 ^ k = E16) <;> cases g <;> rfl
  have body : (ob (some (sea m)) fun r => (cond (r != 24) (cond (r != 28) (cond (r != 30) (some (1 : Int)) (ob (some (if hasX dg then (1 : Int) else 0)) fun r => (cond (r == 1) (some (1 : Int)) (ob (aa n dg x) fun v => (cond (v.1 == 10000000000000000) (cond (!g) (some 0) (some 1)) (some 1)))))) (ob (some (if hasX dg then (1 : Int) else 0)) fun r => (cond (r == 1) (some (1 : Int)) (ob (aa n dg x) fun v => (cond (v.1 == 10000000000000000) (cond (!g) (some 0) (some 1)) (some 1)))))) (ob (some (if hasX dg then (1 : Int) else 0)) fun r => (cond (r == 1) (some (1 : Int)) (ob (aa n dg x) fun v => (cond (v.1 == 10000000000000000) (cond (!g) (some 0) (some 1)) (some 1))))))) = some (if (!(wint (sea m) && mN g dg x)) = true then 1 else 0) := by
    rw [T]
    show cond (sea m != 24) _ _ = _
    unfold wint
    simp only [bne]
    cases (sea m == 24) <;> cases (sea m == 28) <;> cases (sea m == 30) <;> cases mN g dg x <;> rfl
  unfold yrB
  show cond (decide (q > 0)) (cond (!(m == [])) (some 0) _) _ = _
  rw [show (decide (q > 0)) = decide (0 < q) from rfl]
  simp only [h, true_and]
  cases decide (0 < q) with
  | false => exact body
  | true =>
    cases (m == []) with
    | false => rfl
    | true => exact body
def cU (m d : List UInt8) : Nat := 1 + (if m == [] then 0 else 1) + (if d == [] then 0 else 1)
theorem lI (n : Nat) (hn : 100 < n) (g l : Bool) (dg : List UInt8) (x q : Int) (m d : List UInt8) (k0 k1 k2 : Int) : aC n g l dg x q m d k0 k1 k2 = some ((cU m d : Nat) : Int) := by
  obtain ⟨n, rfl⟩ : ∃ j, n = j + 3 := ⟨n - 3, by omega⟩
  unfold aC cU
  have s0 : ∀ a : Int, aL (n + 3) (a, m, d, 0) = some (.inl (if m == [] then a else IntKind.wrap .i64 (a + 1), m, d, 1)) := fun a => by
    unfold aL
    show cond (!(m == [])) _ _ = _
    cases (m == []) <;> rfl
  have s1 : ∀ a : Int, aL (n + 3) (a, m, d, 1) = some (.inl (if d == [] then a else IntKind.wrap .i64 (a + 1), m, d, 2)) := fun a => by
    unfold aL
    show cond (!(d == [])) _ _ = _
    cases (d == []) <;> rfl
  have s2 : ∀ a : Int, aL (n + 3) (a, m, d, 2) = some (.inr a) := fun a => rfl
  rw [ae, s0]
  show ob (ae _ (n + 2) _) _ = _
  rw [ae, s1]
  show ob (ae _ (n + 1) _) _ = _
  rw [ae, s2]
  cases (m == []) <;> cases (d == []) <;> rfl
theorem kX (n : Nat) (g l : Bool) (dg : List UInt8) (x q : Int) (m d : List UInt8) (k0 k1 k2 : Int) : aw n g l dg x q m d k0 k1 k2 = some ((cU m d : Nat) : Int) := by
  unfold aw cU
  cases (m == []) <;> cases (d == []) <;> rfl
def allM (a b c : Int) (k : Nat) : Int := if 3 < a ∨ 3 < b ∨ 3 < c ∨ (k < 2 ∧ b ≠ 0) ∨ (k < 3 ∧ c ≠ 0) then 9 else 0
theorem Ay (n : Nat) (hn : 3 < n) (a b c : Int) (k : Nat) (hk : 1 ≤ k ∧ k ≤ 3) (ha : 0 ≤ a) (hb : 0 ≤ b) (hc : 0 ≤ c) :
    bT n [a, b, c] (k : Int) = some (allM a b c k) ∧ aJ n [a, b, c] (k : Int) = some (allM a b c k) := by
  obtain ⟨j, rfl⟩ : ∃ j, n = j + 4 := ⟨n - 4, by omega⟩
  have w1 : IntKind.wrap .i64 1 = 1 := rfl
  have w2 : IntKind.wrap .i64 2 = 2 := rfl
  have w3 : IntKind.wrap .i64 3 = 3 := rfl
  have i0 : ix 3 0 = some 0 := rfl
  have i1 : ix 3 1 = some 1 := rfl
  have i2 : ix 3 2 = some 2 := rfl
  have hk' : k = 1 ∨ k = 2 ∨ k = 3 := by omega
  unfold allM
  by_cases cx : a > 3
  · rcases hk' with rfl | rfl | rfl <;> constructor <;> simp [aJ, bT, ae, bi, dm, dw, ob, w1, w2, w3, i0, i1, i2, cx]
  by_cases cy : b > 3
  · rcases hk' with rfl | rfl | rfl <;> constructor <;> simp [aJ, bT, ae, bi, dm, dw, ob, w1, w2, w3, i0, i1, i2, cx, cy]
  by_cases dy : k = 1 ∧ b ≠ 0
  · obtain ⟨rfl, dy⟩ := dy
    have h0 : b > 0 := by omega
    have eb : (b != 0) = true := by simp [dy]
    constructor <;> simp [aJ, bT, ae, bi, dm, dw, ob, w1, w2, w3, i0, i1, i2, cx, cy, h0, dy, eb]
  by_cases cz : c > 3
  · rcases hk' with rfl | rfl | rfl <;> (try (simp at dy; subst dy)) <;> constructor <;> simp [aJ, bT, ae, bi, dm, dw, ob, w1, w2, w3, i0, i1, i2, cx, cy, cz]
  by_cases dz : k < 3 ∧ c ≠ 0
  · have h0 : c > 0 := by omega
    have eb : (c != 0) = true := by simp [dz.2]
    rcases hk' with rfl | rfl | rfl <;> (try (simp at dy; subst dy)) <;> simp at dz <;> constructor <;> simp [aJ, bT, ae, bi, dm, dw, ob, w1, w2, w3, i0, i1, i2, cx, cy, cz, h0, dz, eb]
  rcases hk' with rfl | rfl | rfl <;> (try (simp at dy; subst dy)) <;> (try (simp at dz; subst dz)) <;> constructor <;> simp [aJ, bT, ae, bi, dm, dw, ob, w1, w2, w3, i0, i1, i2, cx, cy, cz]
theorem lJ (m d : List UInt8) : 1 ≤ cU m d ∧ cU m d ≤ 3 := by
  unfold cU
  cases (m == []) <;> cases (d == []) <;> simp
def yrD (g l : Bool) (dg : List UInt8) (x q : Int) (m : List UInt8) : Bool := if okY g l dg x q then yrB g dg x q m else false
def chkD (g l : Bool) (dg : List UInt8) (x q : Int) (m d : List UInt8) (k0 k1 k2 : Int) : Int :=
  cond (!(yrD g l dg x q m)) 6 (cond (!(m == []) && (!(decide (0 < sea m)) && !(dR m 12))) 7
    (cond (!(d == []) && ((m == []) || (decide (0 < sea m) || !(dR d 31)))) 8 (allM k0 k1 k2 (cU m d))))
theorem AP (m : List UInt8) : 0 ≤ sea m := by
  rcases jo m with h | ⟨j, hj, rfl⟩
  · omega
  · rw [fV hj]; omega
theorem BE (m : List UInt8) : (sea m == 0) = !(decide (0 < sea m)) := by
  have := AP m
  by_cases h : sea m = 0
  · rw [h]; rfl
  · have h2 : 0 < sea m := by omega
    rw [beq_eq_false_iff_ne.2 h, decide_eq_true h2]; rfl
theorem qM (n : Nat) (hn : 200 < n) (g l : Bool) (dg : List UInt8) (x q : Int) (m d : List UInt8) (k0 k1 k2 : Int) (hm : m.length ≤ 18) (hd : dg.length ≤ 100) (h0 : 0 ≤ k0) (h1 : 0 ≤ k1) (h2 : 0 ≤ k2) :
    dX n g l dg x q m d k0 k1 k2 = some (chkD g l dg x q m d k0 k1 k2) := by
  have hy : cE n g l dg x q m d k0 k1 k2 = some (yrD g l dg x q m) := sA n hn g l dg x q m d k0 k1 k2 hm hd
  have a1 : bd n m 12 = some (dR m 12) := sJ n (by omega) m 12 (by omega)
  have a2 : bd n d 31 = some (dR d 31) := sJ n (by omega) d 31 (by omega)
  have ha := (Ay n (by omega) k0 k1 k2 (cU m d) (lJ m d) h0 h1 h2).1
  unfold dX chkD
  rw [lX n g l dg x q m d k0 k1 k2 hm, hy, a1, a2, lI n (by omega)]
  simp only [ob]
  rw [ha]
  generalize yrD g l dg x q m = b1
  generalize (m == []) = b2
  generalize decide (0 < sea m) = b3
  generalize dR m 12 = b4
  generalize (d == []) = b5
  generalize dR d 31 = b6
  cases b1 <;> cases b2 <;> cases b3 <;> cases b4 <;> cases b5 <;> cases b6 <;> rfl
theorem sZ (n : Nat) (hn : 200 < n) (g l : Bool) (dg : List UInt8) (x q : Int) (m d : List UInt8) (k0 k1 k2 : Int) (hd : dg.length ≤ 100) (h0 : 0 ≤ k0) (h1 : 0 ≤ k1) (h2 : 0 ≤ k2) :
    dF n g l dg x q m d k0 k1 k2 = some (chkD g l dg x q m d k0 k1 k2) := by
  have hy : d6 n g l dg x q m d k0 k1 k2 = some (if yrD g l dg x q m then 1 else 0) := by
    rw [yv n hn g l dg x q m d k0 k1 k2 hd]
    unfold yrD
    by_cases h : okY g l dg x q
    · simp only [h, true_and, if_true]
    · simp only [h, false_and, if_false]; rfl
  have a1 : bw n m 12 = some (if dR m 12 then 1 else 0) := uX n (by omega) m 12 (by omega)
  have a2 : bw n d 31 = some (if dR d 31 then 1 else 0) := uX n (by omega) d 31 (by omega)
  have ha := (Ay n (by omega) k0 k1 k2 (cU m d) (lJ m d) h0 h1 h2).2
  unfold dF chkD
  rw [kE n (by omega) g l dg x q m d k0 k1 k2, hy, a1, a2, kX n]
  simp only [ob]
  rw [ha, BE]
  show cond ((if yrD g l dg x q m then (1 : Int) else 0) == 0) _ (cond _ (cond _ (cond _ _ (cond _ (cond _ _ (cond (decide (0 < sea m)) _ _)) _)) (cond _ (cond _ _ (cond (decide (0 < sea m)) _ _)) _)) (cond _ (cond _ _ (cond (decide (0 < sea m)) _ _)) _)) = _
  generalize yrD g l dg x q m = b1
  generalize (m == []) = b2
  generalize decide (0 < sea m) = b3
  generalize dR m 12 = b4
  generalize (d == []) = b5
  generalize dR d 31 = b6
  cases b1 <;> cases b2 <;> cases b3 <;> cases b4 <;> cases b5 <;> cases b6 <;> rfl
theorem wQ {g l : Bool} {dg : List UInt8} {x q : Int} {m d : List UInt8} {k0 k1 k2 : Int} (h : chkD g l dg x q m d k0 k1 k2 = 0) : yrD g l dg x q m = true ∧ (m = [] ∨ 0 < sea m ∨ dR m 12 = true) ∧ (d = [] ∨ (m ≠ [] ∧ sea m = 0 ∧ dR d 31 = true)) ∧ allM k0 k1 k2 (cU m d) = 0 := by
  have hs := AP m
  unfold chkD at h
  cases b1 : yrD g l dg x q m with
  | false => rw [b1] at h; exact absurd h (by simp)
  | true =>
    rw [b1] at h
    simp only [Bool.not_true, cond_false] at h
    cases b2 : (!(m == []) && (!(decide (0 < sea m)) && !(dR m 12))) with
    | true => rw [b2] at h; exact absurd h (by simp)
    | false =>
      rw [b2] at h
      simp only [cond_false] at h
      cases b3 : (!(d == []) && ((m == []) || (decide (0 < sea m) || !(dR d 31)))) with
      | true => rw [b3] at h; exact absurd h (by simp)
      | false =>
        rw [b3] at h
        simp only [cond_false] at h
        refine ⟨rfl, ?_, ?_, h⟩
        · by_cases h1 : m = []
          · exact .inl h1
          · by_cases h2 : 0 < sea m
            · exact .inr (.inl h2)
            · simp [h1, h2] at b2
              exact .inr (.inr b2)
        · by_cases h1 : d = []
          · exact .inl h1
          · by_cases h2 : m = []
            · simp [h1, h2] at b3
            · by_cases h3 : 0 < sea m
              · simp [h1, h2, h3] at b3
              · simp [h1, h2, h3] at b3
                exact .inr ⟨h2, by omega, b3⟩
theorem kO {s : List UInt8} {g : Nat} (hg : g ≤ 31) (h : dR s g = true) : s.length = 2 ∧ ∀ c ∈ s, isDX c = true := by
  unfold dR at h
  obtain ⟨i, hm, hi⟩ := List.any_eq_true.1 h
  have hi31 : i < g := List.mem_range.1 hm
  have dig : ∀ k : Nat, k < 10 → isDX (UInt8.ofNat (48 + k)) = true := by decide
  have h88 : isDX 88 = true := by decide
  match s, hi with
  | [], hi => simp [agr] at hi
  | [_], hi => simp [agr] at hi
  | [a, b], hi =>
    refine ⟨rfl, ?_⟩
    simp only [agr, Bool.and_eq_true, Bool.or_eq_true, beq_iff_eq] at hi
    obtain ⟨ha, hb⟩ := hi
    intro c hc
    simp only [List.mem_cons, List.not_mem_nil, or_false] at hc
    rcases hc with rfl | rfl
    · rcases ha with rfl | rfl
      · exact h88
      · exact dig _ (by omega)
    · rcases hb with rfl | rfl
      · exact h88
      · exact dig _ (by omega)
  | _ :: _ :: _ :: _, hi => simp [agr] at hi
theorem vN {m : List UInt8} (h : 0 < sea m) : m.length = 2 ∧ ∀ c ∈ m, isDX c = true := by
  rcases jo m with h0 | ⟨j, hj, rfl⟩
  · omega
  · refine ⟨rfl, ?_⟩
    have : ((List.range 21).all fun j => (two (21 + j)).all isDX) = true := by decide +kernel
    have := (List.all_eq_true.1 this) j (by simpa using hj)
    exact List.all_eq_true.1 this
def mt (k : Nat) : List UInt8 := if k = 1 then [63] else if k = 2 then [126] else if k = 3 then [37] else []
def Dx (k a b c : Nat) : Bool := (decide (k < 2) || b == a) && (decide (k < 3) || c == a)
def plA (k a b c : Nat) : Nat × Nat × Nat := if Dx k a b c then (0, 0, 0) else (a, b, c)
def plB (k a b c : Nat) : Nat × Nat × Nat := if Dx k a b c then (if k = 1 then (a, 0, 0) else if k = 2 then (0, a, 0) else (0, 0, a)) else (0, 0, 0)
def l3 (p : Nat × Nat × Nat) : List Int := [(p.1 : Int), (p.2.1 : Int), (p.2.2 : Int)]
theorem r6 (n k : Nat) (h : k < 4) : kG n (k : Int) = some (mt k, 0) ∧ aV n (k : Int) = some (mt k) := by
  have : k = 0 ∨ k = 1 ∨ k = 2 ∨ k = 3 := by omega
  rcases this with rfl | rfl | rfl | rfl <;> exact ⟨rfl, rfl⟩
noncomputable def wK (m k a b c : Nat) : Bool :=
  (jr (m + 300) [(a : Int), (b : Int), (c : Int)] (k : Int) == some (l3 (plA k a b c), l3 (plB k a b c), 0)) && (eS (m + 300) [(a : Int), (b : Int), (c : Int)] (k : Int) == some (l3 (plA k a b c), l3 (plB k a b c)))
theorem CG (m : Nat) : ((List.range 4).all fun a => wK m 1 a 0 0) = true := by kernel_rfl
theorem DB (m : Nat) : ((List.range 4).all fun a => (List.range 4).all fun b => wK m 2 a b 0) = true := by kernel_rfl
theorem B6 (m : Nat) : ((List.range 4).all fun a => (List.range 4).all fun b => (List.range 4).all fun c => wK m 3 a b c) = true := by kernel_rfl
theorem r4 {p : Nat → Bool} (h : (List.range 4).all p = true) {a : Nat} (ha : a < 4) : p a = true := (List.all_eq_true.1 h) a (List.mem_range.2 ha)
theorem Dp (m k a b c : Nat) (hk : 1 ≤ k ∧ k ≤ 3) (ha : a < 4) (hb : b < 4) (hc : c < 4) (h1 : k < 2 → b = 0) (h2 : k < 3 → c = 0) :
    jr (m + 300) [(a : Int), (b : Int), (c : Int)] (k : Int) = some (l3 (plA k a b c), l3 (plB k a b c), 0) ∧ eS (m + 300) [(a : Int), (b : Int), (c : Int)] (k : Int) = some (l3 (plA k a b c), l3 (plB k a b c)) := by
  have h : wK m k a b c = true := by
    have : k = 1 ∨ k = 2 ∨ k = 3 := by omega
    rcases this with rfl | rfl | rfl
    · rw [h1 (by omega), h2 (by omega)]; exact r4 (CG m) ha
    · rw [h2 (by omega)]; exact r4 (r4 (DB m) ha) hb
    · exact r4 (r4 (r4 (B6 m) ha) hb) hc
  unfold wK at h
  simp only [Bool.and_eq_true, beq_iff_eq] at h
  exact h
theorem Ct {k a b c : Nat} (ha : a < 4) (hb : b < 4) (hc : c < 4) : (plA k a b c).1 < 4 ∧ (plA k a b c).2.1 < 4 ∧ (plA k a b c).2.2 < 4 ∧ (plB k a b c).1 < 4 ∧ (plB k a b c).2.1 < 4 ∧ (plB k a b c).2.2 < 4 := by
  unfold plA plB
  split
  · split
    · simp [ha]
    · split <;> simp [ha]
  · simp [ha, hb, hc]
abbrev cI (x : Nat) : Int := (x : Int)
def bt (b a : Nat) : Nat := if b = 1 then a % 2 else a / 2 % 2
def bts (b : Nat) : List Nat → Nat
  | [] => 0
  | x :: l => bt b x + bts b l
def hit (k b i : Nat) (al bl : List Nat) : Bool := decide (0 < bt b (al.getD i 0) + bts b ((bl.take k).drop i))
def addB (k b : Nat) (al bl : List Nat) (o : List Int) : List Int := [cond (decide (0 < k) && hit k b 0 al bl) (IntKind.wrap .u8 (o.getD 0 0 + (b : Int))) (o.getD 0 0), cond (decide (1 < k) && hit k b 1 al bl) (IntKind.wrap .u8 (o.getD 1 0 + (b : Int))) (o.getD 1 0), cond (decide (2 < k) && hit k b 2 al bl) (IntKind.wrap .u8 (o.getD 2 0 + (b : Int))) (o.getD 2 0)]
theorem cutD (r : Nat) (h : r < 10) : List.drop r (List.take (r + 1) ([48, 49, 50, 51, 52, 53, 54, 55, 56, 57] : List UInt8)) = [UInt8.ofNat (48 + r)] := by
  have : ∀ r, r < 10 → List.drop r (List.take (r + 1) ([48, 49, 50, 51, 52, 53, 54, 55, 56, 57] : List UInt8)) = [UInt8.ofNat (48 + r)] := by decide
  exact this r h
theorem ug {k : Nat} (h : k < 10) : Lib.decDigits k = [UInt8.ofNat (48 + k)] := by
  rw [Lib.decDigits, dif_pos h]
theorem sW {k : Nat} (h : ¬ k < 10) (h2 : k < 100) : Lib.decDigits k = [UInt8.ofNat (48 + k / 10), UInt8.ofNat (48 + k % 10)] := by
  rw [Lib.decDigits, dif_neg h, ug (by omega)]; rfl
theorem wW (n k : Nat) (h : k < 100) : ah n (k : Int) = some (Lib.decDigits k) := by
  have hm : Int.tmod (k : Int) 10 = ((k % 10 : Nat) : Int) := rfl
  have hq : Int.tdiv (k : Int) 10 = ((k / 10 : Nat) : Int) := rfl
  have w1 : IntKind.wrap .i64 (((k % 10 : Nat) : Int) + 1) = ((k % 10 + 1 : Nat) : Int) := by rw [wrap_i64 _ (by omega) (by omega)]; omega
  have w2 : IntKind.wrap .i64 ((k / 10 : Nat) : Int) = ((k / 10 : Nat) : Int) := wrap_i64 _ (by omega) (by omega)
  have w3 : IntKind.wrap .i64 (((k / 10 : Nat) : Int) + 1) = ((k / 10 + 1 : Nat) : Int) := by rw [wrap_i64 _ (by omega) (by omega)]; omega
  simp only [ah, hm, hq, w1, w2, w3, ii (show k % 10 + 1 ≤ 10 by omega), ii (show k % 10 ≤ k % 10 + 1 by omega), ob, cutD (k % 10) (by omega)]
  by_cases h1 : k < 10
  · have e : decide ((k : Int) ≥ 10) = false := decide_eq_false (by omega)
    rw [e, cond_false, ug h1, Nat.mod_eq_of_lt h1]
  · have e : decide ((k : Int) ≥ 10) = true := decide_eq_true (by omega)
    rw [e, cond_true, ii (show k / 10 + 1 ≤ 10 by omega)]
    simp only []
    rw [ii (show k / 10 ≤ k / 10 + 1 by omega)]
    simp only [cutD (k / 10) (by omega)]
    rw [eB (by simp), sW h1 h]
    rfl
def cu (letter : UInt8) (v : Nat) : List UInt8 := if 0 < v then letter :: Lib.decDigits v else []
theorem wT {k : Nat} (h : k < 100) : 1 ≤ (Lib.decDigits k).length ∧ (Lib.decDigits k).length ≤ 2 := by
  by_cases h1 : k < 10
  · rw [ug h1]; simp
  · rw [sW h1 h]; simp
theorem oT (letter : UInt8) {k : Nat} (h : k < 100) : (cu letter k).length ≤ 3 := by
  unfold cu
  split
  · have := wT h; simp only [List.length_cons]; omega
  · simp
theorem lD (g l : Bool) (d : List UInt8) (x s : Nat) : gC g l d (x : Int) (s : Int) = (if l then [89] else []) ++ (if g then [45] else []) ++ d ++ cu 69 x ++ cu 83 s := by
  unfold gC cu
  simp only [Int.toNat_natCast]
  have e1 : (0 < (x : Int)) = (0 < x) := by simp
  have e2 : (0 < (s : Int)) = (0 < s) := by simp
  simp only [e1, e2]
theorem yM (n : Nat) (g l : Bool) (d : List UInt8) (x s : Nat) (hx : x < 100) (hs : s < 100) (hd : d.length ≤ 1000) : fC n g l d (x : Int) (s : Int) = some (gC g l d (x : Int) (s : Int)) := by
  have l1 := wT hx
  have l2 := wT hs
  have ex : decide ((x : Int) > 0) = decide (0 < x) := by simp
  have es : decide ((s : Int) > 0) = decide (0 < s) := by simp
  have tx : ∀ a : List UInt8, a.length ≤ 1100 → (cond (decide (0 < x)) (ob (ah n (x : Int)) fun r => (ob (cat ([69] : List UInt8) r) fun p => (cat a p))) (some a)) = some (a ++ cu 69 x) := by
    intro a ha
    unfold cu
    by_cases h : 0 < x
    · rw [decide_eq_true h, cond_true, if_pos h, wW n x hx]
      simp only [ob]
      rw [eB (by simp; omega)]
      simp only []
      rw [eB (by simp; omega)]
      rfl
    · rw [decide_eq_false h, if_neg h]; simp
  have ts : ∀ a : List UInt8, a.length ≤ 1200 → (cond (decide (0 < s)) (ob (ah n (s : Int)) fun r => (ob (cat ([83] : List UInt8) r) fun p => (ob (cat a p) fun q => (some q)))) (some a)) = some (a ++ cu 83 s) := by
    intro a ha
    unfold cu
    by_cases h : 0 < s
    · rw [decide_eq_true h, cond_true, if_pos h, wW n s hs]
      simp only [ob]
      rw [eB (by simp; omega)]
      simp only []
      rw [eB (by simp; omega)]
      rfl
    · rw [decide_eq_false h, if_neg h]; simp
  have both : ∀ a : List UInt8, a.length ≤ 1100 → (cond (decide (0 < x)) (ob (ah n (x : Int)) fun r => (ob (cat ([69] : List UInt8) r) fun p => (ob (cat a p) fun z => (cond (decide (0 < s)) (ob (ah n (s : Int)) fun r => (ob (cat ([83] : List UInt8) r) fun p => (ob (cat z p) fun q => (some q)))) (some z))))) (cond (decide (0 < s)) (ob (ah n (s : Int)) fun r => (ob (cat ([83] : List UInt8) r) fun p => (ob (cat a p) fun q => (some q)))) (some a))) = some (a ++ cu 69 x ++ cu 83 s) := by
    intro a ha
    have htx := tx a ha
    by_cases h : 0 < x
    · rw [decide_eq_true h, cond_true] at htx ⊢
      rw [wW n x hx] at htx ⊢
      simp only [ob] at htx ⊢
      rw [eB (a := [69]) (by simp; omega)] at htx ⊢
      simp only [] at htx ⊢
      rw [htx]
      simp only []
      have := ts (a ++ cu 69 x) (by have := oT 69 hx; simp only [List.length_append]; omega)
      simp only [ob] at this
      exact this
    · rw [decide_eq_false h, cond_false]
      have hz : cu 69 x = [] := by unfold cu; rw [if_neg h]
      rw [hz, List.append_nil]
      exact ts a (by omega)
  rw [lD]
  unfold fC
  rw [ex, es]
  cases l <;> cases g
  · rw [cond_false, cond_false, eB (by simp; omega)]
    exact both d (by omega)
  · rw [cond_false, cond_true, eB (by simp; omega)]
    exact both ([45] ++ d) (by simp; omega)
  · rw [cond_true, cond_false, eB (by simp; omega)]
    exact both ([89] ++ d) (by simp; omega)
  · rw [cond_true, cond_true, eB (by simp; omega)]
    exact both ([89, 45] ++ d) (by simp; omega)
def gR (p : UInt8 → Bool) (l : List UInt8) : Prop := ∀ c, l.head? = some c → p c = false
theorem oi {k : Nat} (h : k < 10) : (UInt8.ofNat (48 + k)).toNat = 48 + k := by
  rw [UInt8.toNat_ofNat']
  exact Nat.mod_eq_of_lt (by omega)
theorem sd (letter : UInt8) (v : Nat) (post : List UInt8) (hv : v < 100) (h1 : gR bq post) (h2 : gR (fun c => c == letter) post) : numS letter (cu letter v ++ post) = .inr (v, (cu letter v).length) := by
  unfold cu
  by_cases h0 : 0 < v
  · rw [if_pos h0]
    by_cases h9 : v < 10
    · rw [ug h9]
      have hd := oi h9
      simp only [List.cons_append, List.nil_append]
      rw [nM, if_pos rfl, rC, if_pos (by omega)]
      have e48 : 48 + v - 48 = v := by omega
      cases post with
      | nil =>
        rw [zZ, hd, e48]
        rfl
      | cons e r =>
        have he : ¬ bq e = true := by rw [h1 e rfl]; simp
        rw [q9, if_neg he, hd, e48]
        rfl
    · rw [sW h9 hv]
      have hd := oi (show v / 10 < 10 by omega)
      have he := oi (show v % 10 < 10 by omega)
      simp only [List.cons_append, List.nil_append]
      rw [nM, if_pos rfl, rC, if_pos (by omega), q9, if_pos ((cN _).2 (by omega)), hd, he]
      rw [show 10 * (48 + v / 10 - 48) + (48 + v % 10 - 48) = v by omega]
      rfl
  · rw [if_neg h0]
    have hv0 : v = 0 := by omega
    subst hv0
    cases post with
    | nil => rfl
    | cons c r =>
      have hc : c ≠ letter := by
        have := h2 c rfl
        simpa using this
      rw [List.nil_append, nM, if_neg hc]
      rfl
theorem ow {p : UInt8 → Bool} : ∀ (r : List UInt8) (k : Nat) (post : List UInt8), (∀ c ∈ r, p c = true) → r.length ≤ k → (gR p post ∨ r.length = k) → kQ p k (r ++ post) = r.length
  | [], 0, post, _, _, _ => by simp [kQ]
  | [], k + 1, post, _, _, h => by
    cases post with
    | nil => simp [kQ]
    | cons c q =>
      rcases h with h | h
      · have := h c rfl
        simp [kQ, this]
      · simp at h
  | c :: r, 0, post, _, h, _ => by simp at h
  | c :: r, k + 1, post, hp, hk, h => by
    have ih := ow r k post (fun d hd => hp d (by simp [hd])) (by simpa using hk) (by
      rcases h with h | h
      · exact .inl h
      · exact .inr (by simpa using h))
    simp only [List.cons_append, kQ, hp c (by simp), if_true, ih, List.length_cons]
theorem kN {letter : UInt8} {v : Nat} {post : List UInt8} {p : UInt8 → Bool} (h1 : p letter = false) (h2 : gR p post) : gR p (cu letter v ++ post) := by
  unfold cu
  intro c hc
  by_cases h : 0 < v
  · rw [if_pos h] at hc
    simp only [List.cons_append, List.head?_cons, Option.some.injEq] at hc
    rw [← hc]; exact h1
  · rw [if_neg h] at hc
    exact h2 c hc
def isYC (c : UInt8) : Bool := isDX c || c == 69 || c == 83
theorem Aq {l : List UInt8} (h : gR isYC l) : gR bq l := fun c hc => by
  have := h c hc
  unfold isYC isDX at this
  simp only [Bool.or_eq_false_iff] at this
  exact this.1.1.1
theorem D0 {l : List UInt8} (h : gR isYC l) : gR isDX l := fun c hc => by
  have := h c hc
  unfold isYC at this
  simp only [Bool.or_eq_false_iff] at this
  exact this.1.1
theorem Ec {l : List UInt8} (h : gR isYC l) : gR (fun c => c == 69) l := fun c hc => by
  have := h c hc
  unfold isYC at this
  simp only [Bool.or_eq_false_iff] at this
  exact this.1.2
theorem DZ {l : List UInt8} (h : gR isYC l) : gR (fun c => c == 83) l := fun c hc => by
  have := h c hc
  unfold isYC at this
  simp only [Bool.or_eq_false_iff] at this
  exact this.2
theorem lE (c : UInt8) (l : List UInt8) : oF c (c :: l) = 1 := by rw [pP, if_pos rfl]
theorem kz {c a : UInt8} (h : a ≠ c) (l : List UInt8) : oF c (a :: l) = 0 := by rw [pP, if_neg h]
theorem CS {g l : Bool} {d : List UInt8} {x s : Nat} (h : okY g l d (x : Int) (s : Int)) (post : List UInt8) (hp : gR isYC post) : Bk (gC g l d (x : Int) (s : Int) ++ post) = .inr (g, l, d, x, s, (gC g l d (x : Int) (s : Int)).length) := by
  have hsm := gY h
  have n83 : numS 83 (cu 83 s ++ post) = .inr (s, (cu 83 s).length) := sd 83 s post (by omega) (Aq hp) (DZ hp)
  have hR2 : gR bq (cu 83 s ++ post) := kN (by decide) (Aq hp)
  have hR3 : gR isDX (cu 83 s ++ post) := kN (by decide) (D0 hp)
  rw [lD]
  cases l with
  | true =>
    have hL : okL d (x : Int) (s : Int) := by simpa [okY] using h
    obtain ⟨⟨h1, h2, h3, h4, h5, h6, h7, h8⟩, h9, h10⟩ := hL
    obtain ⟨c, r, rfl⟩ : ∃ c r, d = c :: r := by
      cases d with
      | nil => simp at h2
      | cons c r => exact ⟨c, r, rfl⟩
    have hcd := (cN c).1 (h1 c (by simp))
    have hc49 : 49 ≤ c.toNat ∧ c.toNat ≤ 57 := by
      have : c.toNat ≠ 48 := fun e => h4 (by rw [show c = 48 from UInt8.toNat_inj.1 e]; rfl)
      omega
    have hc45 : c ≠ 45 := by rintro rfl; exact absurd hcd.1 (by decide)
    have n69 : numS 69 (cu 69 x ++ (cu 83 s ++ post)) = .inr (x, (cu 69 x).length) := sd 69 x _ (by omega) hR2 (kN (by decide) (Ec hp))
    have hsp : kQ bq 16 (r ++ (cu 69 x ++ (cu 83 s ++ post))) = r.length := by
      refine ow r 16 _ (fun e he => h1 e (by simp [he])) (by simp only [List.length_cons] at h3; omega) (.inl ?_)
      exact kN (by decide) hR2
    have body : ∀ o : Nat, BP g o ((c :: r) ++ (cu 69 x ++ (cu 83 s ++ post))) = .inr (g, true, c :: r, x, s, o + (1 + r.length) + (cu 69 x).length + (cu 83 s).length) := by
      intro o
      simp only [List.cons_append, BP]
      rw [if_pos hc49, hsp]
      have e1 : List.drop (1 + r.length) (c :: (r ++ (cu 69 x ++ (cu 83 s ++ post)))) = cu 69 x ++ (cu 83 s ++ post) := by
        rw [Nat.add_comm, List.drop_succ_cons, List.drop_left' rfl]
      have e2 : List.drop (1 + r.length + (cu 69 x).length) (c :: (r ++ (cu 69 x ++ (cu 83 s ++ post)))) = cu 83 s ++ post := by
        rw [show 1 + r.length + (cu 69 x).length = (r.length + (cu 69 x).length) + 1 by omega, List.drop_succ_cons, ← List.append_assoc, List.drop_left' (by simp)]
      have e3 : List.take (1 + r.length) (c :: (r ++ (cu 69 x ++ (cu 83 s ++ post)))) = c :: r := by
        rw [Nat.add_comm, List.take_succ_cons, List.take_left' rfl]
      rw [e1, n69]
      simp only []
      rw [e2, n83, e3]
    unfold Bk
    cases g with
    | true =>
      simp only [if_true, List.cons_append, List.nil_append, List.append_assoc]
      rw [lE, if_pos rfl, List.drop_succ_cons, List.drop_zero, lE]
      have := body 2
      simp only [List.cons_append] at this
      simp only [List.drop_succ_cons, List.drop_zero, show ((1 : Nat) == 1) = true from rfl, show 1 + 1 = 2 from rfl]
      rw [this]
      simp only [List.length_cons, List.length_append]
      congr 6
      omega
    | false =>
      simp only [if_true, Bool.false_eq_true, if_false, List.cons_append, List.nil_append, List.append_assoc]
      rw [lE, if_pos rfl, List.drop_succ_cons, List.drop_zero, kz hc45]
      have := body 1
      simp only [List.cons_append] at this
      simp only [List.drop_succ_cons, List.drop_zero, show ((0 : Nat) == 1) = false from rfl, Nat.add_zero]
      rw [this]
      simp only [List.length_cons, List.length_append]
      congr 6
      omega
  | false =>
    have hS : okS g d (x : Int) (s : Int) := by simpa [okY] using h
    obtain ⟨h1, h2, h3, h4, h5, h6, h7⟩ := hS
    have hx0 : x = 0 := by omega
    subst hx0
    have ht0 : cu 69 0 = [] := rfl
    have hdx : ∀ c ∈ d, isDX c = true := fun c hc => by
      unfold isDX
      rcases h2 c hc with q | q
      · rw [q]; rfl
      · rw [q]; simp
    have hsp : kQ isDX 4 (d ++ (cu 83 s ++ post)) = d.length := ow d 4 _ hdx (by omega) (.inr h1)
    have body : ∀ o : Nat, xo g o (d ++ (cu 83 s ++ post)) = .inr (g, false, d, 0, s, o + 4 + (cu 83 s).length) := by
      intro o
      unfold xo
      rw [hsp, h1, if_neg (by omega), List.drop_left' h1, n83, List.take_left' h1]
    obtain ⟨c, r, rfl⟩ : ∃ c r, d = c :: r := by
      cases d with
      | nil => simp at h1
      | cons c r => exact ⟨c, r, rfl⟩
    have hc45 : c ≠ 45 := by
      rintro rfl
      rcases h2 45 (by simp) with q | q
      · exact absurd ((cN _).1 q).1 (by decide)
      · exact absurd q (by decide)
    have hc89 : c ≠ 89 := by
      rintro rfl
      rcases h2 89 (by simp) with q | q
      · exact absurd ((cN _).1 q).2 (by decide)
      · exact absurd q (by decide)
    have h4589 : (45 : UInt8) ≠ 89 := by decide
    unfold Bk
    rw [ht0]
    cases g with
    | true =>
      simp only [if_true, Bool.false_eq_true, if_false, List.cons_append, List.nil_append, List.append_assoc]
      rw [kz h4589, if_neg (by decide), lE, List.drop_succ_cons, List.drop_zero]
      have := body 1
      simp only [List.cons_append] at this
      rw [show ((1 : Nat) == 1) = true from rfl, this]
      simp only [List.length_cons, List.length_append] at h1 ⊢
      congr 6
      omega
    | false =>
      simp only [Bool.false_eq_true, if_false, List.cons_append, List.nil_append, List.append_assoc]
      rw [kz hc89, if_neg (by decide), kz hc45, List.drop_zero]
      have := body 0
      simp only [List.cons_append] at this
      rw [show ((0 : Nat) == 1) = false from rfl, this]
      simp only [List.length_cons, List.length_append] at h1 ⊢
      congr 6
      omega
theorem rq {g l : Bool} {d : List UInt8} {x s : Nat} (h : okY g l d (x : Int) (s : Int)) : (gC g l d (x : Int) (s : Int)).length ≤ 25 := by
  have hs := gY h
  have h1 := oT 69 (show x < 100 by omega)
  have h2 := oT 83 (show s < 100 by omega)
  rw [lD]
  simp only [List.length_append]
  have e1 : (if l = true then ([89] : List UInt8) else []).length ≤ 1 := by split <;> simp
  have e2 : (if g = true then ([45] : List UInt8) else []).length ≤ 1 := by split <;> simp
  omega
end Go.Sh
