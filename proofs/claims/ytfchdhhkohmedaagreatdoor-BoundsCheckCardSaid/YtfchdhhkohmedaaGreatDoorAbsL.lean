/- An operation's effect hangs on what it looks at, and on nothing else.
   Conditions: none; generic over the program. -/
import Derived.Test.YtfchdhhkohmedaaGreatDoorAbsJ
namespace Go.Abs
variable {P : Program}
section
variable {α β γ : Type}
@[simp] theorem gK (a : α) (f : α → Option β) : ob (some a) f = f a := rfl
@[simp] theorem mu (f : α → Option β) : ob none f = none := rfl
theorem bZ (o : Option α) (f : α → Option β) (g : β → Option γ) : ob (ob o f) g = ob o fun a => ob (f a) g := by cases o <;> rfl
theorem lw (b : Bool) (x y : Option α) (g : α → Option β) : ob (cond b x y) g = cond b (ob x g) (ob y g) := by cases b <;> rfl
theorem pW (op : BinOp) (k : IntKind) (x y : Int) (c : V → Option α) (g : α → Option β) : intK op k x y (fun v => ob (c v) g) = ob (intK op k x y c) g := by
  cases op <;> simp only [intK, lw, mu]
theorem zg (op : BinOp) (x y : List UInt8) (c : V → Option α) (g : α → Option β) : strK op x y (fun v => ob (c v) g) = ob (strK op x y c) g := by
  cases op <;> simp only [strK, mu, bZ]
theorem zD (op : BinOp) (t : TypeId) (x y : V) (c : V → Option α) (g : α → Option β) : binK P op t x y (fun v => ob (c v) g) = ob (binK P op t x y c) g := by
  unfold binK
  split
  · split
    · exact pW ..
    · exact pW ..
    · split
      · exact pW ..
      · rfl
  · exact zg ..
  · split
    · split <;> rfl
    · split <;> rfl
    · rfl
theorem BS (op : UnOp) (x : V) (c : V → Option α) (g : α → Option β) : unK op x (fun v => ob (c v) g) = ob (unK op x c) g := by
  unfold unK; split <;> rfl
theorem oa (t : TypeId) (blk : Blk) (o : Nat) (c : V → Option α) (g : α → Option β) : jF P t blk o (fun v => ob (c v) g) = ob (jF P t blk o c) g := by
  unfold jF
  split
  · split <;> rfl
  · split <;> rfl
  · rfl
theorem lF (t : TypeId) (blk : Blk) (o : Nat) (c : V → Option α) (g : α → Option β) : pb P t blk o (fun v => ob (c v) g) = ob (pb P t blk o c) g := by
  unfold pb
  split
  · exact oa ..
  · exact oa ..
  · split
    · split <;> simp only [bZ]
    · simp only [bZ]
    · rfl
  · split
    · split <;> simp only [bZ]
    · rfl
  · split
    · simp only [bZ]
    · rfl
  · rfl
theorem kB (t : TypeId) (blk : Blk) (o : Nat) (v : V) (c : Blk → Option α) (g : α → Option β) : jU P t blk o v (fun v => ob (c v) g) = ob (jU P t blk o v c) g := by
  unfold jU
  split
  · split <;> rfl
  · split
    · split
      · simp only [lw, mu]
      · rfl
    · split <;> rfl
    · rfl
  · rfl
theorem mK (n len : Nat) (h : Option Int) (c : Nat → Option α) (g : α → Option β) : hiK n len h (fun v => ob (c v) g) = ob (hiK n len h c) g := by
  unfold hiK; split
  · rfl
  · simp only [bZ]
theorem oh (h : Nat) (l : Option Int) (c : Nat → Option α) (g : α → Option β) : loK h l (fun v => ob (c v) g) = ob (loK h l c) g := by
  unfold loK; split
  · rfl
  · simp only [bZ]
theorem tg (ρ : Operand → Option V) (H : List (Nat × Blk)) (t : TypeId) (x : Operand) (lo hi : Option Operand) (mx : Operand) (c : Eff → Option α) (g : α → Option β) :
    mF P ρ H t x lo hi mx (fun e => ob (c e) g) = ob (mF P ρ H t x lo hi mx c) g := by
  unfold mF
  split
  · simp only [bZ]
    congr 1; funext a
    split
    · split
      · split
        · split
          · split
            · split
              · simp only [bZ]
              · rfl
            · rfl
          · simp only [bZ]
          · simp only [bZ]
          · rfl
        · rfl
      · rfl
    · rfl
  · rfl
theorem tP : ∀ (l : List (Int × Nat)) (n : Int) (c : Nat → Option α) (g : α → Option β), mapK l n (fun x => ob (c x) g) = ob (mapK l n c) g
  | [], _, _, _ => rfl
  | (m, u) :: l, n, c, g => by
    simp only [mapK]
    cases (n == m) with
    | true => rfl
    | false => exact tP l n c g
theorem yI (ρ : Operand → Option V) (H : List (Nat × Blk)) (f : Nat) (op : Op) (c : Eff → Option α) (g : α → Option β) :
    effK P ρ H f op (fun e => ob (c e) g) = ob (effK P ρ H f op c) g := by
  unfold effK
  split
  case h_1 => simp only [bZ]
  case h_2 => simp only [bZ]
  case h_3 =>
    split
    · simp only [lw, bZ]
    · rfl
  case h_4 => simp only [bZ]
  case h_5 => simp only [bZ]
  case h_6 =>
    simp only [bZ]
    congr 1; funext z
    congr 1; funext ps
    split
    · split
      · simp only [bZ]
      · rfl
    · split
      · simp only [bZ]
      · rfl
    · rfl
  case h_7 =>
    split
    · split
      · simp only [bZ]
        congr 1; funext z
        congr 1; funext ps
        split
        · simp only [bZ]
          congr 1; funext l
          split
          · split
            · simp only [bZ]
            · rfl
          · rfl
        · rfl
      · rfl
    · rfl
  case h_8 =>
    simp only [bZ]
    congr 1; funext a
    congr 1; funext b
    split
    · split
      · simp only [bZ]
        congr 1; funext z
        split
        · split
          · simp only [bZ, lw, mu]
          · rfl
        · rfl
      · rfl
    · rfl
  case h_9 =>
    split
    · split
      · exact lF ..
      · rfl
    · split
      · split
        · simp only [bZ]
          congr 1; funext x
          exact lF ..
        · rfl
      · rfl
    · rfl
  case h_10 =>
    split
    · simp only [bZ]
      congr 1; funext v
      split
      · exact kB ..
      · rfl
    · simp only [bZ]
      congr 1; funext v
      split
      · split
        · simp only [bZ]
          congr 1; funext x
          rw [← kB]
          congr 1; funext blk'
          split
          · simp only [bZ]
          · rfl
        · rfl
      · rfl
    · rfl
  case h_11 => split <;> rfl
  case h_12 =>
    simp only [bZ]
    congr 1; funext a
    congr 1; funext b
    split
    · rfl
    · split
      · split
        · rename_i m rd hl
          cases Nat.blt 0 m <;> rfl
        · rfl
      · exact zD ..
  case h_13 =>
    simp only [bZ]
    congr 1; funext a
    exact BS ..
  case h_14 =>
    simp only [bZ]
    congr 1; funext a
    split
    · split
      · split <;> rfl
      · split
        · split <;> rfl
        · split <;> rfl
        · split
          · split
            · split
              · simp only [lw, mu]
              · rfl
            · rfl
          · rfl
        · split
          · split
            · split <;> rfl
            · rfl
          · rfl
        · split
          · split
            · split
              · split
                · simp only [lw, mu]
                · rfl
              · rfl
            · rfl
          · rfl
        · split
          · split <;> rfl
          · rfl
        · rfl
      · split
        · split
          · split <;> rfl
          · rfl
        · rfl
      · rfl
    · rfl
  case h_15 =>
    simp only [bZ]
    congr 1; funext a
    split <;> rfl
  case h_16 =>
    split
    · split
      · simp only [bZ]
      · rfl
    · split
      · simp only [bZ]
      · rfl
    · rfl
  case h_17 =>
    split
    · exact tg ..
    · simp only [bZ]
      congr 1; funext a
      congr 1; funext l
      congr 1; funext h
      split
      · split
        · simp only [← mK, ← oh]
        · rfl
      · split
        · split
          · simp only [← mK, ← oh]
          · rfl
        · rfl
      · split
        · split
          · simp only [← mK, ← oh]
          · rw [← mK]
            congr 1; funext h
            split <;> rfl
          · split
            · split
              · simp only [← mK, ← oh]
              · rfl
            · rfl
          · split
            · simp only [← mK, ← oh]
            · rfl
          · rfl
        · rfl
      · rfl
  case h_18 =>
    split
    · split
      · split
        · split <;> rfl
        · rfl
      · rfl
    · split
      · split
        · split <;> rfl
        · rfl
      · rfl
    · rfl
  case h_19 =>
    split
    · split
      · split
        · split
          · split <;> rfl
          · split
            · simp only [bZ]
            · rfl
        · rfl
      · rfl
    · rfl
  case h_20 =>
    split
    · split
      · split
        · split
          · simp only [bZ]
          · rfl
        · split
          · simp only [bZ]
          · rfl
        · rfl
      · split
        · split
          · simp only [bZ]
          · rfl
        · split
          · split
            · simp only [bZ]
            · rfl
          · rfl
        · split
          · simp only [bZ]
          · rfl
        · rfl
      · rfl
    · rfl
  case h_21 =>
    split
    · split
      · split
        · rfl
        · split
          · split
            · split
              · simp only [bZ]
              · rfl
            · rfl
          · split
            · simp only [bZ]
            · simp only [bZ]
            · split
              · split
                · simp only [bZ]
                · rfl
              · rfl
            · split
              · simp only [bZ]
              · rfl
            · rfl
          · rfl
      · split
        · simp only [bZ]
        · rfl
      · rfl
    · rfl
  case h_22 =>
    split
    · split <;> rfl
    · rfl
  case h_23 => repeat' (first | rfl | split)
  case h_24 =>
    split
    · split
      · split
        · split
          · split
            · split
              · exact tP ..
              · rfl
            · rfl
          · rfl
        · rfl
      · rfl
    · rfl
  case h_25 =>
    split
    · split <;> rfl
    · rfl
  case h_26 =>
    split
    · split
      · simp only [lw]
      · rfl
    · rfl
  case h_27 =>
    split
    · simp only [bZ]
    · rfl
  case h_28 =>
    split
    · split
      · rfl
      · split
        · split <;> rfl
        · rfl
      · rfl
    · rfl
  case h_29 =>
    split
    · simp only [bZ]
      congr 1; funext args
      split
      · split
        · split
          · split <;> rfl
          · rfl
        · split
          · split <;> rfl
          · rfl
        · split
          · split <;> rfl
          · rfl
        · split
          · split
            · split <;> rfl
            · rfl
          · rfl
        · split
          · split <;> rfl
          · rfl
        · split
          · split <;> rfl
          · rfl
        · rfl
      · split
        · split
          · split <;> rfl
          · rfl
        · split
          · split <;> rfl
          · rfl
        · split
          · split <;> rfl
          · rfl
        · rfl
      · split
        · split <;> rfl
        · rfl
      · split
        · split <;> rfl
        · rfl
      · rfl
    · rfl
  case h_30 => rfl
end
end Go.Abs
