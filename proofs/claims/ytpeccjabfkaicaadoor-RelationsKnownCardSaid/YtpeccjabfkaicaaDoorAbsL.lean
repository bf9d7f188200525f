/- An operation's effect hangs on what it looks at, and on nothing else.
   Conditions: none; generic over the program. -/
import Derived.Test.YtpeccjabfkaicaaDoorAbsJ
namespace Go.Abs
variable {P : Program}

section
variable {α β γ : Type}
@[simp] theorem ob_ret (a : α) (f : α → Option β) : ob (some a) f = f a := rfl
@[simp] theorem ob_none (f : α → Option β) : ob none f = none := rfl
theorem ob_ob (o : Option α) (f : α → Option β) (g : β → Option γ) : ob (ob o f) g = ob o fun a => ob (f a) g := by cases o <;> rfl
theorem ob_cond (b : Bool) (x y : Option α) (g : α → Option β) : ob (cond b x y) g = cond b (ob x g) (ob y g) := by cases b <;> rfl

theorem intK_nat (op : BinOp) (k : IntKind) (x y : Int) (c : V → Option α) (g : α → Option β) : intK op k x y (fun v => ob (c v) g) = ob (intK op k x y c) g := by
  cases op <;> simp only [intK, ob_cond, ob_none]

theorem strK_nat (op : BinOp) (x y : List UInt8) (c : V → Option α) (g : α → Option β) : strK op x y (fun v => ob (c v) g) = ob (strK op x y c) g := by
  cases op <;> simp only [strK, ob_none, ob_ob]

theorem binK_nat (op : BinOp) (t : TypeId) (x y : V) (c : V → Option α) (g : α → Option β) : binK P op t x y (fun v => ob (c v) g) = ob (binK P op t x y c) g := by
  unfold binK
  split
  · split
    · exact intK_nat ..
    · exact intK_nat ..
    · split
      · exact intK_nat ..
      · rfl
  · exact strK_nat ..
  · split
    · split <;> rfl
    · split <;> rfl
    · rfl

theorem unK_nat (op : UnOp) (x : V) (c : V → Option α) (g : α → Option β) : unK op x (fun v => ob (c v) g) = ob (unK op x c) g := by
  unfold unK; split <;> rfl

theorem loadAgg_nat (t : TypeId) (blk : Blk) (o : Nat) (c : V → Option α) (g : α → Option β) : loadAgg P t blk o (fun v => ob (c v) g) = ob (loadAgg P t blk o c) g := by
  unfold loadAgg
  split
  · split <;> rfl
  · split <;> rfl
  · rfl

theorem loadK_nat (t : TypeId) (blk : Blk) (o : Nat) (c : V → Option α) (g : α → Option β) : loadK P t blk o (fun v => ob (c v) g) = ob (loadK P t blk o c) g := by
  unfold loadK
  split
  · exact loadAgg_nat ..
  · exact loadAgg_nat ..
  · split
    · split <;> simp only [ob_ob]
    · simp only [ob_ob]
    · rfl
  · split
    · split <;> simp only [ob_ob]
    · rfl
  · split
    · simp only [ob_ob]
    · rfl
  · rfl

theorem storeK_nat (t : TypeId) (blk : Blk) (o : Nat) (v : V) (c : Blk → Option α) (g : α → Option β) : storeK P t blk o v (fun v => ob (c v) g) = ob (storeK P t blk o v c) g := by
  unfold storeK
  split
  · split <;> rfl
  · split
    · split
      · simp only [ob_cond, ob_none]
      · rfl
    · split <;> rfl
    · rfl
  · rfl

theorem hiK_nat (n len : Nat) (h : Option Int) (c : Nat → Option α) (g : α → Option β) : hiK n len h (fun v => ob (c v) g) = ob (hiK n len h c) g := by
  unfold hiK; split
  · rfl
  · simp only [ob_ob]

theorem loK_nat (h : Nat) (l : Option Int) (c : Nat → Option α) (g : α → Option β) : loK h l (fun v => ob (c v) g) = ob (loK h l c) g := by
  unfold loK; split
  · rfl
  · simp only [ob_ob]

theorem slice3K_nat (ρ : Operand → Option V) (H : List (Nat × Blk)) (t : TypeId) (x : Operand) (lo hi : Option Operand) (mx : Operand) (c : Eff → Option α) (g : α → Option β) :
    slice3K P ρ H t x lo hi mx (fun e => ob (c e) g) = ob (slice3K P ρ H t x lo hi mx c) g := by
  unfold slice3K
  split
  · simp only [ob_ob]
    congr 1; funext a
    split
    · split
      · split
        · split
          · split
            · split
              · simp only [ob_ob]
              · rfl
            · rfl
          · simp only [ob_ob]
          · simp only [ob_ob]
          · rfl
        · rfl
      · rfl
    · rfl
  · rfl

theorem mapK_nat : ∀ (l : List (Int × Nat)) (n : Int) (c : Nat → Option α) (g : α → Option β), mapK l n (fun x => ob (c x) g) = ob (mapK l n c) g
  | [], _, _, _ => rfl
  | (m, u) :: l, n, c, g => by
    simp only [mapK]
    cases (n == m) with
    | true => rfl
    | false => exact mapK_nat l n c g

theorem effK_nat (ρ : Operand → Option V) (H : List (Nat × Blk)) (f : Nat) (op : Op) (c : Eff → Option α) (g : α → Option β) :
    effK P ρ H f op (fun e => ob (c e) g) = ob (effK P ρ H f op c) g := by
  unfold effK
  split
  case h_1 => simp only [ob_ob]
  case h_2 => simp only [ob_ob]
  case h_3 =>
    split
    · simp only [ob_cond, ob_ob]
    · rfl
  case h_4 => simp only [ob_ob]
  case h_5 => simp only [ob_ob]
  case h_6 =>
    simp only [ob_ob]
    congr 1; funext z
    congr 1; funext ps
    split
    · split
      · simp only [ob_ob]
      · rfl
    · split
      · simp only [ob_ob]
      · rfl
    · rfl
  case h_7 =>
    split
    · split
      · simp only [ob_ob]
        congr 1; funext z
        congr 1; funext ps
        split
        · simp only [ob_ob]
          congr 1; funext l
          split
          · split
            · simp only [ob_ob]
            · rfl
          · rfl
        · rfl
      · rfl
    · rfl
  case h_8 =>
    simp only [ob_ob]
    congr 1; funext a
    congr 1; funext b
    split
    · split
      · simp only [ob_ob]
        congr 1; funext z
        split
        · split
          · simp only [ob_ob, ob_cond, ob_none]
          · rfl
        · rfl
      · rfl
    · rfl
  case h_9 =>
    split
    · split
      · exact loadK_nat ..
      · rfl
    · split
      · split
        · simp only [ob_ob]
          congr 1; funext x
          exact loadK_nat ..
        · rfl
      · rfl
    · rfl
  case h_10 =>
    split
    · simp only [ob_ob]
      congr 1; funext v
      split
      · exact storeK_nat ..
      · rfl
    · simp only [ob_ob]
      congr 1; funext v
      split
      · split
        · simp only [ob_ob]
          congr 1; funext x
          rw [← storeK_nat]
          congr 1; funext blk'
          split
          · simp only [ob_ob]
          · rfl
        · rfl
      · rfl
    · rfl
  case h_11 => split <;> rfl
  case h_12 =>
    simp only [ob_ob]
    congr 1; funext a
    congr 1; funext b
    split
    · rfl
    · split
      · split
        · rename_i m rd hl
          cases Nat.blt 0 m <;> rfl
        · rfl
      · exact binK_nat ..
  case h_13 =>
    simp only [ob_ob]
    congr 1; funext a
    exact unK_nat ..
  case h_14 =>
    simp only [ob_ob]
    congr 1; funext a
    split
    · split
      · split <;> rfl
      · split
        · split <;> rfl
        · split <;> rfl
        · split
          · split
            · split
              · simp only [ob_cond, ob_none]
              · rfl
            · rfl
          · rfl
        · split
          · split
            · split <;> rfl
            · rfl
          · rfl
        · split
          · split
            · split
              · split
                · simp only [ob_cond, ob_none]
                · rfl
              · rfl
            · rfl
          · rfl
        · split
          · split <;> rfl
          · rfl
        · rfl
      · split
        · split
          · split <;> rfl
          · rfl
        · rfl
      · rfl
    · rfl
  case h_15 =>
    simp only [ob_ob]
    congr 1; funext a
    split <;> rfl
  case h_16 =>
    split
    · split
      · simp only [ob_ob]
      · rfl
    · split
      · simp only [ob_ob]
      · rfl
    · rfl
  case h_17 =>
    split
    · exact slice3K_nat ..
    · simp only [ob_ob]
      congr 1; funext a
      congr 1; funext l
      congr 1; funext h
      split
      · split
        · simp only [← hiK_nat, ← loK_nat]
        · rfl
      · split
        · split
          · simp only [← hiK_nat, ← loK_nat]
          · rfl
        · rfl
      · split
        · split
          · simp only [← hiK_nat, ← loK_nat]
          · rw [← hiK_nat]
            congr 1; funext h
            split <;> rfl
          · split
            · split
              · simp only [← hiK_nat, ← loK_nat]
              · rfl
            · rfl
          · split
            · simp only [← hiK_nat, ← loK_nat]
            · rfl
          · rfl
        · rfl
      · rfl
  case h_18 =>
    split
    · split
      · split
        · split <;> rfl
        · rfl
      · rfl
    · split
      · split
        · split <;> rfl
        · rfl
      · rfl
    · rfl
  case h_19 =>
    split
    · split
      · split
        · split
          · split <;> rfl
          · split
            · simp only [ob_ob]
            · rfl
        · rfl
      · rfl
    · rfl
  case h_20 =>
    split
    · split
      · split
        · split
          · simp only [ob_ob]
          · rfl
        · split
          · simp only [ob_ob]
          · rfl
        · rfl
      · split
        · split
          · simp only [ob_ob]
          · rfl
        · split
          · split
            · simp only [ob_ob]
            · rfl
          · rfl
        · split
          · simp only [ob_ob]
          · rfl
        · rfl
      · rfl
    · rfl
  case h_21 =>
    split
    · split
      · split
        · rfl
        · split
          · split
            · split
              · simp only [ob_ob]
              · rfl
            · rfl
          · split
            · simp only [ob_ob]
            · simp only [ob_ob]
            · split
              · split
                · simp only [ob_ob]
                · rfl
              · rfl
            · split
              · simp only [ob_ob]
              · rfl
            · rfl
          · rfl
      · split
        · simp only [ob_ob]
        · rfl
      · rfl
    · rfl
  case h_22 =>
    split
    · split <;> rfl
    · rfl
  case h_23 => repeat' (first | rfl | split)
  case h_24 =>
    split
    · split
      · split
        · split
          · split
            · split
              · exact mapK_nat ..
              · rfl
            · rfl
          · rfl
        · rfl
      · rfl
    · rfl
  case h_25 =>
    split
    · split <;> rfl
    · rfl
  case h_26 =>
    split
    · split
      · simp only [ob_cond]
      · rfl
    · rfl
  case h_27 =>
    split
    · simp only [ob_ob]
    · rfl
  case h_28 =>
    split
    · split
      · rfl
      · split
        · split <;> rfl
        · rfl
      · rfl
    · rfl
  case h_29 =>
    split
    · simp only [ob_ob]
      congr 1; funext args
      split
      · split
        · split
          · split <;> rfl
          · rfl
        · split
          · split <;> rfl
          · rfl
        · split
          · split <;> rfl
          · rfl
        · split
          · split
            · split <;> rfl
            · rfl
          · rfl
        · split
          · split <;> rfl
          · rfl
        · split
          · split <;> rfl
          · rfl
        · rfl
      · split
        · split
          · split <;> rfl
          · rfl
        · split
          · split <;> rfl
          · rfl
        · split
          · split <;> rfl
          · rfl
        · rfl
      · split
        · split <;> rfl
        · rfl
      · split
        · split <;> rfl
        · rfl
      · rfl
    · rfl
  case h_30 => rfl
end

end Go.Abs
