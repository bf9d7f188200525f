/- Plain proofs, kept as far as they are needed here (printed by prune.py).
   Conditions: none. -/
import Derived.Test.YtfpfdfkhnecdjaaGreatDoorLawXb
set_option linter.unusedVariables false
set_option linter.unusedSimpArgs false
set_option maxRecDepth 100000
namespace Go.Sh
open Go.Abs
theorem pJ : ∀ {a b : List Int}, ascI a → ascI b → (∀ x, x ∈ a ↔ x ∈ b) → a = b
  | [], [], _, _, _ => rfl
  | [], y :: b, _, _, h => absurd ((h y).2 List.mem_cons_self) (by simp)
  | x :: a, [], _, _, h => absurd ((h x).1 List.mem_cons_self) (by simp)
  | x :: a, y :: b, ha, hb, h => by
    obtain ⟨ha1, ha2⟩ := List.pairwise_cons.1 ha
    obtain ⟨hb1, hb2⟩ := List.pairwise_cons.1 hb
    have hxy : x = y := by
      rcases List.mem_cons.1 ((h x).1 List.mem_cons_self) with e | e
      · exact e
      · rcases List.mem_cons.1 ((h y).2 List.mem_cons_self) with e' | e'
        · exact e'.symm
        · have := hb1 x e
          have := ha1 y e'
          omega
    subst hxy
    rw [pJ ha2 hb2 (fun z => ?_)]
    constructor
    · intro hz
      rcases List.mem_cons.1 ((h z).1 (List.mem_cons_of_mem _ hz)) with e | e
      · have := ha1 z hz; omega
      · exact e
    · intro hz
      rcases List.mem_cons.1 ((h z).2 (List.mem_cons_of_mem _ hz)) with e | e
      · have := hb1 z hz; omega
      · exact e
theorem yL {l : Bool} {dg : List UInt8} {x : Int} (hok : okY false l dg x 0) (hX : hasX dg = true) : (yrs false dg x).length = 10 ^ Mk.cnt dg := by
  obtain ⟨_, rfl, _, hl, hd⟩ := hO hok hX
  have hm := p8 hl hd
  obtain ⟨h18, _, hokM⟩ := Mk.fS hm
  have hR := Mk.nG hokM
  have hin := ml hok hX
  have he : yrs false dg 0 = (List.range (10 ^ Mk.cnt dg)).map fun i : Nat => Mk.nth dg.reverse (i : Int) := by
    refine pJ (sg false dg 0) ?_ ?_
    · unfold ascI
      rw [List.pairwise_map]
      refine List.Pairwise.imp_of_mem ?_ List.pairwise_lt_range
      intro a b ha hb hab
      have := List.mem_range.1 hb
      refine Mk.mF hR _ _ (by omega) (by omega) ?_
      rw [Mk.iO]
      exact_mod_cast this
    · intro y
      rw [rQ hok y, hin y, List.mem_map]
      have hw : wOf false y = y := rfl
      rw [hw]
      constructor
      · rintro ⟨h, _⟩
        obtain ⟨i0, i1, i2⟩ := Mk.pf h
        refine ⟨(Mk.idx dg.reverse y).toNat, List.mem_range.2 ?_, ?_⟩
        · have : ((Mk.idx dg.reverse y).toNat : Int) < 10 ^ Mk.cnt dg := by omega
          exact_mod_cast this
        · show Mk.nth dg.reverse (((Mk.idx dg.reverse y).toNat : Nat) : Int) = y
          rw [show (((Mk.idx dg.reverse y).toNat : Nat) : Int) = Mk.idx dg.reverse y by omega]
          exact i2
      · rintro ⟨i, hi, rfl⟩
        refine ⟨?_, fun h => by cases h⟩
        have hr := Mk.iC hR (i : Int) (by omega)
        rw [List.length_reverse] at hr
        rw [Mk.nj]
        simp only [Bool.and_eq_true, decide_eq_true_eq]
        exact ⟨hr.1, hr.2, Mk.tL hR _ (by omega)⟩
  rw [he, List.length_map, List.length_range]
theorem s6 {Y : Int → Prop} [DecidablePred Y] {m d : List UInt8} : ∀ (r : Nat) (v : Int), tot Y (fun y => (((iS m d y).length : Nat) : Int)) r v = (((allF m d (((List.range' 0 r).map fun j : Nat => v + (j : Int)).filter fun y => decide (Y y))).length : Nat) : Int)
  | 0, v => rfl
  | r + 1, v => by
    have hs : ((List.range' 0 (r + 1)).map fun j : Nat => v + (j : Int)) = v :: ((List.range' 0 r).map fun j : Nat => v + 1 + (j : Int)) := by
      rw [List.range'_succ, List.map_cons]
      congr 1
      · simp
      · rw [show List.range' (0 + 1) r = (List.range' 0 r).map (· + 1) by rw [show (fun x : Nat => x + 1) = (fun x => 1 + x) from funext fun x => by omega, List.map_add_range'], List.map_map]
        apply List.map_congr_left
        intro a _
        simp only [Function.comp]
        omega
    rw [tot, s6 r (v + 1), hs]
    by_cases h : Y v
    · rw [if_pos h, List.filter_cons_of_pos (by simpa using h)]
      unfold allF
      rw [List.flatMap_cons, List.length_append]
      omega
    · rw [if_neg h, List.filter_cons_of_neg (by simpa using h), Int.zero_add]
theorem tV (m : List UInt8) : ∀ ys : List Int, (allF m [] ys).length = ys.length * (monI m).length
  | [] => by simp [allF]
  | y :: ys => by
    have ih := tV m ys
    have hy : (iS m [] y).length = (monI m).length := by
      unfold iS
      induction monI m with
      | nil => rfl
      | cons a L ih => rw [List.flatMap_cons, List.length_append, ih, qY, List.length_cons, List.length_cons, List.length_nil]; omega
    unfold allF at ih ⊢
    rw [List.flatMap_cons, List.length_append, ih, hy, List.length_cons, Nat.add_mul, Nat.one_mul]
    omega
section
variable {g l : Bool} {dg : List UInt8} {x q : Int} {m d : List UInt8} {k0 k1 k2 : Int} (hml : m.length ≤ 18) (hdl : dg.length ≤ 100) (h0 : 0 ≤ k0) (h1 : 0 ≤ k1) (h2 : 0 ≤ k2)
include hml hdl h0 h1 h2
theorem vI (he : errF g l dg x q m d k0 k1 k2 = 0) : aA 20000000 g l dg x q m d k0 k1 k2 = some ((((allD g dg x m d).length : Nat) : Int), 0) := by
  obtain ⟨rfl, R⟩ := nU he
  have hal := yz R.ok m d
  rcases yw (g := g) (l := l) (x := x) (q := 0) (d := d) hml hdl h0 h1 h2 with ⟨h, _⟩ | ⟨_, ⟨rfl, rfl, hX⟩, h⟩ | ⟨_, _, lo, hi, hb, hw, h⟩
  · exact absurd he h
  · rw [h]
    unfold allD at hal ⊢
    rw [tV, yL R.ok hX] at hal ⊢
    have hc : ((10 ^ Mk.cnt dg * (monI m).length : Nat) : Int) = 10 ^ Mk.cnt dg * (((monI m).length : Nat) : Int) := by
      rw [Int.natCast_mul]
      congr 1
    rw [← hc, wrap_i64 _ (by omega) (by omega)]
  · rw [h, s6]
    congr 4
    unfold allD
    congr 1
    refine pJ ?_ (sg g dg x) fun y => ?_
    · unfold ascI
      refine List.Pairwise.filter _ ?_
      rw [List.pairwise_map]
      refine List.Pairwise.imp ?_ (List.pairwise_lt_range' 1)
      intro a b h
      omega
    · rw [rQ R.ok y, List.mem_filter, decide_eq_true_eq, List.mem_map]
      constructor
      · exact fun h => h.2
      · intro h
        have := hb y h
        exact ⟨⟨(y - lo).toNat, List.mem_range'_1.2 (by omega), by omega⟩, h⟩
end
def lenB (b : Bool) (m : Int) : Int := if m = 4 ∨ m = 6 ∨ m = 9 ∨ m = 11 then 30 else if m = 2 then (if b then 29 else 28) else 31
def qj (m d : List UInt8) (b : Bool) : Nat := ((monI m).flatMap fun mo => (dayI d).filter fun k => decide (k ≤ if d = [] then 0 else lenB b mo)).length
theorem vr (m d : List UInt8) (y : Int) : (iS m d y).length = qj m d (ku y) := (tT m d y).symm
def sumY (f : Bool → Nat) (lo : Int) : Nat → Nat
  | 0 => 0
  | n + 1 => sumY f lo n + f (ku (lo + (n : Int)))
theorem ul (m d : List UInt8) (lo : Int) : ∀ n : Nat, (allF m d ((List.range n).map fun j : Nat => lo + (j : Int))).length = sumY (qj m d) lo n
  | 0 => rfl
  | n + 1 => by
    have ih := ul m d lo n
    unfold allF at ih ⊢
    rw [List.range_succ, List.map_append, List.flatMap_append, List.length_append, ih]
    simp only [List.map_cons, List.map_nil, List.flatMap_cons, List.flatMap_nil, List.append_nil]
    rw [vr]
    rfl
theorem sS (f : Bool → Nat) (lo : Int) (a : Nat) : ∀ b : Nat, sumY f lo (a + b) = sumY f lo a + sumY f (lo + (a : Int)) b
  | 0 => rfl
  | b + 1 => by
    have e : lo + ((a + b : Nat) : Int) = lo + (a : Int) + (b : Int) := by omega
    show sumY f lo (a + b) + f (ku (lo + ((a + b : Nat) : Int))) = sumY f lo a + (sumY f (lo + (a : Int)) b + f (ku (lo + (a : Int) + (b : Int))))
    rw [sS f lo a b, e, Nat.add_assoc]
theorem mq (f : Bool → Nat) (lo : Int) (c : Nat → Nat) (h : ((List.range 100).all fun k => sumY f (lo + 100 * (k : Int)) 100 == c k) = true) : ∀ k, k ≤ 100 → sumY f lo (100 * k) = ((List.range k).map c).sum
  | 0, _ => rfl
  | k + 1, hk => by
    have hc := (List.all_eq_true.1 h) k (List.mem_range.2 (by omega))
    rw [beq_iff_eq] at hc
    rw [Nat.mul_add, Nat.mul_one, sS, mq f lo c h k (by omega), List.range_succ, List.map_append, List.sum_append]
    rw [show ((100 * k : Nat) : Int) = 100 * (k : Int) by omega, hc]
    simp
def fAll : Bool → Nat := fun b => if b then 366 else 365
def fOne : Bool → Nat := fun b => if b then 1 else 0
theorem wF : qj [88, 88] [88, 88] = fAll := by
  funext b
  cases b
  · exact of_decide_eq_true (p := qj [88, 88] [88, 88] false = 365) (by decide +kernel)
  · exact of_decide_eq_true (p := qj [88, 88] [88, 88] true = 366) (by decide +kernel)
theorem By : qj [48, 50] [50, 57] = fOne := by
  funext b
  cases b
  · exact of_decide_eq_true (p := qj [48, 50] [50, 57] false = 0) (by decide +kernel)
  · exact of_decide_eq_true (p := qj [48, 50] [50, 57] true = 1) (by decide +kernel)
theorem vv (f : Bool → Nat) (lo : Int) (n : Nat) : sumY f lo (n + 1) = sumY f lo n + f (ku (lo + (n : Int))) := rfl
theorem AK : sumY fAll 0 10000 = 3652425 := by
  have := mq fAll 0 (fun k => if k % 4 = 0 then 36525 else 36524) (by decide +kernel) 100 (by omega)
  rw [show 100 * 100 = 10000 from rfl] at this
  rw [this]
  decide +kernel
theorem Bs : sumY fAll (-9999) 9999 = 3652059 := by
  have := mq fAll (-9999) (fun k => if k % 4 = 3 then 36525 else 36524) (by decide +kernel) 100 (by omega)
  have h2 : ((List.range 100).map (fun k => if k % 4 = 3 then 36525 else 36524)).sum = 3652425 := by decide +kernel
  rw [h2] at this
  rw [show 100 * 100 = 9999 + 1 from rfl, vv] at this
  have h4 : fAll (ku (-9999 + ((9999 : Nat) : Int))) = 366 := by decide +kernel
  omega
theorem Ak : sumY fOne 0 10000 = 2425 := by
  have := mq fOne 0 (fun k => if k % 4 = 0 then 25 else 24) (by decide +kernel) 100 (by omega)
  rw [show 100 * 100 = 10000 from rfl] at this
  rw [this]
  decide +kernel
theorem xE {g l : Bool} {dg : List UInt8} {x : Int} {m d : List UInt8} (hml : m.length ≤ 18) (hdl : dg.length ≤ 100) (h : cZ 20000000 g l dg x 0 m d 0 0 0 = some 0) : errF g l dg x 0 m d 0 0 0 = 0 := by
  rw [pC hml hdl (by omega) (by omega) (by omega)] at h
  unfold errF
  rw [if_pos (Option.some.inj h)]
  rfl
theorem C7 {g : Bool} (hok : okY g false [88, 88, 88, 88] 0 0) (y : Int) : inP g [88, 88, 88, 88] 0 0 y ↔ if g then -9999 ≤ y ∧ y ≤ -1 else 0 ≤ y ∧ y ≤ 9999 := by
  rw [ml hok rfl, Mk.nj]
  have ha : ∀ k, Mk.ag ([88, 88, 88, 88] : List UInt8).reverse k = true := fun k => by simp [Mk.ag]
  have e4 : (10 : Int) ^ ([88, 88, 88, 88] : List UInt8).length = 10000 := by decide
  rw [ha, e4]
  unfold wOf
  cases g
  · simp; omega
  · simp; omega
theorem Cs {g : Bool} (hok : okY g false [88, 88, 88, 88] 0 0) {lo : Int} {n : Nat} (h : ∀ y, (if g then -9999 ≤ y ∧ y ≤ -1 else 0 ≤ y ∧ y ≤ 9999) ↔ lo ≤ y ∧ y < lo + (n : Int)) : yrs g [88, 88, 88, 88] 0 = (List.range n).map fun j : Nat => lo + (j : Int) := by
  refine pJ (sg _ _ _) ?_ fun y => ?_
  · unfold ascI
    rw [List.pairwise_map]
    refine List.Pairwise.imp ?_ List.pairwise_lt_range
    intro a b h
    omega
  · rw [rQ hok y, C7 hok, h, List.mem_map]
    constructor
    · intro h
      exact ⟨(y - lo).toNat, List.mem_range.2 (by omega), by omega⟩
    · rintro ⟨j, hj, rfl⟩
      have := List.mem_range.1 hj
      omega
theorem pT {g : Bool} {m d : List UInt8} (hm : m.length ≤ 18) (hc : cZ 20000000 g false [88, 88, 88, 88] 0 0 m d 0 0 0 = some 0) {lo : Int} {n N : Nat} (h : ∀ y, (if g then -9999 ≤ y ∧ y ≤ -1 else 0 ≤ y ∧ y ≤ 9999) ↔ lo ≤ y ∧ y < lo + (n : Int))
    (hs : sumY (qj m d) lo n = N) : aA 20000000 g false [88, 88, 88, 88] 0 0 m d 0 0 0 = some ((N : Int), 0) := by
  have he := xE hm (show ([88, 88, 88, 88] : List UInt8).length ≤ 100 by decide) hc
  obtain ⟨_, R⟩ := nU he
  rw [vI hm (by decide) (by omega) (by omega) (by omega) he]
  unfold allD
  rw [Cs R.ok h, ul, hs]
theorem Bc : aA 20000000 false false [88, 88, 88, 88] 0 0 [88, 88] [88, 88] 0 0 0 = some (3652425, 0) :=
  pT (lo := 0) (n := 10000) (N := 3652425) (by decide) (by kernel_rfl) (fun y => by simp; omega) (by rw [wF]; exact AK)
theorem A6 : aA 20000000 true false [88, 88, 88, 88] 0 0 [88, 88] [88, 88] 0 0 0 = some (3652059, 0) :=
  pT (lo := -9999) (n := 9999) (N := 3652059) (by decide) (by kernel_rfl) (fun y => by simp; omega) (by rw [wF]; exact Bs)
theorem Bg : aA 20000000 false false [88, 88, 88, 88] 0 0 [48, 50] [50, 57] 0 0 0 = some (2425, 0) :=
  pT (lo := 0) (n := 10000) (N := 2425) (by decide) (by kernel_rfl) (fun y => by simp; omega) (by rw [By]; exact Ak)
theorem ut (L : List (List UInt8)) (h : L.length ≤ 1000) : af (aq 20000000) 20000000 (0, L) = some (.inr ()) := by
  have go : ∀ (r i : Nat), i + r = L.length → ∀ N, r < N → af (aq 20000000) N ((i : Int), L) = some (.inr ()) := by
    intro r
    induction r with
    | zero =>
      intro i hi N hN
      obtain ⟨N, rfl⟩ : ∃ q, N = q + 1 := ⟨N - 1, by omega⟩
      have : aq 20000000 ((i : Int), L) = some (.inr (.inr ())) := by
        unfold aq
        simp only []
        rw [decide_eq_false (by omega)]; rfl
      rw [af, this]
    | succ r ih =>
      intro i hi N hN
      obtain ⟨N, rfl⟩ : ∃ q, N = q + 1 := ⟨N - 1, by omega⟩
      have w1 : IntKind.wrap .i64 ((i : Int) + 1) = ((i + 1 : Nat) : Int) := by rw [wrap_i64 _ (by omega) (by omega)]; omega
      have hil : i < L.length := by omega
      have : aq 20000000 ((i : Int), L) = some (.inl (((i + 1 : Nat) : Int), L)) := by
        unfold aq
        simp only []
        rw [decide_eq_true (by omega), dj hil]
        simp only [cond_true, ob, List.getElem?_eq_getElem hil, ma, Bool.not_true, cond_false, w1]
      rw [af, this]
      exact ih (i + 1) (by omega) N (by omega)
  exact go L.length 0 (by omega) 20000000 (by omega)
theorem y5 : aw 20000000 [88, 88, 88, 88, 45, 88, 88, 45, 88, 88] = some (false, false, [88, 88, 88, 88], 0, 0, [88, 88], [88, 88], 0, 0, 0) := by kernel_rfl
theorem yX : aw 20000000 [45, 88, 88, 88, 88, 45, 88, 88, 45, 88, 88] = some (true, false, [88, 88, 88, 88], 0, 0, [88, 88], [88, 88], 0, 0, 0) := by kernel_rfl
theorem yQ : aw 20000000 [88, 88, 88, 88, 45, 48, 50, 45, 50, 57] = some (false, false, [88, 88, 88, 88], 0, 0, [48, 50], [50, 57], 0, 0, 0) := by kernel_rfl
theorem yi : aw 20000000 [45, 88, 88, 88, 88, 45, 88, 88] = some (true, false, [88, 88, 88, 88], 0, 0, [88, 88], [], 0, 0, 0) := by kernel_rfl
theorem vE (a b c : Int) : au 20000000 a b c = some (a, b, c) := rfl
theorem Bm : fJ 20000000 false false [88, 88, 88, 88] 0 0 [48, 50] [50, 57] 0 0 0 = some (9996, 2, 29, 0) := by kernel_rfl
theorem Bj : du 20000000 false false [88, 88, 88, 88] 0 0 [48, 50] [50, 57] 0 0 0 9223372036854775807 (-9223372036854775808) 9223372036854775807 = some (0, 0, 0, false, 0) := by kernel_rfl
theorem AS : fp 20000000 true false [88, 88, 88, 88] 0 0 [88, 88] [] 0 0 0 9223372036854775807 0 0 = some (-1, 12, 0, true, 0) := by kernel_rfl
theorem ae {A B : Type} (a : A) (f : A → Option B) : ob (some a) f = f a := rfl
theorem me : bB 20000000 = some true := by
  have k1 := Bc
  have k2 := A6
  have k3 := Bg
  have k4 := Bm
  have k5 := Bj
  have k6 := AS
  have r1 := y5
  have r2 := yX
  have r3 := yQ
  have r4 := yi
  have kl := fun L h => ut L h
  have lv := tA
  unfold bB
  generalize aA 20000000 = F1 at *
  generalize fJ 20000000 = F2 at *
  generalize du 20000000 = F3 at *
  generalize fp 20000000 = F4 at *
  generalize aw 20000000 = F5 at *
  generalize ci 20000000 = F6 at *
  generalize af (aq 20000000) 20000000 = F7 at *
  rw [r1, ae, k1, ae, r2, ae, k2, ae, r3, ae, k3, ae]
  show cond false _ (cond false _ (cond false _ (cond false _ _))) = _
  rw [cond_false, cond_false, cond_false, cond_false]
  rw [kl _ (by decide), ae]
  show ob (some (false, false, [88, 88, 88, 88], 0, 0, [48, 50], [50, 57], 0, 0, 0)) _ = _
  rw [ae, k4, ae, ae, vE, ae, k5, ae, r4, ae, vE, ae, k6, ae]
  rw [lv]
  rfl
end Go.Sh
