/- Plain proofs, kept as far as they are needed here (printed by prune.py).
   Conditions: none. -/
import Derived.Test.YtfpfdfkhnecdjaaGreatDoorLawXb
set_option linter.unusedVariables false
set_option linter.unusedSimpArgs false
set_option maxRecDepth 100000
namespace Go.Sh
open Go.Abs
theorem De (g l : Bool) (dg : List UInt8) (x q : Int) (m d : List UInt8) (k0 k1 k2 : Int) (L : List (Int × Int × Int)) (hL : L.length ≤ 10001000) (x0 x2 : Bool) (x1 x3 cy cm cd f1 f2 f3 p1 p2 p3 : Int) :
    af (bF 20000000) 20000000 (x0, x1, x2, x3, 0, cy, cm, cd, g, l, dg, x, q, m, d, k0, k1, k2, f1, f2, f3, p1, p2, p3, L) =
      some (x0, x1, x2, x3, ((L.findIdx (seen true (aB m d) (cy, cm, cd)) : Nat) : Int), cy, cm, cd, g, l, dg, x, q, m, d, k0, k1, k2, f1, f2, f3, p1, p2, p3, L) := by
  have := yS (step := bF 20000000) (f := fun i => (x0, x1, x2, x3, (i : Int), cy, cm, cd, g, l, dg, x, q, m, d, k0, k1, k2, f1, f2, f3, p1, p2, p3, L)) (y := fun i => (x0, x1, x2, x3, (i : Int), cy, cm, cd, g, l, dg, x, q, m, d, k0, k1, k2, f1, f2, f3, p1, p2, p3, L)) (L := L) (p := seen true (aB m d) (cy, cm, cd))
    (fun i hi => by
      have w1 : IntKind.wrap .i64 ((i : Int) + 1) = ((i + 1 : Nat) : Int) := by rw [wrap_i64 _ (by omega) (by omega)]; omega
      have hcmp := rW g l dg x q m d k0 k1 k2 L[i] (cy, cm, cd)
      simp only [] at hcmp
      unfold bF cK
      simp only [d4, d8, d16]
      rw [decide_eq_true (show (i : Int) < ((L.length : Nat) : Int) by omega), bv hi]
      simp only [cond_true, ob, List.getElem?_eq_getElem hi, hcmp]
      unfold seen
      by_cases h : cmpC (aB m d) L[i] (cy, cm, cd) < 0
      · have e1 : decide (cmpC (aB m d) L[i] (cy, cm, cd) < 0) = true := decide_eq_true h
        have e2 : decide (¬ cmpC (aB m d) L[i] (cy, cm, cd) < 0) = false := decide_eq_false (fun hn => hn h)
        simp only [e1, e2, cond_true, w1, Bool.false_eq_true, if_false]
      · have e1 : decide (cmpC (aB m d) L[i] (cy, cm, cd) < 0) = false := decide_eq_false h
        have e2 : decide (¬ cmpC (aB m d) L[i] (cy, cm, cd) < 0) = true := decide_eq_true h
        simp only [e1, e2, cond_true, cond_false, if_true])
    (by
      unfold bF cK
      simp only [d4, d8, d16]
      rw [decide_eq_false (show ¬ ((L.length : Nat) : Int) < ((L.length : Nat) : Int) by omega)]
      rfl)
    (N := 20000000) (by omega)
  exact this
theorem rU : ∀ {a b : List Int}, ascI a → ascI b → (∀ x, x ∈ a ↔ x ∈ b) → a = b
  | [], [], _, _, _ => rfl
  | [], y :: b, _, _, h => absurd ((h y).2 List.mem_cons_self) (by simp)
  | x :: a, [], _, _, h => absurd ((h x).1 List.mem_cons_self) (by simp)
  | x :: a, y :: b, ha, hb, h => by
    obtain ⟨ha1, ha2⟩ := List.pairwise_cons.1 ha
    obtain ⟨hb1, hb2⟩ := List.pairwise_cons.1 hb
    have hxy : x = y := by
      rcases List.mem_cons.1 ((h x).1 List.mem_cons_self) with e | e
      · exact e
      · rcases List.mem_cons.1 ((h y).2 List.mem_cons_self) with e' | e'
        · exact e'.symm
        · have := hb1 x e
          have := ha1 y e'
          omega
    subst hxy
    rw [rU ha2 hb2 (fun z => ?_)]
    constructor
    · intro hz
      rcases List.mem_cons.1 ((h z).1 (List.mem_cons_of_mem _ hz)) with e | e
      · have := ha1 z hz; omega
      · exact e
    · intro hz
      rcases List.mem_cons.1 ((h z).2 (List.mem_cons_of_mem _ hz)) with e | e
      · have := hb1 z hz; omega
      · exact e
theorem yn {l : Bool} {dg : List UInt8} {x : Int} (hok : okY false l dg x 0) (hX : hasX dg = true) : (yrs false dg x).length = 10 ^ Mk.cnt dg := by
  obtain ⟨_, rfl, _, hl, hd⟩ := ie hok hX
  have hm := qo hl hd
  obtain ⟨h18, _, hokM⟩ := Mk.fJ hm
  have hR := Mk.nk hokM
  have hin := pV hok hX
  have he : yrs false dg 0 = (List.range (10 ^ Mk.cnt dg)).map fun i : Nat => Mk.nth dg.reverse (i : Int) := by
    refine rU (kL false dg 0) ?_ ?_
    · unfold ascI
      rw [List.pairwise_map]
      refine List.Pairwise.imp_of_mem ?_ List.pairwise_lt_range
      intro a b ha hb hab
      have := List.mem_range.1 hb
      refine Mk.mC hR _ _ (by omega) (by omega) ?_
      rw [Mk.iY]
      exact_mod_cast this
    · intro y
      rw [gm hok y, hin y, List.mem_map]
      have hw : wOf false y = y := rfl
      rw [hw]
      constructor
      · rintro ⟨h, _⟩
        obtain ⟨i0, i1, i2⟩ := Mk.pm h
        refine ⟨(Mk.idx dg.reverse y).toNat, List.mem_range.2 ?_, ?_⟩
        · have : ((Mk.idx dg.reverse y).toNat : Int) < 10 ^ Mk.cnt dg := by omega
          exact_mod_cast this
        · show Mk.nth dg.reverse (((Mk.idx dg.reverse y).toNat : Nat) : Int) = y
          rw [show (((Mk.idx dg.reverse y).toNat : Nat) : Int) = Mk.idx dg.reverse y by omega]
          exact i2
      · rintro ⟨i, hi, rfl⟩
        refine ⟨?_, fun h => by cases h⟩
        have hr := Mk.iO hR (i : Int) (by omega)
        rw [List.length_reverse] at hr
        rw [Mk.pJ]
        simp only [Bool.and_eq_true, decide_eq_true_eq]
        exact ⟨hr.1, hr.2, Mk.sX hR _ (by omega)⟩
  rw [he, List.length_map, List.length_range]
theorem sL {Y : Int → Prop} [DecidablePred Y] {m d : List UInt8} : ∀ (r : Nat) (v : Int), tot Y (fun y => (((ed m d y).length : Nat) : Int)) r v = (((allF m d (((List.range' 0 r).map fun j : Nat => v + (j : Int)).filter fun y => decide (Y y))).length : Nat) : Int)
  | 0, v => rfl
  | r + 1, v => by
    have hs : ((List.range' 0 (r + 1)).map fun j : Nat => v + (j : Int)) = v :: ((List.range' 0 r).map fun j : Nat => v + 1 + (j : Int)) := by
      rw [List.range'_succ, List.map_cons]
      congr 1
      · simp
      · rw [show List.range' (0 + 1) r = (List.range' 0 r).map (· + 1) by rw [show (fun x : Nat => x + 1) = (fun x => 1 + x) from funext fun x => by omega, List.map_add_range'], List.map_map]
        apply List.map_congr_left
        intro a _
        simp only [Function.comp]
        omega
    rw [tot, sL r (v + 1), hs]
    by_cases h : Y v
    · rw [if_pos h, List.filter_cons_of_pos (by simpa using h)]
      unfold allF
      rw [List.flatMap_cons, List.length_append]
      omega
    · rw [if_neg h, List.filter_cons_of_neg (by simpa using h), Int.zero_add]
theorem tG (m : List UInt8) : ∀ ys : List Int, (allF m [] ys).length = ys.length * (monI m).length
  | [] => by simp [allF]
  | y :: ys => by
    have ih := tG m ys
    have hy : (ed m [] y).length = (monI m).length := by
      unfold ed
      induction monI m with
      | nil => rfl
      | cons a L ih => rw [List.flatMap_cons, List.length_append, ih, ls, List.length_cons, List.length_cons, List.length_nil]; omega
    unfold allF at ih ⊢
    rw [List.flatMap_cons, List.length_append, ih, hy, List.length_cons, Nat.add_mul, Nat.one_mul]
    omega
section
variable {g l : Bool} {dg : List UInt8} {x q : Int} {m d : List UInt8} {k0 k1 k2 : Int} (hml : m.length ≤ 18) (hdl : dg.length ≤ 100) (h0 : 0 ≤ k0) (h1 : 0 ≤ k1) (h2 : 0 ≤ k2)
include hml hdl h0 h1 h2
theorem wK (he : errF g l dg x q m d k0 k1 k2 = 0) : aV 20000000 g l dg x q m d k0 k1 k2 = some ((((allD g dg x m d).length : Nat) : Int), 0) := by
  obtain ⟨rfl, R⟩ := ci he
  have hal := ln R.ok m d
  rcases ub (g := g) (l := l) (x := x) (q := 0) (d := d) hml hdl h0 h1 h2 with ⟨h, _⟩ | ⟨_, ⟨rfl, rfl, hX⟩, h⟩ | ⟨_, _, lo, hi, hb, hw, h⟩
  · exact absurd he h
  · rw [h]
    unfold allD at hal ⊢
    rw [tG, yn R.ok hX] at hal ⊢
    have hc : ((10 ^ Mk.cnt dg * (monI m).length : Nat) : Int) = 10 ^ Mk.cnt dg * (((monI m).length : Nat) : Int) := by
      rw [Int.natCast_mul]
      congr 1
    rw [← hc, wrap_i64 _ (by omega) (by omega)]
  · rw [h, sL]
    congr 4
    unfold allD
    congr 1
    refine rU ?_ (kL g dg x) fun y => ?_
    · unfold ascI
      refine List.Pairwise.filter _ ?_
      rw [List.pairwise_map]
      refine List.Pairwise.imp ?_ (List.pairwise_lt_range' 1)
      intro a b h
      omega
    · rw [gm R.ok y, List.mem_filter, decide_eq_true_eq, List.mem_map]
      constructor
      · exact fun h => h.2
      · intro h
        have := hb y h
        exact ⟨⟨(y - lo).toNat, List.mem_range'_1.2 (by omega), by omega⟩, h⟩
def outE (o : Option (Int × Int × Int)) : Int × Int × Int × Int := o.elim (0, 0, 0, 0) fun z => (z.1, z.2.1, z.2.2, 0)
theorem vu (he : errF g l dg x q m d k0 k1 k2 = 0) : bU 20000000 g l dg x q m d k0 k1 k2 = some (outE (allD g dg x m d)[0]?) := by
  obtain ⟨rfl, R⟩ := ci he
  unfold bU
  rcases xw hml hdl h0 h1 h2 (-9223372036854775808) 0 0 (by omega) true with ⟨h, _⟩ | ⟨_, o, h, hs⟩
  · exact absurd he h
  · have := mI (up := true) R.dm (gm R.ok) (kL g dg x) hs
    rw [h, this, cond_true]
    show ob (some (outE ((allD g dg x m d).find? (seen true (aB m d) (-9223372036854775808, 0, 0))))) _ = _
    have hf : (allD g dg x m d).find? (seen true (aB m d) (-9223372036854775808, 0, 0)) = (allD g dg x m d)[0]? := by
      cases hL : allD g dg x m d with
      | nil => rfl
      | cons z L =>
        rw [List.find?_cons_of_pos]
        · rfl
        · have hz : z ∈ allD g dg x m d := by rw [hL]; exact List.mem_cons_self
          obtain ⟨y, hy, hzy⟩ := List.mem_flatMap.1 hz
          have c := jH ((gm R.ok y).1 hy)
          unfold cO at c
          have e1 := (fW.1 hzy).1
          unfold seen
          simp only [cond_true, decide_eq_true_eq, fR]
          omega
    rw [hf]; rfl
theorem yf (he : errF g l dg x q m d k0 k1 k2 = 0) : fE 20000000 g l dg x q m d k0 k1 k2 = some (outE (allD g dg x m d).getLast?) := by
  obtain ⟨rfl, R⟩ := ci he
  unfold fE
  rcases xw hml hdl h0 h1 h2 9223372036854775807 0 0 (by omega) false with ⟨h, _⟩ | ⟨_, o, h, hs⟩
  · exact absurd he h
  · have := mI (up := false) R.dm (gm R.ok) (kL g dg x) hs
    rw [h, this, cond_false]
    show ob (some (outE ((allD g dg x m d).reverse.find? (seen false (aB m d) (9223372036854775807, 0, 0))))) _ = _
    have hf : (allD g dg x m d).reverse.find? (seen false (aB m d) (9223372036854775807, 0, 0)) = (allD g dg x m d).getLast? := by
      rw [List.getLast?_eq_head?_reverse]
      cases hL : (allD g dg x m d).reverse with
      | nil => rfl
      | cons z L =>
        rw [List.find?_cons_of_pos]
        · rfl
        · have hz : z ∈ allD g dg x m d := by rw [← List.mem_reverse, hL]; exact List.mem_cons_self
          obtain ⟨y, hy, hzy⟩ := List.mem_flatMap.1 hz
          have c := jH ((gm R.ok y).1 hy)
          unfold cO at c
          have e1 := (fW.1 hzy).1
          unfold seen
          simp only [cond_false, decide_eq_true_eq, ij]
          omega
    rw [hf]; rfl
end
theorem B8 {g l : Bool} {dg : List UInt8} {x q : Int} {m d : List UInt8} {k0 k1 k2 : Int} (he : errF g l dg x q m d k0 k1 k2 = 0) : allD g dg x m d ≠ [] := by
  obtain ⟨rfl, R⟩ := ci he
  have hF : chkF g l dg x 0 m d k0 k1 k2 = 0 := by
    unfold errF at he
    by_cases h : chkF g l dg x 0 m d k0 k1 k2 = 0
    · exact h
    · rw [if_neg h] at he; exact absurd he h
  have hy : ∃ y, inP g dg x 0 y ∧ ed m d y ≠ [] := by
    by_cases hd : d = []
    · subst hd
      obtain ⟨s1, _, _⟩ := pO R.ok
      refine ⟨_, s1, ?_⟩
      unfold ed
      obtain ⟨a, L, hm⟩ := List.exists_cons_of_ne_nil R.mne
      rw [hm, List.flatMap_cons, ls]
      simp
    · unfold chkF at hF
      split at hF
      · cases hF
      · rename_i hn
        by_cases h : hasF g dg x m d
        · exact h
        · exact absurd ⟨hF, hd, h⟩ hn
  obtain ⟨y, y1, y2⟩ := hy
  obtain ⟨z, L, hz⟩ := List.exists_cons_of_ne_nil y2
  intro h
  have : z ∈ allD g dg x m d := List.mem_flatMap.2 ⟨y, (gm R.ok y).2 y1, by rw [hz]; exact List.mem_cons_self⟩
  rw [h] at this
  cases this
def bhd (k : Nat) (c : Int × Int × Int) (b : Int) : Int × Int × Int := if k = 1 then (c.1 + b, c.2.1, c.2.2) else if k = 2 then (c.1, c.2.1 + b, c.2.2) else (c.1, c.2.1, c.2.2 + b)
theorem sO {k : Nat} (hk : 1 ≤ k ∧ k ≤ 3) (z c : Int × Int × Int) : cmpC k z (bhd k c 1) < 0 ↔ ¬ 0 < cmpC k z c := by
  rw [fR, ij]
  unfold bhd
  have : k = 1 ∨ k = 2 ∨ k = 3 := by omega
  rcases this with rfl | rfl | rfl <;> simp <;> omega
theorem uk {k : Nat} (hk : 1 ≤ k ∧ k ≤ 3) (z c : Int × Int × Int) : 0 < cmpC k z (bhd k c (-1)) ↔ ¬ cmpC k z c < 0 := by
  rw [fR, ij]
  unfold bhd
  have : k = 1 ∨ k = 2 ∨ k = 3 := by omega
  rcases this with rfl | rfl | rfl <;> simp <;> omega
theorem lf (k : Nat) (c : Int × Int × Int) : cmpC k c c = 0 := by
  rw [sQ]
  exact ⟨rfl, fun _ => ⟨rfl, fun _ => rfl⟩⟩
theorem xF {k : Nat} {a b : Int × Int × Int} : cmpC k a b < 0 ↔ 0 < cmpC k b a := by
  rw [fR, ij]
  constructor
  all_goals intro h; rcases h with h | ⟨h1, h2, h3⟩
  · exact .inl h
  · refine .inr ⟨h1.symm, h2, ?_⟩
    omega
  · exact .inl h
  · refine .inr ⟨h1.symm, h2, ?_⟩
    omega
theorem lK {k : Nat} {L : List (Int × Int × Int)} (hs : nD k L) {i : Nat} (hi : i < L.length) : Place k L L[i] i := by
  refine ⟨by omega, fun j hj hji => qk hs hji hi, fun _ => ?_, fun j hj hij => xF.1 (qk hs hij hj)⟩
  rw [lf]; omega
theorem ma {k : Nat} (hk : 1 ≤ k ∧ k ≤ 3) {L : List (Int × Int × Int)} (hs : nD k L) {i : Nat} (hi : i < L.length) : Place k L (bhd k L[i] 1) (i + 1) := by
  have P := lK hs hi
  have hlo : ∀ j (hj : j < L.length), i < j → ¬ cmpC k L[j] (bhd k L[i] 1) < 0 := fun j hj hij => by
    rw [sO hk]
    have := P.hi j hj hij
    omega
  refine ⟨by omega, fun j hj hji => ?_, fun h => hlo _ h (by omega), fun j hj hij => Cc (qk hs hij hj) (hlo (i + 1) (by omega) (by omega))⟩
  rw [sO hk]
  by_cases h : j = i
  · subst h; rw [lf]; omega
  · have := P.lo j hj (by omega)
    omega
theorem nj {k : Nat} (hk : 1 ≤ k ∧ k ≤ 3) {L : List (Int × Int × Int)} (hs : nD k L) {i : Nat} (hi : i < L.length) : L.reverse.find? (seen false k (bhd k L[i] (-1))) = if i = 0 then none else L[i - 1]? := by
  have P := lK hs hi
  have hge : ∀ j (hj : j < L.length), i ≤ j → 0 < cmpC k L[j] (bhd k L[i] (-1)) := fun j hj hij => by
    rw [uk hk]
    by_cases h : j = i
    · subst h; rw [lf]; omega
    · have := P.hi j hj (by omega)
      omega
  by_cases h0 : i = 0
  · rw [if_pos h0]
    exact uB fun j hj => decide_eq_false (fun hn => hn (hge j hj (by omega)))
  · rw [if_neg h0, List.getElem?_eq_getElem (show i - 1 < L.length by omega)]
    refine tX (by omega) (decide_eq_true ?_) fun j hj hij => decide_eq_false (fun hn => hn (hge j hj (by omega)))
    rw [uk hk]
    have := P.lo (i - 1) (by omega) (by omega)
    omega
theorem Ae (m : List UInt8) : 0 ≤ sea m ∧ sea m ≤ 41 := by
  rcases iH m with h | ⟨j, hj, rfl⟩
  · omega
  · rw [lS hj]; omega
theorem o5 {s : List UInt8} {g : Nat} {k : Int} (h : k ∈ jL (fitN s g)) : 1 ≤ k ∧ k ≤ (g : Int) := by
  obtain ⟨i, hi, rfl⟩ := List.mem_map.1 h
  have := List.mem_range'_1.1 (List.mem_filter.1 hi).1
  omega
theorem rt {g l : Bool} {dg : List UInt8} {x : Int} (hok : okY g l dg x 0) {m d : List UInt8} {z : Int × Int × Int} (hz : z ∈ allD g dg x m d) : (-10000000000000000 ≤ z.1 ∧ z.1 ≤ 10000000000000000) ∧ (0 ≤ z.2.1 ∧ z.2.1 ≤ 41) ∧ (0 ≤ z.2.2 ∧ z.2.2 ≤ 31) := by
  obtain ⟨y, hy, hzy⟩ := List.mem_flatMap.1 hz
  have c := jH ((gm hok y).1 hy)
  obtain ⟨e1, e2, e3, _⟩ := fW.1 hzy
  unfold cO at c
  refine ⟨by omega, ?_, ?_⟩
  · unfold monI at e2
    split at e2
    · rw [List.mem_singleton] at e2; omega
    · split at e2
      · rw [List.mem_singleton] at e2
        have := Ae m
        omega
      · have := o5 e2; omega
  · unfold dayI at e3
    split at e3
    · rw [List.mem_singleton] at e3; omega
    · have := o5 e3; omega
theorem lw (g l : Bool) (dg : List UInt8) (x q : Int) (m d : List UInt8) (k0 k1 k2 : Int) {c : Int × Int × Int} (hc : (-10000000000000000 ≤ c.1 ∧ c.1 ≤ 10000000000000000) ∧ (0 ≤ c.2.1 ∧ c.2.1 ≤ 41) ∧ (0 ≤ c.2.2 ∧ c.2.2 ≤ 31)) {b : Int} (hb : -1 ≤ b ∧ b ≤ 1) :
    bP 20000000 g l dg x q m d k0 k1 k2 c.1 c.2.1 c.2.2 b = some (bhd (aB m d) c b) := by
  have hk := iF m d
  unfold bP
  rw [de, wrap_i64 (c.1 + b) (by omega) (by omega), wrap_i64 (c.2.1 + b) (by omega) (by omega), wrap_i64 (c.2.2 + b) (by omega) (by omega)]
  unfold bhd
  have : aB m d = 1 ∨ aB m d = 2 ∨ aB m d = 3 := by omega
  rcases this with h | h | h <;> rw [h] <;> rfl
theorem uC {X Y : Type} {step : X → Option (X ⊕ Y)} {f : Nat → X} {y : Y} {lo hi : Nat} (h : ∀ i, lo ≤ i → i < hi → step (f i) = some (.inl (f (i + 1)))) (he : step (f hi) = some (.inr y)) (hlh : lo ≤ hi) {N : Nat} (hN : hi - lo < N) :
    af step N (f lo) = some y := by
  have go : ∀ (r i : Nat), i + r = hi → lo ≤ i → ∀ N, r < N → af step N (f i) = some y := by
    intro r
    induction r with
    | zero =>
      intro i hi' _ N hN
      obtain ⟨N, rfl⟩ : ∃ q, N = q + 1 := ⟨N - 1, by omega⟩
      obtain rfl : i = hi := by omega
      rw [af, he]
    | succ r ih =>
      intro i hi' hlo N hN
      obtain ⟨N, rfl⟩ : ∃ q, N = q + 1 := ⟨N - 1, by omega⟩
      rw [af, h i hlo (by omega)]
      exact ih (i + 1) (by omega) (by omega) N (by omega)
  exact go (hi - lo) lo (by omega) (Nat.le_refl _) N hN
theorem BP {g l : Bool} {dg : List UInt8} {x q : Int} {m d : List UInt8} {k0 k1 k2 : Int} {L : List (Int × Int × Int)} {i : Nat} {c : Int × Int × Int} (E a0 a1 a2 b0 b1 b2 : Int) (hi : L[i]? = some c)
    (hH : dR 20000000 g l dg x q m d k0 k1 k2 c.1 c.2.1 c.2.2 = some true) :
    bH 20000000 E (i : Int) true 0 true 0 g l dg x q m d k0 k1 k2 L a0 a1 a2 b0 b1 b2 c.1 c.2.1 c.2.2 c.1 c.2.1 c.2.2 = some (E, (i : Int), false, g, l, dg, x, q, m, d, k0, k1, k2, L, a0, a1, a2, b0, b1, b2, c.1, c.2.1, c.2.2, c.1, c.2.1, c.2.2) := by
  have hl := (List.getElem?_eq_some_iff.1 hi).1
  unfold bH
  simp only [bne_self_eq_false, cond_false, Bool.not_true, bv hl, ob, hi, BEq.rfl, Bool.and_self, hH]
theorem Cp (g l : Bool) (dg : List UInt8) (x q : Int) (m d : List UInt8) (k0 k1 k2 : Int) {L : List (Int × Int × Int)} {i : Nat} {c c' : Int × Int × Int} (E a0 a1 a2 b0 b1 b2 : Int) (hi : L[i]? = some c) (hi' : L[i + 1]? = some c') (hL : L.length ≤ 10001000) :
    bI 20000000 E (i : Int) true true g l dg x q m d k0 k1 k2 L a0 a1 a2 b0 b1 b2 c'.1 c'.2.1 c'.2.2 c.1 c.2.1 c.2.2 = some (E, (i : Int), false, g, l, dg, x, q, m, d, k0, k1, k2, L, a0, a1, a2, b0, b1, b2) := by
  have hl := (List.getElem?_eq_some_iff.1 hi).1
  have hl' := (List.getElem?_eq_some_iff.1 hi').1
  have w1 : IntKind.wrap .i64 ((i : Int) + 1) = ((i + 1 : Nat) : Int) := by rw [wrap_i64 _ (by omega) (by omega)]; omega
  unfold bI
  simp only [w1, cond_false, Bool.not_true, bv hl, bv hl', ob, hi, hi', BEq.rfl, Bool.and_self]
section
variable {g l : Bool} {dg : List UInt8} {x : Int} {m d : List UInt8} {k0 k1 k2 : Int} (hml : m.length ≤ 18) (hdl : dg.length ≤ 100) (h0 : 0 ≤ k0) (h1 : 0 ≤ k1) (h2 : 0 ≤ k2)
include hml hdl h0 h1 h2
theorem AN (he : errF g l dg x 0 m d k0 k1 k2 = 0) (E a0 a1 a2 b0 b1 b2 : Int) {i : Nat} (hi : i < (allD g dg x m d).length) (hE : (i : Int) < E) :
    aF 20000000 (E, (i : Int), g, l, dg, x, 0, m, d, k0, k1, k2, allD g dg x m d, a0, a1, a2, b0, b1, b2) = some (.inl (E, ((i + 1 : Nat) : Int), g, l, dg, x, 0, m, d, k0, k1, k2, allD g dg x m d, a0, a1, a2, b0, b1, b2)) := by
  obtain ⟨_, R⟩ := ci he
  have hs := oW (g := g) (dg := dg) (x := x) R.dm
  have hal := ln R.ok m d
  have small := fun (z : Int × Int × Int) (hz : z ∈ allD g dg x m d) => rt R.ok hz
  have hk := iF m d
  have P := lK hs hi
  have hN := fun (c : Int × Int × Int) (hc : -9223372036854775808 ≤ c.1 ∧ c.1 < 9223372036854775808) => tc hml hdl h0 h1 h2 he c.1 c.2.1 c.2.2 hc
  have hP := fun (c : Int × Int × Int) (hc : -9223372036854775808 ≤ c.1 ∧ c.1 < 9223372036854775808) => t6 hml hdl h0 h1 h2 he c.1 c.2.1 c.2.2 hc
  have hH := fun (c : Int × Int × Int) (hc : -9223372036854775808 ≤ c.1 ∧ c.1 < 9223372036854775808) => Bi hml hdl h0 h1 h2 he c.1 c.2.1 c.2.2 hc
  generalize allD g dg x m d = L at *
  have hiL : L[i]? = some L[i] := List.getElem?_eq_getElem hi
  have sm := small L[i] (List.getElem_mem hi)
  have w1 : IntKind.wrap .i64 ((i : Int) + 1) = ((i + 1 : Nat) : Int) := by rw [wrap_i64 _ (by omega) (by omega)]; omega
  have n1 := hN L[i] (by omega)
  have p1 := hP L[i] (by omega)
  have q1 := hH L[i] (by omega)
  have e3 : ∀ c : Int × Int × Int, (c.1, c.2.1, c.2.2) = c := fun c => rfl
  rw [e3, lN P, hiL] at n1
  rw [e3, qa P hi (lf _ _)] at p1
  rw [e3, (vF P).2 ⟨hi, lf _ _⟩] at q1
  unfold aF
  simp only [d4, d8, d16]
  rw [decide_eq_true hE]
  simp only [cond_true, bv hi, ob, hiL, n1, p1, outN, Option.elim, d4]
  rw [BP E a0 a1 a2 b0 b1 b2 hiL q1]
  simp only [d4, d8, d16, cond_false, w1]
  unfold cP
  by_cases hi1 : i + 1 < L.length
  · have hiL' : L[i + 1]? = some L[i + 1] := List.getElem?_eq_getElem hi1
    have sm' := small L[i + 1] (List.getElem_mem hi1)
    have bb : ∀ c b, ((-10000000000000000 ≤ c.1 ∧ c.1 ≤ 10000000000000000) ∧ (0 ≤ c.2.1 ∧ c.2.1 ≤ 41) ∧ (0 ≤ c.2.2 ∧ c.2.2 ≤ 31)) → -1 ≤ b ∧ b ≤ 1 → -9223372036854775808 ≤ (bhd (aB m d) c b).1 ∧ (bhd (aB m d) c b).1 < 9223372036854775808 := fun c b hc hb => by
      unfold bhd
      split
      · show -9223372036854775808 ≤ c.1 + b ∧ c.1 + b < 9223372036854775808
        omega
      · split
        · show -9223372036854775808 ≤ c.1 ∧ c.1 < 9223372036854775808
          omega
        · show -9223372036854775808 ≤ c.1 ∧ c.1 < 9223372036854775808
          omega
    have n2 := hN (bhd (aB m d) L[i] 1) (bb _ _ sm (by omega))
    have p2 := hP (bhd (aB m d) L[i + 1] (-1)) (bb _ _ sm' (by omega))
    rw [e3, lN (ma ⟨hk.1, hk.2⟩ hs hi), hiL'] at n2
    rw [e3, nj ⟨hk.1, hk.2⟩ hs hi1, if_neg (by omega), Nat.add_sub_cancel, hiL] at p2
    rw [decide_eq_true (show ((i + 1 : Nat) : Int) < ((L.length : Nat) : Int) by omega)]
    simp only [cond_true, bv hi, bv hi1, ob, hiL, hiL', w1, lw g l dg x 0 m d k0 k1 k2 sm (show (-1 : Int) ≤ 1 ∧ (1 : Int) ≤ 1 by omega), lw g l dg x 0 m d k0 k1 k2 sm' (show (-1 : Int) ≤ -1 ∧ (-1 : Int) ≤ 1 by omega), n2, p2, outN, Option.elim]
    rw [Cp g l dg x 0 m d k0 k1 k2 E a0 a1 a2 b0 b1 b2 hiL hiL' hal]
    simp only [d4, d8, d16, cond_false, w1]
  · rw [decide_eq_false (show ¬ ((i + 1 : Nat) : Int) < ((L.length : Nat) : Int) by omega)]
    simp only [cond_false, ob, d4, d8, d16, w1]
theorem AE (he : errF g l dg x 0 m d k0 k1 k2 = 0) (a0 a1 a2 b0 b1 b2 : Int) {lo hi : Nat} (hlh : lo ≤ hi) (hh : hi ≤ (allD g dg x m d).length) :
    af (aF 20000000) 20000000 ((hi : Int), (lo : Int), g, l, dg, x, 0, m, d, k0, k1, k2, allD g dg x m d, a0, a1, a2, b0, b1, b2) = some (.inr (g, l, dg, x, 0, m, d, k0, k1, k2, a0, a1, a2, b0, b1, b2)) := by
  obtain ⟨_, R⟩ := ci he
  have hal := ln R.ok m d
  exact uC (step := aF 20000000) (f := fun i => ((hi : Int), (i : Int), g, l, dg, x, 0, m, d, k0, k1, k2, allD g dg x m d, a0, a1, a2, b0, b1, b2)) (lo := lo) (hi := hi)
    (fun i hi1 hi2 => AN hml hdl h0 h1 h2 he (hi : Int) a0 a1 a2 b0 b1 b2 (by omega) (by omega))
    (by
      unfold aF
      simp only [d4, d8, d16]
      rw [decide_eq_false (show ¬ (hi : Int) < (hi : Int) by omega)]
      rfl)
    hlh (by omega)
theorem Cf (he : errF g l dg x 0 m d k0 k1 k2 = 0) (hF : chkF g l dg x 0 m d k0 k1 k2 = 0) (w : Int) {a b : Int × Int × Int} (ha : (allD g dg x m d)[0]? = some a) (hb : (allD g dg x m d)[(allD g dg x m d).length - 1]? = some b) :
    bE 20000000 w (((allD g dg x m d).length : Nat) : Int) 0 0 0 g l dg x 0 m d k0 k1 k2 (allD g dg x m d) a.1 a.2.1 a.2.2 b.1 b.2.1 b.2.2 = some (w, false, g, l, dg, x, 0, m, d, k0, k1, k2, allD g dg x m d, a.1, a.2.1, a.2.2, b.1, b.2.1, b.2.2) := by
  obtain ⟨_, R⟩ := ci he
  have hal := ln R.ok m d
  have hl := (List.getElem?_eq_some_iff.1 ha).1
  have hl' := (List.getElem?_eq_some_iff.1 hb).1
  have x0 : ix (allD g dg x m d).length 0 = some 0 := bv (i := 0) hl
  have x1 : ix (allD g dg x m d).length (IntKind.wrap .i64 ((((allD g dg x m d).length : Nat) : Int) - 1)) = some ((allD g dg x m d).length - 1) := by
    rw [wrap_i64 _ (by omega) (by omega), show (((allD g dg x m d).length : Nat) : Int) - 1 = (((allD g dg x m d).length - 1 : Nat) : Int) by omega]
    exact bv hl'
  have w0 : (IntKind.wrap .i64 (IntKind.wrap .i64 (0 + 0) + 0) != 0) = false := rfl
  unfold bE
  rw [pp hml hdl h0 h1 h2, hF]
  simp only [ob, bne_self_eq_false, cond_false, w0, x0, x1, ha, hb, BEq.rfl, Bool.and_self, Bool.not_true]
end
theorem om (a0 a2 a3 a4 a5 a6 a7 a8 a9 w : Nat) (g : Bool) (h2 : a2 < 65536) (h3 : a3 < 256) (h4 : a4 < 256) (h5 : a5 < 256) (h6 : a6 < 256) (h7 : a7 < 256) (h8 : a8 < 256) (h9 : a9 < 256) (hw : w < 65536) :
    bM 20000000 (a0 : Int) g (a2 : Int) (a3 : Int) (a4 : Int) (a5 : Int) (a6 : Int) (a7 : Int) (a8 : Int) (a9 : Int) (w : Int) = some true := by
  obtain ⟨g', l, dg, x, q, mo, d, k0, k1, k2, e, hc, hok, hf⟩ := BO 19999700 a0 a2 a3 a4 a5 a6 a7 a8 a9 g h2 h3 h4 h5 h6 h7 h8 h9
  rw [show 19999700 + 300 = 20000000 from rfl] at e
  have hml : mo.length ≤ 18 := by
    rcases hok.mon with h | h
    · rw [h]; simp
    · omega
  have hdl : dg.length ≤ 100 := by have := hok.dg17; omega
  have n0 : (0 : Int) ≤ ((k0 : Nat) : Int) := by omega
  have n1 : (0 : Int) ≤ ((k1 : Nat) : Int) := by omega
  have n2 : (0 : Int) ≤ ((k2 : Nat) : Int) := by omega
  have hF := sI hc hf
  have hE := ye hc hf
  unfold bM
  rw [e]
  simp only [ob, d4, d8]
  by_cases hq : 0 < ((q : Nat) : Int)
  · rw [if_pos hq] at hE
    have he : errF g' l dg (x : Int) (q : Int) mo d (k0 : Int) (k1 : Int) (k2 : Int) ≠ 0 := by omega
    obtain ⟨cv, hC⟩ := qE (g := g') (l := l) (x := (x : Int)) (q := (q : Int)) (d := d) hml hdl n0 n1 n2
    obtain ⟨fa, fb, fc, hFi⟩ := xV (g := g') (l := l) (x := (x : Int)) (q := (q : Int)) (d := d) hml hdl n0 n1 n2
    have civ : aC 20000000 0 0 0 = some (0, 0, 0) := rfl
    rw [decide_eq_true (show ((q : Nat) : Int) > 0 from hq), hC, hFi, civ]
    simp only [ob, cond_true]
    rw [y6 hml hdl n0 n1 n2 he 0 0 0 (by omega), hE]
    simp only [ob, outN, Option.elim, d4]
    unfold da
    rw [pp hml hdl n0 n1 n2, hF, tg]
    rfl
  · rw [if_neg hq] at hE
    obtain ⟨hq0, R⟩ := ci hE
    simp only [hq0] at hE hF ⊢
    have hne := B8 hE
    have hal := ln R.ok mo d
    have small := fun (z : Int × Int × Int) (hz : z ∈ allD g' dg (x : Int) mo d) => rt R.ok hz
    have hs := oW (g := g') (dg := dg) (x := (x : Int)) R.dm
    have hk := iF mo d
    have hp : 0 < (allD g' dg (x : Int) mo d).length := List.length_pos_iff.2 hne
    rw [decide_eq_false (show ¬ (0 : Int) > 0 by omega), Ah R.ok, wK hml hdl n0 n1 n2 hE, vu hml hdl n0 n1 n2 hE, yf hml hdl n0 n1 n2 hE, List.getLast?_eq_getElem?]
    have ha : (allD g' dg (x : Int) mo d)[0]? = some (allD g' dg (x : Int) mo d)[0] := List.getElem?_eq_getElem hp
    have hb : (allD g' dg (x : Int) mo d)[(allD g' dg (x : Int) mo d).length - 1]? = some (allD g' dg (x : Int) mo d)[(allD g' dg (x : Int) mo d).length - 1] := List.getElem?_eq_getElem (by omega)
    have j12 := Cf hml hdl n0 n1 n2 hE hF (w : Int) ha hb
    have loop := fun (lo hi : Nat) (h1 : lo ≤ hi) (h2 : hi ≤ (allD g' dg (x : Int) mo d).length) => AE hml hdl n0 n1 n2 hE (allD g' dg (x : Int) mo d)[0].1 (allD g' dg (x : Int) mo d)[0].2.1 (allD g' dg (x : Int) mo d)[0].2.2 (allD g' dg (x : Int) mo d)[(allD g' dg (x : Int) mo d).length - 1].1 (allD g' dg (x : Int) mo d)[(allD g' dg (x : Int) mo d).length - 1].2.1 (allD g' dg (x : Int) mo d)[(allD g' dg (x : Int) mo d).length - 1].2.2 h1 h2
    have bb : ∀ c b, ((-10000000000000000 ≤ c.1 ∧ c.1 ≤ 10000000000000000) ∧ (0 ≤ c.2.1 ∧ c.2.1 ≤ 41) ∧ (0 ≤ c.2.2 ∧ c.2.2 ≤ 31)) → -1 ≤ b ∧ b ≤ 1 → -9223372036854775808 ≤ (bhd (aB mo d) c b).1 ∧ (bhd (aB mo d) c b).1 < 9223372036854775808 := fun c b hc hb => by
      unfold bhd
      split
      · show -9223372036854775808 ≤ c.1 + b ∧ c.1 + b < 9223372036854775808
        omega
      · split
        · show -9223372036854775808 ≤ c.1 ∧ c.1 < 9223372036854775808
          omega
        · show -9223372036854775808 ≤ c.1 ∧ c.1 < 9223372036854775808
          omega
    have e3 : ∀ c : Int × Int × Int, (c.1, c.2.1, c.2.2) = c := fun c => rfl
    have hN : ∀ c : Int × Int × Int, -9223372036854775808 ≤ c.1 ∧ c.1 < 9223372036854775808 → _ := fun c hc => tc hml hdl n0 n1 n2 hE c.1 c.2.1 c.2.2 hc
    have hP : ∀ c : Int × Int × Int, -9223372036854775808 ≤ c.1 ∧ c.1 < 9223372036854775808 → _ := fun c hc => t6 hml hdl n0 n1 n2 hE c.1 c.2.1 c.2.2 hc
    have sa := small _ (List.getElem_mem hp)
    have sb := small _ (List.getElem_mem (show (allD g' dg (x : Int) mo d).length - 1 < (allD g' dg (x : Int) mo d).length by omega))
    have nb := hN (bhd (aB mo d) (allD g' dg (x : Int) mo d)[(allD g' dg (x : Int) mo d).length - 1] 1) (bb _ _ sb (by omega))
    have pa := hP (bhd (aB mo d) (allD g' dg (x : Int) mo d)[0] (-1)) (bb _ _ sa (by omega))
    rw [e3, lN (ma ⟨hk.1, hk.2⟩ hs (by omega)), List.getElem?_eq_none (by omega)] at nb
    rw [e3, nj ⟨hk.1, hk.2⟩ hs hp, if_pos rfl] at pa
    have be1 := lw g' l dg (x : Int) 0 mo d (k0 : Int) (k1 : Int) (k2 : Int) sb (show (-1 : Int) ≤ 1 ∧ (1 : Int) ≤ 1 by omega)
    have be2 := lw g' l dg (x : Int) 0 mo d (k0 : Int) (k1 : Int) (k2 : Int) sa (show (-1 : Int) ≤ -1 ∧ (-1 : Int) ≤ 1 by omega)
    simp only [cond_false, ob, ha, hb, outE, Option.elim]
    rw [j12]
    simp only [ob, cond_false, d4, d8, d16]
    have j17 : ∃ lo hi : Nat, lo ≤ hi ∧ hi ≤ (allD g' dg (x : Int) mo d).length ∧ bD 20000000 (w : Int) (((allD g' dg (x : Int) mo d).length : Nat) : Int) (decide ((((allD g' dg (x : Int) mo d).length : Nat) : Int) > 400)) g' l dg (x : Int) 0 mo d (k0 : Int) (k1 : Int) (k2 : Int) (allD g' dg (x : Int) mo d) (allD g' dg (x : Int) mo d)[0].1 (allD g' dg (x : Int) mo d)[0].2.1 (allD g' dg (x : Int) mo d)[0].2.2 (allD g' dg (x : Int) mo d)[(allD g' dg (x : Int) mo d).length - 1].1 (allD g' dg (x : Int) mo d)[(allD g' dg (x : Int) mo d).length - 1].2.1 (allD g' dg (x : Int) mo d)[(allD g' dg (x : Int) mo d).length - 1].2.2 = some ((lo : Int), (hi : Int), g', l, dg, (x : Int), (0 : Int), mo, d, (k0 : Int), (k1 : Int), (k2 : Int), (allD g' dg (x : Int) mo d), (allD g' dg (x : Int) mo d)[0].1, (allD g' dg (x : Int) mo d)[0].2.1, (allD g' dg (x : Int) mo d)[0].2.2, (allD g' dg (x : Int) mo d)[(allD g' dg (x : Int) mo d).length - 1].1, (allD g' dg (x : Int) mo d)[(allD g' dg (x : Int) mo d).length - 1].2.1, (allD g' dg (x : Int) mo d)[(allD g' dg (x : Int) mo d).length - 1].2.2) := by
      unfold bD
      by_cases h4 : (((allD g' dg (x : Int) mo d).length : Nat) : Int) > 400
      · rw [decide_eq_true h4, wrap_i64 ((((allD g' dg (x : Int) mo d).length : Nat) : Int) - 100) (by omega) (by omega), wrap_i64 (w : Int) (by omega) (by omega)]
        have hm : Int.tmod (w : Int) ((((allD g' dg (x : Int) mo d).length : Nat) : Int) - 100) = ((w % ((allD g' dg (x : Int) mo d).length - 100) : Nat) : Int) := by
          rw [show (((allD g' dg (x : Int) mo d).length : Nat) : Int) - 100 = (((allD g' dg (x : Int) mo d).length - 100 : Nat) : Int) by omega]; rfl
        have hlt := Nat.mod_lt w (show 0 < (allD g' dg (x : Int) mo d).length - 100 by omega)
        refine ⟨w % ((allD g' dg (x : Int) mo d).length - 100), w % ((allD g' dg (x : Int) mo d).length - 100) + 100, by omega, by omega, ?_⟩
        rw [hm, wrap_i64 _ (by omega) (by omega), beq_eq_false_iff_ne.2 (show (((allD g' dg (x : Int) mo d).length : Nat) : Int) - 100 ≠ 0 by omega)]
        simp only [cond_true, cond_false]
        rw [show ((w % ((allD g' dg (x : Int) mo d).length - 100) : Nat) : Int) + 100 = ((w % ((allD g' dg (x : Int) mo d).length - 100) + 100 : Nat) : Int) by omega]
      · rw [decide_eq_false h4]
        exact ⟨0, (allD g' dg (x : Int) mo d).length, by omega, by omega, rfl⟩
    obtain ⟨lo, hi, hlh, hh, ej⟩ := j17
    rw [ej]
    simp only [ob, d4, d8, d16]
    rw [loop lo hi hlh hh]
    simp only [ob, d4, d8, d16]
    rw [be1]
    simp only [ob]
    rw [nb]
    simp only [ob]
    rw [be2]
    simp only [ob]
    rw [pa]
    simp only [ob, outN, Option.elim]
    unfold cQ
    rw [tg]
    rfl
theorem ae {A B : Type} (a : A) (f : A → Option B) : ob (some a) f = f a := rfl
end Go.Sh
