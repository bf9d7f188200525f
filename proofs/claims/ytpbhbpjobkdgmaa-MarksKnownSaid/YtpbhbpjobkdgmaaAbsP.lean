/- Functions that take addresses: their contract over any memory that holds what they look at.
   Conditions: none; generic over the program. -/
import Derived.Test.YtpbhbpjobkdgmaaAbsO
namespace Go.Abs
variable {P : Program}

/-! ### Other numbers for the blocks -/

mutual
def V.ren (ρ : List Nat) : V → V
  | .p c o => .p (getN ρ c) o
  | .sl c o n m => .sl (getN ρ c) o n m
  | .fn f l => .fn f (V.rens ρ l)
  | .ag l => .ag (V.rens ρ l)
  | .tp l => .tp (V.rens ρ l)
  | .it t v => .it t (V.ren ρ v)
  | .b x => .b x
  | .i k n => .i k n
  | .s l => .s l
  | .pn => .pn
  | .sn => .sn
  | .nf => .nf
  | .ni => .ni
  | .ai k n l => .ai k n l
def V.rens (ρ : List Nat) : List V → List V
  | [] => []
  | v :: l => V.ren ρ v :: V.rens ρ l
end

def Blk.ren (ρ : List Nat) : Blk → Blk
  | .cells l => .cells (V.rens ρ l)
  | b => b

def renH (ρ : List Nat) : List (Nat × Blk) → List (Nat × Blk)
  | [] => []
  | (b, x) :: l => (getN ρ b, x.ren ρ) :: renH ρ l

/-- Where the callee's blocks lie. -/
def inside (ι : Inj) (ρ : List Nat) : Inj := fun b => cond (Nat.blt b ρ.length) (ι (getN ρ b)) none

theorem inside_lt {ι : Inj} {ρ : List Nat} {b : Nat} (h : b < ρ.length) : inside ι ρ b = ι (getN ρ b) := by
  have : Nat.blt b ρ.length = true := Nat.ble_eq_true_of_le h
  simp [inside, this]

theorem inside_some {ι : Inj} {ρ : List Nat} {b r : Nat} (h : inside ι ρ b = some r) : b < ρ.length ∧ ι (getN ρ b) = some r := by
  unfold inside at h
  cases hb : Nat.blt b ρ.length with
  | true => rw [hb] at h; exact ⟨Nat.le_of_ble_eq_true hb, h⟩
  | false => rw [hb] at h; cases h

mutual
theorem VR.ren {ι : Inj} {ρ : List Nat} : ∀ (v : V) (x : Value), V.lt ρ.length v = true → (VR ι (V.ren ρ v) x ↔ VR (inside ι ρ) v x)
  | .b _, _, _ | .i _ _, _, _ | .s _, _, _ | .pn, _, _ | .sn, _, _ | .nf, _, _ | .ni, _, _ | .ai _ _ _, _, _ => by simp [V.ren, VR]
  | .p c o, x, h => by
    simp only [V.lt] at h
    simp only [V.ren, VR, inside_lt (ι := ι) (Nat.le_of_ble_eq_true h : c < ρ.length)]
  | .sl c o n m, x, h => by
    simp only [V.lt] at h
    simp only [V.ren, VR, inside_lt (ι := ι) (Nat.le_of_ble_eq_true h : c < ρ.length)]
  | .fn f l, x, h => by
    simp only [V.lt] at h
    simp only [V.ren, VR]
    exact exists_congr fun cs => and_congr_right fun _ => VRs.ren l cs.toList h
  | .it t v, x, h => by
    simp only [V.lt] at h
    simp only [V.ren, VR]
    exact exists_congr fun y => and_congr_right fun _ => VR.ren v y h
  | .ag l, x, h => by
    simp only [V.lt] at h
    simp only [V.ren, VR]
    exact exists_congr fun cs => and_congr_right fun _ => VRs.ren l cs.toList h
  | .tp l, x, h => by
    simp only [V.lt] at h
    simp only [V.ren, VR]
    exact exists_congr fun cs => and_congr_right fun _ => VRs.ren l cs.toList h
theorem VRs.ren {ι : Inj} {ρ : List Nat} : ∀ (l : List V) (xs : List Value), V.lts ρ.length l = true → (VRs ι (V.rens ρ l) xs ↔ VRs (inside ι ρ) l xs)
  | [], _, _ => by simp [V.rens, VRs]
  | v :: l, xs, h => by
    simp only [V.lts, Bool.and_eq_true] at h
    simp only [V.rens, VRs]
    exact exists_congr fun y => exists_congr fun ys => and_congr_right fun _ => and_congr (VR.ren v y h.1) (VRs.ren l ys h.2)
end

theorem BR.ren {ι : Inj} {ρ : List Nat} : ∀ {blk : Blk} {o : Obj}, Blk.lt ρ.length blk = true → (BR ι (blk.ren ρ) o ↔ BR (inside ι ρ) blk o)
  | .dead, _, _ | .ints _ _ _, _, _ | .iter _ _, _, _ => by simp [Blk.ren, BR]
  | .cells l, o, h => by
    simp only [Blk.lt] at h
    simp only [Blk.ren, BR]
    exact exists_congr fun cs => exists_congr fun e => exists_congr fun fr => and_congr_right fun _ => and_congr_left fun _ => VRs.ren l cs.toList h

/-! ### The contract -/

/-- How a function that takes addresses ends: its value (or its panic), and the blocks that it may have written. -/
structure FOut where
  pan : Bool
  val : V
  H : List (Nat × Blk)

def FunOK (P : Program) (f : Nat) (args : List V) (H0 : List (Nat × Blk)) (m ro : Nat) (out : FOut) : Prop :=
  ∀ (ι0 : Inj) (w : World) (xs : Array Value), WR ι0 H0 m w → VRs ι0 args xs.toList →
    Calls P f xs w fun e w' => WR ι0 out.H m w' ∧ Fr (roI ι0 ro) w w' ∧ RetR ι0 { val := out.val, pan := out.pan } e

/-- The blocks with these numbers, each there. -/
def allIn (H : List (Nat × Blk)) : Nat → Bool
  | 0 => true
  | m + 1 => (match look H m with | some .dead => false | some _ => true | none => false) && allIn H m

theorem allIn_spec {H : List (Nat × Blk)} : ∀ {m : Nat}, allIn H m = true → ∀ b, b < m → ∃ blk, look H b = some blk ∧ blk ≠ .dead
  | 0, _, b, hb => by omega
  | m + 1, h, b, hb => by
    simp only [allIn, Bool.and_eq_true] at h
    by_cases hbm : b = m
    · subst hbm
      have h1 := h.1
      split at h1
      · cases h1
      · rename_i blk hn hl; exact ⟨blk, hl, fun e => hn (by rw [e])⟩
      · cases h1
    · exact allIn_spec h.2 b (by omega)

/-- What stands behind the body: value and written blocks, read as data. -/
def funX {R : Type} (ws : List Nat) (m ro : Nat) (un : Bool → V → List (Nat × Blk) → Option R) : Bool → V → St → Option R :=
  fun pan v s => match V.lt m v && Nat.beq s.ro ro with
    | true => keepH m s.H ws fun H => un pan v H
    | false => none

theorem funX_ok {R : Type} {ws : List Nat} {m ro : Nat} {un : Bool → V → List (Nat × Blk) → Option R} {out : R → FOut} (hun : ∀ pan v H r, un pan v H = some r → out r = ⟨pan, v, H⟩)
    {E : List Ent} (hE : ∀ x ∈ E, EntOK P x) {L : List Sub} {f : Nat} {fn : Func} {c : Code} {ac : AC} (hf : P.funcs[f]? = some fn) (hb : fn.body = some c) (hc : ac.code = c)
    (hL : SubOK P fn.ntmps L ac) {args : List V} {H0 : List (Nat × Blk)} {r : R} (hall : allIn H0 m = true) (hn : Nat.ble args.length fn.ntmps = true)
    (h : run P E L fn.ntmps ac ⟨argsT args 0, H0, m, m, ro⟩ (finK P fn.results.toList (funX ws m ro un)) = some r) : FunOK P f args H0 m ro (out r) := by
  intro ι0 w xs hW hx
  refine (func_ok hE hf hb hc hL hn h ι0 w xs hW hx).mono fun e w' ⟨pan, u, s, ι, h1, h2, h3, h4, h5, h6⟩ => ?_
  unfold funX at h1
  split at h1
  case h_2 => cases h1
  rename_i hb
  simp only [Bool.and_eq_true, Nat.beq_eq] at hb
  obtain ⟨hlt, hro⟩ := hb
  obtain ⟨H', g1, g2⟩ := keepH_ok h1
  have hι : cut ι m = ι0 := by
    funext b
    rcases Nat.lt_or_ge b m with hbm | hbm
    · rw [cut_lt hbm]
      obtain ⟨blk, q1, q2⟩ := allIn_spec hall b hbm
      obtain ⟨r, o, q3, _⟩ := hW.blk b blk q1 q2
      rw [q3, h2 b r q3]
    · have e1 : cut ι m b = none := by
        cases hc : cut ι m b with
        | none => rfl
        | some q => have := (cut_some hc).1; omega
      have e2 : ι0 b = none := by
        cases hc : ι0 b with
        | none => rfl
        | some q => have := (hW.dom b q hc).1; omega
      rw [e1, e2]
  rw [hun _ _ _ _ g1]
  refine ⟨⟨hW.inj, fun b r hb => ⟨(hW.dom b r hb).1, (h4.dom b r (h2 b r hb)).2⟩, fun b blk hl hd => ?_⟩, by rw [hro] at h5; exact h5, ?_⟩
  · obtain ⟨p1, p2, p3⟩ := g2 b blk hl
    obtain ⟨r, o, q1, q2, q3⟩ := h4.blk b blk p1 hd
    refine ⟨r, o, ?_, q2, by rw [← hι]; exact BR.cut p2 q3⟩
    rw [← hι, cut_lt p3]; exact q1
  · cases e with
    | returned x => exact ⟨h6.1, by rw [← hι]; exact VR.cut _ _ hlt h6.2⟩
    | panicked chain =>
      obtain ⟨p1, x, p2, p3⟩ := h6
      exact ⟨p1, x, p2, by rw [← hι]; exact VR.cut _ _ hlt p3⟩
    | outgrown => exact h6

theorem getN_mem : ∀ {l : List Nat} {b : Nat}, b < l.length → getN l b ∈ l
  | [], _, h => by simp at h
  | x :: l, 0, _ => by simp [getN]
  | x :: l, b + 1, h => by simp only [getN]; exact List.mem_cons_of_mem _ (getN_mem (by simpa using h))

theorem getN_inj : ∀ {l : List Nat} {b c : Nat}, l.Nodup → b < l.length → c < l.length → getN l b = getN l c → b = c
  | [], _, _, _, h, _, _ => by simp at h
  | x :: l, 0, 0, _, _, _, _ => rfl
  | x :: l, 0, c + 1, hn, _, hc, h => by
    simp only [getN] at h
    have := getN_mem (l := l) (b := c) (by simpa using hc)
    rw [← h] at this
    exact absurd this (List.nodup_cons.1 hn).1
  | x :: l, b + 1, 0, hn, hb, _, h => by
    simp only [getN] at h
    have := getN_mem (l := l) (b := b) (by simpa using hb)
    rw [h] at this
    exact absurd this (List.nodup_cons.1 hn).1
  | x :: l, b + 1, c + 1, hn, hb, hc, h => by
    simp only [getN] at h
    have := getN_inj (List.nodup_cons.1 hn).2 (by simpa using hb) (by simpa using hc) h
    omega

theorem renH_look {ρ : List Nat} (hn : ρ.Nodup) : ∀ {H : List (Nat × Blk)} {c : Nat} {blk : Blk}, (∀ b ∈ keys H, b < ρ.length) → look (renH ρ H) c = some blk → ∃ b blk', c = getN ρ b ∧ b < ρ.length ∧ look H b = some blk' ∧ blk = blk'.ren ρ
  | [], c, blk, _, h => by simp [renH, look] at h
  | (b, x) :: H, c, blk, hk, h => by
    simp only [renH, look_cons] at h
    split at h
    · rename_i e
      simp only [Option.some.injEq] at h
      exact ⟨b, x, e.symm, hk b (by simp [keys]), by simp [look_cons], h.symm⟩
    · rename_i e
      obtain ⟨d, y, h1, h2, h3, h4⟩ := renH_look hn (fun q hq => hk q (by simp only [keys, List.map_cons, List.mem_cons]; exact .inr hq)) h
      refine ⟨d, y, h1, h2, ?_, h4⟩
      rw [look_cons, if_neg (fun hbd => e (by rw [hbd, h1])), h3]

theorem keys_renH (ρ : List Nat) : ∀ H : List (Nat × Blk), keys (renH ρ H) = (keys H).map (getN ρ)
  | [] => rfl
  | (b, x) :: H => by
    have := keys_renH ρ H
    simp only [keys] at this ⊢
    simp [renH, this]

theorem keysOf_of {wr : List (Nat × Blk)} {ι : Inj} {b : Nat} (h : b ∈ keys wr) : keysOf wr ι b = ι b := by
  unfold keysOf
  rw [if_pos]
  simp only [keys, List.mem_map] at h
  obtain ⟨x, hx, rfl⟩ := h
  exact List.any_eq_true.2 ⟨x, hx, by simp⟩

/-- A call of such a function, wherever what it looks at lies. -/
theorem FunOK.call {f : Nat} {args : List V} {H0 : List (Nat × Blk)} {m ro : Nat} {out : FOut} (h : FunOK P f args H0 m ro out) {ρ : List Nat} (hm : ρ.length = m) (hn : ρ.Nodup)
    (ha : V.lts m args = true) (hk0 : ∀ b blk, look H0 b = some blk → b < m ∧ Blk.lt m blk = true) (hko : ∀ b ∈ keys out.H, b < m) (hlo : ∀ b blk, look out.H b = some blk → Blk.lt m blk = true)
    (hw : ∀ b, ro ≤ b → b < m → b ∈ keys out.H) (hv : V.lt m out.val = true) {H : List (Nat × Blk)} (hH : ∀ b blk, look H0 b = some blk → look H (getN ρ b) = some (blk.ren ρ)) (fr : Nat) :
    CallOK P f (V.rens ρ args) H fr { val := V.ren ρ out.val, pan := out.pan, rd := ρ, wr := renH ρ out.H } := by
  subst hm
  intro ι nb w xs hW _ hx
  have hWI : WR (inside ι ρ) H0 ρ.length w := by
    refine ⟨fun b b' r e1 e2 => ?_, fun b r e => ?_, fun b blk hl hd => ?_⟩
    · obtain ⟨a1, a2⟩ := inside_some e1
      obtain ⟨b1, b2⟩ := inside_some e2
      exact getN_inj hn a1 b1 (hW.inj _ _ _ a2 b2)
    · obtain ⟨a1, a2⟩ := inside_some e
      exact ⟨a1, (hW.dom _ _ a2).2⟩
    · obtain ⟨c1, c2⟩ := hk0 b blk hl
      obtain ⟨r, o, q1, q2, q3⟩ := hW.blk (getN ρ b) (blk.ren ρ) (hH b blk hl) (by cases blk <;> simp_all [Blk.ren])
      exact ⟨r, o, by rw [inside_lt c1]; exact q1, q2, (BR.ren c2).1 q3⟩
  refine (h (inside ι ρ) w xs hWI ((VRs.ren args _ ha).1 hx)).mono fun e w' ⟨g1, g2, g3⟩ => ?_
  have hsz := g2.size
  have hold : ∀ c r, ι c = some r → c ∉ keys (renH ρ out.H) → w'.heap[r]? = w.heap[r]? := by
    intro c r hc hnk
    refine g2.blk r (hW.dom c r hc).2 fun b hb => ?_
    have h0 := hb
    unfold roI at hb
    cases hbr : Nat.blt b ro with
    | true => rw [hbr] at hb; cases hb
    | false =>
      rw [hbr] at hb
      obtain ⟨a1, a2⟩ := inside_some (by simpa using hb)
      have hcb : c = getN ρ b := hW.inj c _ r hc a2
      have hge : ro ≤ b := by
        rcases Nat.lt_or_ge b ro with h' | h'
        · rw [show Nat.blt b ro = true from Nat.ble_eq_true_of_le h'] at hbr; cases hbr
        · exact h'
      refine hnk ?_
      rw [keys_renH, hcb]
      exact List.mem_map.2 ⟨b, hw b hge a1, rfl⟩
  refine ⟨ι, fun _ _ => rfl, fun b q e1 e2 => by simp at e2; omega, ⟨hW.inj, fun b r hb => ?_, fun c blk hl hd => ?_⟩, ⟨g2.os, g2.tape, g2.output, g2.size, fun k hk hno => g2.blk k hk fun b hb => ?_⟩, ?_⟩
  · have := hW.dom b r hb
    omega
  · rw [look_append] at hl
    cases hlr : look (renH ρ out.H) c with
    | some x =>
      rw [hlr] at hl
      simp only [Option.some_or, Option.some.injEq] at hl
      subst hl
      obtain ⟨b, blk', rfl, hb, hlb, rfl⟩ := renH_look hn hko hlr
      obtain ⟨r, o, q1, q2, q3⟩ := g1.blk b blk' hlb (by cases blk' <;> simp_all [Blk.ren])
      refine ⟨r, o, (inside_some q1).2, q2, (BR.ren (hlo b blk' hlb)).2 q3⟩
    | none =>
      rw [hlr] at hl
      simp only [Option.none_or] at hl
      obtain ⟨r, o, q1, q2, q3⟩ := hW.blk c blk hl hd
      refine ⟨r, o, q1, ?_, q3⟩
      rw [hold c r q1 fun hk => by obtain ⟨v, hv'⟩ := look_mem hk; rw [hv'] at hlr; cases hlr]
      exact q2
  · have h1 := roI_some hb
    obtain ⟨a1, a2⟩ := inside_some h1
    have hge : ro ≤ b := by
      unfold roI at hb
      rcases Nat.lt_or_ge b ro with h' | h'
      · rw [show Nat.blt b ro = true from Nat.ble_eq_true_of_le h'] at hb; cases hb
      · exact h'
    refine hno (getN ρ b) ?_
    rw [keysOf_of (by rw [keys_renH]; exact List.mem_map.2 ⟨b, hw b hge a1, rfl⟩)]
    exact a2
  · cases e with
    | returned x => exact ⟨g3.1, (VR.ren _ _ hv).2 g3.2⟩
    | panicked chain =>
      obtain ⟨p1, x, p2, p3⟩ := g3
      exact ⟨p1, x, p2, (VR.ren _ _ hv).2 p3⟩
    | outgrown => exact g3

/-- What is known of a function that takes addresses. -/
def funE {A R : Type} (f : Nat) (un : List V → List (Nat × Blk) → Option (A × List Nat)) (sh : A → Option R) (outK : (α : Type) → R → (FOut → Option α) → Option α) : Ent :=
  ⟨f, fun α args H _ k => ob (un args H) fun p => ob (sh p.1) fun r => outK α r fun o => k { val := V.ren p.2 o.val, pan := o.pan, rd := p.2, wr := renH p.2 o.H }⟩

theorem funE_ok {A R : Type} {f m ro : Nat} {un : List V → List (Nat × Blk) → Option (A × List Nat)} {sh : A → Option R} {outK : (α : Type) → R → (FOut → Option α) → Option α} {out : R → FOut}
    {arg : A → List V} {H0 : A → List (Nat × Blk)} (hent : Enters P f) (hoK : ∀ α r k, outK α r k = k (out r))
    (hun : ∀ l H a ρ, un l H = some (a, ρ) → ρ.length = m ∧ ρ.Nodup ∧ l = V.rens ρ (arg a) ∧ ∀ b blk, look (H0 a) b = some blk → look H (getN ρ b) = some (blk.ren ρ))
    (ha : ∀ a, V.lts m (arg a) = true) (hk0 : ∀ a b blk, look (H0 a) b = some blk → b < m ∧ Blk.lt m blk = true) (hko : ∀ r, ∀ b ∈ keys (out r).H, b < m)
    (hlo : ∀ r b blk, look (out r).H b = some blk → Blk.lt m blk = true) (hw : ∀ r b, ro ≤ b → b < m → b ∈ keys (out r).H) (hv : ∀ r, V.lt m (out r).val = true)
    (h : ∀ a r, sh a = some r → FunOK P f (arg a) (H0 a) m ro (out r)) : EntOK P (funE f un sh outK) := by
  refine ⟨hent, fun α args H fr k z hk => ?_⟩
  simp only [funE] at hk
  obtain ⟨⟨a, ρ⟩, h1, hk1⟩ := ob_some hk
  obtain ⟨r, h2, hk2⟩ := ob_some hk1
  rw [hoK] at hk2
  obtain ⟨g1, g2, g3, g4⟩ := hun args H a ρ h1
  subst g3
  refine ⟨_, hk2, fun H' hH' => (h a r h2).call g1 g2 (ha a) (hk0 a) (hko r) (hlo r) (hw r) (hv r) (fun b blk hl => ?_) fr⟩
  have hb := (hk0 a b blk hl).1
  rw [hH' _ (getN_mem (by rw [g1]; exact hb))]
  exact g4 b blk hl


/-! ### Small checks, for the printed certificates -/

def distinct : List Nat → Bool
  | [] => true
  | x :: l => l.all (fun y => !Nat.beq x y) && distinct l

theorem distinct_ok : ∀ {l : List Nat}, distinct l = true → l.Nodup
  | [], _ => List.nodup_nil
  | x :: l, h => by
    simp only [distinct, Bool.and_eq_true, List.all_eq_true] at h
    refine List.nodup_cons.2 ⟨fun hx => ?_, distinct_ok h.2⟩
    have := h.1 x hx
    simp at this

def eachH (Q : Nat → Blk → Prop) : List (Nat × Blk) → Prop
  | [] => True
  | (b, x) :: l => Q b x ∧ eachH Q l

theorem eachH_look {Q : Nat → Blk → Prop} : ∀ {l : List (Nat × Blk)}, eachH Q l → ∀ b x, look l b = some x → Q b x
  | [], _, b, x, h => by cases h
  | (c, y) :: l, h, b, x, hl => by
    rw [look_cons] at hl
    split at hl
    · rename_i e; subst e
      simp only [Option.some.injEq] at hl; subst hl
      exact h.1
    · exact eachH_look h.2 b x hl

def chkH (m : Nat) (H : List (Nat × Blk)) : Bool := H.all fun p => Nat.blt p.1 m && Blk.lt m p.2

theorem chkH_look {m : Nat} : ∀ {H : List (Nat × Blk)}, chkH m H = true → ∀ b x, look H b = some x → b < m ∧ Blk.lt m x = true
  | [], _, b, x, h => by cases h
  | (c, y) :: l, h, b, x, hl => by
    simp only [chkH, List.all_cons, Bool.and_eq_true] at h
    rw [look_cons] at hl
    split at hl
    · rename_i e; subst e
      simp only [Option.some.injEq] at hl; subst hl
      exact ⟨Nat.le_of_ble_eq_true h.1.1, h.1.2⟩
    · exact chkH_look (H := l) h.2 b x hl

theorem chkH_keys {m : Nat} {H : List (Nat × Blk)} (h : chkH m H = true) : ∀ b ∈ keys H, b < m := by
  intro b hb
  simp only [keys, List.mem_map] at hb
  obtain ⟨p, hp, rfl⟩ := hb
  simp only [chkH, List.all_eq_true, Bool.and_eq_true] at h
  exact Nat.le_of_ble_eq_true (h p hp).1

def hasKeys (H : List (Nat × Blk)) : Nat → Nat → Bool
  | _, 0 => true
  | b, n + 1 => (keys H).any (Nat.beq b) && hasKeys H (b + 1) n

theorem hasKeys_ok {H : List (Nat × Blk)} : ∀ {n b : Nat}, hasKeys H b n = true → ∀ c, b ≤ c → c < b + n → c ∈ keys H
  | 0, _, _, c, _, _ => by omega
  | n + 1, b, h, c, h1, h2 => by
    simp only [hasKeys, Bool.and_eq_true] at h
    by_cases hc : c = b
    · subst hc
      obtain ⟨x, hx, hb⟩ := List.any_eq_true.1 h.1
      rw [Nat.eq_of_beq_eq_true hb]; exact hx
    · exact hasKeys_ok h.2 c (by omega) (by omega)

end Go.Abs
