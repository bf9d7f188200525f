/- Loops by their rounds; functions by what their results read as.
   Conditions: none; generic over the program. -/
import Derived.Test.YtpbhbpjobkdgmaaAbsK
import Derived.LoopN
namespace Go.Abs
variable {P : Program}

/-! ### Forgetting -/

mutual
def V.lt (nb : Nat) : V → Bool
  | .p c _ | .sl c _ _ _ => Nat.blt c nb
  | .fn _ l | .ag l | .tp l => V.lts nb l
  | .it _ v => V.lt nb v
  | .b _ | .i _ _ | .s _ | .pn | .sn | .nf | .ni | .ai _ _ _ => true
def V.lts (nb : Nat) : List V → Bool
  | [] => true
  | v :: l => V.lt nb v && V.lts nb l
end

def Blk.lt (nb : Nat) : Blk → Bool
  | .cells l => V.lts nb l
  | _ => true

def cut (ι : Inj) (nb : Nat) : Inj := fun b => cond (Nat.blt b nb) (ι b) none

theorem cut_lt {ι : Inj} {nb b : Nat} (h : b < nb) : cut ι nb b = ι b := by
  have : Nat.blt b nb = true := Nat.ble_eq_true_of_le h
  simp [cut, this]

theorem cut_some {ι : Inj} {nb b r : Nat} (h : cut ι nb b = some r) : b < nb ∧ ι b = some r := by
  unfold cut at h
  cases hb : Nat.blt b nb with
  | true => rw [hb] at h; exact ⟨Nat.le_of_ble_eq_true hb, h⟩
  | false => rw [hb] at h; cases h

mutual
theorem VR.cut {ι : Inj} {nb : Nat} : ∀ (v : V) (x : Value), V.lt nb v = true → VR ι v x → VR (Abs.cut ι nb) v x
  | .b _, _, _, hx | .i _ _, _, _, hx | .s _, _, _, hx | .pn, _, _, hx | .sn, _, _, hx | .nf, _, _, hx | .ni, _, _, hx | .ai _ _ _, _, _, hx => by simpa [VR] using hx
  | .p b o, x, hf, hx => by
    simp only [V.lt] at hf
    simp only [VR] at hx ⊢
    obtain ⟨r, h1, h2⟩ := hx
    exact ⟨r, by rw [cut_lt (Nat.le_of_ble_eq_true hf)]; exact h1, h2⟩
  | .sl b o len cap, x, hf, hx => by
    simp only [V.lt] at hf
    simp only [VR] at hx ⊢
    obtain ⟨r, c, h1, h2⟩ := hx
    exact ⟨r, c, by rw [cut_lt (Nat.le_of_ble_eq_true hf)]; exact h1, h2⟩
  | .fn f cap, x, hf, hx => by
    simp only [V.lt] at hf
    simp only [VR] at hx ⊢
    obtain ⟨cs, h1, h2⟩ := hx
    exact ⟨cs, h1, VRs.cut _ _ hf h2⟩
  | .it t v, x, hf, hx => by
    simp only [V.lt] at hf
    simp only [VR] at hx ⊢
    obtain ⟨y, h1, h2⟩ := hx
    exact ⟨y, h1, VR.cut _ _ hf h2⟩
  | .ag l, x, hf, hx => by
    simp only [V.lt] at hf
    simp only [VR] at hx ⊢
    obtain ⟨cs, h1, h2⟩ := hx
    exact ⟨cs, h1, VRs.cut _ _ hf h2⟩
  | .tp l, x, hf, hx => by
    simp only [V.lt] at hf
    simp only [VR] at hx ⊢
    obtain ⟨cs, h1, h2⟩ := hx
    exact ⟨cs, h1, VRs.cut _ _ hf h2⟩
theorem VRs.cut {ι : Inj} {nb : Nat} : ∀ (l : List V) (xs : List Value), V.lts nb l = true → VRs ι l xs → VRs (Abs.cut ι nb) l xs
  | [], _, _, hx => by simpa [VRs] using hx
  | v :: l, xs, hf, hx => by
    simp only [V.lts, Bool.and_eq_true] at hf
    simp only [VRs] at hx ⊢
    obtain ⟨y, ys, h1, h2, h3⟩ := hx
    exact ⟨y, ys, h1, VR.cut _ _ hf.1 h2, VRs.cut _ _ hf.2 h3⟩
end

theorem BR.cut {ι : Inj} {nb : Nat} : ∀ {blk : Blk} {o : Obj}, Blk.lt nb blk = true → BR ι blk o → BR (Abs.cut ι nb) blk o
  | .dead, _, _, _ => trivial
  | .cells l, o, hf, h => by
    obtain ⟨cs, e, fr, h1, h2, h3⟩ := h
    exact ⟨cs, e, fr, h1, VRs.cut _ _ hf h2, h3⟩
  | .ints k n l, o, _, h => h
  | .iter s pos, o, _, h => h

/-- The temporaries that are kept. -/
def keepT {α : Type} (nb : Nat) (T : List (Nat × Option V)) : List Nat → (List (Nat × Option V) → Option α) → Option α
  | [], k => k []
  | t :: l, k => match look T t with
    | some (some v) => match V.lt nb v with
      | true => keepT nb T l fun m => k ((t, some v) :: m)
      | false => none
    | _ => none

/-- The blocks that are kept. -/
def keepH {α : Type} (nb : Nat) (H : List (Nat × Blk)) : List Nat → (List (Nat × Blk) → Option α) → Option α
  | [], k => k []
  | b :: l, k => match look H b with
    | some blk => match Blk.lt nb blk && Nat.blt b nb with
      | true => keepH nb H l fun m => k ((b, blk) :: m)
      | false => none
    | none => none

/-- What is kept of a state. -/
structure Ann where
  ts : List Nat
  bs : List Nat
  nb : Nat

def cleanK {α : Type} (an : Ann) (s : St) (k : St → Option α) : Option α :=
  match Nat.ble s.lo an.nb && Nat.ble an.nb s.nb with
  | true => keepT an.nb s.T an.ts fun T => keepH an.nb s.H an.bs fun H => k { T := T, H := H, nb := an.nb, lo := s.lo, ro := s.ro }
  | false => none

theorem keepT_ok {α : Type} {nb : Nat} {T : List (Nat × Option V)} : ∀ {l : List Nat} {k : List (Nat × Option V) → Option α} {z : α}, keepT nb T l k = some z →
    ∃ T', k T' = some z ∧ ∀ t v, look T' t = some (some v) → look T t = some (some v) ∧ V.lt nb v = true
  | [], k, z, h => ⟨[], h, fun t v h => by cases h⟩
  | t :: l, k, z, h => by
    simp only [keepT] at h
    split at h
    · rename_i v hv
      split at h
      · rename_i hlt
        obtain ⟨T', h1, h2⟩ := keepT_ok h
        refine ⟨_, h1, fun u x hu => ?_⟩
        rw [look_cons] at hu
        split at hu
        · rename_i e; subst e
          simp only [Option.some.injEq] at hu; subst hu
          exact ⟨hv, hlt⟩
        · exact h2 u x hu
      · cases h
    · cases h

theorem keepH_ok {α : Type} {nb : Nat} {H : List (Nat × Blk)} : ∀ {l : List Nat} {k : List (Nat × Blk) → Option α} {z : α}, keepH nb H l k = some z →
    ∃ H', k H' = some z ∧ ∀ b blk, look H' b = some blk → look H b = some blk ∧ Blk.lt nb blk = true ∧ b < nb
  | [], k, z, h => ⟨[], h, fun t v h => by cases h⟩
  | b :: l, k, z, h => by
    simp only [keepH] at h
    split at h
    · rename_i blk hb
      split at h
      · rename_i hlt
        simp only [Bool.and_eq_true] at hlt
        obtain ⟨H', h1, h2⟩ := keepH_ok h
        refine ⟨_, h1, fun c x hc => ?_⟩
        rw [look_cons] at hc
        split at hc
        · rename_i e; subst e
          simp only [Option.some.injEq] at hc; subst hc
          exact ⟨hb, hlt.1, Nat.le_of_ble_eq_true hlt.2⟩
        · exact h2 c x hc
      · cases h
    · cases h

/-- s' says no more than s. -/
def Weak (s s' : St) : Prop := ∀ (n : Nat) (ι0 ι : Inj) (w0 : World) (a : Act) (w : World), Inv n ι0 w0 ι s a w →
  ∃ ι', Inv n ι0 w0 ι' s' a w ∧ (∀ v x, V.lt s'.nb v = true → VR ι v x → VR ι' v x)

theorem cleanK_ok {α : Type} {an : Ann} {s : St} {k : St → Option α} {z : α} (h : cleanK an s k = some z) : ∃ s', k s' = some z ∧ Weak s s' ∧ s'.nb = an.nb := by
  unfold cleanK at h
  split at h
  case h_2 => cases h
  rename_i hb
  simp only [Bool.and_eq_true] at hb
  have hlo := Nat.le_of_ble_eq_true hb.1
  have hle := Nat.le_of_ble_eq_true hb.2
  obtain ⟨T, h1, h2⟩ := keepT_ok h
  obtain ⟨H, h3, h4⟩ := keepH_ok h1
  refine ⟨_, h3, fun n ι0 ι w0 a w hI => ⟨cut ι an.nb, ⟨hI.size, hI.defers, fun t v hv => ?_, ⟨fun b b' r e1 e2 => ?_, fun b r e => ?_, fun b blk hl hd => ?_⟩, fun b r e => ?_, fun b r e => ?_, hI.fr, hI.low⟩,
    fun v x hv hx => VR.cut v x hv hx⟩, rfl⟩
  · obtain ⟨g1, g2⟩ := h2 t v hv
    obtain ⟨x, q1, q2⟩ := hI.tmps t v g1
    exact ⟨x, q1, VR.cut _ _ g2 q2⟩
  · exact hI.mem.inj b b' r (cut_some e1).2 (cut_some e2).2
  · obtain ⟨g1, g2⟩ := cut_some e
    exact ⟨g1, (hI.mem.dom b r g2).2⟩
  · obtain ⟨g1, g2, g3⟩ := h4 b blk hl
    obtain ⟨r, o, q1, q2, q3⟩ := hI.mem.blk b blk g1 hd
    exact ⟨r, o, by rw [cut_lt g3]; exact q1, q2, BR.cut g2 q3⟩
  · have := hI.low b r e
    rw [cut_lt (by omega)]
    exact hI.ext b r e
  · exact hI.new b r (cut_some e).2

/-! ### Loops -/

def iterL {X Y : Type} (step : X → Option (X ⊕ Y)) : Nat → X → Option Y
  | 0, _ => none
  | n + 1, x => match step x with
    | some (.inl x') => iterL step n x'
    | some (.inr y) => some y
    | none => none

/-- What stands behind a round: the next one's data, or how the loop is left. -/
def roundK {X Y : Type} (an : Ann) (un : St → Option X) (ax : Ex → Ann) (ux : Ex → St → Option Y) : Ex → St → Option (X ⊕ Y)
  | .normal, s => cleanK an s fun s' => ob (un s') fun x => some (.inl x)
  | .exit id, s => cleanK (ax (.exit id)) s fun s' => ob (ux (.exit id) s') fun y => some (.inr y)
  | .ret, s => cleanK (ax .ret) s fun s' => ob (ux .ret s') fun y => some (.inr y)
  | .pan v, s => match V.lt (ax (.pan v)).nb v with
    | true => cleanK (ax (.pan v)) s fun s' => ob (ux (.pan v) s') fun y => some (.inr y)
    | false => none

theorem round_ok {X Y : Type} {an : Ann} {ax : Ex → Ann} {un : St → Option X} {ux : Ex → St → Option Y} {ex : Ex} {s : St} {r : X ⊕ Y} (h : roundK an un ax ux ex s = some r) :
    (ex = .normal ∧ ∃ x s', r = .inl x ∧ un s' = some x ∧ Weak s s') ∨ (ex ≠ .normal ∧ ∃ y s', r = .inr y ∧ ux ex s' = some y ∧ Weak s s' ∧ ∀ v, ex = .pan v → V.lt s'.nb v = true) := by
  have key : ∀ {ex : Ex} {s : St} {r : X ⊕ Y}, (cleanK (ax ex) s fun s' => ob (ux ex s') fun y => some (.inr y)) = some r → (∀ v, ex = .pan v → V.lt (ax ex).nb v = true) →
      ∃ y s', r = .inr y ∧ ux ex s' = some y ∧ Weak s s' ∧ ∀ v, ex = .pan v → V.lt s'.nb v = true := by
    intro ex s r h hv
    obtain ⟨s', h1, h2, hnb⟩ := cleanK_ok h
    obtain ⟨y, h3, h4⟩ := ob_some h1
    simp only [Option.some.injEq] at h4; subst h4
    exact ⟨y, s', rfl, h3, h2, fun v e => by rw [hnb]; exact hv v e⟩
  cases ex with
  | normal =>
    simp only [roundK] at h
    obtain ⟨s', h1, h2, _⟩ := cleanK_ok h
    obtain ⟨x, h3, h4⟩ := ob_some h1
    simp only [Option.some.injEq] at h4; subst h4
    exact .inl ⟨rfl, x, s', rfl, h3, h2⟩
  | exit id => exact .inr ⟨by simp, key h (by simp)⟩
  | ret => exact .inr ⟨by simp, key h (by simp)⟩
  | pan v =>
    simp only [roundK] at h
    split at h
    · rename_i hv
      exact .inr ⟨by simp, key h fun u e => by cases e; exact hv⟩
    · cases h


theorem Weak.post {s s' : St} (h : Weak s s') {n : Nat} {ι0 ι : Inj} {w0 : World} {a : Act} {w : World} (hI : Inv n ι0 w0 ι s a w) {ex : Ex} {e : Exit} (he : ExR ι ex e)
    (hv : ∀ v, ex = .pan v → V.lt s'.nb v = true) : ∃ ι', ExR ι' ex e ∧ Inv n ι0 w0 ι' s' a w := by
  obtain ⟨ι', h1, h2⟩ := h n ι0 ι w0 a w hI
  refine ⟨ι', ?_, h1⟩
  cases ex with
  | pan v =>
    obtain ⟨x, rfl, hx⟩ := he
    exact ⟨x, rfl, h2 v x (hv v rfl) hx⟩
  | _ => exact he

/-- A LOOP: each round takes the data of a state of one shape to that of the next one, or leaves. -/
theorem loop_ok {X Y : Type} {E : List Ent} (hE : ∀ x ∈ E, EntOK P x) {L : List Sub} {n : Nat} {c : AC} (hL : SubOK P n L c) {emb : X → St} {out : Y → Ex × St} {step : X → Option (X ⊕ Y)} {an : Ann} {ax : Ex → Ann}
    {un : St → Option X} {ux : Ex → St → Option Y} (hun : ∀ s x, un s = some x → s = emb x) (hux : ∀ ex s y, ux ex s = some y → (ex, s) = out y)
    (hb : ∀ x, run P E L n c (emb x) (roundK an un ax ux) = step x) : ∀ (m : Nat) (x : X) (y : Y), iterL step m x = some y →
      SemC P n (.loop c.code) (emb x) fun ex s => ex = (out y).1 ∧ s = (out y).2 := by
  intro m x y h ι0 w0 ι a w hI
  refine wp_loop_rounds m ?_
  induction m generalizing x ι a w with
  | zero => cases h
  | succ m ih =>
    rw [rounds_succ]
    simp only [iterL] at h
    cases hs : step x with
    | none => rw [hs] at h; cases h
    | some r =>
      rw [hs] at h
      refine Code.wp_mono ?_ (run_ok hE c _ _ r hL (by rw [hb x]; exact hs) ι0 w0 ι a w hI)
      rintro e a' w' ⟨ex, s, ι', h1, h2, h3⟩
      rcases round_ok h3 with ⟨rfl, x', s', rfl, g1, g2⟩ | ⟨hne, y', s', rfl, g1, g2, g3⟩
      · simp only [ExR] at h1; subst h1
        obtain ⟨ι2, q1, _⟩ := g2 n ι0 ι' w0 a' w' h2
        rw [hun s' x' g1] at q1
        exact ih x' h ι2 a' w' q1
      · simp only [Option.some.injEq] at h; subst h
        obtain ⟨ι2, q1, q2⟩ := g2.post h2 h1 g3
        have hy := hux ex s' y' g1
        refine (?_ : Post n ι0 w0 (fun ex s => ex = (out y').1 ∧ s = (out y').2) e a' w' → _) ⟨ex, s', ι2, q1, q2, by rw [← hy], by rw [← hy]⟩
        cases ex with
        | normal => exact absurd rfl hne
        | exit i => simp only [ExR] at h1; subst h1; exact fun h => h
        | ret => simp only [ExR] at h1; subst h1; exact fun h => h
        | pan v => obtain ⟨_, rfl, _⟩ := h1; exact fun h => h

/-- Code that starts from a state of one shape. -/
theorem SemC.clean {α : Type} {n : Nat} {c : Code} {s : St} {Φ : Ex → St → Prop} {an : Ann} {k : St → Option α} {z : α} (h : cleanK an s k = some z) (hk : ∀ s', k s' = some z → SemC P n c s' Φ) : SemC P n c s Φ := by
  obtain ⟨s', h1, h2, _⟩ := cleanK_ok h
  intro ι0 w0 ι a w hI
  obtain ⟨ι', g1, _⟩ := h2 n ι0 ι w0 a w hI
  exact hk s' h1 ι0 w0 ι' a w g1

theorem SemC.mono {n : Nat} {c : Code} {s : St} {Φ Ψ : Ex → St → Prop} (h : SemC P n c s Φ) (hi : ∀ ex s, Φ ex s → Ψ ex s) : SemC P n c s Ψ :=
  fun ι0 w0 ι a w hI => Code.wp_mono (fun _ _ _ ⟨ex, s, ι, h1, h2, h3⟩ => ⟨ex, s, ι, h1, h2, hi ex s h3⟩) (h ι0 w0 ι a w hI)

/-- A piece of code that is taken as a whole: its data read off the state, its outcome by a function on data. -/
def subE {X Y : Type} (m : Nat) (an : Ann) (un : St → Option X) (f : X → Option Y) (outK : (α : Type) → Y → (Ex → St → Option α) → Option α) : Sub :=
  ⟨m, fun α s k => cleanK an s fun s' => ob (un s') fun x => ob (f x) fun y => outK α y k⟩

theorem subE_ok {α X Y : Type} {n m : Nat} {c : Code} {an : Ann} {un : St → Option X} {f : X → Option Y} {outK : (α : Type) → Y → (Ex → St → Option α) → Option α} {out : Y → Ex × St} (ho : ∀ α y k, outK α y k = k (out y).1 (out y).2) {emb : X → St} (hun : ∀ s x, un s = some x → s = emb x)
    (hf : ∀ x y, f x = some y → SemC P n c (emb x) fun ex s => ex = (out y).1 ∧ s = (out y).2) {s : St} {k : Ex → St → Option α} {z : α} (h : (subE m an un f outK).e α s k = some z) :
    SemC P n c s fun ex s' => k ex s' = some z := by
  simp only [subE] at h
  refine SemC.clean h fun s' h => ?_
  obtain ⟨x, h1, h⟩ := ob_some h
  obtain ⟨y, h2, h⟩ := ob_some h
  rw [ho] at h
  rw [hun s' x h1]
  exact (hf x y h2).mono fun ex s ⟨e1, e2⟩ => by rw [e1, e2]; exact h

/-! ### Functions -/

/-- A result that reads as data. -/
def retX {R : Type} (un : V → Option R) : Bool → V → St → Option R
  | false, v, _ => cond (V.flat v) (un v) none
  | true, _, _ => none

theorem pureX_ok {R : Type} {un : V → Option R} {enc : R → V} (hun : ∀ v r, un v = some r → v = enc r) {E : List Ent} (hE : ∀ x ∈ E, EntOK P x) {L : List Sub} {f : Nat} {fn : Func} {c : Code} {ac : AC}
    (hf : P.funcs[f]? = some fn) (hb : fn.body = some c) (hc : ac.code = c) (hL : SubOK P fn.ntmps L ac) {args : List V} {r : R} (hn : Nat.ble args.length fn.ntmps = true)
    (h : run P E L fn.ntmps ac ⟨argsT args 0, [], 0, 0, 0⟩ (finK P fn.results.toList (retX un)) = some r) : PureOK P f args (enc r) := by
  intro w xs hx
  refine (func_ok hE hf hb hc hL hn h none0 w xs (WR.nothing w) hx).mono fun e w' ⟨pan, u, s, ι, h1, _, _, _, h5, h6⟩ => ?_
  cases pan with
  | true => cases h1
  | false =>
    simp only [retX] at h1
    obtain ⟨hfl, h1⟩ := cond_some h1
    have hu := hun u r h1
    subst hu
    cases e with
    | returned x => exact ⟨x, rfl, VR.flat _ _ hfl h6.2, roI_none0 h5⟩
    | panicked chain => exact absurd h6.1 (by simp)
    | outgrown => exact h6.elim

/-- What is known of a function that neither takes nor gives addresses: its arguments read as data, its result is a function of them. -/
def pureE {A R : Type} (f : Nat) (un : List V → Option A) (sh : A → Option R) (enc : R → V) : Ent :=
  ⟨f, fun _ args _ _ k => ob (un args) fun a => ob (sh a) fun r => k { val := enc r }⟩

theorem pureE_ok {A R : Type} {f : Nat} {un : List V → Option A} {sh : A → Option R} {enc : R → V} {arg : A → List V} (hent : Enters P f) (hun : ∀ l a, un l = some a → l = arg a)
    (hfl : ∀ a, V.flats (arg a) = true) (h : ∀ a r, sh a = some r → PureOK P f (arg a) (enc r)) : EntOK P (pureE f un sh enc) := by
  refine ⟨hent, fun α args H fr k z hk => ?_⟩
  simp only [pureE] at hk
  obtain ⟨a, h1, hk1⟩ := ob_some hk
  obtain ⟨r, h2, hk2⟩ := ob_some hk1
  clear hk hk1
  have := hun args a h1
  subst this
  exact ⟨_, hk2, fun H' _ => (h a r h2).call (hfl a) H' fr⟩


/-! ### The pieces of a function's code -/

def subs : AC → List (Nat × AC)
  | .seq a b | .cond _ a b => subs a ++ subs b
  | .block _ a | .loop a | .scope a => subs a
  | .sub m c => [(m, c)]
  | _ => []

def getS : List (Nat × AC) → Nat → AC
  | [], _ => .skip
  | (k, c) :: l, m => cond (Nat.beq k m) c (getS l m)

def AC.body : AC → AC
  | .loop c => c
  | c => c

def SubSt (P : Program) (n : Nat) (L : List Sub) (m : Nat) (c : AC) : Prop :=
  ∀ (α : Type) (s : St) (k : Ex → St → Option α) (z : α), subOf α m s k L = some z → SemC P n c.code s fun ex s' => k ex s' = some z

theorem SubOK_of {n : Nat} {L : List Sub} : ∀ (c : AC), (∀ p ∈ subs c, SubSt P n L p.1 p.2) → SubOK P n L c
  | .seq a b, h => ⟨SubOK_of a fun p hp => h p (by simp [subs, hp]), SubOK_of b fun p hp => h p (by simp [subs, hp])⟩
  | .cond c a b, h => ⟨SubOK_of a fun p hp => h p (by simp [subs, hp]), SubOK_of b fun p hp => h p (by simp [subs, hp])⟩
  | .block _ a, h => by simp only [SubOK]; exact SubOK_of a fun p hp => h p (by simp [subs, hp])
  | .loop a, h => by simp only [SubOK]; exact SubOK_of a fun p hp => h p (by simp [subs, hp])
  | .scope a, h => by simp only [SubOK]; exact SubOK_of a fun p hp => h p (by simp [subs, hp])
  | .sub m c, h => h (m, c) (by simp [subs])
  | .skip, _ | .ret, _ | .exit _, _ | .reg _ _, _ | .draw _ _, _ | .bad _, _ | .label _, _ => by simp [SubOK]

def bodyOf (f : Func) : Code := match f.body with | some c => c | none => .skip
def acOf (f : Func) : AC := (annot (bodyOf f) 0).1

/-- Loops that are carried out round by round. -/
def unroll (l : List Nat) : AC → AC
  | .seq a b => .seq (unroll l a) (unroll l b)
  | .cond c a b => .cond c (unroll l a) (unroll l b)
  | .block id a => .block id (unroll l a)
  | .loop a => .loop (unroll l a)
  | .scope a => .scope (unroll l a)
  | .sub m c => cond (l.any (Nat.beq m)) (unroll l c) (.sub m (unroll l c))
  | c => c

theorem unroll_code (l : List Nat) : ∀ c : AC, (unroll l c).code = c.code
  | .seq a b => by simp [unroll, AC.code, unroll_code l a, unroll_code l b]
  | .cond c a b => by simp [unroll, AC.code, unroll_code l a, unroll_code l b]
  | .block id a => by simp [unroll, AC.code, unroll_code l a]
  | .loop a => by simp [unroll, AC.code, unroll_code l a]
  | .scope a => by simp [unroll, AC.code, unroll_code l a]
  | .sub m c => by
    simp only [unroll]
    cases l.any (Nat.beq m) <;> simp [AC.code, unroll_code l c]
  | .skip | .ret | .exit _ | .reg _ _ | .draw _ _ | .bad _ | .label _ => rfl

def acU (l : List Nat) (f : Func) : AC := unroll l (acOf f)

theorem acOf_code (f : Func) : (acOf f).code = bodyOf f := annot_code _ _

theorem acU_code (l : List Nat) (f : Func) : (acU l f).code = bodyOf f := (unroll_code l _).trans (acOf_code f)

end Go.Abs
