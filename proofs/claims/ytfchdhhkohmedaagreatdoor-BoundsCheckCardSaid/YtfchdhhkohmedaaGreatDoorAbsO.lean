/- Loops by their rounds; functions by what their results read as.
   Conditions: none; generic over the program. -/
import Derived.Test.YtfchdhhkohmedaaGreatDoorAbsK
import Derived.LoopN
namespace Go.Abs
variable {P : Program}
mutual
def V.lt (nb : Nat) : V → Bool
  | .p c _ | .sl c _ _ _ | .pr _ c _ _ | .ws c | .rs _ c _ _ _ | .mp c => Nat.blt c nb
  | .fn _ l | .ag l | .tp l => V.lts nb l
  | .it _ v => V.lt nb v
  | .b _ | .i _ _ | .s _ | .pn | .sn | .nf | .ni | .ai _ _ _ | .unk => true
def V.lts (nb : Nat) : List V → Bool
  | [] => true
  | v :: l => V.lt nb v && V.lts nb l
end
def Blk.lt (nb : Nat) : Blk → Bool
  | .cells l => V.lts nb l
  | _ => true
def cut (ι : Inj) (nb : Nat) : Inj := fun b => cond (Nat.blt b nb) (ι b) none
theorem pz {ι : Inj} {nb b : Nat} (h : b < nb) : cut ι nb b = ι b := by
  have : Nat.blt b nb = true := Nat.ble_eq_true_of_le h
  simp [cut, this]
theorem kC {ι : Inj} {nb b : Nat} {r : Option Rf} (h : cut ι nb b = some r) : b < nb ∧ ι b = some r := by
  unfold cut at h
  cases hb : Nat.blt b nb with
  | true => rw [hb] at h; exact ⟨Nat.le_of_ble_eq_true hb, h⟩
  | false => rw [hb] at h; cases h
mutual
theorem VR.cut {ι : Inj} {nb : Nat} : ∀ (v : V) (x : Value), V.lt nb v = true → VR ι v x → VR (Abs.cut ι nb) v x
  | .b _, _, _, hx | .i _ _, _, _, hx | .s _, _, _, hx | .pn, _, _, hx | .sn, _, _, hx | .nf, _, _, hx | .ni, _, _, hx | .ai _ _ _, _, _, hx | .unk, _, _, hx => by simpa only [VR] using hx
  | .ws b, x, hf, hx => by
    simp only [V.lt] at hf
    simp only [VR] at hx ⊢
    rw [pz (Nat.le_of_ble_eq_true hf)]
    exact hx
  | .rs z b j n _, x, hf, hx => by
    simp only [V.lt] at hf
    simp only [VR] at hx ⊢
    rw [pz (Nat.le_of_ble_eq_true hf)]
    exact hx
  | .p b o, x, hf, hx | .pr z b j o, x, hf, hx | .mp b, x, hf, hx => by
    simp only [V.lt] at hf
    simp only [VR] at hx ⊢
    obtain ⟨r, h1, h2⟩ := hx
    exact ⟨r, by rw [pz (Nat.le_of_ble_eq_true hf)]; exact h1, h2⟩
  | .sl b o len cap, x, hf, hx => by
    simp only [V.lt] at hf
    simp only [VR] at hx ⊢
    obtain ⟨r, c, h1, h2⟩ := hx
    exact ⟨r, c, by rw [pz (Nat.le_of_ble_eq_true hf)]; exact h1, h2⟩
  | .fn f cap, x, hf, hx => by
    simp only [V.lt] at hf
    simp only [VR] at hx ⊢
    obtain ⟨cs, h1, h2⟩ := hx
    exact ⟨cs, h1, VRs.cut _ _ hf h2⟩
  | .it t v, x, hf, hx => by
    simp only [V.lt] at hf
    simp only [VR] at hx ⊢
    obtain ⟨y, h1, h2⟩ := hx
    exact ⟨y, h1, VR.cut _ _ hf h2⟩
  | .ag l, x, hf, hx => by
    simp only [V.lt] at hf
    simp only [VR] at hx ⊢
    obtain ⟨cs, h1, h2⟩ := hx
    exact ⟨cs, h1, VRs.cut _ _ hf h2⟩
  | .tp l, x, hf, hx => by
    simp only [V.lt] at hf
    simp only [VR] at hx ⊢
    obtain ⟨cs, h1, h2⟩ := hx
    exact ⟨cs, h1, VRs.cut _ _ hf h2⟩
theorem VRs.cut {ι : Inj} {nb : Nat} : ∀ (l : List V) (xs : List Value), V.lts nb l = true → VRs ι l xs → VRs (Abs.cut ι nb) l xs
  | [], _, _, hx => by simpa [VRs] using hx
  | v :: l, xs, hf, hx => by
    simp only [V.lts, Bool.and_eq_true] at hf
    simp only [VRs] at hx ⊢
    obtain ⟨y, ys, h1, h2, h3⟩ := hx
    exact ⟨y, ys, h1, VR.cut _ _ hf.1 h2, VRs.cut _ _ hf.2 h3⟩
end
mutual
theorem V.lt_mono {m n : Nat} (h : m ≤ n) : ∀ v, V.lt m v = true → V.lt n v = true
  | .p c _, hv | .sl c _ _ _, hv | .pr _ c _ _, hv | .ws c, hv | .rs _ c _ _ _, hv | .mp c, hv => by
    simp only [V.lt] at hv ⊢
    exact Nat.ble_eq_true_of_le (Nat.le_trans (Nat.le_of_ble_eq_true hv) h)
  | .fn _ l, hv | .ag l, hv | .tp l, hv => by
    simp only [V.lt] at hv ⊢
    exact V.lts_mono h l hv
  | .it _ v, hv => by
    simp only [V.lt] at hv ⊢
    exact V.lt_mono h v hv
  | .b _, _ | .i _ _, _ | .s _, _ | .pn, _ | .sn, _ | .nf, _ | .ni, _ | .ai _ _ _, _ | .unk, _ => rfl
theorem V.lts_mono {m n : Nat} (h : m ≤ n) : ∀ l, V.lts m l = true → V.lts n l = true
  | [], _ => rfl
  | v :: l, hv => by
    simp only [V.lts, Bool.and_eq_true] at hv ⊢
    exact ⟨V.lt_mono h v hv.1, V.lts_mono h l hv.2⟩
end
mutual
theorem VR.lt {ι : Inj} {H : List (Nat × Blk)} {nb m : Nat} {w : World} (hW : WR ι H nb w) : ∀ (v : V) (x : Value), VR ι v x → nb ≤ m → V.lt m v = true
  | .p c _, x, hx, h | .pr _ c _ _, x, hx, h | .mp c, x, hx, h => by
    simp only [VR] at hx
    obtain ⟨q, h1, _⟩ := hx
    exact Nat.ble_eq_true_of_le (Nat.le_trans (hW.low c _ h1) h)
  | .sl c _ _ _, x, hx, h => by
    simp only [VR] at hx
    obtain ⟨q, _, h1, _⟩ := hx
    exact Nat.ble_eq_true_of_le (Nat.le_trans (hW.low c _ h1) h)
  | .ws c, x, hx, h => by
    simp only [VR] at hx
    rcases hx with ⟨q, h1, _⟩ | ⟨h1, _⟩ <;> exact Nat.ble_eq_true_of_le (Nat.le_trans (hW.low c _ h1) h)
  | .rs _ c _ _ _, x, hx, h => by
    simp only [VR] at hx
    rcases hx with ⟨q, _, _, h1, _⟩ | ⟨h1, _⟩ <;> exact Nat.ble_eq_true_of_le (Nat.le_trans (hW.low c _ h1) h)
  | .fn _ l, x, hx, h => by
    simp only [VR] at hx
    obtain ⟨cs, _, h2⟩ := hx
    exact VRs.lt hW l _ h2 h
  | .ag l, x, hx, h => by
    simp only [VR] at hx
    obtain ⟨cs, _, h2⟩ := hx
    exact VRs.lt hW l _ h2 h
  | .tp l, x, hx, h => by
    simp only [VR] at hx
    obtain ⟨cs, _, h2⟩ := hx
    exact VRs.lt hW l _ h2 h
  | .it _ v, x, hx, h => by
    simp only [VR] at hx
    obtain ⟨y, _, h2⟩ := hx
    exact VR.lt hW v _ h2 h
  | .b _, _, _, _ | .i _ _, _, _, _ | .s _, _, _, _ | .pn, _, _, _ | .sn, _, _, _ | .nf, _, _, _ | .ni, _, _, _ | .ai _ _ _, _, _, _ | .unk, _, _, _ => rfl
theorem VRs.lt {ι : Inj} {H : List (Nat × Blk)} {nb m : Nat} {w : World} (hW : WR ι H nb w) : ∀ (l : List V) (xs : List Value), VRs ι l xs → nb ≤ m → V.lts m l = true
  | [], _, _, _ => rfl
  | v :: l, xs, hx, h => by
    simp only [VRs] at hx
    obtain ⟨y, ys, _, h1, h2⟩ := hx
    simp only [V.lts, Bool.and_eq_true]
    exact ⟨VR.lt hW v _ h1 h, VRs.lt hW l _ h2 h⟩
end
theorem BR.cut {ι : Inj} {nb : Nat} {q : Rf} : ∀ {blk : Blk} {o : Obj}, Blk.lt nb blk = true → BR ι q blk o → BR (Abs.cut ι nb) q blk o
  | .dead, _, _, _ => trivial
  | .rows t l, o, _, h => h
  | .cells l, o, hf, h => by
    obtain ⟨cs, e, fr, h1, h2, h3⟩ := h
    exact ⟨cs, e, fr, h1, VRs.cut _ _ hf h2, h3⟩
  | .ints k n l, o, _, h => h
  | .iter s pos, o, _, h => h
  | .mp k l, o, _, h => h
def Ag {α : Type} (nb : Nat) (T : List (Nat × Option V)) : List Nat → (List (Nat × Option V) → Option α) → Option α
  | [], k => k []
  | t :: l, k => match look T t with
    | some (some v) => match V.lt nb v with
      | true => Ag nb T l fun m => k ((t, some v) :: m)
      | false => none
    | _ => none
def yj {α : Type} (nb : Nat) (H : List (Nat × Blk)) : List Nat → (List (Nat × Blk) → Option α) → Option α
  | [], k => k []
  | b :: l, k => match look H b with
    | some blk => match Blk.lt nb blk && Nat.blt b nb with
      | true => yj nb H l fun m => k ((b, blk) :: m)
      | false => none
    | none => none
inductive Fix where
  | nilT (t g : Nat) (tr : List Lf)
  | nilH (b i g : Nat) (tr : List Lf)
  | rsT (t : Nat)
  | rsH (b i : Nat)
def fixK {α : Type} (f : Fix) (s : St) (k : St → Option α) : Option α :=
  match f with
  | .nilT t g tr => match look s.T t with
    | some (some .sn) => match Nat.ble s.nb g with
      | true => k { T := (t, some (.ws g)) :: s.T, H := (g, .rows tr []) :: s.H, nb := g + 1, lo := s.lo, ro := s.ro, rb := s.rb }
      | false => none
    | some (some (.ws _)) => k s
    | _ => none
  | .nilH b i g tr => match look s.H b with
    | some (.cells l) => match l[i]? with
      | some .sn => match Nat.ble s.nb g with
        | true => k { T := s.T, H := (b, .cells (l.set i (.ws g))) :: (g, .rows tr []) :: s.H, nb := g + 1, lo := s.lo, ro := s.ro, rb := s.rb }
        | false => none
      | some (.ws _) => k s
      | _ => none
    | _ => none
  | .rsT t => match look s.T t with
    | some (some (.ws c)) => match look s.H c with
      | some (.rows tr l) => k { T := (t, some (.rs tr.length c 0 l.length none)) :: s.T, H := s.H, nb := s.nb, lo := s.lo, ro := s.ro, rb := s.rb }
      | _ => none
    | some (some (.rs z c j n (some _))) => k { T := (t, some (.rs z c j n none)) :: s.T, H := s.H, nb := s.nb, lo := s.lo, ro := s.ro, rb := s.rb }
    | some (some (.rs _ _ _ _ none)) => k s
    | _ => none
  | .rsH b i => match look s.H b with
    | some (.cells l) => match l[i]? with
      | some (.ws c) => match look s.H c with
        | some (.rows tr m) => k { T := s.T, H := (b, .cells (l.set i (.rs tr.length c 0 m.length none))) :: s.H, nb := s.nb, lo := s.lo, ro := s.ro, rb := s.rb }
        | _ => none
      | some (.rs z c j n (some _)) => k { T := s.T, H := (b, .cells (l.set i (.rs z c j n none))) :: s.H, nb := s.nb, lo := s.lo, ro := s.ro, rb := s.rb }
      | some (.rs _ _ _ _ none) => k s
      | _ => none
    | _ => none
def tX {α : Type} : List Fix → St → (St → Option α) → Option α
  | [], s, k => k s
  | f :: l, s, k => fixK f s fun s => tX l s k
structure Ann where
  ts : List Nat
  bs : List Nat
  nb : Nat
  fx : List Fix := []
def zU {α : Type} (an : Ann) (s : St) (k : St → Option α) : Option α :=
  match Nat.ble s.lo an.nb && Nat.ble an.nb s.nb with
  | true => Ag an.nb s.T an.ts fun T => yj an.nb s.H an.bs fun H => k { T := T, H := H, nb := an.nb, lo := s.lo, ro := s.ro, rb := s.rb }
  | false => none
def kb {α : Type} (an : Ann) (s : St) (k : St → Option α) : Option α := tX an.fx s fun s => zU an s k
theorem uK {α : Type} {nb : Nat} {T : List (Nat × Option V)} : ∀ {l : List Nat} {k : List (Nat × Option V) → Option α} {z : α}, Ag nb T l k = some z →
    ∃ T', k T' = some z ∧ ∀ t v, look T' t = some (some v) → look T t = some (some v) ∧ V.lt nb v = true
  | [], k, z, h => ⟨[], h, fun t v h => by cases h⟩
  | t :: l, k, z, h => by
    simp only [Ag] at h
    split at h
    · rename_i v hv
      split at h
      · rename_i hlt
        obtain ⟨T', h1, h2⟩ := uK h
        refine ⟨_, h1, fun u x hu => ?_⟩
        rw [az] at hu
        split at hu
        · rename_i e; subst e
          simp only [Option.some.injEq] at hu; subst hu
          exact ⟨hv, hlt⟩
        · exact h2 u x hu
      · cases h
    · cases h
theorem qr {α : Type} {nb : Nat} {H : List (Nat × Blk)} : ∀ {l : List Nat} {k : List (Nat × Blk) → Option α} {z : α}, yj nb H l k = some z →
    ∃ H', k H' = some z ∧ ∀ b blk, look H' b = some blk → look H b = some blk ∧ Blk.lt nb blk = true ∧ b < nb
  | [], k, z, h => ⟨[], h, fun t v h => by cases h⟩
  | b :: l, k, z, h => by
    simp only [yj] at h
    split at h
    · rename_i blk hb
      split at h
      · rename_i hlt
        simp only [Bool.and_eq_true] at hlt
        obtain ⟨H', h1, h2⟩ := qr h
        refine ⟨_, h1, fun c x hc => ?_⟩
        rw [az] at hc
        split at hc
        · rename_i e; subst e
          simp only [Option.some.injEq] at hc; subst hc
          exact ⟨hb, hlt.1, Nat.le_of_ble_eq_true hlt.2⟩
        · exact h2 c x hc
      · cases h
    · cases h
def Weak (s s' : St) : Prop := ∀ (n : Nat) (ι0 ι : Inj) (w0 : Base) (a : Act) (w : World), Inv n ι0 w0 ι s a w →
  ∃ ι', Inv n ι0 w0 ι' s' a w ∧ (∀ v x, V.lt s'.nb v = true → VR ι v x → VR ι' v x)
theorem zw {α : Type} {an : Ann} {s : St} {k : St → Option α} {z : α} (h : zU an s k = some z) : ∃ s', k s' = some z ∧ Weak s s' ∧ s'.nb = an.nb := by
  unfold zU at h
  split at h
  case h_2 => cases h
  rename_i hb
  simp only [Bool.and_eq_true] at hb
  have hlo := Nat.le_of_ble_eq_true hb.1
  have hle := Nat.le_of_ble_eq_true hb.2
  obtain ⟨T, h1, h2⟩ := uK h
  obtain ⟨H, h3, h4⟩ := qr h1
  refine ⟨_, h3, fun n ι0 ι w0 a w hI => ⟨cut ι an.nb, ⟨hI.size, hI.defers, fun t v hv => ?_, ⟨fun b b' q q' e1 e2 => ?_, fun b r e => ?_, fun b r e => ?_, fun b blk hl hd => ?_⟩, fun b r e => ?_, fun b r e => ?_, hI.fr, hI.low, fun b q e => hI.fz b q (kC e).2, hI.gl⟩,
    fun v x hv hx => VR.cut v x hv hx⟩, rfl⟩
  · obtain ⟨g1, g2⟩ := h2 t v hv
    obtain ⟨x, q1, q2⟩ := hI.tmps t v g1
    exact ⟨x, q1, VR.cut _ _ g2 q2⟩
  · exact hI.mem.inj b b' q q' (kC e1).2 (kC e2).2
  · exact (kC e).1
  · exact hI.mem.dom b r (kC e).2
  · obtain ⟨g1, g2, g3⟩ := h4 b blk hl
    exact (hI.mem.blk b blk g1 hd).map (pz g3) (fun _ _ => rfl) (fun _ _ h => BR.cut g2 h) (fun _ h => h)
  · have := hI.low b r e
    rw [pz (by omega)]
    exact hI.ext b r e
  · exact hI.new b r (kC e).2
theorem Weak.refl (s : St) : Weak s s := fun _ _ ι _ _ _ h => ⟨ι, h, fun _ _ _ h => h⟩
theorem Inv.phantom {n : Nat} {ι0 ι : Inj} {w0 : Base} {s : St} {a : Act} {w : World} (hI : Inv n ι0 w0 ι s a w) {g : Nat} (hg : s.nb ≤ g) (tr : List Lf) :
    Inv n ι0 w0 (upd ι g none) { T := s.T, H := (g, .rows tr []) :: s.H, nb := g + 1, lo := s.lo, ro := s.ro, rb := s.rb } a w := by
  have hf := hI.fresh g hg
  have hext := iR (r := none) hf
  have hold : ∀ b, b ≠ g → upd ι g none b = ι b := fun b hb => by simp [upd, hb]
  have hreal : ∀ b q, upd ι g none b = some (some q) → ι b = some (some q) := by
    intro b q h
    by_cases hb : b = g
    · subst hb; rw [bG] at h; cases h
    · rwa [hold b hb] at h
  refine ⟨hI.size, hI.defers, hI.tmps.mono hext, ⟨fun b b' q q' e1 e2 => hI.mem.inj b b' q q' (hreal _ _ e1) (hreal _ _ e2), fun b q e => ?_, fun b q e => hI.mem.dom b q (hreal _ _ e), fun b y hl hd => ?_⟩,
    fun b q e => (hI.ext b q e).imp (hext _ _) id, fun b q e => hI.new b q (hreal _ _ e), hI.fr, hI.low, fun b q e => hI.fz b q (hreal _ _ e), hI.gl⟩
  · by_cases hb : b = g
    · subst hb; exact Nat.lt_succ_self _
    · rw [hold b hb] at e
      have := hI.mem.low b q e
      simp only; omega
  · rw [az] at hl
    split at hl
    · rename_i e; subst e
      simp only [Option.some.injEq] at hl; subst hl
      exact .inr ⟨bG _ _ _, tr, rfl⟩
    · rename_i hne
      exact (hI.mem.blk b y hl hd).map (hold b (fun e => hne e.symm)) (fun _ _ => rfl) (fun _ _ h => BR.mono hext h) (fun _ h => h)
theorem Inv.setT {n : Nat} {ι0 ι : Inj} {w0 : Base} {s : St} {a : Act} {w : World} (hI : Inv n ι0 w0 ι s a w) {t : Nat} {u v : V} (hl : look s.T t = some (some u)) (hv : ∀ x, VR ι u x → VR ι v x) :
    Inv n ι0 w0 ι { T := (t, some v) :: s.T, H := s.H, nb := s.nb, lo := s.lo, ro := s.ro, rb := s.rb } a w := by
  refine ⟨hI.size, hI.defers, fun t' v' h => ?_, hI.mem, hI.ext, hI.new, hI.fr, hI.low, hI.fz, hI.gl⟩
  rw [az] at h
  split at h
  · rename_i e; subst e
    simp only [Option.some.injEq] at h; subst h
    obtain ⟨x, h1, h2⟩ := hI.tmps t u hl
    exact ⟨x, h1, hv x h2⟩
  · exact hI.tmps t' v' h
theorem Inv.setH {n : Nat} {ι0 ι : Inj} {w0 : Base} {s : St} {a : Act} {w : World} (hI : Inv n ι0 w0 ι s a w) {b i : Nat} {l : List V} {u v : V} (hl : look s.H b = some (.cells l)) (hi : l[i]? = some u) (hv : ∀ x, VR ι u x → VR ι v x) :
    Inv n ι0 w0 ι { T := s.T, H := (b, .cells (l.set i v)) :: s.H, nb := s.nb, lo := s.lo, ro := s.ro, rb := s.rb } a w := by
  refine ⟨hI.size, hI.defers, hI.tmps, ⟨hI.mem.inj, hI.mem.low, hI.mem.dom, fun c y h hd => ?_⟩, hI.ext, hI.new, hI.fr, hI.low, hI.fz, hI.gl⟩
  rw [az] at h
  split at h
  · rename_i e; subst e
    simp only [Option.some.injEq] at h; subst h
    obtain ⟨q, cs, e, fr, h1, h2, h3, h4⟩ := kj hI.mem hl
    refine .inl ⟨q, _, h1, h2, cs, e, fr, rfl, ?_, h4⟩
    obtain ⟨x, hx, hux⟩ := h3.get hi
    have := h3.set i (hv x hux)
    rwa [show cs.toList.set i x = cs.toList from by
      apply List.ext_getElem?
      intro j
      rw [List.getElem?_set]
      split
      · rename_i e; subst e
        split
        · exact hx.symm
        · rename_i hlt; rw [List.getElem?_eq_none (by omega)] at hx; cases hx
      · rfl] at this
  · exact hI.mem.blk c y h hd
theorem Df {ι : Inj} {H : List (Nat × Blk)} {nb c : Nat} {w : World} (hW : WR ι H nb w) {t : List Lf} {l : List (den t)} (hl : look H c = some (.rows t l)) : ∀ x, VR ι (.ws c) x → VR ι (.rs t.length c 0 l.length none) x := by
  intro x hx
  simp only [VR] at hx ⊢
  rcases ei hW hl with ⟨q, cs, e', fr, q1, q2, q4, q5, _⟩ | ⟨q1, rfl⟩
  · rcases hx with ⟨q', h5, rfl⟩ | ⟨h5, _⟩
    · rw [h5] at q1; cases q1
      exact .inl ⟨q, q.k, q.o, h5, ⟨by omega, eX⟩, fun _ => by omega, by rw [q4]⟩
    · rw [h5] at q1; cases q1
  · rcases hx with ⟨q', h5, _⟩ | ⟨h5, ao, rfl⟩
    · rw [h5] at q1; cases q1
    · exact .inr ⟨h5, ⟨rfl, eX⟩, ao, rfl⟩
theorem AR {ι : Inj} {z c j n m : Nat} : ∀ x, VR ι (.rs z c j n (some m)) x → VR ι (.rs z c j n none) x := by
  intro x hx
  simp only [VR] at hx ⊢
  rcases hx with ⟨q, cp, o, h1, h2, h3⟩ | ⟨h1, h2, h3⟩
  · exact .inl ⟨q, cp, o, h1, ⟨h2.1, eX⟩, h3⟩
  · exact .inr ⟨h1, ⟨h2.1, eX⟩, h3⟩
theorem AT {α : Type} {f : Fix} {s : St} {k : St → Option α} {z : α} (h : fixK f s k = some z) : ∃ s', k s' = some z ∧ Weak s s' ∧ s.nb ≤ s'.nb := by
  unfold fixK at h
  split at h
  · rename_i t g tr
    split at h
    · rename_i hl
      split at h
      case h_2 => cases h
      rename_i hg
      have hg := Nat.le_of_ble_eq_true hg
      refine ⟨_, h, fun n ι0 ι w0 a w hI => ⟨upd ι g none, ?_, fun v x _ hx => VR.mono (iR (hI.fresh g hg)) _ _ hx⟩, by simp only; omega⟩
      refine (hI.phantom hg tr).setT (u := .sn) hl fun x hx => ?_
      simp only [VR] at hx ⊢
      exact .inr ⟨bG _ _ _, none, hx⟩
    · exact ⟨s, h, Weak.refl s, Nat.le_refl _⟩
    · cases h
  · rename_i b i g tr
    split at h
    case h_2 => cases h
    rename_i l hb
    split at h
    · rename_i hi
      split at h
      case h_2 => cases h
      rename_i hg
      have hg := Nat.le_of_ble_eq_true hg
      refine ⟨_, h, fun n ι0 ι w0 a w hI => ⟨upd ι g none, ?_, fun v x _ hx => VR.mono (iR (hI.fresh g hg)) _ _ hx⟩, by simp only; omega⟩
      have hbg : b ≠ g := by
        rintro rfl
        obtain ⟨q, _, _, _, h1, _⟩ := kj hI.mem hb
        have := hI.mem.low b _ h1
        omega
      refine (hI.phantom hg tr).setH (u := .sn) (by simp only [az]; rw [if_neg (Ne.symm hbg)]; exact hb) hi fun x hx => ?_
      simp only [VR] at hx ⊢
      exact .inr ⟨bG _ _ _, none, hx⟩
    · exact ⟨s, h, Weak.refl s, Nat.le_refl _⟩
    · cases h
  · rename_i t
    split at h
    · rename_i c hl
      split at h
      case h_2 => cases h
      rename_i tr l hb
      exact ⟨_, h, fun n ι0 ι w0 a w hI => ⟨ι, hI.setT hl (Df hI.mem hb), fun _ _ _ h => h⟩, Nat.le_refl _⟩
    · rename_i z c j n m hl
      exact ⟨_, h, fun n ι0 ι w0 a w hI => ⟨ι, hI.setT hl AR, fun _ _ _ h => h⟩, Nat.le_refl _⟩
    · exact ⟨s, h, Weak.refl s, Nat.le_refl _⟩
    · cases h
  · rename_i b i
    split at h
    case h_2 => cases h
    rename_i l hb
    split at h
    · rename_i c hi
      split at h
      case h_2 => cases h
      rename_i tr m hc
      exact ⟨_, h, fun n ι0 ι w0 a w hI => ⟨ι, hI.setH hb hi (Df hI.mem hc), fun _ _ _ h => h⟩, Nat.le_refl _⟩
    · rename_i z c j n m' hi
      exact ⟨_, h, fun n ι0 ι w0 a w hI => ⟨ι, hI.setH hb hi AR, fun _ _ _ h => h⟩, Nat.le_refl _⟩
    · exact ⟨s, h, Weak.refl s, Nat.le_refl _⟩
    · cases h
theorem sa {α : Type} : ∀ {l : List Fix} {s : St} {k : St → Option α} {z : α}, tX l s k = some z → ∃ s', k s' = some z ∧ (∀ s'', Weak s' s'' → s''.nb ≤ s'.nb → Weak s s'') ∧ s.nb ≤ s'.nb
  | [], s, k, z, h => ⟨s, h, fun _ h _ => h, Nat.le_refl _⟩
  | f :: l, s, k, z, h => by
    simp only [tX] at h
    obtain ⟨s1, h1, h2, h3⟩ := AT h
    obtain ⟨s2, h4, h5, h6⟩ := sa h1
    refine ⟨s2, h4, fun s'' hw hn => ?_, by omega⟩
    intro n ι0 ι w0 a w hI
    obtain ⟨ι1, e1, e2⟩ := h2 n ι0 ι w0 a w hI
    obtain ⟨ι2, e3, e4⟩ := h5 s'' hw hn n ι0 ι1 w0 a w e1
    refine ⟨ι2, e3, fun v x hv hx => ?_⟩
    by_cases hs : V.lt s1.nb v = true
    · exact e4 v x hv (e2 v x hs hx)
    · exact e4 v x hv (e2 v x (by
        exact absurd hx (fun hx => hs (VR.lt hI.mem v x hx h3))) hx)
theorem lK {α : Type} {an : Ann} {s : St} {k : St → Option α} {z : α} (h : kb an s k = some z) : ∃ s', k s' = some z ∧ Weak s s' ∧ s'.nb = an.nb := by
  unfold kb at h
  obtain ⟨s1, h1, h2, h3⟩ := sa h
  unfold zU at h1
  have hle : an.nb ≤ s1.nb := by
    split at h1
    · rename_i hb
      simp only [Bool.and_eq_true] at hb
      exact Nat.le_of_ble_eq_true hb.2
    · cases h1
  obtain ⟨s', h4, h5, h6⟩ := zw (an := an) (k := k) (z := z) (s := s1) h1
  exact ⟨s', h4, h2 s' h5 (by omega), h6⟩
def ae {X Y : Type} (step : X → Option (X ⊕ Y)) : Nat → X → Option Y
  | 0, _ => none
  | n + 1, x => match step x with
    | some (.inl x') => ae step n x'
    | some (.inr y) => some y
    | none => none
def rW {X Y : Type} (an : Ann) (un : St → Option X) (ax : Ex → Ann) (ux : Ex → St → Option Y) : Ex → St → Option (X ⊕ Y)
  | .normal, s => kb an s fun s' => ob (un s') fun x => some (.inl x)
  | .exit id, s => kb (ax (.exit id)) s fun s' => ob (ux (.exit id) s') fun y => some (.inr y)
  | .ret, s => kb (ax .ret) s fun s' => ob (ux .ret s') fun y => some (.inr y)
  | .pan v, s => match V.lt (ax (.pan v)).nb v with
    | true => kb (ax (.pan v)) s fun s' => ob (ux (.pan v) s') fun y => some (.inr y)
    | false => none
theorem yq {X Y : Type} {an : Ann} {ax : Ex → Ann} {un : St → Option X} {ux : Ex → St → Option Y} {ex : Ex} {s : St} {r : X ⊕ Y} (h : rW an un ax ux ex s = some r) :
    (ex = .normal ∧ ∃ x s', r = .inl x ∧ un s' = some x ∧ Weak s s') ∨ (ex ≠ .normal ∧ ∃ y s', r = .inr y ∧ ux ex s' = some y ∧ Weak s s' ∧ ∀ v, ex = .pan v → V.lt s'.nb v = true) := by
  have key : ∀ {ex : Ex} {s : St} {r : X ⊕ Y}, (kb (ax ex) s fun s' => ob (ux ex s') fun y => some (.inr y)) = some r → (∀ v, ex = .pan v → V.lt (ax ex).nb v = true) →
      ∃ y s', r = .inr y ∧ ux ex s' = some y ∧ Weak s s' ∧ ∀ v, ex = .pan v → V.lt s'.nb v = true := by
    intro ex s r h hv
    obtain ⟨s', h1, h2, hnb⟩ := lK h
    obtain ⟨y, h3, h4⟩ := ad h1
    simp only [Option.some.injEq] at h4; subst h4
    exact ⟨y, s', rfl, h3, h2, fun v e => by rw [hnb]; exact hv v e⟩
  cases ex with
  | normal =>
    simp only [rW] at h
    obtain ⟨s', h1, h2, _⟩ := lK h
    obtain ⟨x, h3, h4⟩ := ad h1
    simp only [Option.some.injEq] at h4; subst h4
    exact .inl ⟨rfl, x, s', rfl, h3, h2⟩
  | exit id => exact .inr ⟨by simp, key h (by simp)⟩
  | ret => exact .inr ⟨by simp, key h (by simp)⟩
  | pan v =>
    simp only [rW] at h
    split at h
    · rename_i hv
      exact .inr ⟨by simp, key h fun u e => by cases e; exact hv⟩
    · cases h
theorem Weak.post {s s' : St} (h : Weak s s') {n : Nat} {ι0 ι : Inj} {w0 : Base} {a : Act} {w : World} (hI : Inv n ι0 w0 ι s a w) {ex : Ex} {e : Exit} (he : ExR ι ex e)
    (hv : ∀ v, ex = .pan v → V.lt s'.nb v = true) : ∃ ι', ExR ι' ex e ∧ Inv n ι0 w0 ι' s' a w := by
  obtain ⟨ι', h1, h2⟩ := h n ι0 ι w0 a w hI
  refine ⟨ι', ?_, h1⟩
  cases ex with
  | pan v =>
    obtain ⟨x, rfl, hx⟩ := he
    exact ⟨x, rfl, h2 v x (hv v rfl) hx⟩
  | _ => exact he
theorem Br {X Y : Type} {E : List Ent} (hE : ∀ x ∈ E, dE P x) {L : List Sub} {n : Nat} {c : AC} (hL : eD P n L c) {emb : X → St} {out : Y → Ex × St} {step : X → Option (X ⊕ Y)} {an : Ann} {ax : Ex → Ann}
    {un : St → Option X} {ux : Ex → St → Option Y} (hun : ∀ s x, un s = some x → s = emb x) (hux : ∀ ex s y, ux ex s = some y → (ex, s) = out y)
    (hb : ∀ x, run P E L n c (emb x) (rW an un ax ux) = step x) : ∀ (m : Nat) (x : X) (y : Y), ae step m x = some y →
      SemC P n (.loop c.code) (emb x) fun ex s => ex = (out y).1 ∧ s = (out y).2 := by
  intro m x y h ι0 w0 ι a w hI
  refine wp_loop_rounds m ?_
  induction m generalizing x ι a w with
  | zero => cases h
  | succ m ih =>
    rw [rounds_succ]
    simp only [ae] at h
    cases hs : step x with
    | none => rw [hs] at h; cases h
    | some r =>
      rw [hs] at h
      refine Code.wp_mono ?_ (ji hE c _ _ r hL (by rw [hb x]; exact hs) ι0 w0 ι a w hI)
      rintro e a' w' ⟨ex, s, ι', h1, h2, h3⟩
      rcases yq h3 with ⟨rfl, x', s', rfl, g1, g2⟩ | ⟨hne, y', s', rfl, g1, g2, g3⟩
      · simp only [ExR] at h1; subst h1
        obtain ⟨ι2, q1, _⟩ := g2 n ι0 ι' w0 a' w' h2
        rw [hun s' x' g1] at q1
        exact ih x' h ι2 a' w' q1
      · simp only [Option.some.injEq] at h; subst h
        obtain ⟨ι2, q1, q2⟩ := g2.post h2 h1 g3
        have hy := hux ex s' y' g1
        refine (?_ : Post n ι0 w0 (fun ex s => ex = (out y').1 ∧ s = (out y').2) e a' w' → _) ⟨ex, s', ι2, q1, q2, by rw [← hy], by rw [← hy]⟩
        cases ex with
        | normal => exact absurd rfl hne
        | exit i => simp only [ExR] at h1; subst h1; exact fun h => h
        | ret => simp only [ExR] at h1; subst h1; exact fun h => h
        | pan v => obtain ⟨_, rfl, _⟩ := h1; exact fun h => h
theorem SemC.clean {α : Type} {n : Nat} {c : Code} {s : St} {Φ : Ex → St → Prop} {an : Ann} {k : St → Option α} {z : α} (h : kb an s k = some z) (hk : ∀ s', k s' = some z → SemC P n c s' Φ) : SemC P n c s Φ := by
  obtain ⟨s', h1, h2, _⟩ := lK h
  intro ι0 w0 ι a w hI
  obtain ⟨ι', g1, _⟩ := h2 n ι0 ι w0 a w hI
  exact hk s' h1 ι0 w0 ι' a w g1
theorem SemC.mono {n : Nat} {c : Code} {s : St} {Φ Ψ : Ex → St → Prop} (h : SemC P n c s Φ) (hi : ∀ ex s, Φ ex s → Ψ ex s) : SemC P n c s Ψ :=
  fun ι0 w0 ι a w hI => Code.wp_mono (fun _ _ _ ⟨ex, s, ι, h1, h2, h3⟩ => ⟨ex, s, ι, h1, h2, hi ex s h3⟩) (h ι0 w0 ι a w hI)
def subE {X Y : Type} (m : Nat) (an : Ann) (un : St → Option X) (f : X → Option Y) (outK : (α : Type) → Y → (Ex → St → Option α) → Option α) : Sub :=
  ⟨m, fun α s k => kb an s fun s' => ob (un s') fun x => ob (f x) fun y => outK α y k⟩
theorem wj {α X Y : Type} {n m : Nat} {c : Code} {an : Ann} {un : St → Option X} {f : X → Option Y} {outK : (α : Type) → Y → (Ex → St → Option α) → Option α} {out : Y → Ex × St} (ho : ∀ α y k, outK α y k = k (out y).1 (out y).2) {emb : X → St} (hun : ∀ s x, un s = some x → s = emb x)
    (hf : ∀ x y, f x = some y → SemC P n c (emb x) fun ex s => ex = (out y).1 ∧ s = (out y).2) {s : St} {k : Ex → St → Option α} {z : α} (h : (subE m an un f outK).e α s k = some z) :
    SemC P n c s fun ex s' => k ex s' = some z := by
  simp only [subE] at h
  refine SemC.clean h fun s' h => ?_
  obtain ⟨x, h1, h⟩ := ad h
  obtain ⟨y, h2, h⟩ := ad h
  rw [ho] at h
  rw [hun s' x h1]
  exact (hf x y h2).mono fun ex s ⟨e1, e2⟩ => by rw [e1, e2]; exact h
def retX {R : Type} (un : V → Option R) : Bool → V → St → Option R
  | false, v, _ => cond (V.flat v) (un v) none
  | true, _, _ => none
theorem Aa {R : Type} {un : V → Option R} {enc : R → V} (hun : ∀ v r, un v = some r → v = enc r) {E : List Ent} (hE : ∀ x ∈ E, dE P x) {L : List Sub} {f : Nat} {fn : Func} {c : Code} {ac : AC}
    (hf : P.funcs[f]? = some fn) (hb : fn.body = some c) (hc : ac.code = c) (hL : eD P fn.ntmps L ac) {args : List V} {r : R} (hn : Nat.ble args.length fn.ntmps = true)
    (h : run P E L fn.ntmps ac ⟨lf args 0, [], 0, 0, 0, 0⟩ (finK P fn.results.toList (retX un)) = some r) : fp P f args (enc r) := by
  intro w xs hg hx
  refine (wn hE hf hb hc hL hn h dN w xs (WR.nothing w) (fun _ _ h => by cases h) (hg.mono fun b q h => by have := jJ h; cases this) hx).mono fun e w' ⟨pan, u, s, ι, h1, _, _, _, _, h5, h6⟩ => ?_
  cases pan with
  | true => cases h1
  | false =>
    simp only [retX] at h1
    obtain ⟨hfl, h1⟩ := cb h1
    have hu := hun u r h1
    subst hu
    cases e with
    | returned x => exact ⟨x, rfl, VR.flat _ _ hfl h6.2, yo h5⟩
    | panicked chain => exact absurd h6.1 (by simp)
    | outgrown => exact h6.elim
def sy {A R : Type} (f : Nat) (un : List V → Option A) (sh : A → Option R) (enc : R → V) : Ent :=
  ⟨f, fun _ args _ _ k => ob (un args) fun a => ob (sh a) fun r => k { val := enc r }⟩
theorem mc {A R : Type} {f : Nat} {un : List V → Option A} {sh : A → Option R} {enc : R → V} {arg : A → List V} (hent : iA P f) (hun : ∀ l a, un l = some a → l = arg a)
    (hfl : ∀ a, V.flats (arg a) = true) (h : ∀ a r, sh a = some r → fp P f (arg a) (enc r)) : dE P (sy f un sh enc) := by
  intro α args H fr k z hk
  simp only [sy] at hk
  obtain ⟨a, h1, hk1⟩ := ad hk
  obtain ⟨r, h2, hk2⟩ := ad hk1
  clear hk hk1
  have := hun args a h1
  subst this
  exact ⟨_, hk2, fun H' _ => .inl ⟨hent, (h a r h2).call (hfl a) H' fr⟩⟩
def subs : AC → List (Nat × AC)
  | .seq a b | .cond _ a b => subs a ++ subs b
  | .block _ a | .loop a | .scope a => subs a
  | .sub m c => [(m, c)]
  | _ => []
def getS : List (Nat × AC) → Nat → AC
  | [], _ => .skip
  | (k, c) :: l, m => cond (Nat.beq k m) c (getS l m)
def AC.body : AC → AC
  | .loop c => c
  | c => c
def DN (P : Program) (n : Nat) (L : List Sub) (m : Nat) (c : AC) : Prop :=
  ∀ (α : Type) (s : St) (k : Ex → St → Option α) (z : α), u4 α m s k L = some z → SemC P n c.code s fun ex s' => k ex s' = some z
theorem gW {n : Nat} {L : List Sub} : ∀ (c : AC), (∀ p ∈ subs c, DN P n L p.1 p.2) → eD P n L c
  | .seq a b, h => ⟨gW a fun p hp => h p (by simp [subs, hp]), gW b fun p hp => h p (by simp [subs, hp])⟩
  | .cond c a b, h => ⟨gW a fun p hp => h p (by simp [subs, hp]), gW b fun p hp => h p (by simp [subs, hp])⟩
  | .block _ a, h => by simp only [eD]; exact gW a fun p hp => h p (by simp [subs, hp])
  | .loop a, h => by simp only [eD]; exact gW a fun p hp => h p (by simp [subs, hp])
  | .scope a, h => by simp only [eD]; exact gW a fun p hp => h p (by simp [subs, hp])
  | .sub m c, h => h (m, c) (by simp [subs])
  | .skip, _ | .ret, _ | .exit _, _ | .reg _ _, _ | .draw _ _, _ | .bad _, _ | .label _, _ => by simp [eD]
def mZ (f : Func) : Code := match f.body with | some c => c | none => .skip
def acOf (f : Func) : AC := (li (mZ f) 0).1
def gk (l : List Nat) : AC → AC
  | .seq a b => .seq (gk l a) (gk l b)
  | .cond c a b => .cond c (gk l a) (gk l b)
  | .block id a => .block id (gk l a)
  | .loop a => .loop (gk l a)
  | .scope a => .scope (gk l a)
  | .sub m c => cond (l.any (Nat.beq m)) (gk l c) (.sub m (gk l c))
  | c => c
theorem du (l : List Nat) : ∀ c : AC, (gk l c).code = c.code
  | .seq a b => by simp [gk, AC.code, du l a, du l b]
  | .cond c a b => by simp [gk, AC.code, du l a, du l b]
  | .block id a => by simp [gk, AC.code, du l a]
  | .loop a => by simp [gk, AC.code, du l a]
  | .scope a => by simp [gk, AC.code, du l a]
  | .sub m c => by
    simp only [gk]
    cases l.any (Nat.beq m) <;> simp [AC.code, du l c]
  | .skip | .ret | .exit _ | .reg _ _ | .draw _ _ | .bad _ | .label _ => rfl
def acU (l : List Nat) (f : Func) : AC := gk l (acOf f)
theorem rc (f : Func) : (acOf f).code = mZ f := fb _ _
theorem t6 (l : List Nat) (f : Func) : (acU l f).code = mZ f := (du l _).trans (rc f)
end Go.Abs
