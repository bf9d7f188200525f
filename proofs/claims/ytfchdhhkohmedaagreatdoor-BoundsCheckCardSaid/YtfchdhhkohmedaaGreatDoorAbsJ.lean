/- The interpreter is sound: what it comes to is what the model's code comes to.
   Conditions: none; generic over the program. -/
import Derived.Test.YtfchdhhkohmedaaGreatDoorAbsI
namespace Go.Abs
variable {P : Program}
def iA (P : Program) (f : Nat) : Prop := ∀ (args : Array Value) (w : World), (callFunc f args).run P w = .ok (.enter f args) w
def RetR (ι : Inj) (r : CR) : Ending → Prop
  | .returned x => r.pan = false ∧ VR ι r.val x
  | .panicked chain => r.pan = true ∧ ∃ x, chain = [{ v := x, recovered := false }] ∧ VR ι r.val x
  | .outgrown => False
def mU (wr : List (Nat × Blk)) (ι : Inj) : Inj := fun b => if wr.any (fun x => Nat.beq x.1 b) then ι b else none
def uG (P : Program) (f : Nat) (args : List V) (H : List (Nat × Blk)) (fr : Nat) (r : CR) : Prop :=
  ∀ (ι : Inj) (nb : Nat) (w : World) (xs : Array Value), WR ι H nb w → GL (mU r.wr ι) w → (∀ x ∈ r.wr, ∀ q, ι x.1 = some (some q) → q.fz = false) → (∀ b, fr ≤ b → b < fr + r.grow → ι b = none) → VRs ι args xs.toList →
    Calls P f xs w fun e w' => ∃ ι' : Inj, (∀ b, isIn r.kill b = false → (b < fr ∨ fr + r.grow ≤ b) → ι' b = ι b) ∧
      (∀ b q, isIn r.kill b = true → ι' b = some (some q) → (∃ q', ι b = some (some q') ∧ q'.r = q.r) ∨ w.heap.size ≤ q.r) ∧ (∀ b q, fr ≤ b → b < fr + r.grow → ι' b = some (some q) → w.heap.size ≤ q.r) ∧ (∀ b q, ι' b = some (some q) → q.fz = true → ι b = some (some q)) ∧
      WR ι' (r.wr ++ pX r.kill H) (max nb (fr + r.grow)) w' ∧ Fr (mU r.wr ι) w w' ∧ RetR ι' r e
mutual
theorem VR.kill {ι ι' : Inj} {K : List Nat} (h : ∀ b, isIn K b = false → ∀ q, ι b = some q → ι' b = some q) : ∀ (v : V) (x : Value), VR ι v x → VR ι' (V.kill K v) x
  | .b _, _, hx | .i _ _, _, hx | .s _, _, hx | .pn, _, hx | .sn, _, hx | .nf, _, hx | .ni, _, hx | .ai _ _ _, _, hx | .unk, _, hx => by simpa only [V.kill, VR] using hx
  | .p c o, x, hx => by
    simp only [VR] at hx
    obtain ⟨q, h1, rfl⟩ := hx
    simp only [V.kill]
    cases hc : isIn K c with
    | true => simp [VR, Value.cells, Value.oneCell']
    | false => simp only [cond_false, VR]; exact ⟨q, h c hc _ h1, rfl⟩
  | .mp c, x, hx => by
    simp only [VR] at hx
    obtain ⟨q, h1, rfl⟩ := hx
    simp only [V.kill]
    cases hc : isIn K c with
    | true => simp [VR, Value.cells, Value.oneCell']
    | false => simp only [cond_false, VR]; exact ⟨q, h c hc _ h1, rfl⟩
  | .pr z c j o, x, hx => by
    simp only [VR] at hx
    obtain ⟨q, h1, rfl⟩ := hx
    simp only [V.kill]
    cases hc : isIn K c with
    | true => simp [VR, Value.cells, Value.oneCell']
    | false => simp only [cond_false, VR]; exact ⟨q, h c hc _ h1, rfl⟩
  | .sl c o n m, x, hx => by
    simp only [VR] at hx
    obtain ⟨q, cp, h1, h2, h3, rfl⟩ := hx
    simp only [V.kill]
    cases hc : isIn K c with
    | true => simp [VR, Value.cells, Value.oneCell']
    | false => simp only [cond_false, VR]; exact ⟨q, cp, h c hc _ h1, h2, h3, rfl⟩
  | .ws c, x, hx => by
    simp only [VR] at hx
    simp only [V.kill]
    cases hc : isIn K c with
    | true => rcases hx with ⟨q, h1, rfl⟩ | ⟨h1, ao, rfl⟩ <;> simp [VR, Value.cells, Value.oneCell']
    | false =>
      simp only [cond_false, VR]
      rcases hx with ⟨q, h1, rfl⟩ | ⟨h1, ao, rfl⟩
      · exact .inl ⟨q, h c hc _ h1, rfl⟩
      · exact .inr ⟨h c hc _ h1, ao, rfl⟩
  | .rs z c j n _, x, hx => by
    simp only [VR] at hx
    simp only [V.kill]
    cases hc : isIn K c with
    | true => rcases hx with ⟨q, cp, o, h1, h2, h3, rfl⟩ | ⟨h1, h2, ao, rfl⟩ <;> simp [VR, Value.cells, Value.oneCell']
    | false =>
      simp only [cond_false, VR]
      rcases hx with ⟨q, cp, o, h1, h2, h3, rfl⟩ | ⟨h1, h2, ao, rfl⟩
      · exact .inl ⟨q, cp, o, h c hc _ h1, h2, h3, rfl⟩
      · exact .inr ⟨h c hc _ h1, h2, ao, rfl⟩
  | .fn f cap, x, hx => by
    simp only [V.kill, VR] at hx ⊢
    obtain ⟨cs, h1, h2⟩ := hx
    exact ⟨cs, h1, VRs.kill h _ _ h2⟩
  | .it t v, x, hx => by
    simp only [V.kill, VR] at hx ⊢
    obtain ⟨y, h1, h2⟩ := hx
    exact ⟨y, h1, VR.kill h _ _ h2⟩
  | .ag l, x, hx => by
    simp only [V.kill, VR] at hx ⊢
    obtain ⟨cs, h1, h2⟩ := hx
    exact ⟨cs, h1, VRs.kill h _ _ h2⟩
  | .tp l, x, hx => by
    simp only [V.kill, VR] at hx ⊢
    obtain ⟨cs, h1, h2⟩ := hx
    exact ⟨cs, h1, VRs.kill h _ _ h2⟩
theorem VRs.kill {ι ι' : Inj} {K : List Nat} (h : ∀ b, isIn K b = false → ∀ q, ι b = some q → ι' b = some q) : ∀ (l : List V) (xs : List Value), VRs ι l xs → VRs ι' (V.kills K l) xs
  | [], _, hx => by simpa [V.kills, VRs] using hx
  | v :: l, xs, hx => by
    simp only [V.kills, VRs] at hx ⊢
    obtain ⟨y, ys, h1, h2, h3⟩ := hx
    exact ⟨y, ys, h1, VR.kill h _ _ h2, VRs.kill h _ _ h3⟩
end
theorem BR.kill {ι ι' : Inj} {K : List Nat} (h : ∀ b, isIn K b = false → ∀ q, ι b = some q → ι' b = some q) {q : Rf} : ∀ {blk : Blk} {o : Obj}, BR ι q blk o → BR ι' q (blk.kill K) o
  | .dead, _, _ => trivial
  | .rows t l, o, hb => hb
  | .cells l, o, hb => by
    obtain ⟨cs, e, fr, h1, h2, h3⟩ := hb
    exact ⟨cs, e, fr, h1, VRs.kill h _ _ h2, h3⟩
  | .ints k n l, o, hb => hb
  | .iter s pos, o, hb => hb
  | .mp k l, o, hb => hb
theorem mO (K : List Nat) : ∀ (T : List (Nat × Option V)) (t : Nat), look (m4 K T) t = (look T t).map (Option.map (V.kill K))
  | [], t => rfl
  | (u, none) :: T, t => by
    simp only [m4, az, mO K T]
    split <;> rfl
  | (u, some v) :: T, t => by
    simp only [m4, az, mO K T]
    split <;> rfl
theorem mL (K : List Nat) : ∀ (H : List (Nat × Blk)) (b : Nat), look (pX K H) b = (look H b).map (Blk.kill K)
  | [], t => rfl
  | (u, v) :: T, t => by
    simp only [pX, az, mL K T]
    split <;> rfl
theorem TR.kill {ι ι' : Inj} {K : List Nat} (h : ∀ b, isIn K b = false → ∀ q, ι b = some q → ι' b = some q) {T : List (Nat × Option V)} {tm : Array Value} (ht : TR ι T tm) : TR ι' (m4 K T) tm := by
  intro t v hv
  rw [mO] at hv
  cases hl : look T t with
  | none => simp [hl] at hv
  | some o =>
    cases o with
    | none => simp [hl] at hv
    | some u =>
      simp only [hl, Option.map_some, Option.some.injEq] at hv
      subst hv
      obtain ⟨x, h1, h2⟩ := ht t u hl
      exact ⟨x, h1, VR.kill h _ _ h2⟩
mutual
theorem V.kill_nil : ∀ v : V, V.kill [] v = v
  | .b _ | .i _ _ | .s _ | .pn | .sn | .nf | .ni | .ai _ _ _ | .unk | .p _ _ | .pr _ _ _ _ | .sl _ _ _ _ | .ws _ | .rs _ _ _ _ _ | .mp _ => rfl
  | .fn f l | .ag l | .tp l => by simp only [V.kill, V.kills_nil l]
  | .it t v => by simp only [V.kill, V.kill_nil v]
theorem V.kills_nil : ∀ l : List V, V.kills [] l = l
  | [] => rfl
  | v :: l => by simp only [V.kills, V.kill_nil v, V.kills_nil l]
end
theorem mf : ∀ H : List (Nat × Blk), pX [] H = H
  | [] => rfl
  | (b, x) :: H => by
    simp only [pX, mf H]
    cases x <;> simp only [Blk.kill, V.kills_nil]
theorem oQ : ∀ T : List (Nat × Option V), m4 [] T = T
  | [] => rfl
  | (b, none) :: T => by simp only [m4, oQ T]
  | (b, some x) :: T => by simp only [m4, oQ T, V.kill_nil]
theorem St.kill_eq (K : List Nat) (s : St) : s.kill K = { T := m4 K s.T, H := pX K s.H, nb := s.nb, lo := s.lo, ro := s.ro, rb := s.rb } := by
  cases K with
  | nil => simp only [St.kill, oQ, mf]
  | cons b K => rfl
def DR (P : Program) (f : Nat) (args : List V) (r : CR) : Prop :=
  r.pan = false ∧ r.wr = [] ∧ r.grow = 0 ∧ r.kill = [] ∧ ∀ (ι : Inj) (w : World) (xs : Array Value), VRs ι args xs.toList → ∃ x, (callFunc f xs).run P w = .ok (.value x) w ∧ VR ι r.val x
def GoOK (P : Program) (f : Nat) (args : List V) (H : List (Nat × Blk)) (fr : Nat) (r : CR) : Prop := (iA P f ∧ uG P f args H fr r) ∨ DR P f args r
def dE (P : Program) (x : Ent) : Prop :=
  ∀ (α : Type) (args : List V) (H : List (Nat × Blk)) (fr : Nat) (k : CR → Option α) (z : α), x.e α args H fr k = some z →
    ∃ r, k r = some z ∧ ∀ H', (∀ b ∈ r.rd, look H' b = look H b) → GoOK P x.f args H' fr r
theorem nq {α : Type} {f : Nat} {args : List V} {H : List (Nat × Blk)} {fr : Nat} {k : CR → Option α} {z : α} : ∀ {E : List Ent}, (∀ x ∈ E, dE P x) → vk α f args H fr k E = some z →
    ∃ r, k r = some z ∧ ∀ H', (∀ b ∈ r.rd, look H' b = look H b) → GoOK P f args H' fr r
  | [], _, h => by simp [vk] at h
  | x :: E, hE, h => by
    simp only [vk] at h
    cases hb : Nat.beq x.f f with
    | true =>
      rw [hb] at h
      have hf := Nat.eq_of_beq_eq_true hb
      subst hf
      exact hE x (by simp) α args H fr k z h
    | false =>
      rw [hb] at h
      exact nq (fun y hy => hE y (List.mem_cons_of_mem _ hy)) h
def ExR (ι : Inj) : Ex → Exit → Prop
  | .normal, e => e = .normal
  | .exit id, e => e = .exit id
  | .ret, e => e = .ret
  | .pan v, e => ∃ x, e = .panic [{ v := x, recovered := false }] ∧ VR ι v x
def Post (n : Nat) (ι0 : Inj) (w0 : Base) (Φ : Ex → St → Prop) : Exit → Act → World → Prop :=
  fun e a w => ∃ ex s ι, ExR ι ex e ∧ Inv n ι0 w0 ι s a w ∧ Φ ex s
def SemC (P : Program) (n : Nat) (c : Code) (s : St) (Φ : Ex → St → Prop) : Prop :=
  ∀ (ι0 : Inj) (w0 : Base) (ι : Inj) (a : Act) (w : World), Inv n ι0 w0 ι s a w → c.wp P (Post n ι0 w0 Φ) a w
def eD (P : Program) (n : Nat) (L : List Sub) : AC → Prop
  | .seq a b | .cond _ a b => eD P n L a ∧ eD P n L b
  | .block _ a | .scope a | .loop a => eD P n L a
  | .sub m c => ∀ (α : Type) (s : St) (k : Ex → St → Option α) (z : α), u4 α m s k L = some z → SemC P n c.code s fun ex s' => k ex s' = some z
  | _ => True
theorem Fr.trans {ι0 κ : Inj} {w0 w w' : World} (h : Fr ι0 w0 w) (hk : ∀ b q, κ b = some (some q) → (∃ q', ι0 b = some (some q') ∧ q'.r = q.r) ∨ w0.heap.size ≤ q.r) (h' : Fr κ w w') : Fr ι0 w0 w' := by
  refine ⟨h'.os.trans h.os, h'.tape.trans h.tape, h'.output.trans h.output, Nat.le_trans h.size h'.size, fun k hlt hno => ?_⟩
  rw [h'.blk k (Nat.lt_of_lt_of_le hlt h.size) ?_, h.blk k hlt hno]
  intro b q hb
  rcases hk b q hb with ⟨q', h1, h2⟩ | h1
  · rw [← h2]; exact hno b q' h1
  · omega
theorem gZ (a : Act) (d : Option Nat) (v : Value) : (a.put d v).tmps.size = a.tmps.size := by
  cases d <;> simp [Act.put]
theorem eg (a : Act) (d : Option Nat) (v : Value) : (a.put d v).defers = a.defers := by
  cases d <;> rfl
theorem TR.app {ι : Inj} {s : St} {a : Act} {n : Nat} {d : Option Nat} {v : Option V} {x : Value} {wr : List (Nat × Blk)} {nb : Nat} (ht : TR ι s.T a.tmps) (hs : a.tmps.size = n) (hd : mG n d = true)
    (hv : ∀ u, v = some u → VR ι u x) : TR ι (s.app d v wr nb).T (a.put d x).tmps := by
  cases d with
  | none => exact ht
  | some d => exact ht.put (by rw [hs]; exact Nat.le_of_ble_eq_true hd) hv
theorem Inv.drawn {n : Nat} {ι0 ι : Inj} {w0 : Base} {s : St} {a : Act} {w : World} (h : Inv n ι0 w0 ι s a w) (m : Nat) : Inv n ι0 w0 ι s a { w with drawn := m } :=
  ⟨h.size, h.defers, h.tmps, h.mem.draws m, h.ext, h.new, h.fr.draws m, h.low, h.fz, h.gl⟩
theorem ut {n fr : Nat} {ι0 ι : Inj} {w0 : Base} {s : St} {o : Oper} {a : Act} {w : World} {e : Eff} (hI : Inv n ι0 w0 ι s a w) (hf : ι fr = none) (hd : mG n o.dst = true)
    (h : dQ P ι fr o a w e) (hro : e.new = false → ∀ bb, e.wr = some bb → s.ro ≤ bb.1) {next : Act → World → Prop} {Q : Exit → Act → World → Prop}
    (hn : ∀ ι' a' w', (∀ b, b ≠ fr → ι' b = ι b) → (e.new = false ∨ e.wr = none → ι' fr = ι fr) →
      Inv n ι0 w0 ι' (s.app o.dst e.val e.wr.toList (if e.new = true ∧ e.wr ≠ none then max s.nb (fr + 1) else s.nb)) a' w' → next a' w') :
    o.wp P a w next Q := by
  have fin : ∀ {x : Next} {w' : World} {ι' : Inj}, (execOp a.eval o).run P w = .ok x w' → NextR ι' e.val x → (∀ y, (∀ u, e.val = some u → VR ι' u y) → next (a.put o.dst y) w') → o.wp P a w next Q := by
    intro x w' ι' hr hx hy
    unfold Oper.wp
    rw [hr]
    cases hx with
    | skip h0 => exact hy _ (fun u hu => by rw [h0] at hu; cases hu)
    | value x h0 => exact hy _ h0
  unfold dQ at h
  split at h
  · rename_i hw
    obtain ⟨x, h1, h2⟩ := h
    refine fin h1 h2 fun y hy => hn ι _ _ (fun _ _ => rfl) (fun _ => rfl) ?_
    rw [hw]
    simp only [ne_eq, not_true_eq_false, and_false, if_false]
    exact ⟨by rw [gZ]; exact hI.size, by rw [eg]; exact hI.defers, hI.tmps.app hI.size hd hy, hI.mem, hI.ext, hI.new, hI.fr, hI.low, hI.fz, hI.gl⟩
  · rename_i b blk hw
    split at h
    · rename_i hnw
      obtain ⟨r, h1, hz⟩ := h
      have hz0 : r.fz = false := by
        cases hc : r.fz with
        | false => rfl
        | true => have := hI.fz b r h1 hc; have := hro hnw _ hw; simp only at this; omega
      obtain ⟨ob, x, h2, h3, h4⟩ := hz hz0
      refine fin h2 h4 fun y hy => hn ι _ _ (fun _ _ => rfl) (fun _ => rfl) ?_
      rw [hw, hnw]
      simp only [Bool.false_eq_true, false_and, if_false]
      refine ⟨by rw [gZ]; exact hI.size, by rw [eg]; exact hI.defers, hI.tmps.app hI.size hd hy, hI.mem.write h1 hz0 h3, hI.ext, hI.new, ?_, hI.low, hI.fz, hI.gl⟩
      exact hI.fr.write ((hI.new b r h1).imp (fun ⟨q', h, hr⟩ => ⟨b, q', sD h (hro hnw _ hw), hr⟩) id) _
    · rename_i hnw
      obtain ⟨rfl, d, q, ob, x, h2, hq, hqz, h3, h4⟩ := h
      have hext := iR (r := some q) hf
      refine fin h2 h4 fun y hy => hn (upd ι b (some q)) _ _ (fun c hc => by simp [upd, hc]) (fun hc => by rw [hnw, hw] at hc; simp at hc) ?_
      rw [hw, hnw]
      simp only [ne_eq, reduceCtorEq, not_false_eq_true, and_self, if_true]
      refine ⟨by rw [gZ]; exact hI.size, by rw [eg]; exact hI.defers, (hI.tmps.mono hext).app hI.size hd hy, (hI.mem.draws d).alloc hf (by simp only [St.app]; omega) (by simp only [St.app]; omega) hq h3, fun c q hc => (hI.ext c q hc).imp (hext _ _) id, fun c q hc => ?_, (hI.fr.draws d).alloc ob, hI.low, fun c p hc hp => by
        unfold upd at hc
        split at hc
        · simp only [Option.some.injEq] at hc; subst hc; rw [hqz] at hp; cases hp
        · exact hI.fz c p hc hp, hI.gl⟩
      unfold upd at hc
      split at hc
      · simp only [Option.some.injEq] at hc; subst hc; exact .inr (by rw [hq]; exact hI.fr.size)
      · exact hI.new c q hc
theorem Al {ι : Inj} {T : List (Nat × Option V)} {a : Act} (ht : TR ι T a.tmps) {g : Operand} {f : Nat} {cap : List V} (h : opd T g = some (.fn f cap)) :
    ∃ cs : Array Value, a.eval g = fnV f cs ∧ VRs ι cap cs.toList := by
  have := aA ht h
  simpa only [VR] using this
theorem pL {wr : List (Nat × Blk)} {ι : Inj} {b : Nat} {r : Option Rf} (h : mU wr ι b = some r) : ∃ x ∈ wr, x.1 = b := by
  unfold mU at h
  split at h
  · rename_i ha
    obtain ⟨x, hx, hb⟩ := List.any_eq_true.1 ha
    exact ⟨x, hx, Nat.eq_of_beq_eq_true hb⟩
  · cases h
theorem q8 (wr : List (Nat × Blk)) (ι : Inj) : ∀ b r, mU wr ι b = some r → ι b = some r := by
  intro b r h
  unfold mU at h
  split at h
  · exact h
  · cases h
theorem yS {K f : Nat} {ι : Inj} {o : Oper} {a : Act} {g : Operand} {args : Array Operand} {tys : Array TypeId} {cs : Array Value} {cap l : List V} (ho : o.op = .call ⟨.value g, args, tys⟩)
    (h1 : a.eval g = fnW K f cs) (h2 : VRs ι cap cs.toList) (h3 : VRs ι l (args.toList.map a.eval)) (w : World) :
    ∃ as : Array Value, VRs ι (fnAW K f l cap) as.toList ∧ (execOp a.eval o).run P w = (callFunc (fnFW K f) as).run P w := by
  unfold fnAW fnFW
  unfold fnW at h1
  cases hK : Nat.blt f K <;> rw [hK] at h1 <;> simp only at h1 ⊢
  · refine ⟨cs ++ args.map a.eval, by simpa using h2.append h3, ?_⟩
    simp only [execOp, ho, resolve, h1, Deferred.ofValue, Array.append_empty, Sem.run_bind, Sem.run_pure, Result.andThen_ok, invoke]
  · refine ⟨args.map a.eval ++ cs, by simpa using h3.append h2, ?_⟩
    simp only [execOp, ho, resolve, h1, Deferred.ofValue, Array.empty_append, Sem.run_bind, Sem.run_pure, Result.andThen_ok, invoke]
theorem qv {n fr : Nat} {ι0 ι : Inj} {w0 : Base} {s : St} {o : Oper} {a : Act} {w : World} {g : Operand} {args : Array Operand} {tys : Array TypeId} {f : Nat} {cap l : List V} {r : CR}
    (ho : o.op = .call ⟨.value g, args, tys⟩) (hI : Inv n ι0 w0 ι s a w) (hfr : ∀ b, fr ≤ b → b < fr + r.grow → ι b = none) (hd : mG n o.dst = true)
    (hg : opd s.T g = some (.fn f cap)) (hl : opds (opd s.T) args.toList = some l) (hro : r.wr.all (fun x => Nat.ble s.ro x.1) = true)
    (hkill : r.kill.all (fun b => Nat.ble s.rb b) = true) (hc : GoOK P (fnF f) (fnA f l cap) s.H fr r)
    {next : Act → World → Prop} {Q : Exit → Act → World → Prop}
    (hn : r.pan = false → ∀ ι' a' w', (∀ b, isIn r.kill b = false → (b < fr ∨ fr + r.grow ≤ b) → ι' b = ι b) → Inv n ι0 w0 ι' ((s.kill r.kill).app o.dst (some r.val) r.wr (max s.nb (fr + r.grow))) a' w' → next a' w')
    (hp : r.pan = true → ∀ ι' x w', VR ι' r.val x → Inv n ι0 w0 ι' ((s.kill r.kill).app none none r.wr (max s.nb (fr + r.grow))) a w' → Q (.panic [{ v := x, recovered := false }]) a w') :
    o.wp P a w next Q := by
  obtain ⟨cs, h1, h2⟩ := Al hI.tmps hg
  have h3 := oy hI.tmps hl
  obtain ⟨as, has, hinv⟩ := yS (P := P) ho (show a.eval g = fnW 1000000 f cs from h1) h2 h3 w
  rcases hc with ⟨hE, hc⟩ | ⟨a1, a2, a3, a4, hans⟩
  case inr =>
    obtain ⟨x, hrun0, hx⟩ := hans ι w as has
    have hrun : (execOp a.eval o).run P w = .ok (.value x) w := by rw [hinv]; exact hrun0
    unfold Oper.wp
    rw [hrun]
    refine hn a1 ι _ _ (fun _ _ _ => rfl) ?_
    rw [a2, a3, a4, Nat.add_zero]
    refine ⟨by rw [gZ]; exact hI.size, by rw [eg]; exact hI.defers, TR.app (s := s) hI.tmps hI.size hd (fun u hu => by cases hu; exact hx), ?_, hI.ext, hI.new, hI.fr, hI.low, hI.fz, hI.gl⟩
    exact ⟨hI.mem.inj, fun b q hq => Nat.lt_of_lt_of_le (hI.mem.low b q hq) (Nat.le_max_left _ _), hI.mem.dom, hI.mem.blk⟩
  have hrun : (execOp a.eval o).run P w = .ok (.enter (fnF f) as) w := by rw [hinv]; exact hE _ _
  unfold Oper.wp
  rw [hrun]
  simp only [Oper.upon]
  refine (hc ι s.nb w as hI.mem (hI.glHere fun b q hb => by
    obtain ⟨x, hx, rfl⟩ := pL hb
    exact ⟨q8 r.wr ι x.1 _ hb, Nat.le_of_ble_eq_true (List.all_eq_true.1 hro x hx)⟩) (fun x hx q hq => by
    cases hc : q.fz with
    | false => rfl
    | true => have := hI.fz x.1 q hq hc; have := Nat.le_of_ble_eq_true (List.all_eq_true.1 hro x hx); omega) (fun b hb1 hb2 => hfr b hb1 (by omega)) has).mono fun e w' h => ?_
  obtain ⟨ι', g1, g0, g2, g6, g3, g4, g5⟩ := h
  have hfz : ∀ b q, ι' b = some (some q) → q.fz = true → b < s.ro := fun b q hb hq => hI.fz b q (g6 b q hb hq) hq
  have hkro : ∀ b, isIn r.kill b = true → s.rb ≤ b := by
    intro b hb
    obtain ⟨c, hc1, hc2⟩ := List.any_eq_true.1 hb
    rw [Nat.eq_of_beq_eq_true hc2]
    exact Nat.le_of_ble_eq_true (List.all_eq_true.1 hkill c hc1)
  have hext : ∀ b, isIn r.kill b = false → ∀ q, ι b = some q → ι' b = some q := by
    intro b hk q hb
    rw [g1 b hk ?_]; exact hb
    rcases Nat.lt_or_ge b fr with h | h
    · exact .inl h
    · rcases Nat.lt_or_ge b (fr + r.grow) with h' | h'
      · have := hfr b h (by omega)
        rw [this] at hb; cases hb
      · exact .inr h'
  have hext2 : ∀ b q, ι0 b = some q → ι' b = some q ∨ s.rb ≤ b := by
    intro b q hb
    rcases hI.ext b q hb with h | h
    · cases hk : isIn r.kill b with
      | true => exact .inr (hkro b hk)
      | false => exact .inl (hext b hk q h)
    · exact .inr h
  have hnew : ∀ b q, ι' b = some (some q) → (∃ q', ι0 b = some (some q') ∧ q'.r = q.r) ∨ w0.w.heap.size ≤ q.r := by
    intro b q hb
    cases hk : isIn r.kill b with
    | true =>
      rcases g0 b q hk hb with ⟨q', h6, h7⟩ | h6
      · rw [← h7]; exact hI.new b q' h6
      · exact .inr (Nat.le_trans hI.fr.size h6)
    | false =>
      by_cases hin : b < fr ∨ fr + r.grow ≤ b
      · rw [g1 b hk hin] at hb; exact hI.new b q hb
      · have := g2 b q (by omega) (by omega) hb
        exact .inr (Nat.le_trans hI.fr.size this)
  have hfrm : Fr (roI ι0 s.ro) w0.w w' := hI.fr.trans (fun b q hb => by
    obtain ⟨x, hx, rfl⟩ := pL hb
    have h1 := Nat.le_of_ble_eq_true (List.all_eq_true.1 hro x hx)
    exact (hI.new x.1 q (q8 r.wr ι x.1 _ hb)).imp (fun ⟨q', h, hr⟩ => ⟨q', sD h h1, hr⟩) id) g4
  have hT := hI.tmps.kill hext
  rw [St.kill_eq] at hn hp
  cases e with
  | returned x =>
    obtain ⟨p1, p2⟩ := g5
    refine hn p1 ι' _ _ g1 ⟨by rw [gZ]; exact hI.size, by rw [eg]; exact hI.defers, TR.app (s := { T := m4 r.kill s.T, H := pX r.kill s.H, nb := s.nb, lo := s.lo, ro := s.ro, rb := s.rb }) hT hI.size hd (fun u hu => by cases hu; exact p2), g3, hext2, hnew, hfrm, hI.low, hfz, hI.gl⟩
  | panicked chain =>
    obtain ⟨p1, x, rfl, p2⟩ := g5
    exact hp p1 ι' x _ p2 ⟨hI.size, hI.defers, hT, g3, hext2, hnew, hfrm, hI.low, hfz, hI.gl⟩
  | outgrown => exact g5.elim
theorem tN {α : Type} {E : List Ent} (hE : ∀ x ∈ E, dE P x) {n fr : Nat} {ι0 ι : Inj} {w0 : Base} {s : St} {o : Oper} {a : Act} {w : World} (hI : Inv n ι0 w0 ι s a w)
    (hfr : ∀ b, fr ≤ b → b < fr + 8 → ι b = none) {k : St → List Nat → List (Nat × Blk) → Nat → Option α} {kp : V → St → Option α} {z : α} (h : rL P E n fr o s k kp = some z)
    {next : Act → World → Prop} {Q : Exit → Act → World → Prop}
    (hn : ∀ s' rd wr g ι' a' w', k s' rd wr g = some z → (∀ b, (b < fr ∨ fr + g ≤ b) → ι' b = ι b) → Inv n ι0 w0 ι' s' a' w' → next a' w')
    (hp : ∀ v s' ι' x a' w', kp v s' = some z → VR ι' v x → Inv n ι0 w0 ι' s' a' w' → Q (.panic [{ v := x, recovered := false }]) a' w') :
    o.wp P a w next Q := by
  have hf : ι fr = none := hfr fr (Nat.le_refl _) (by omega)
  unfold rL at h
  split at h
  · cases h
  rename_i hd
  have eff : mI P fr o s k = some z → o.wp P a w next Q := by
    intro h
    unfold mI at h
    obtain ⟨e, he, hok⟩ := wb hI.tmps hI.mem hf h
    refine ut hI hf hd hok (fun hnw bb hw => by
      rw [hw] at he
      simp only [hnw] at he
      split at he
      · rename_i hle; exact Nat.le_of_ble_eq_true hle
      · cases he) fun ι' a' w' g1 g2 hI' => ?_
    split at he
    · rename_i hw
      refine hn _ _ _ _ ι' a' w' he (fun b _ => ?_) (by simpa [hw] using hI')
      by_cases hb : b = fr
      · subst hb; exact g2 (.inr hw)
      · exact g1 b hb
    · rename_i bb hw
      split at he
      · rename_i hnw
        split at he
        case h_2 => cases he
        refine hn _ _ _ _ ι' a' w' he (fun b _ => ?_) (by simpa [hw, hnw] using hI')
        by_cases hb : b = fr
        · subst hb; exact g2 (.inl hnw)
        · exact g1 b hb
      · rename_i hnw
        exact hn _ _ _ _ ι' a' w' he (fun b hb => g1 b (by omega)) (by simpa [hw, hnw] using hI')
  split at h
  · rename_i cl hop
    split at h
    · rename_i g hcal
      split at h
      · rename_i f cap hg
        obtain ⟨l, hl, h⟩ := ad h
        obtain ⟨r, h2, h3⟩ := nq hE h
        split at h2
        · cases h2
        rename_i hgr
        simp only [Bool.and_eq_true] at hgr
        have hk0 : r.kill = [] := by simpa using hgr.2.2
        have hg8 := Nat.le_of_ble_eq_true hgr.1
        obtain ⟨callee, args, tys⟩ := cl
        simp only at hcal
        subst hcal
        refine qv hop hI (fun b e1 e2 => hfr b e1 (by omega)) hd hg hl hgr.2.1 (by rw [hk0]; rfl) (h3 _ fun _ _ => rfl) (fun hpan ι' a' w' g1 hI' => ?_) (fun hpan ι' x w' g1 hI' => ?_)
        · rw [hpan] at h2
          rw [hk0] at g1 hI'
          exact hn _ _ _ _ ι' a' w' h2 (fun b hb => g1 b rfl hb) hI'
        · rw [hpan] at h2
          rw [hk0] at hI'
          exact hp _ _ ι' x a w' h2 g1 hI'
      · cases h
    · exact eff h
  · rename_i x hop
    split at h
    · rename_i t v hx
      have hv := aA hI.tmps hx
      have hv' := hv
      simp only [VR] at hv
      obtain ⟨y, h6, _⟩ := hv
      unfold Oper.wp
      have hrun : (execOp a.eval o).run P w = .halt (.panic (.iface t y)) w := by
        simp only [execOp, hop, h6, Instr.panic, Sem.run_bind, run_goPanic, Result.andThen_halt]
      rw [hrun]
      exact hp _ _ ι _ a w h (h6 ▸ hv') hI
    · cases h
  · exact eff h
theorem TR.again {ι : Inj} {T : List (Nat × Option V)} {tm : Array Value} (ht : TR ι T tm) {d : Nat} {v : V} (hl : look T d = some (some v)) : TR ι ((d, some v) :: T) tm := by
  intro t u hu
  rw [az] at hu
  split at hu
  · rename_i e; subst e
    simp only [Option.some.injEq] at hu; subst hu
    exact ht d v hl
  · exact ht t u hu
theorem Inv.again {n : Nat} {ι0 ι : Inj} {w0 : Base} {s : St} {a : Act} {w : World} (h : Inv n ι0 w0 ι s a w) {d : Nat} {v : V} (hl : look s.T d = some (some v)) :
    Inv n ι0 w0 ι { s with T := (d, some v) :: s.T } a w :=
  ⟨h.size, h.defers, h.tmps.again hl, h.mem, h.ext, h.new, h.fr, h.low, h.fz, h.gl⟩
theorem ky {ops : List Oper} {j d : Nat} (h : gtmp ops j = some d) (tm : Array Value) :
    yielded ops.toArray tm j = match tm[d]? with | some (.bool b) => some b | _ => none := by
  unfold gtmp at h
  split at h
  · rename_i o ho
    have : (ops.toArray[j]?).bind (·.dst) = some d := by simp [ho, h]
    unfold yielded
    rw [this]
    rfl
  · cases h
theorem v6 {α : Type} {n : Nat} {ι0 ι : Inj} {w0 : Base} {ops : List Oper} {o : Oper} {s : St} {a : Act} {w : World} (hI : Inv n ι0 w0 ι s a w) {k : Bool → St → Option α} {z : α}
    (h : oJ ops o s k = some z) : ∃ want s', k want s' = some z ∧ Inv n ι0 w0 ι s' a w ∧ Region.wanted o (yielded ops.toArray a.tmps) = want ∧ (∀ t, look s'.T t = look s.T t) ∧ s'.H = s.H ∧ s'.nb = s.nb := by
  unfold oJ at h
  split at h
  · rename_i hg
    exact ⟨true, s, h, hI, by simp [Region.wanted, hg], fun _ => rfl, rfl, rfl⟩
  · rename_i j want hg
    split at h
    case h_2 => cases h
    rename_i d hd
    have hy := ky hd a.tmps
    have again : ∀ x, look s.T d = some (some (.b x)) → ∀ t, look ((d, some (V.b x)) :: s.T) t = look s.T t := by
      intro x hx t
      rw [az]
      split
      · rename_i e; subst e; exact hx.symm
      · rfl
    split at h
    · rename_i x hx
      obtain ⟨y, h1, h2⟩ := hI.tmps d _ hx
      simp only [VR] at h2; subst h2
      rw [h1] at hy
      cases x
      · exact ⟨!want, _, h, hI.again hx, by cases want <;> simp [Region.wanted, hg, hy], again _ hx, rfl, rfl⟩
      · exact ⟨want, _, h, hI.again hx, by cases want <;> simp [Region.wanted, hg, hy], again _ hx, rfl, rfl⟩
    · rename_i hx
      obtain ⟨y, h1, h2⟩ := hI.tmps d _ hx
      simp only [VR] at h2
      obtain ⟨cs, rfl, _⟩ := h2
      rw [h1] at hy
      exact ⟨false, s, h, hI, by simp [Region.wanted, hg, hy], fun _ => rfl, rfl, rfl⟩
    · cases h
theorem y7 (ι : Inj) : VR ι (.tp []) undef := by
  simp only [VR]
  exact ⟨#[], rfl, by simp [VRs]⟩
theorem Inv.skip {n : Nat} {ι0 ι : Inj} {w0 : Base} {s : St} {a : Act} {w : World} (h : Inv n ι0 w0 ι s a w) {d : Option Nat} (hd : mG n d = true) :
    Inv n ι0 w0 ι (s.app d (some (.tp [])) [] s.nb) (a.put d undef) w :=
  ⟨by rw [gZ]; exact h.size, by rw [eg]; exact h.defers, h.tmps.app h.size hd (fun u hu => by cases hu; exact y7 ι), h.mem, h.ext, h.new, h.fr, h.low, h.fz, h.gl⟩
theorem Inv.fresh {n : Nat} {ι0 ι : Inj} {w0 : Base} {s : St} {a : Act} {w : World} (h : Inv n ι0 w0 ι s a w) : ∀ b, s.nb ≤ b → ι b = none := by
  intro b hb
  cases hi : ι b with
  | none => rfl
  | some r => have := h.mem.low b r hi; omega
end Go.Abs
