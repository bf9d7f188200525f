/- Patterns: contracts of functions and of loops out of the shapes of their data.
   Conditions: none; generic over the program. -/
import Derived.Test.YtfchdhhkohmedaaGreatDoorAbsU
import Derived.Test.YtfchdhhkohmedaaGreatDoorAbsR
set_option linter.unusedVariables false
namespace Go.Abs
variable {P : Program}
theorem no' {α : Type} {x : α} {C : Prop} (h : none = some x) : C := by cases h
inductive Ty where
  | I | B | S | L | N
  | R (t : List Lf)
@[reducible] def Ty.den : Ty → Type
  | .I => Int
  | .B => Bool
  | .S => List UInt8
  | .L => List Int
  | .N => Nat
  | .R t => List (Abs.den t)
@[reducible] def HL : List Ty → Type
  | [] => Unit
  | a :: l => a.den × HL l
@[reducible] def Tup : List Ty → Type
  | [] => Unit
  | [a] => a.den
  | a :: b :: l => a.den × Tup (b :: l)
def toHL : (l : List Ty) → Tup l → HL l
  | [], _ => ()
  | [_], x => (x, ())
  | _ :: b :: l, x => (x.1, toHL (b :: l) x.2)
def ofHL : (l : List Ty) → HL l → Tup l
  | [], _ => ()
  | [_], x => x.1
  | _ :: b :: l, x => (x.1, ofHL (b :: l) x.2)
theorem ek : ∀ (l : List Ty) (x : HL l), toHL l (ofHL l x) = x
  | [], _ => rfl
  | [_], _ => rfl
  | _ :: b :: l, x => by
    show (x.1, toHL (b :: l) (ofHL (b :: l) x.2)) = x
    rw [ek (b :: l) x.2]
@[reducible] def Cur : List Ty → Type → Type
  | [], R => R
  | a :: l, R => a.den → Cur l R
def oE {R : Type} : (l : List Ty) → Cur l R → Tup l → R
  | [], f, _ => f
  | [_], f, x => f x
  | _ :: b :: l, f, x => oE (b :: l) (f x.1) x.2
inductive Hn where
  | k (n : Nat)
  | q
instance (n : Nat) : OfNat Hn n := ⟨.k n⟩
def Hn.lv : Hn → List Ty → List Ty
  | .k _, r => r
  | .q, r => .N :: r
def Hn.val : (o : Hn) → (r : List Ty) → HL (o.lv r) → Nat
  | .k n, _, _ => n
  | .q, _, x => x.1
def Hn.rest : (o : Hn) → (r : List Ty) → HL (o.lv r) → HL r
  | .k _, _, x => x
  | .q, _, x => x.2
def Hn.dec : (o : Hn) → (r : List Ty) → Nat → HL r → Option (HL (o.lv r))
  | .k n, _, m, h => match Nat.beq n m with
    | true => some h
    | false => none
  | .q, _, m, h => some (m, h)
theorem Hn.dec_ok : ∀ (o : Hn) (r : List Ty) (m : Nat) (h : HL r) (x : HL (o.lv r)), o.dec r m h = some x → m = o.val r x ∧ o.rest r x = h
  | .k n, r, m, h, x, e => by
    simp only [Hn.dec] at e
    split at e
    · rename_i hb; obtain rfl := Option.some.inj e; exact ⟨(Nat.eq_of_beq_eq_true hb).symm, rfl⟩
    · exact no' e
  | .q, r, m, h, x, e => by obtain rfl := Option.some.inj (show some (m, h) = some x from e); exact ⟨rfl, rfl⟩
def Oh.lv : Option Hn → List Ty → List Ty
  | none, r => r
  | some o, r => o.lv r
def Oh.val : (o : Option Hn) → (r : List Ty) → HL (Oh.lv o r) → Option Nat
  | none, _, _ => none
  | some o, r, x => some (o.val r x)
def Oh.rest : (o : Option Hn) → (r : List Ty) → HL (Oh.lv o r) → HL r
  | none, _, x => x
  | some o, r, x => o.rest r x
def Oh.dec : (o : Option Hn) → (r : List Ty) → Option Nat → HL r → Option (HL (Oh.lv o r))
  | none, _, none, h => some h
  | some o, r, some m, h => o.dec r m h
  | _, _, _, _ => none
theorem Oh.dec_ok : ∀ (o : Option Hn) (r : List Ty) (m : Option Nat) (h : HL r) (x : HL (Oh.lv o r)), Oh.dec o r m h = some x → m = Oh.val o r x ∧ Oh.rest o r x = h
  | none, r, none, h, x, e => by obtain rfl := Option.some.inj (show some h = some x from e); exact ⟨rfl, rfl⟩
  | some o, r, some m, h, x, e => by
    obtain ⟨h1, h2⟩ := Hn.dec_ok o r m h x e
    exact ⟨by rw [h1]; rfl, h2⟩
  | none, r, some m, h, x, e => no' e
  | some o, r, none, h, x, e => no' e
inductive PV where
  | unk | pn | sn | nf | ni | b | s
  | sk (l : List UInt8)
  | bk (x : Bool)
  | ik (k : IntKind) (n : Int)
  | i (k : IntKind)
  | p (c : Nat) (o : Hn)
  | sl (c : Nat) (o n : Hn) (cap : Option Hn)
  | pr (z c : Nat) (j o : Hn)
  | ws (c : Nat)
  | mp (c : Nat)
  | rs (z c : Nat) (j n : Hn) (cap : Option Hn)
  | fn (f : Nat) (l : List PV)
  | it (t : Nat) (v : PV)
  | ag (l : List PV)
  | tp (l : List PV)
  | ai (k : IntKind) (n : Nat)
mutual
def V.renF (f : Nat → Nat) : V → V
  | .p c o => .p (f c) o
  | .sl c o n m => .sl (f c) o n m
  | .pr z c j o => .pr z (f c) j o
  | .ws c => .ws (f c)
  | .mp c => .mp (f c)
  | .rs z c j n m => .rs z (f c) j n m
  | .unk => .unk
  | .fn g l => .fn g (V.renFs f l)
  | .ag l => .ag (V.renFs f l)
  | .tp l => .tp (V.renFs f l)
  | .it t v => .it t (V.renF f v)
  | .b x => .b x
  | .i k n => .i k n
  | .s l => .s l
  | .pn => .pn
  | .sn => .sn
  | .nf => .nf
  | .ni => .ni
  | .ai k n l => .ai k n l
def V.renFs (f : Nat → Nat) : List V → List V
  | [] => []
  | v :: l => V.renF f v :: V.renFs f l
end
mutual
theorem V.renF_ren (ρ : List Nat) : ∀ v : V, V.renF (getN ρ) v = V.ren ρ v
  | .p _ _ | .sl _ _ _ _ | .pr _ _ _ _ | .ws _ | .mp _ | .rs _ _ _ _ _ | .unk | .b _ | .i _ _ | .s _ | .pn | .sn | .nf | .ni | .ai _ _ _ => rfl
  | .fn _ l | .ag l | .tp l => by simp only [V.renF, V.ren, V.renFs_ren ρ l]
  | .it _ v => by simp only [V.renF, V.ren, V.renF_ren ρ v]
theorem V.renFs_ren (ρ : List Nat) : ∀ l : List V, V.renFs (getN ρ) l = V.rens ρ l
  | [] => rfl
  | v :: l => by simp only [V.renFs, V.rens, V.renF_ren ρ v, V.renFs_ren ρ l]
end
mutual
theorem V.renF_id : ∀ v : V, V.renF id v = v
  | .p _ _ | .sl _ _ _ _ | .pr _ _ _ _ | .ws _ | .mp _ | .rs _ _ _ _ _ | .unk | .b _ | .i _ _ | .s _ | .pn | .sn | .nf | .ni | .ai _ _ _ => rfl
  | .fn _ l | .ag l | .tp l => by simp only [V.renF, V.renFs_id l]
  | .it _ v => by simp only [V.renF, V.renF_id v]
theorem V.renFs_id : ∀ l : List V, V.renFs id l = l
  | [] => rfl
  | v :: l => by simp only [V.renFs, V.renF_id v, V.renFs_id l]
end
mutual
def PV.lv : PV → List Ty → List Ty
  | .b, r => .B :: r
  | .s, r => .S :: r
  | .i _, r => .I :: r
  | .p _ o, r => o.lv r
  | .sl _ o n c, r => o.lv (n.lv (Oh.lv c r))
  | .pr _ _ j o, r => j.lv (o.lv r)
  | .rs _ _ j n c, r => j.lv (n.lv (Oh.lv c r))
  | .fn _ l, r => PV.lvs l r
  | .ag l, r => PV.lvs l r
  | .tp l, r => PV.lvs l r
  | .it _ v, r => v.lv r
  | .ai _ _, r => .L :: r
  | .unk, r => r
  | .pn, r => r
  | .sn, r => r
  | .nf, r => r
  | .ni, r => r
  | .sk _, r => r
  | .bk _, r => r
  | .ik _ _, r => r
  | .ws _, r => r
  | .mp _, r => r
def PV.lvs : List PV → List Ty → List Ty
  | [], r => r
  | v :: l, r => v.lv (PV.lvs l r)
end
mutual
def PV.rest : (p : PV) → (r : List Ty) → HL (p.lv r) → HL r
  | .b, _, x => x.2
  | .s, _, x => x.2
  | .i _, _, x => x.2
  | .p _ o, r, x => o.rest r x
  | .sl _ o n c, r, x => Oh.rest c r (n.rest _ (o.rest _ x))
  | .pr _ _ j o, r, x => o.rest r (j.rest _ x)
  | .rs _ _ j n c, r, x => Oh.rest c r (n.rest _ (j.rest _ x))
  | .fn _ l, r, x => PV.rests l r x
  | .ag l, r, x => PV.rests l r x
  | .tp l, r, x => PV.rests l r x
  | .it _ v, r, x => v.rest r x
  | .ai _ _, _, x => x.2
  | .unk, _, x => x
  | .pn, _, x => x
  | .sn, _, x => x
  | .nf, _, x => x
  | .ni, _, x => x
  | .sk _, _, x => x
  | .bk _, _, x => x
  | .ik _ _, _, x => x
  | .ws _, _, x => x
  | .mp _, _, x => x
def PV.rests : (l : List PV) → (r : List Ty) → HL (PV.lvs l r) → HL r
  | [], _, x => x
  | v :: l, r, x => PV.rests l r (v.rest _ x)
end
mutual
def PV.val : (p : PV) → (r : List Ty) → HL (p.lv r) → V
  | .b, _, x => .b x.1
  | .s, _, x => .s x.1
  | .i k, _, x => .i k x.1
  | .p c o, r, x => .p c (o.val r x)
  | .sl c o n m, r, x => .sl c (o.val _ x) (n.val _ (o.rest _ x)) (Oh.val m r (n.rest _ (o.rest _ x)))
  | .pr z c j o, r, x => .pr z c (j.val _ x) (o.val r (j.rest _ x))
  | .rs z c j n m, r, x => .rs z c (j.val _ x) (n.val _ (j.rest _ x)) (Oh.val m r (n.rest _ (j.rest _ x)))
  | .fn f l, r, x => .fn f (PV.vals l r x)
  | .ag l, r, x => .ag (PV.vals l r x)
  | .tp l, r, x => .tp (PV.vals l r x)
  | .it t v, r, x => .it t (v.val r x)
  | .ai k n, _, x => .ai k n x.1
  | .unk, _, _ => .unk
  | .pn, _, _ => .pn
  | .sn, _, _ => .sn
  | .nf, _, _ => .nf
  | .ni, _, _ => .ni
  | .sk l, _, _ => .s l
  | .bk y, _, _ => .b y
  | .ik k n, _, _ => .i k n
  | .ws c, _, _ => .ws c
  | .mp c, _, _ => .mp c
def PV.vals : (l : List PV) → (r : List Ty) → HL (PV.lvs l r) → List V
  | [], _, _ => []
  | v :: l, r, x => v.val _ x :: PV.vals l r (v.rest _ x)
end
def Hn.encK {β : Type} : (o : Hn) → (r : List Ty) → HL (o.lv r) → (Nat → HL r → β) → β
  | .k n, _, x, c => c n x
  | .q, _, x, c => match x with | (a, h) => c a h
def Oh.encK {β : Type} : (o : Option Hn) → (r : List Ty) → HL (Oh.lv o r) → (Option Nat → HL r → β) → β
  | none, _, x, k => k none x
  | some o, r, x, k => o.encK r x fun n x => k (some n) x
theorem Hn.encK_eq {β : Type} : ∀ (o : Hn) (r : List Ty) (x : HL (o.lv r)) (k : Nat → HL r → β), o.encK r x k = k (o.val r x) (o.rest r x)
  | .k n, _, _, _ => rfl
  | .q, _, (_, _), _ => rfl
theorem Oh.encK_eq {β : Type} : ∀ (o : Option Hn) (r : List Ty) (x : HL (Oh.lv o r)) (k : Option Nat → HL r → β), Oh.encK o r x k = k (Oh.val o r x) (Oh.rest o r x)
  | none, _, _, _ => rfl
  | some o, r, x, k => Hn.encK_eq o r x _
mutual
def PV.encK {β : Type} : (p : PV) → (r : List Ty) → HL (p.lv r) → (V → HL r → β) → β
  | .b, _, x, k => match x with | (a, h) => k (.b a) h
  | .s, _, x, k => match x with | (a, h) => k (.s a) h
  | .i kd, _, x, k => match x with | (a, h) => k (.i kd a) h
  | .p c o, r, x, k => o.encK r x fun o x => k (.p c o) x
  | .sl c o n m, r, x, k => o.encK _ x fun o x => n.encK _ x fun n x => Oh.encK m r x fun m x => k (.sl c o n m) x
  | .pr z c j o, r, x, k => j.encK _ x fun j x => o.encK r x fun o x => k (.pr z c j o) x
  | .rs z c j n m, r, x, k => j.encK _ x fun j x => n.encK _ x fun n x => Oh.encK m r x fun m x => k (.rs z c j n m) x
  | .fn f l, r, x, k => PV.encsK l r x fun l x => k (.fn f l) x
  | .ag l, r, x, k => PV.encsK l r x fun l x => k (.ag l) x
  | .tp l, r, x, k => PV.encsK l r x fun l x => k (.tp l) x
  | .it t v, r, x, k => v.encK r x fun v x => k (.it t v) x
  | .ai kd n, _, x, k => match x with | (a, h) => k (.ai kd n a) h
  | .unk, _, x, k => k .unk x
  | .pn, _, x, k => k .pn x
  | .sn, _, x, k => k .sn x
  | .nf, _, x, k => k .nf x
  | .ni, _, x, k => k .ni x
  | .sk l, _, x, k => k (.s l) x
  | .bk y, _, x, k => k (.b y) x
  | .ik kd n, _, x, k => k (.i kd n) x
  | .ws c, _, x, k => k (.ws c) x
  | .mp c, _, x, k => k (.mp c) x
def PV.encsK {β : Type} : (l : List PV) → (r : List Ty) → HL (PV.lvs l r) → (List V → HL r → β) → β
  | [], _, x, k => k [] x
  | v :: l, r, x, k => v.encK _ x fun v x => PV.encsK l r x fun l x => k (v :: l) x
end
mutual
theorem PV.encK_eq {β : Type} : ∀ (p : PV) (r : List Ty) (x : HL (p.lv r)) (k : V → HL r → β), p.encK r x k = k (p.val r x) (p.rest r x)
  | .b, _, (_, _), _ => rfl
  | .s, _, (_, _), _ => rfl
  | .i _, _, (_, _), _ => rfl
  | .ai _ _, _, (_, _), _ => rfl
  | .p c o, r, x, k => Hn.encK_eq o r x _
  | .sl c o n m, r, x, k => (Hn.encK_eq o _ x _).trans ((Hn.encK_eq n _ _ _).trans (Oh.encK_eq m r _ _))
  | .pr z c j o, r, x, k => (Hn.encK_eq j _ x _).trans (Hn.encK_eq o r _ _)
  | .rs z c j n m, r, x, k => (Hn.encK_eq j _ x _).trans ((Hn.encK_eq n _ _ _).trans (Oh.encK_eq m r _ _))
  | .fn f l, r, x, k => PV.encsK_eq l r x _
  | .ag l, r, x, k => PV.encsK_eq l r x _
  | .tp l, r, x, k => PV.encsK_eq l r x _
  | .it t v, r, x, k => PV.encK_eq v r x _
  | .unk, _, _, _ | .pn, _, _, _ | .sn, _, _, _ | .nf, _, _, _ | .ni, _, _, _ | .sk _, _, _, _ | .bk _, _, _, _ | .ik _ _, _, _, _ | .ws _, _, _, _ | .mp _, _, _, _ => rfl
theorem PV.encsK_eq {β : Type} : ∀ (l : List PV) (r : List Ty) (x : HL (PV.lvs l r)) (k : List V → HL r → β), PV.encsK l r x k = k (PV.vals l r x) (PV.rests l r x)
  | [], _, _, _ => rfl
  | v :: l, r, x, k => (PV.encK_eq v _ x _).trans (PV.encsK_eq l r _ _)
end
def beqB : List UInt8 → List UInt8 → Bool
  | [], [] => true
  | x :: l, y :: m => Nat.beq x.toNat y.toNat && beqB l m
  | _, _ => false
theorem xE : ∀ {l m : List UInt8}, beqB l m = true → l = m
  | [], [], _ => rfl
  | x :: l, y :: m, h => by
    simp only [beqB, Bool.and_eq_true] at h
    rw [UInt8.toNat_inj.1 (Nat.eq_of_beq_eq_true h.1), xE h.2]
  | [], _ :: _, h => by cases h
  | _ :: _, [], h => by cases h
def chk {α : Type} (c : Bool) (o : Option α) : Option α := match c with
  | true => o
  | false => none
theorem cY {α : Type} {c : Bool} {o : Option α} {x : α} (h : chk c o = some x) : c = true ∧ o = some x := by
  cases c with
  | true => exact ⟨rfl, h⟩
  | false => cases h
mutual
def PV.dec (f : Nat → Nat) : (p : PV) → (r : List Ty) → V → HL r → Option (HL (p.lv r))
  | .b, _, .b x, h => some (x, h)
  | .s, _, .s x, h => some (x, h)
  | .i k, _, .i k' x, h => chk (keq k k') (some (x, h))
  | .p c o, r, .p c' o', h => chk (Nat.beq (f c) c') (o.dec r o' h)
  | .sl c o n m, r, .sl c' o' n' m', h => chk (Nat.beq (f c) c') (ob (Oh.dec m r m' h) fun h => ob (n.dec _ n' h) fun h => o.dec _ o' h)
  | .pr z c j o, r, .pr z' c' j' o', h => chk (Nat.beq z z' && Nat.beq (f c) c') (ob (o.dec r o' h) fun h => j.dec _ j' h)
  | .rs z c j n m, r, .rs z' c' j' n' m', h => chk (Nat.beq z z' && Nat.beq (f c) c') (ob (Oh.dec m r m' h) fun h => ob (n.dec _ n' h) fun h => j.dec _ j' h)
  | .fn g l, r, .fn g' l', h => chk (Nat.beq g g') (PV.decs f l r l' h)
  | .ag l, r, .ag l', h => PV.decs f l r l' h
  | .tp l, r, .tp l', h => PV.decs f l r l' h
  | .it t v, r, .it t' v', h => chk (Nat.beq t t') (v.dec f r v' h)
  | .ai k n, _, .ai k' n' x, h => chk (keq k k' && Nat.beq n n') (some (x, h))
  | .unk, _, .unk, h => some h
  | .pn, _, .pn, h => some h
  | .sn, _, .sn, h => some h
  | .nf, _, .nf, h => some h
  | .ni, _, .ni, h => some h
  | .sk l, _, .s l', h => chk (beqB l l') (some h)
  | .bk y, _, .b y', h => chk (y == y') (some h)
  | .ik k n, _, .i k' n', h => chk (keq k k' && (n == n')) (some h)
  | .ws c, _, .ws c', h => chk (Nat.beq (f c) c') (some h)
  | .mp c, _, .mp c', h => chk (Nat.beq (f c) c') (some h)
  | _, _, _, _ => none
def PV.decs (f : Nat → Nat) : (l : List PV) → (r : List Ty) → List V → HL r → Option (HL (PV.lvs l r))
  | [], _, [], h => some h
  | a :: l, r, v :: m, h => ob (PV.decs f l r m h) fun h => a.dec f _ v h
  | _, _, _, _ => none
end
mutual
theorem PV.dec_ok (f : Nat → Nat) : ∀ (p : PV) (r : List Ty) (v : V) (h : HL r) (x : HL (p.lv r)), p.dec f r v h = some x → v = (p.val r x).renF f ∧ p.rest r x = h
  | .b, r, v, h, x, e => by
    cases v with
    | b y => obtain rfl := Option.some.inj (show some (y, h) = some x from e); exact ⟨rfl, rfl⟩
    | _ => exact no' e
  | .s, r, v, h, x, e => by
    cases v with
    | s y => obtain rfl := Option.some.inj (show some (y, h) = some x from e); exact ⟨rfl, rfl⟩
    | _ => exact no' e
  | .i k, r, v, h, x, e => by
    cases v with
    | i k' y =>
      obtain ⟨hk, e⟩ := cY (show chk (keq k k') (some (y, h)) = some x from e)
      obtain rfl := Option.some.inj e
      rw [← eS hk]; exact ⟨rfl, rfl⟩
    | _ => exact no' e
  | .p c o, r, v, h, x, e => by
    cases v with
    | p c' o' =>
      obtain ⟨hc, e⟩ := cY (show chk (Nat.beq (f c) c') (o.dec r o' h) = some x from e)
      obtain ⟨h1, h2⟩ := Hn.dec_ok _ _ _ _ _ e
      rw [← Nat.eq_of_beq_eq_true hc, h1]
      exact ⟨rfl, h2⟩
    | _ => exact no' e
  | .sl c o n m, r, v, h, x, e => by
    cases v with
    | sl c' o' n' m' =>
      obtain ⟨hc, e⟩ := cY (show chk (Nat.beq (f c) c') (ob (Oh.dec m r m' h) fun h => ob (n.dec _ n' h) fun h => o.dec _ o' h) = some x from e)
      obtain ⟨g1, e1, e⟩ := ae e
      obtain ⟨g2, e2, e⟩ := ae e
      obtain ⟨a1, a2⟩ := Hn.dec_ok _ _ _ _ _ e
      obtain ⟨b1, b2⟩ := Hn.dec_ok _ _ _ _ _ e2
      obtain ⟨c1, c2⟩ := Oh.dec_ok _ _ _ _ _ e1
      subst a2 b2 c2
      rw [← Nat.eq_of_beq_eq_true hc, a1, b1, c1]
      exact ⟨rfl, rfl⟩
    | _ => exact no' e
  | .pr z c j o, r, v, h, x, e => by
    cases v with
    | pr z' c' j' o' =>
      obtain ⟨hc, e⟩ := cY (show chk (Nat.beq z z' && Nat.beq (f c) c') (ob (o.dec r o' h) fun h => j.dec _ j' h) = some x from e)
      simp only [Bool.and_eq_true] at hc
      obtain ⟨g1, e1, e⟩ := ae e
      obtain ⟨a1, a2⟩ := Hn.dec_ok _ _ _ _ _ e
      obtain ⟨b1, b2⟩ := Hn.dec_ok _ _ _ _ _ e1
      subst a2 b2
      rw [← Nat.eq_of_beq_eq_true hc.1, ← Nat.eq_of_beq_eq_true hc.2, a1, b1]
      exact ⟨rfl, rfl⟩
    | _ => exact no' e
  | .rs z c j n m, r, v, h, x, e => by
    cases v with
    | rs z' c' j' n' m' =>
      obtain ⟨hc, e⟩ := cY (show chk (Nat.beq z z' && Nat.beq (f c) c') (ob (Oh.dec m r m' h) fun h => ob (n.dec _ n' h) fun h => j.dec _ j' h) = some x from e)
      simp only [Bool.and_eq_true] at hc
      obtain ⟨g1, e1, e⟩ := ae e
      obtain ⟨g2, e2, e⟩ := ae e
      obtain ⟨a1, a2⟩ := Hn.dec_ok _ _ _ _ _ e
      obtain ⟨b1, b2⟩ := Hn.dec_ok _ _ _ _ _ e2
      obtain ⟨c1, c2⟩ := Oh.dec_ok _ _ _ _ _ e1
      subst a2 b2 c2
      rw [← Nat.eq_of_beq_eq_true hc.1, ← Nat.eq_of_beq_eq_true hc.2, a1, b1, c1]
      exact ⟨rfl, rfl⟩
    | _ => exact no' e
  | .fn g l, r, v, h, x, e => by
    cases v with
    | fn g' l' =>
      obtain ⟨hc, e⟩ := cY (show chk (Nat.beq g g') (PV.decs f l r l' h) = some x from e)
      obtain ⟨h1, h2⟩ := PV.decs_ok f l r l' h x e
      rw [← Nat.eq_of_beq_eq_true hc, h1]
      exact ⟨rfl, h2⟩
    | _ => exact no' e
  | .ag l, r, v, h, x, e => by
    cases v with
    | ag l' =>
      obtain ⟨h1, h2⟩ := PV.decs_ok f l r l' h x e
      rw [h1]
      exact ⟨rfl, h2⟩
    | _ => exact no' e
  | .tp l, r, v, h, x, e => by
    cases v with
    | tp l' =>
      obtain ⟨h1, h2⟩ := PV.decs_ok f l r l' h x e
      rw [h1]
      exact ⟨rfl, h2⟩
    | _ => exact no' e
  | .it t v, r, u, h, x, e => by
    cases u with
    | it t' v' =>
      obtain ⟨hc, e⟩ := cY (show chk (Nat.beq t t') (v.dec f r v' h) = some x from e)
      obtain ⟨h1, h2⟩ := PV.dec_ok f v r v' h x e
      rw [← Nat.eq_of_beq_eq_true hc, h1]
      exact ⟨rfl, h2⟩
    | _ => exact no' e
  | .ai k n, r, v, h, x, e => by
    cases v with
    | ai k' n' y =>
      obtain ⟨hk, e⟩ := cY (show chk (keq k k' && Nat.beq n n') (some (y, h)) = some x from e)
      obtain rfl := Option.some.inj e
      simp only [Bool.and_eq_true] at hk
      rw [← eS hk.1, ← Nat.eq_of_beq_eq_true hk.2]; exact ⟨rfl, rfl⟩
    | _ => exact no' e
  | .unk, r, v, h, x, e => by
    cases v with
    | unk => obtain rfl := Option.some.inj (show some h = some x from e); exact ⟨rfl, rfl⟩
    | _ => exact no' e
  | .pn, r, v, h, x, e => by
    cases v with
    | pn => obtain rfl := Option.some.inj (show some h = some x from e); exact ⟨rfl, rfl⟩
    | _ => exact no' e
  | .sn, r, v, h, x, e => by
    cases v with
    | sn => obtain rfl := Option.some.inj (show some h = some x from e); exact ⟨rfl, rfl⟩
    | _ => exact no' e
  | .nf, r, v, h, x, e => by
    cases v with
    | nf => obtain rfl := Option.some.inj (show some h = some x from e); exact ⟨rfl, rfl⟩
    | _ => exact no' e
  | .ni, r, v, h, x, e => by
    cases v with
    | ni => obtain rfl := Option.some.inj (show some h = some x from e); exact ⟨rfl, rfl⟩
    | _ => exact no' e
  | .sk l, r, v, h, x, e => by
    cases v with
    | s l' =>
      obtain ⟨hc, e⟩ := cY (show chk (beqB l l') (some h) = some x from e)
      obtain rfl := Option.some.inj e
      rw [← xE hc]; exact ⟨rfl, rfl⟩
    | _ => exact no' e
  | .bk y, r, v, h, x, e => by
    cases v with
    | b y' =>
      obtain ⟨hc, e⟩ := cY (show chk (y == y') (some h) = some x from e)
      obtain rfl := Option.some.inj e
      rw [← eq_of_beq hc]; exact ⟨rfl, rfl⟩
    | _ => exact no' e
  | .ik k n, r, v, h, x, e => by
    cases v with
    | i k' n' =>
      obtain ⟨hc, e⟩ := cY (show chk (keq k k' && (n == n')) (some h) = some x from e)
      simp only [Bool.and_eq_true] at hc
      obtain rfl := Option.some.inj e
      rw [← eS hc.1, ← eq_of_beq hc.2]; exact ⟨rfl, rfl⟩
    | _ => exact no' e
  | .ws c, r, v, h, x, e => by
    cases v with
    | ws c' =>
      obtain ⟨hc, e⟩ := cY (show chk (Nat.beq (f c) c') (some h) = some x from e)
      obtain rfl := Option.some.inj e
      rw [← Nat.eq_of_beq_eq_true hc]; exact ⟨rfl, rfl⟩
    | _ => exact no' e
  | .mp c, r, v, h, x, e => by
    cases v with
    | mp c' =>
      obtain ⟨hc, e⟩ := cY (show chk (Nat.beq (f c) c') (some h) = some x from e)
      obtain rfl := Option.some.inj e
      rw [← Nat.eq_of_beq_eq_true hc]; exact ⟨rfl, rfl⟩
    | _ => exact no' e
theorem PV.decs_ok (f : Nat → Nat) : ∀ (l : List PV) (r : List Ty) (m : List V) (h : HL r) (x : HL (PV.lvs l r)), PV.decs f l r m h = some x → m = V.renFs f (PV.vals l r x) ∧ PV.rests l r x = h
  | [], r, [], h, x, e => by obtain rfl := Option.some.inj (show some h = some x from e); exact ⟨rfl, rfl⟩
  | a :: l, r, v :: m, h, x, e => by
    obtain ⟨g, e1, e⟩ := ae (show (ob (PV.decs f l r m h) fun h => a.dec f _ v h) = some x from e)
    obtain ⟨a1, a2⟩ := PV.dec_ok f a _ _ _ _ e
    obtain ⟨b1, b2⟩ := PV.decs_ok f l r m h g e1
    subst a2
    rw [a1, b1]
    exact ⟨rfl, b2⟩
  | [], r, _ :: _, h, x, e => no' e
  | _ :: _, r, [], h, x, e => no' e
end
inductive PB where
  | dead | iter
  | mp (k : IntKind) (l : List (Int × Nat))
  | rows (t : List Lf)
  | cells (l : List PV)
  | ints (k : IntKind) (n : Hn)
def PB.lv : PB → List Ty → List Ty
  | .dead, r => r
  | .iter, r => .S :: .N :: r
  | .mp _ _, r => r
  | .rows t, r => .R t :: r
  | .cells l, r => PV.lvs l r
  | .ints _ n, r => n.lv (.L :: r)
def PB.rest : (p : PB) → (r : List Ty) → HL (p.lv r) → HL r
  | .dead, _, x => x
  | .iter, _, x => x.2.2
  | .mp _ _, _, x => x
  | .rows _, _, x => x.2
  | .cells l, r, x => PV.rests l r x
  | .ints _ n, r, x => (n.rest (.L :: r) x).2
def PB.val : (p : PB) → (r : List Ty) → HL (p.lv r) → Blk
  | .dead, _, _ => .dead
  | .iter, _, x => .iter x.1 x.2.1
  | .mp k l, _, _ => .mp k l
  | .rows t, _, x => .rows t x.1
  | .cells l, r, x => .cells (PV.vals l r x)
  | .ints k n, r, x => .ints k (n.val (.L :: r) x) (n.rest (.L :: r) x).1
def PB.encK {β : Type} : (p : PB) → (r : List Ty) → HL (p.lv r) → (Blk → HL r → β) → β
  | .dead, _, x, k => k .dead x
  | .iter, _, x, k => match x with | (a, b, h) => k (.iter a b) h
  | .mp kd l, _, x, k => k (.mp kd l) x
  | .rows t, _, x, k => match x with | (a, h) => k (.rows t a) h
  | .cells l, r, x, k => PV.encsK l r x fun l x => k (.cells l) x
  | .ints kd n, r, x, k => n.encK (.L :: r) x fun n x => match x with | (a, h) => k (.ints kd n a) h
theorem PB.encK_eq {β : Type} : ∀ (p : PB) (r : List Ty) (x : HL (p.lv r)) (k : Blk → HL r → β), p.encK r x k = k (p.val r x) (p.rest r x)
  | .dead, _, _, _ | .mp _ _, _, _, _ => rfl
  | .iter, _, (_, _, _), _ => rfl
  | .rows _, _, (_, _), _ => rfl
  | .cells l, r, x, k => PV.encsK_eq l r x _
  | .ints kd n, r, x, k => Hn.encK_eq n (.L :: r) x _
def beqM : List (Int × Nat) → List (Int × Nat) → Bool
  | [], [] => true
  | x :: l, y :: m => (x.1 == y.1) && (Nat.beq x.2 y.2 && beqM l m)
  | _, _ => false
theorem wQ : ∀ {l m : List (Int × Nat)}, beqM l m = true → l = m
  | [], [], _ => rfl
  | (x, u) :: l, (y, v) :: m, h => by
    simp only [beqM, Bool.and_eq_true, beq_iff_eq] at h
    rw [h.1, Nat.eq_of_beq_eq_true h.2.1, wQ h.2.2]
  | [], _ :: _, h => by cases h
  | _ :: _, [], h => by cases h
def Blk.renF (f : Nat → Nat) : Blk → Blk
  | .cells l => .cells (V.renFs f l)
  | .dead => .dead
  | .rows t l => .rows t l
  | .ints k n l => .ints k n l
  | .iter s pos => .iter s pos
  | .mp k l => .mp k l
def PB.dec (f : Nat → Nat) : (p : PB) → (r : List Ty) → Blk → HL r → Option (HL (p.lv r))
  | .dead, _, .dead, h => some h
  | .iter, _, .iter s n, h => some (s, n, h)
  | .mp k l, _, .mp k' l', h => chk (keq k k' && beqM l l') (some h)
  | .rows t, _, .rows t' l, h => ob (gP t' t l) fun l => some (l, h)
  | .cells l, r, .cells m, h => PV.decs f l r m h
  | .ints k n, r, .ints k' m l, h => chk (keq k k') (n.dec (.L :: r) m (l, h))
  | _, _, _, _ => none
theorem Blk.renF_ren (ρ : List Nat) (b : Blk) : Blk.renF (getN ρ) b = b.ren ρ := by
  cases b <;> simp [Blk.renF, Blk.ren, V.renFs_ren]
theorem Blk.renF_id (b : Blk) : Blk.renF id b = b := by
  cases b <;> simp [Blk.renF, V.renFs_id]
theorem sE {t t' : List Lf} {l : List (den t)} {m : List (den t')} (h : gP t t' l = some m) : t = t' ∧ HEq l m := by
  unfold gP at h
  split at h
  · rename_i e; subst e; cases h; exact ⟨rfl, HEq.rfl⟩
  · cases h
theorem PB.dec_ok (f : Nat → Nat) : ∀ (p : PB) (r : List Ty) (v : Blk) (h : HL r) (x : HL (p.lv r)), p.dec f r v h = some x → v = (p.val r x).renF f ∧ p.rest r x = h
  | .dead, r, v, h, x, e => by
    cases v with
    | dead => obtain rfl := Option.some.inj (show some h = some x from e); exact ⟨rfl, rfl⟩
    | _ => exact no' e
  | .mp k l, r, v, h, x, e => by
    cases v with
    | mp k' l' =>
      obtain ⟨hc, e⟩ := cY (show chk (keq k k' && beqM l l') (some h) = some x from e)
      simp only [Bool.and_eq_true] at hc
      obtain rfl := Option.some.inj e
      rw [← eS hc.1, ← wQ hc.2]; exact ⟨rfl, rfl⟩
    | _ => exact no' e
  | .iter, r, v, h, x, e => by
    cases v with
    | iter s n => obtain rfl := Option.some.inj (show some (s, n, h) = some x from e); exact ⟨rfl, rfl⟩
    | _ => exact no' e
  | .rows t, r, v, h, x, e => by
    cases v with
    | rows t' l =>
      obtain ⟨m, hm, e⟩ := ae (show (ob (gP t' t l) fun l => some (l, h)) = some x from e)
      obtain ⟨h1, h2⟩ := sE hm
      subst h1; cases h2; obtain rfl := Option.some.inj e; exact ⟨rfl, rfl⟩
    | _ => exact no' e
  | .cells l, r, v, h, x, e => by
    cases v with
    | cells m =>
      obtain ⟨h1, h2⟩ := PV.decs_ok f l r m h x e
      rw [h1]; exact ⟨rfl, h2⟩
    | _ => exact no' e
  | .ints k n, r, v, h, x, e => by
    cases v with
    | ints k' m l =>
      obtain ⟨hk, e⟩ := cY (show chk (keq k k') (n.dec (.L :: r) m (l, h)) = some x from e)
      obtain ⟨h1, h2⟩ := Hn.dec_ok n (.L :: r) m (l, h) x e
      rw [← eS hk]
      refine ⟨?_, ?_⟩
      · show Blk.ints k m l = Blk.ints k (n.val (.L :: r) x) (n.rest (.L :: r) x).1
        rw [h2, ← h1]
      · show (n.rest (.L :: r) x).2 = h
        rw [h2]
    | _ => exact no' e
def lvT : List (Nat × PV) → List Ty → List Ty
  | [], r => r
  | (_, p) :: l, r => p.lv (lvT l r)
def zu : (l : List (Nat × PV)) → (r : List Ty) → HL (lvT l r) → HL r
  | [], _, x => x
  | (_, p) :: l, r, x => zu l r (p.rest _ x)
def valT : (l : List (Nat × PV)) → (r : List Ty) → HL (lvT l r) → List (Nat × Option V)
  | [], _, _ => []
  | (t, p) :: l, r, x => (t, some (p.val _ x)) :: valT l r (p.rest _ x)
def decT : (l : List (Nat × PV)) → (r : List Ty) → List (Nat × Option V) → HL r → Option (HL (lvT l r))
  | [], _, [], h => some h
  | (t, p) :: l, r, (t', some v) :: T, h => match Nat.beq t t' with
    | true => match decT l r T h with
      | some h => p.dec id _ v h
      | none => none
    | false => none
  | _, _, _, _ => none
theorem wy : ∀ (l : List (Nat × PV)) (r : List Ty) (T : List (Nat × Option V)) (h : HL r) (x : HL (lvT l r)), decT l r T h = some x → T = valT l r x ∧ zu l r x = h
  | [], r, [], h, x, e => by obtain rfl := Option.some.inj (show some h = some x from e); exact ⟨rfl, rfl⟩
  | (t, p) :: l, r, (t', some v) :: T, h, x, e => by
    simp only [decT] at e
    split at e
    · rename_i ht
      split at e
      · rename_i g e1
        obtain ⟨a1, a2⟩ := PV.dec_ok id p _ _ _ _ e
        obtain ⟨b1, b2⟩ := wy l r T h g e1
        subst a2
        rw [V.renF_id] at a1
        rw [a1, b1, ← Nat.eq_of_beq_eq_true ht]
        exact ⟨rfl, b2⟩
      · exact no' e
    · exact no' e
  | [], r, _ :: _, h, x, e => no' e
  | _ :: _, r, [], h, x, e => no' e
  | _ :: _, r, (_, none) :: _, h, x, e => no' e
def lvH : List (Nat × PB) → List Ty → List Ty
  | [], r => r
  | (_, p) :: l, r => p.lv (lvH l r)
def zy : (l : List (Nat × PB)) → (r : List Ty) → HL (lvH l r) → HL r
  | [], _, x => x
  | (_, p) :: l, r, x => zy l r (p.rest _ x)
def valH : (l : List (Nat × PB)) → (r : List Ty) → HL (lvH l r) → List (Nat × Blk)
  | [], _, _ => []
  | (t, p) :: l, r, x => (t, p.val _ x) :: valH l r (p.rest _ x)
def decH (f : Nat → Nat) : (l : List (Nat × PB)) → (r : List Ty) → List (Nat × Blk) → HL r → Option (HL (lvH l r))
  | [], _, [], h => some h
  | (t, p) :: l, r, (t', v) :: T, h => match Nat.beq (f t) t' with
    | true => match decH f l r T h with
      | some h => p.dec f _ v h
      | none => none
    | false => none
  | _, _, _, _ => none
def uT (f : Nat → Nat) : List (Nat × Blk) → List (Nat × Blk)
  | [] => []
  | (b, x) :: l => (f b, x.renF f) :: uT f l
theorem rh (ρ : List Nat) : ∀ H, uT (getN ρ) H = renH ρ H
  | [] => rfl
  | (b, x) :: l => by simp only [uT, renH, rh ρ l, Blk.renF_ren]
theorem tQ : ∀ H, uT id H = H
  | [] => rfl
  | (b, x) :: l => by simp only [uT, tQ l, Blk.renF_id, id]
theorem rV (f : Nat → Nat) : ∀ (l : List (Nat × PB)) (r : List Ty) (T : List (Nat × Blk)) (h : HL r) (x : HL (lvH l r)), decH f l r T h = some x → T = uT f (valH l r x) ∧ zy l r x = h
  | [], r, [], h, x, e => by obtain rfl := Option.some.inj (show some h = some x from e); exact ⟨rfl, rfl⟩
  | (t, p) :: l, r, (t', v) :: T, h, x, e => by
    simp only [decH] at e
    split at e
    · rename_i ht
      split at e
      · rename_i g e1
        obtain ⟨a1, a2⟩ := PB.dec_ok f p _ _ _ _ e
        obtain ⟨b1, b2⟩ := rV f l r T h g e1
        subst a2
        rw [a1, b1, ← Nat.eq_of_beq_eq_true ht]
        exact ⟨rfl, b2⟩
      · exact no' e
    · exact no' e
  | [], r, _ :: _, h, x, e => no' e
  | _ :: _, r, [], h, x, e => no' e
def decL (f : Nat → Nat) (H : List (Nat × Blk)) : (l : List (Nat × PB)) → (r : List Ty) → HL r → Option (HL (lvH l r))
  | [], _, h => some h
  | (b, p) :: l, r, h => match look H (f b) with
    | some v => match decL f H l r h with
      | some h => p.dec f _ v h
      | none => none
    | none => none
theorem xn (f : Nat → Nat) (H : List (Nat × Blk)) : ∀ (l : List (Nat × PB)) (r : List Ty) (h : HL r) (x : HL (lvH l r)), decL f H l r h = some x →
    AW (fun b blk => look H (f b) = some (blk.renF f)) (valH l r x) ∧ zy l r x = h
  | [], r, h, x, e => by obtain rfl := Option.some.inj (show some h = some x from e); exact ⟨trivial, rfl⟩
  | (b, p) :: l, r, h, x, e => by
    simp only [decL] at e
    split at e
    · rename_i v hv
      split at e
      · rename_i g e1
        obtain ⟨a1, a2⟩ := PB.dec_ok f p _ _ _ _ e
        obtain ⟨b1, b2⟩ := xn f H l r h g e1
        subst a2
        exact ⟨⟨hv.trans (congrArg some a1), b1⟩, b2⟩
      · exact no' e
    · exact no' e
def Bc {β : Type} : (l : List (Nat × PV)) → (r : List Ty) → HL (lvT l r) → (List (Nat × Option V) → HL r → β) → β
  | [], _, x, k => k [] x
  | (t, p) :: l, r, x, k => p.encK _ x fun v x => Bc l r x fun T x => k ((t, some v) :: T) x
theorem tD {β : Type} : ∀ (l : List (Nat × PV)) (r : List Ty) (x : HL (lvT l r)) (k : List (Nat × Option V) → HL r → β), Bc l r x k = k (valT l r x) (zu l r x)
  | [], _, _, _ => rfl
  | (t, p) :: l, r, x, k => (PV.encK_eq p _ x _).trans (tD l r _ _)
def xD {β : Type} : (l : List (Nat × PB)) → (r : List Ty) → HL (lvH l r) → (List (Nat × Blk) → HL r → β) → β
  | [], _, x, k => k [] x
  | (t, p) :: l, r, x, k => p.encK _ x fun v x => xD l r x fun T x => k ((t, v) :: T) x
theorem mK {β : Type} : ∀ (l : List (Nat × PB)) (r : List Ty) (x : HL (lvH l r)) (k : List (Nat × Blk) → HL r → β), xD l r x k = k (valH l r x) (zy l r x)
  | [], _, _, _ => rfl
  | (t, p) :: l, r, x, k => (PB.encK_eq p _ x _).trans (mK l r _ _)
structure PSt where
  T : List (Nat × PV)
  H : List (Nat × PB)
  nb : Nat
  lo : Nat
  ro : Nat
  rb : Nat
@[reducible] def PSt.lv (p : PSt) : List Ty := lvT p.T (lvH p.H [])
def PSt.val (p : PSt) (x : HL p.lv) : St := ⟨valT p.T (lvH p.H []) x, valH p.H [] (zu p.T (lvH p.H []) x), p.nb, p.lo, p.ro, p.rb⟩
def PSt.dec (p : PSt) (s : St) : Option (HL p.lv) :=
  match Nat.beq p.nb s.nb && (Nat.beq p.lo s.lo && (Nat.beq p.ro s.ro && Nat.beq p.rb s.rb)) with
  | true => match decH id p.H [] s.H () with
    | some h => decT p.T _ s.T h
    | none => none
  | false => none
theorem PSt.dec_ok (p : PSt) (s : St) (x : HL p.lv) (e : p.dec s = some x) : s = p.val x := by
  unfold PSt.dec at e
  split at e
  · rename_i hb
    simp only [Bool.and_eq_true] at hb
    obtain ⟨h1, h2, h3, h4⟩ := hb
    split at e
    · rename_i g e1
      obtain ⟨a1, a2⟩ := wy _ _ _ _ _ e
      obtain ⟨b1, _⟩ := rV _ _ _ _ _ _ e1
      rw [tQ] at b1
      unfold PSt.val
      rw [a2, ← a1, ← b1, Nat.eq_of_beq_eq_true h1, Nat.eq_of_beq_eq_true h2, Nat.eq_of_beq_eq_true h3, Nat.eq_of_beq_eq_true h4]
    · exact no' e
  · exact no' e
def PSt.ann (p : PSt) (fx : List Fix) : Ann := ⟨p.T.map (·.1), p.H.map (·.1), p.nb, fx⟩
def PSt.emb (p : PSt) (x : Tup p.lv) : St := p.val (toHL _ x)
def PSt.encK {β : Type} (p : PSt) (x : HL p.lv) (k : St → β) : β := Bc p.T (lvH p.H []) x fun T x => xD p.H [] x fun H _ => k ⟨T, H, p.nb, p.lo, p.ro, p.rb⟩
theorem PSt.encK_eq {β : Type} (p : PSt) (x : HL p.lv) (k : St → β) : p.encK x k = k (p.val x) := (tD _ _ _ _).trans (mK _ _ _ _)
def PSt.embK {β : Type} (p : PSt) (x : Tup p.lv) (k : St → β) : β := p.encK (toHL _ x) k
theorem PSt.embK_eq {β : Type} (p : PSt) (x : Tup p.lv) (k : St → β) : p.embK x k = k (p.emb x) := p.encK_eq _ k
def PSt.un (p : PSt) (s : St) : Option (Tup p.lv) := match p.dec s with
  | some h => some (ofHL _ h)
  | none => none
theorem PSt.un_ok (p : PSt) (s : St) (x : Tup p.lv) (e : p.un s = some x) : s = p.emb x := by
  unfold PSt.un at e
  split at e
  · rename_i h e1
    obtain rfl := Option.some.inj e
    unfold PSt.emb
    rw [ek]; exact p.dec_ok s h e1
  · exact no' e
inductive PE where
  | nrm
  | exit (id : Nat)
  | ret
  | pan (p : PV)
@[reducible] def PE.lv : PE → List Ty → List Ty
  | .nrm, r => r
  | .exit _, r => r
  | .ret, r => r
  | .pan p, r => p.lv r
def PE.val : (e : PE) → (r : List Ty) → HL (e.lv r) → Ex
  | .nrm, _, _ => .normal
  | .exit i, _, _ => .exit i
  | .ret, _, _ => .ret
  | .pan p, r, x => .pan (p.val r x)
def PE.rest : (e : PE) → (r : List Ty) → HL (e.lv r) → HL r
  | .nrm, _, x => x
  | .exit _, _, x => x
  | .ret, _, x => x
  | .pan p, r, x => p.rest r x
def PE.dec : (e : PE) → (r : List Ty) → Ex → HL r → Option (HL (e.lv r))
  | .nrm, _, .normal, h => some h
  | .exit i, _, .exit j, h => match Nat.beq i j with
    | true => some h
    | false => none
  | .ret, _, .ret, h => some h
  | .pan p, r, .pan v, h => p.dec id r v h
  | _, _, _, _ => none
def PE.fits : PE → Ex → Bool
  | .nrm, .normal => true
  | .exit i, .exit j => Nat.beq i j
  | .ret, .ret => true
  | .pan _, .pan _ => true
  | _, _ => false
theorem PE.dec_ok : ∀ (p : PE) (r : List Ty) (ex : Ex) (h : HL r) (x : HL (p.lv r)), p.dec r ex h = some x → ex = p.val r x ∧ p.rest r x = h
  | .exit i, r, ex, h, x, e => by
    cases ex with
    | exit j =>
      simp only [PE.dec] at e
      split at e
      · rename_i hb; obtain rfl := Option.some.inj e; rw [← Nat.eq_of_beq_eq_true hb]; exact ⟨rfl, rfl⟩
      · exact no' e
    | _ => exact no' e
  | .nrm, r, ex, h, x, e => by
    cases ex with
    | normal => obtain rfl := Option.some.inj (show some h = some x from e); exact ⟨rfl, rfl⟩
    | _ => exact no' e
  | .ret, r, ex, h, x, e => by
    cases ex with
    | ret => obtain rfl := Option.some.inj (show some h = some x from e); exact ⟨rfl, rfl⟩
    | _ => exact no' e
  | .pan p, r, ex, h, x, e => by
    cases ex with
    | pan v =>
      obtain ⟨h1, h2⟩ := PV.dec_ok id p r v h x e
      rw [V.renF_id] at h1
      rw [h1]; exact ⟨rfl, h2⟩
    | _ => exact no' e
def PE.encK {β : Type} : (e : PE) → (r : List Ty) → HL (e.lv r) → (Ex → HL r → β) → β
  | .nrm, _, x, k => k .normal x
  | .exit i, _, x, k => k (.exit i) x
  | .ret, _, x, k => k .ret x
  | .pan p, r, x, k => p.encK r x fun v x => k (.pan v) x
theorem PE.encK_eq {β : Type} : ∀ (e : PE) (r : List Ty) (x : HL (e.lv r)) (k : Ex → HL r → β), e.encK r x k = k (e.val r x) (e.rest r x)
  | .nrm, _, _, _ | .exit _, _, _, _ | .ret, _, _, _ => rfl
  | .pan p, r, x, k => PV.encK_eq p r x _
structure PX where
  ex : PE
  st : PSt
@[reducible] def PX.lv (a : PX) : List Ty := a.ex.lv a.st.lv
def PX.val (a : PX) (x : HL a.lv) : Ex × St := (a.ex.val _ x, a.st.val (a.ex.rest _ x))
def PX.encK {β : Type} (a : PX) (x : HL a.lv) (k : Ex → St → β) : β := a.ex.encK _ x fun e x => a.st.encK x fun s => k e s
theorem PX.encK_eq {β : Type} (a : PX) (x : HL a.lv) (k : Ex → St → β) : a.encK x k = k (a.val x).1 (a.val x).2 := (PE.encK_eq _ _ _ _).trans (PSt.encK_eq _ _ _)
def PX.dec (a : PX) (ex : Ex) (s : St) : Option (HL a.lv) := match a.ex.fits ex with
  | true => match a.st.dec s with
    | some h => a.ex.dec _ ex h
    | none => none
  | false => none
theorem PX.dec_ok (a : PX) (ex : Ex) (s : St) (x : HL a.lv) (e : a.dec ex s = some x) : (ex, s) = a.val x := by
  unfold PX.dec at e
  split at e
  case h_2 => exact no' e
  split at e
  · rename_i h e1
    obtain ⟨h1, h2⟩ := PE.dec_ok _ _ _ _ _ e
    have := a.st.dec_ok s h e1
    unfold PX.val
    rw [h2, ← h1, ← this]
  · exact no' e
@[reducible] def SumX : List PX → Type
  | [] => Unit
  | [a] => Tup a.lv
  | a :: b :: l => Tup a.lv ⊕ SumX (b :: l)
def outX : (l : List PX) → SumX l → Ex × St
  | [], _ => (.normal, ⟨[], [], 0, 0, 0, 0⟩)
  | [a], y => a.val (toHL _ y)
  | a :: b :: l, y => Sum.casesOn (motive := fun _ => Ex × St) y (fun u => a.val (toHL _ u)) (fun v => outX (b :: l) v)
def yY (α : Type) : (l : List PX) → SumX l → (Ex → St → Option α) → Option α
  | [], _, k => k .normal ⟨[], [], 0, 0, 0, 0⟩
  | [a], y, k => a.encK (toHL _ y) k
  | a :: b :: l, y, k => Sum.casesOn (motive := fun _ => Option α) y (fun u => a.encK (toHL _ u) k) (fun v => yY α (b :: l) v k)
theorem qi (α : Type) : ∀ (l : List PX) (y : SumX l) (k : Ex → St → Option α), yY α l y k = k (outX l y).1 (outX l y).2
  | [], _, _ => rfl
  | [a], y, k => a.encK_eq _ k
  | a :: b :: l, .inl u, k => a.encK_eq _ k
  | a :: b :: l, .inr v, k => qi α (b :: l) v k
def unX : (l : List PX) → Ex → St → Option (SumX l)
  | [], _, _ => none
  | [a], ex, s => match a.dec ex s with
    | some h => some (ofHL _ h)
    | none => none
  | a :: b :: l, ex, s => match a.dec ex s with
    | some h => some (.inl (ofHL _ h))
    | none => match unX (b :: l) ex s with
      | some y => some (.inr y)
      | none => none
theorem zU : ∀ (l : List PX) (ex : Ex) (s : St) (y : SumX l), unX l ex s = some y → (ex, s) = outX l y
  | [], ex, s, y, e => no' e
  | [a], ex, s, y, e => by
    simp only [unX] at e
    split at e
    · rename_i h e1
      obtain rfl := Option.some.inj e
      show (ex, s) = a.val (toHL _ (ofHL _ h))
      rw [ek]; exact a.dec_ok ex s h e1
    · exact no' e
  | a :: b :: l, ex, s, y, e => by
    simp only [unX] at e
    split at e
    · rename_i h e1
      obtain rfl := Option.some.inj e
      show (ex, s) = a.val (toHL _ (ofHL _ h))
      rw [ek]; exact a.dec_ok ex s h e1
    · split at e
      · rename_i z e1
        obtain rfl := Option.some.inj e
        exact zU (b :: l) ex s z e1
      · exact no' e
def annX : List PX → Ex → Ann
  | [], _ => ⟨[], [], 0, []⟩
  | a :: l, ex => match a.ex.fits ex with
    | true => a.st.ann []
    | false => annX l ex
structure FE (P : Program) where
  e : Ent
  ok : dY P e
  t : List V → List (Nat × Blk) → Bool := fun _ _ => true
theorem FE.oks (E : List (FE P)) : ∀ x ∈ E.map FE.e, dY P x := by
  intro x hx
  obtain ⟨y, _, rfl⟩ := List.mem_map.1 hx
  exact y.ok
structure LP (P : Program) (nt : Nat) where
  ac : AC
  s : Sub
  t : St → Bool
  ok : ∀ (α : Type) (st : St) (k : Ex → St → Option α) (z : α), s.e α st k = some z → SemC P nt ac.code st fun ex s' => k ex s' = some z
def LP.m {nt : Nat} (l : LP P nt) : Nat := l.s.m
def LP.key {nt : Nat} (l : LP P nt) : Nat × AC := (l.s.m, l.ac)
def noL {nt : Nat} (m : Nat) (c : AC) : LP P nt := ⟨c, ⟨m, fun _ _ _ => none⟩, fun _ => false, fun _ _ _ _ h => by cases h⟩
def altL {nt : Nat} (x y : LP P nt) (h : y.ac = x.ac) : LP P nt :=
  ⟨x.ac, altS x.s x.t y.s, fun s => x.t s || y.t s, fun α st k z e => Bf (c := x.ac.code) (x.ok α st k z) (fun e => by have := y.ok α st k z e; rw [h] at this; exact this) e⟩
theorem uf {nt : Nat} {α : Type} {s : St} {k : Ex → St → Option α} {z : α} : ∀ {L : List (LP P nt)}, d6 (L.map LP.m) = true → ∀ l ∈ L, uH α l.m s k (L.map LP.s) = some z → l.s.e α s k = some z
  | [], _, l, hl, _ => by simp at hl
  | x :: L, hd, l, hl, h => by
    simp only [List.map_cons, d6, Bool.and_eq_true, List.all_eq_true] at hd
    simp only [List.map_cons, uH] at h
    rcases List.mem_cons.1 hl with rfl | hl
    · have : Nat.beq l.s.m l.m = true := by simp [LP.m]
      rw [this] at h; exact h
    · have hne := hd.1 l.m (List.mem_map.2 ⟨l, hl, rfl⟩)
      have : Nat.beq x.s.m l.m = false := by
        have : Nat.beq x.m l.m = false := by simpa using hne
        exact this
      rw [this] at h
      exact uf hd.2 l hl h
theorem rP {nt : Nat} {L : List (LP P nt)} {c : AC} (hd : d6 (L.map LP.m) = true) (h : subs c = L.map LP.key) : en P nt (L.map LP.s) c := by
  refine gH c fun p hp => ?_
  rw [h] at hp
  obtain ⟨l, hl, rfl⟩ := List.mem_map.1 hp
  intro α s k z e
  exact l.ok α s k z (uf hd l hl e)
def sb (c : AC) (m : Nat) : AC := getS (subs c) m
def zX : AC → Bool
  | .loop _ => true
  | _ => false
theorem wA : ∀ {c : AC}, zX c = true → c = .loop c.body
  | .loop _, _ => rfl
def bB {nt : Nat} (E : List (FE P)) (L : List (LP P nt)) (m : Nat) (ac : AC) (p : PSt) (fx : List Fix) (outs : List PX) {F : Type} (step0 : F) (n : Nat) (hF : F = (Tup p.lv → Option (Tup p.lv ⊕ SumX outs)))
    (h : (zX ac && d6 (L.map LP.m), subs ac.body, fun x => p.embK x fun s => run P (E.map FE.e) (L.map LP.s) nt ac.body s (qM (p.ann fx) p.un (annX outs) (unX outs))) = (true, L.map LP.key, cast hF step0)) : LP P nt :=
  ⟨ac, subE m (p.ann fx) p.un (fun x => af (cast hF step0) n x) (fun α => yY α outs), zT (p.ann fx) p.un, fun α st k z e => by
    simp only [Prod.mk.injEq, Bool.and_eq_true] at h
    obtain ⟨⟨h1, h2⟩, h3, h4⟩ := h
    rw [wA h1]
    exact wO (m := m) (f := fun x => af (cast hF step0) n x) (out := outX outs) (fun α => qi α outs) p.un_ok (fun x y hy =>
      Bj (FE.oks E) (rP h2 h3) p.un_ok (zU outs) (fun x => (p.embK_eq x _).symm.trans (congrFun h4 x)) n x y hy) e⟩
def jH (l : List Nat) : AC → Nat → AC × Nat
  | .seq a b, i => match jH l a i with
    | (a, i) => match jH l b i with
      | (b, i) => (.seq a b, i)
  | .cond c a b, i => match jH l a (i + 1) with
    | (a, j) => match jH l b j with
      | (b, j) => (cond (l.any (Nat.beq i)) (.sub (1000 + i) (.cond c a b)) (.cond c a b), j)
  | .block id a, i => match jH l a (i + 1) with
    | (a, j) => (cond (l.any (Nat.beq i)) (.sub (1000 + i) (.block id a)) (.block id a), j)
  | .loop a, i => match jH l a i with
    | (a, j) => (.loop a, j)
  | .scope a, i => match jH l a i with
    | (a, j) => (.scope a, j)
  | .sub m a, i => match jH l a i with
    | (a, j) => (.sub m a, j)
  | .reg id ops, i => (cond (l.any (Nat.beq i)) (.sub (1000 + i) (.reg id ops)) (.reg id ops), i + 1)
  | .draw id ops, i => (cond (l.any (Nat.beq i)) (.sub (1000 + i) (.draw id ops)) (.draw id ops), i + 1)
  | c, i => (c, i)
theorem lH {b : Bool} {m : Nat} {c : AC} : (cond b (AC.sub m c) c).code = c.code := by cases b <;> rfl
theorem dT (l : List Nat) : ∀ (c : AC) (i : Nat), (jH l c i).1.code = c.code
  | .seq a b, i => by simp only [jH, AC.code, dT l a, dT l b]
  | .cond c a b, i => by simp only [jH, lH, AC.code, dT l a, dT l b]
  | .block id a, i => by simp only [jH, lH, AC.code, dT l a]
  | .loop a, i => by simp only [jH, AC.code, dT l a]
  | .scope a, i => by simp only [jH, AC.code, dT l a]
  | .sub m a, i => by simp only [jH, AC.code, dT l a]
  | .reg id ops, i => by simp only [jH, lH]
  | .draw id ops, i => by simp only [jH, lH]
  | .skip, _ | .ret, _ | .exit _, _ | .bad _, _ | .label _, _ => rfl
def acM (u : List Nat) : List Nat → Func → AC
  | [], f => acU u f
  | a :: m, f => (jH (a :: m) (acU u f) 0).1
theorem qt (u m : List Nat) (f : Func) : (acM u m f).code = mn f := by
  cases m with
  | nil => exact to u f
  | cons a m => exact (dT _ _ _).trans (to u f)
def PX.one (a : PX) (ex : Ex) (s : St) : Option (Tup a.lv) :=
  match a.ex.fits ex && (match ex with | .pan v => V.lt a.st.nb v | _ => true) with
  | true => kf (a.st.ann []) s fun s' => match a.dec ex s' with
    | some h => some (ofHL _ h)
    | none => none
  | false => none
theorem PX.one_ok {a : PX} {ex : Ex} {s : St} {x : Tup a.lv} (e : a.one ex s = some x) : ∃ s', (ex, s') = a.val (toHL _ x) ∧ Weak s s' ∧ ∀ v, ex = .pan v → V.lt s'.nb v = true := by
  unfold PX.one at e
  split at e
  case h_2 => exact no' e
  rename_i hb
  simp only [Bool.and_eq_true] at hb
  obtain ⟨s', h1, h2, h3⟩ := ly e
  split at h1
  · rename_i h e1
    obtain rfl := Option.some.inj h1
    refine ⟨s', by rw [ek]; exact a.dec_ok ex s' h e1, h2, fun v hv => ?_⟩
    subst hv
    rw [h3]; exact hb.2
  · exact no' h1
def zr : (l : List PX) → Ex → St → Option (SumX l)
  | [], _, _ => none
  | [a], ex, s => a.one ex s
  | a :: b :: l, ex, s => match a.one ex s with
    | some h => some (.inl h)
    | none => match zr (b :: l) ex s with
      | some y => some (.inr y)
      | none => none
theorem tC : ∀ (l : List PX) (ex : Ex) (s : St) (y : SumX l), zr l ex s = some y → ∃ s', (ex, s') = outX l y ∧ Weak s s' ∧ ∀ v, ex = .pan v → V.lt s'.nb v = true
  | [], ex, s, y, e => no' e
  | [a], ex, s, y, e => PX.one_ok (show a.one ex s = some y from e)
  | a :: b :: l, ex, s, y, e => by
    simp only [zr] at e
    split at e
    · rename_i h e1
      obtain rfl := Option.some.inj e
      exact PX.one_ok e1
    · split at e
      · rename_i z e1
        obtain rfl := Option.some.inj e
        exact tC (b :: l) ex s z e1
      · exact no' e
def gh {nt : Nat} (E : List (FE P)) (L : List (LP P nt)) (m : Nat) (ac : AC) (p : PSt) (outs : List PX) {F : Type} (f0 : F) (hF : F = Cur p.lv (Option (SumX outs)))
    (h : (d6 (L.map LP.m), subs ac, fun x => p.embK x fun s => run P (E.map FE.e) (L.map LP.s) nt ac s (zr outs)) = (true, L.map LP.key, fun x => oE p.lv (cast hF f0) x)) : LP P nt :=
  ⟨ac, subE m (p.ann []) p.un (fun x => oE p.lv (cast hF f0) x) (fun α => yY α outs), zT (p.ann []) p.un, fun α st k z e => by
    simp only [Prod.mk.injEq] at h
    obtain ⟨h1, h2, h3⟩ := h
    refine wO (m := m) (f := fun x => oE p.lv (cast hF f0) x) (out := outX outs) (fun α => qi α outs) p.un_ok (fun x y hy => ?_) e
    intro ι0 w0 ι a w hI
    have hx := (p.embK_eq x _).symm.trans (congrFun h3 x)
    refine Code.wp_mono ?_ (iT (FE.oks E) ac _ _ y (rP h1 h2) (hx.trans hy) ι0 w0 ι a w hI)
    rintro e' a' w' ⟨ex, s', ι', g1, g2, g3⟩
    obtain ⟨s2, q1, q2, q3⟩ := tC outs ex s' y g3
    obtain ⟨ι2, r1, r2⟩ := q2.post g2 g1 q3
    exact ⟨ex, s2, ι2, r1, r2, by rw [← q1], by rw [← q1]⟩⟩
mutual
def PV.flat : PV → Bool
  | .b | .i _ | .s | .sk _ | .bk _ | .ik _ _ | .pn | .sn | .nf | .ni | .ai _ _ | .unk => true
  | .p _ _ | .sl _ _ _ _ | .pr _ _ _ _ | .ws _ | .mp _ | .rs _ _ _ _ _ => false
  | .fn _ l | .ag l | .tp l => PV.flats l
  | .it _ v => PV.flat v
def PV.flats : List PV → Bool
  | [] => true
  | v :: l => PV.flat v && PV.flats l
end
mutual
theorem PV.flat_ok : ∀ (p : PV) (r : List Ty) (x : HL (p.lv r)), p.flat = true → V.flat (p.val r x) = true
  | .b, _, _, _ | .i _, _, _, _ | .s, _, _, _ | .sk _, _, _, _ | .bk _, _, _, _ | .ik _ _, _, _, _ | .pn, _, _, _ | .sn, _, _, _ | .nf, _, _, _ | .ni, _, _, _ | .ai _ _, _, _, _ | .unk, _, _, _ => rfl
  | .p _ _, _, _, h | .sl _ _ _ _, _, _, h | .pr _ _ _ _, _, _, h | .ws _, _, _, h | .mp _, _, _, h | .rs _ _ _ _ _, _, _, h => by cases h
  | .fn _ l, r, x, h | .ag l, r, x, h | .tp l, r, x, h => PV.flats_ok l r x h
  | .it _ v, r, x, h => PV.flat_ok v r x h
theorem PV.flats_ok : ∀ (l : List PV) (r : List Ty) (x : HL (PV.lvs l r)), PV.flats l = true → V.flats (PV.vals l r x) = true
  | [], _, _, _ => rfl
  | v :: l, r, x, h => by
    simp only [PV.flats, Bool.and_eq_true] at h
    simp only [PV.vals, V.flats, Bool.and_eq_true]
    exact ⟨PV.flat_ok v _ x h.1, PV.flats_ok l r _ h.2⟩
end
@[reducible] def lvP (as : List PV) : List Ty := PV.lvs as []
@[reducible] def lvR (r : PV) : List Ty := r.lv []
def argP (as : List PV) (a : Tup (lvP as)) : List V := PV.vals as [] (toHL _ a)
def encP (r : PV) (y : Tup (lvR r)) : V := r.val [] (toHL _ y)
def argK {β : Type} (as : List PV) (a : Tup (lvP as)) (k : List V → β) : β := PV.encsK as [] (toHL _ a) fun l _ => k l
theorem AG {β : Type} (as : List PV) (a : Tup (lvP as)) (k : List V → β) : argK as a k = k (argP as a) := PV.encsK_eq as [] _ _
def CU {β : Type} (r : PV) (y : Tup (lvR r)) (k : V → β) : β := r.encK [] (toHL _ y) fun v _ => k v
theorem ym {β : Type} (r : PV) (y : Tup (lvR r)) (k : V → β) : CU r y k = k (encP r y) := PV.encK_eq r [] _ _
def unP (as : List PV) (l : List V) : Option (Tup (lvP as)) := match PV.decs id as [] l () with
  | some h => some (ofHL _ h)
  | none => none
def unR (r : PV) (v : V) : Option (Tup (lvR r)) := match r.dec id [] v () with
  | some h => some (ofHL _ h)
  | none => none
theorem BL (as : List PV) (l : List V) (a : Tup (lvP as)) (e : unP as l = some a) : l = argP as a := by
  unfold unP at e
  split at e
  · rename_i h e1
    obtain rfl := Option.some.inj e
    obtain ⟨h1, _⟩ := PV.decs_ok id as [] l () h e1
    unfold argP
    rw [ek, h1, V.renFs_id]
  · exact no' e
theorem Ch (r : PV) (v : V) (y : Tup (lvR r)) (e : unR r v = some y) : v = encP r y := by
  unfold unR at e
  split at e
  · rename_i h e1
    obtain rfl := Option.some.inj e
    obtain ⟨h1, _⟩ := PV.dec_ok id r [] v () h e1
    unfold encP
    rw [ek, h1, V.renF_id]
  · exact no' e
theorem ll : ∀ (l : List PV) (r : List Ty) (x : HL (PV.lvs l r)), (PV.vals l r x).length = l.length
  | [], _, _ => rfl
  | v :: l, r, x => by simp only [PV.vals, List.length_cons, ll l r]
structure PF (P : Program) (f : Nat) (as : List PV) (r : PV) where
  sh : Tup (lvP as) → Option (Tup (lvR r))
  hc : jb P f
  fl : PV.flats as = true
  ok : ∀ a y, sh a = some y → fE P f (argP as a) (encP r y)
def vG (f : Nat) (as : List PV) (r : PV) (sh : Tup (lvP as) → Option (Tup (lvR r))) : Ent :=
  ⟨f, fun _ args _ _ k => ob (unP as args) fun a => ob (sh a) fun y => CU r y fun v => k { val := v }⟩
theorem vM (f : Nat) (as : List PV) (r : PV) (sh : Tup (lvP as) → Option (Tup (lvR r))) : vG f as r sh = rB f (unP as) sh (encP r) := by
  simp only [vG, rB, ym]
def PF.e {f : Nat} {as : List PV} {r : PV} (c : PF P f as r) : FE P :=
  ⟨vG f as r c.sh, by rw [vM]; exact lJ c.hc (BL as) (fun a => PV.flats_ok as [] _ c.fl) c.ok, fun l _ => isS (unP as l)⟩
def ak {f : Nat} {as : List PV} {r : PV} {fn : Func} (hf : P.funcs[f]? = some fn) (hc : jb P f) (E : List (FE P)) (L : List (LP P fn.ntmps)) (un mk : List Nat) {F : Type} (sh0 : F) (hF : F = Cur (lvP as) (Option (Tup (lvR r))))
    (h : (PV.flats as && (Nat.ble as.length fn.ntmps && (fn.body.isSome && d6 (L.map LP.m))), subs (acM un mk fn), fun a => argK as a fun l => run P (E.map FE.e) (L.map LP.s) fn.ntmps (acM un mk fn) ⟨kW l 0, [], 0, 0, 0, 0⟩ (finK P fn.results.toList (retX (unR r)))) =
      (true, L.map LP.key, fun a => oE (lvP as) (cast hF sh0) a)) : PF P f as r :=
  ⟨fun a => oE (lvP as) (cast hF sh0) a, hc, by simp only [Prod.mk.injEq, Bool.and_eq_true] at h; exact h.1.1, fun a y e => by
    simp only [Prod.mk.injEq, Bool.and_eq_true] at h
    obtain ⟨⟨h1, h2, h3, h4⟩, h5, h6⟩ := h
    have hl : (argP as a).length = as.length := ll as [] _
    obtain ⟨c, hb⟩ := Option.isSome_iff_exists.1 h3
    refine yo (Ch r) (FE.oks E) hf hb ((qt un mk fn).trans (by unfold mn; rw [hb])) (rP h4 h5) (by rw [hl]; exact h2) ((AG as a _).symm.trans ((congrFun h6 a).trans e))⟩
mutual
def PV.lt (nb : Nat) : PV → Bool
  | .p c _ | .sl c _ _ _ | .pr _ c _ _ | .ws c | .mp c | .rs _ c _ _ _ => Nat.blt c nb
  | .fn _ l | .ag l | .tp l => PV.lts nb l
  | .it _ v => PV.lt nb v
  | .b | .i _ | .s | .sk _ | .bk _ | .ik _ _ | .pn | .sn | .nf | .ni | .ai _ _ | .unk => true
def PV.lts (nb : Nat) : List PV → Bool
  | [] => true
  | v :: l => PV.lt nb v && PV.lts nb l
end
mutual
theorem PV.lt_ok {m : Nat} : ∀ (p : PV) (r : List Ty) (x : HL (p.lv r)), p.lt m = true → V.lt m (p.val r x) = true
  | .b, _, _, _ | .i _, _, _, _ | .s, _, _, _ | .sk _, _, _, _ | .bk _, _, _, _ | .ik _ _, _, _, _ | .pn, _, _, _ | .sn, _, _, _ | .nf, _, _, _ | .ni, _, _, _ | .ai _ _, _, _, _ | .unk, _, _, _ => rfl
  | .p _ _, _, _, h | .sl _ _ _ _, _, _, h | .pr _ _ _ _, _, _, h | .ws _, _, _, h | .mp _, _, _, h | .rs _ _ _ _ _, _, _, h => h
  | .fn _ l, r, x, h | .ag l, r, x, h | .tp l, r, x, h => PV.lts_ok l r x h
  | .it _ v, r, x, h => PV.lt_ok v r x h
theorem PV.lts_ok {m : Nat} : ∀ (l : List PV) (r : List Ty) (x : HL (PV.lvs l r)), PV.lts m l = true → V.lts m (PV.vals l r x) = true
  | [], _, _, _ => rfl
  | v :: l, r, x, h => by
    simp only [PV.lts, Bool.and_eq_true] at h
    simp only [PV.vals, V.lts, Bool.and_eq_true]
    exact ⟨PV.lt_ok v _ x h.1, PV.lts_ok l r _ h.2⟩
end
def PB.lt (m : Nat) : PB → Bool
  | .cells l => PV.lts m l
  | _ => true
def PB.isDead : PB → Bool
  | .dead => true
  | _ => false
theorem PB.lt_ok {m : Nat} : ∀ (p : PB) (r : List Ty) (x : HL (p.lv r)), p.lt m = true → Blk.lt m (p.val r x) = true
  | .cells l, r, x, h => PV.lts_ok l r x h
  | .dead, _, _, _ | .iter, _, _, _ | .rows _, _, _, _ | .ints _ _, _, _, _ | .mp _ _, _, _, _ => rfl
theorem PB.dead_ok : ∀ (p : PB) (r : List Ty) (x : HL (p.lv r)), p.isDead = false → p.val r x ≠ .dead
  | .dead, _, _, h, _ => by cases h
  | .cells l, r, x, _, e => by cases (show Blk.cells (PV.vals l r x) = .dead from e)
  | .iter, _, x, _, e => by cases (show Blk.iter x.1 x.2.1 = .dead from e)
  | .mp k l, _, x, _, e => by cases (show Blk.mp k l = .dead from e)
  | .rows t, _, x, _, e => by cases (show Blk.rows t x.1 = .dead from e)
  | .ints k n, r, x, _, e => by cases (show Blk.ints k (n.val (.L :: r) x) (n.rest (.L :: r) x).1 = .dead from e)
def beqN : List Nat → List Nat → Bool
  | [], [] => true
  | x :: l, y :: m => Nat.beq x y && beqN l m
  | _, _ => false
theorem xc : ∀ {l m : List Nat}, beqN l m = true → l = m
  | [], [], _ => rfl
  | x :: l, y :: m, h => by
    simp only [beqN, Bool.and_eq_true] at h
    rw [Nat.eq_of_beq_eq_true h.1, xc h.2]
  | [], _ :: _, h => by cases h
  | _ :: _, [], h => by cases h
theorem m6 : ∀ (l : List (Nat × PB)) (r : List Ty) (x : HL (lvH l r)), keys (valH l r x) = l.map (·.1)
  | [], _, _ => rfl
  | (b, p) :: l, r, x => by
    have := m6 l r (p.rest _ x)
    simp only [keys] at this ⊢
    simp only [valH, List.map_cons, this]
theorem p9 {m : Nat} : ∀ (l : List (Nat × PB)) (r : List Ty) (x : HL (lvH l r)), (l.all fun p => Nat.blt p.1 m && p.2.lt m) = true → chkH m (valH l r x) = true
  | [], _, _, _ => rfl
  | (b, p) :: l, r, x, h => by
    simp only [List.all_cons, Bool.and_eq_true] at h
    have := p9 l r (p.rest _ x) h.2
    simp only [chkH] at this ⊢
    simp only [valH, List.all_cons, Bool.and_eq_true]
    exact ⟨⟨h.1.1, PB.lt_ok p _ x h.1.2⟩, this⟩
structure PO where
  v : PV
  H : List (Nat × PB) := []
  news : List Nat := []
  pan : Bool := false
@[reducible] def PO.lv (o : PO) : List Ty := o.v.lv (lvH o.H [])
def PO.fo (o : PO) (x : HL o.lv) : FOut := ⟨o.pan, o.v.val _ x, valH o.H [] (o.v.rest _ x), o.news⟩
def PO.foK {β : Type} (o : PO) (x : HL o.lv) (k : FOut → β) : β := o.v.encK _ x fun v x => xD o.H [] x fun H _ => k ⟨o.pan, v, H, o.news⟩
theorem PO.foK_eq {β : Type} (o : PO) (x : HL o.lv) (k : FOut → β) : o.foK x k = k (o.fo x) := (PV.encK_eq _ _ _ _).trans (mK _ _ _ _)
def PO.rho (m : Nat) (o : PO) : Nat → Nat := getN (upTo 0 m ++ o.news)
def PO.dec (m : Nat) (o : PO) (pan : Bool) (v : V) (H : List (Nat × Blk)) (nw : List Nat) : Option (HL o.lv) :=
  match (cond o.pan pan (!pan)) && beqN o.news nw with
  | true => match decH (o.rho m) o.H [] H () with
    | some h => o.v.dec (o.rho m) _ v h
    | none => none
  | false => none
theorem PO.dec_ok {m : Nat} {o : PO} {pan : Bool} {v : V} {H : List (Nat × Blk)} {nw : List Nat} {x : HL o.lv} (e : o.dec m pan v H nw = some x) :
    (o.fo x).pan = pan ∧ (o.fo x).news = nw ∧ v = V.ren (upTo 0 m ++ (o.fo x).news) (o.fo x).val ∧ H = renH (upTo 0 m ++ (o.fo x).news) (o.fo x).H := by
  unfold PO.dec at e
  split at e
  case h_2 => exact no' e
  rename_i hb
  simp only [Bool.and_eq_true] at hb
  split at e
  case h_2 => exact no' e
  rename_i h e1
  obtain ⟨a1, a2⟩ := PV.dec_ok _ _ _ _ _ _ e
  obtain ⟨b1, _⟩ := rV _ _ _ _ _ _ e1
  subst a2
  unfold PO.rho at a1 b1
  rw [V.renF_ren] at a1
  rw [rh] at b1
  refine ⟨?_, xc hb.2, a1, b1⟩
  have := hb.1
  show o.pan = pan
  revert this
  cases o.pan <;> cases pan <;> simp
def PO.chk (m ro : Nat) (o : PO) : Bool :=
  o.v.lt (m + o.news.length) && (o.H.all (fun p => Nat.blt p.1 (m + o.news.length) && p.2.lt (m + o.news.length)) && (upTo ro (m - ro + o.news.length)).all fun b => (o.H.map (·.1)).any (Nat.beq b))
def FOut.good (m ro : Nat) (o : FOut) : Prop := V.lt (m + o.news.length) o.val = true ∧ chkH (m + o.news.length) o.H = true ∧ ∀ b, ro ≤ b → b < m + o.news.length → b ∈ keys o.H
theorem PO.good {m ro : Nat} {o : PO} (h : o.chk m ro = true) (x : HL o.lv) : (o.fo x).good m ro := by
  unfold PO.chk at h
  simp only [Bool.and_eq_true] at h
  obtain ⟨h1, h2, h3⟩ := h
  refine ⟨PV.lt_ok _ _ _ h1, p9 _ _ _ h2, fun b hb1 hb2 => ?_⟩
  have hb2 : b < m + o.news.length := hb2
  show b ∈ keys (valH o.H [] _)
  rw [m6]
  rw [List.all_eq_true] at h3
  have := h3 b (iv.2 ⟨hb1, by omega⟩)
  obtain ⟨c, hc, e⟩ := List.any_eq_true.1 this
  rw [Nat.eq_of_beq_eq_true e]; exact hc
@[reducible] def SumO : List PO → Type
  | [] => Unit
  | [a] => Tup a.lv
  | a :: b :: l => Tup a.lv ⊕ SumO (b :: l)
def vE (m ro : Nat) : FOut := ⟨false, .b true, (upTo ro (m - ro)).map fun b => (b, .dead), []⟩
def outO (m ro : Nat) : (l : List PO) → SumO l → FOut
  | [], _ => vE m ro
  | [a], y => a.fo (toHL _ y)
  | a :: b :: l, y => Sum.casesOn (motive := fun _ => FOut) y (fun u => a.fo (toHL _ u)) (fun v => outO m ro (b :: l) v)
def AO (m ro : Nat) (α : Type) : (l : List PO) → SumO l → (FOut → Option α) → Option α
  | [], _, k => k (vE m ro)
  | [a], y, k => a.foK (toHL _ y) k
  | a :: b :: l, y, k => Sum.casesOn (motive := fun _ => Option α) y (fun u => a.foK (toHL _ u) k) (fun v => AO m ro α (b :: l) v k)
theorem tR (m ro : Nat) (α : Type) : ∀ (l : List PO) (y : SumO l) (k : FOut → Option α), AO m ro α l y k = k (outO m ro l y)
  | [], _, _ => rfl
  | [a], y, k => a.foK_eq _ k
  | a :: b :: l, .inl u, k => a.foK_eq _ k
  | a :: b :: l, .inr v, k => tR m ro α (b :: l) v k
def unO (m : Nat) : (l : List PO) → Bool → V → List (Nat × Blk) → List Nat → Option (SumO l)
  | [], _, _, _, _ => none
  | [a], pan, v, H, nw => match a.dec m pan v H nw with
    | some h => some (ofHL _ h)
    | none => none
  | a :: b :: l, pan, v, H, nw => match a.dec m pan v H nw with
    | some h => some (.inl (ofHL _ h))
    | none => match unO m (b :: l) pan v H nw with
      | some y => some (.inr y)
      | none => none
theorem zG (m ro : Nat) : ∀ (l : List PO) (pan : Bool) (v : V) (H : List (Nat × Blk)) (nw : List Nat) (y : SumO l), unO m l pan v H nw = some y →
    (outO m ro l y).pan = pan ∧ (outO m ro l y).news = nw ∧ v = V.ren (upTo 0 m ++ (outO m ro l y).news) (outO m ro l y).val ∧ H = renH (upTo 0 m ++ (outO m ro l y).news) (outO m ro l y).H
  | [], _, _, _, _, _, e => no' e
  | [a], pan, v, H, nw, y, e => by
    simp only [unO] at e
    split at e
    · rename_i h e1
      obtain rfl := Option.some.inj e
      have := PO.dec_ok e1
      simp only [outO, ek]
      exact this
    · exact no' e
  | a :: b :: l, pan, v, H, nw, y, e => by
    simp only [unO] at e
    split at e
    · rename_i h e1
      obtain rfl := Option.some.inj e
      have := PO.dec_ok e1
      simp only [outO, ek]
      exact this
    · split at e
      · rename_i z e1
        obtain rfl := Option.some.inj e
        exact zG m ro (b :: l) pan v H nw z e1
      · exact no' e
theorem nj {m ro : Nat} (hrm : ro ≤ m) : ∀ {l : List PO}, (l.all (PO.chk m ro)) = true → ∀ y : SumO l, (outO m ro l y).good m ro
  | [], _, _ => by
    refine ⟨rfl, ?_, fun b h1 h2 => ?_⟩
    · simp only [outO, vE, chkH, List.all_map, List.all_eq_true, Function.comp, Bool.and_eq_true]
      intro b hb
      have := (iv.1 hb).2
      exact ⟨Nat.ble_eq_true_of_le (by simp only [List.length_nil]; omega), rfl⟩
    · simp only [outO, vE, List.length_nil] at h2
      simp only [outO, vE, keys, List.map_map, List.mem_map, Function.comp]
      exact ⟨b, iv.2 ⟨h1, by omega⟩, rfl⟩
  | [a], h, y => by
    simp only [List.all_cons, Bool.and_eq_true] at h
    exact PO.good h.1 _
  | a :: b :: l, h, .inl u => by
    simp only [List.all_cons, Bool.and_eq_true] at h
    exact PO.good h.1 _
  | a :: b :: l, h, .inr v => by
    rw [List.all_cons, Bool.and_eq_true] at h
    exact nj hrm h.2 v
def zipH : Nat → List PB → List (Nat × PB)
  | _, [] => []
  | j, p :: l => (j, p) :: zipH (j + 1) l
@[reducible] def lvF (as : List PV) (HP : List PB) : List Ty := PV.lvs as (lvH (zipH 0 HP) [])
def argF (as : List PV) (HP : List PB) (a : Tup (lvF as HP)) : List V := PV.vals as _ (toHL _ a)
def memF (as : List PV) (HP : List PB) (a : Tup (lvF as HP)) : List (Nat × Blk) := valH (zipH 0 HP) [] (PV.rests as _ (toHL _ a))
def entK {β : Type} (as : List PV) (HP : List PB) (a : Tup (lvF as HP)) (k : List V → List (Nat × Blk) → β) : β := PV.encsK as _ (toHL _ a) fun l x => xD (zipH 0 HP) [] x fun H _ => k l H
theorem vo {β : Type} (as : List PV) (HP : List PB) (a : Tup (lvF as HP)) (k : List V → List (Nat × Blk) → β) : entK as HP a k = k (argF as HP a) (memF as HP a) := (PV.encsK_eq _ _ _ _).trans (mK _ _ _ _)
def addB (b c : Nat) (a : List (Nat × Nat)) : List (Nat × Nat) := match look a b with
  | some _ => a
  | none => (b, c) :: a
mutual
def PV.bind : PV → V → List (Nat × Nat) → List (Nat × Nat)
  | .p c _, .p c' _, a => addB c c' a
  | .sl c _ _ _, .sl c' _ _ _, a => addB c c' a
  | .pr _ c _ _, .pr _ c' _ _, a => addB c c' a
  | .ws c, .ws c', a => addB c c' a
  | .mp c, .mp c', a => addB c c' a
  | .rs _ c _ _ _, .rs _ c' _ _ _, a => addB c c' a
  | .fn _ l, .fn _ m, a => PV.binds l m a
  | .ag l, .ag m, a => PV.binds l m a
  | .tp l, .tp m, a => PV.binds l m a
  | .it _ v, .it _ u, a => PV.bind v u a
  | _, _, a => a
def PV.binds : List PV → List V → List (Nat × Nat) → List (Nat × Nat)
  | y :: l, v :: m, a => PV.binds l m (PV.bind y v a)
  | _, _, a => a
end
def PB.bind : PB → Blk → List (Nat × Nat) → List (Nat × Nat)
  | .cells l, .cells m, a => PV.binds l m a
  | _, _, a => a
def wa (HP : List PB) (H : List (Nat × Blk)) : List Nat → List (Nat × Nat) → List (Nat × Nat)
  | [], a => a
  | b :: o, a => match look a b with
    | some c => match HP[b]?, look H c with
      | some p, some blk => wa HP H o (p.bind blk a)
      | _, _ => wa HP H o a
    | none => wa HP H o a
def Cc (m : Nat) (a : List (Nat × Nat)) : List Nat := (upTo 0 m).map fun b => match look a b with
  | some c => c
  | none => 0
def unFr (as : List PV) (HP : List PB) (l : List V) (H : List (Nat × Blk)) (ρ : List Nat) : Option (Tup (lvF as HP) × List Nat) :=
  match d6 ρ && Nat.beq ρ.length HP.length with
  | true => match decL (getN ρ) H (zipH 0 HP) [] () with
    | some h => match PV.decs (getN ρ) as _ l h with
      | some h => some (ofHL _ h, ρ)
      | none => none
    | none => none
  | false => none
def unF (ord : List Nat) (as : List PV) (HP : List PB) (l : List V) (H : List (Nat × Blk)) : Option (Tup (lvF as HP) × List Nat) :=
  unFr as HP l H (Cc HP.length (wa HP H ord (PV.binds as l [])))
theorem B8 (ord : List Nat) (as : List PV) (HP : List PB) (l : List V) (H : List (Nat × Blk)) (a : Tup (lvF as HP)) (ρ : List Nat) (e : unF ord as HP l H = some (a, ρ)) :
    ρ.length = HP.length ∧ ρ.Nodup ∧ l = V.rens ρ (argF as HP a) ∧ ∀ b blk, look (memF as HP a) b = some blk → look H (getN ρ b) = some (blk.ren ρ) := by
  unfold unF at e
  generalize Cc HP.length (wa HP H ord (PV.binds as l [])) = σ at e
  unfold unFr at e
  split at e
  case h_2 => exact no' e
  rename_i hb
  simp only [Bool.and_eq_true] at hb
  split at e
  case h_2 => exact no' e
  rename_i g e1
  split at e
  case h_2 => exact no' e
  rename_i h e2
  simp only [Option.some.injEq, Prod.mk.injEq] at e
  obtain ⟨rfl, rfl⟩ := e
  obtain ⟨a1, a2⟩ := PV.decs_ok _ _ _ _ _ _ e2
  obtain ⟨b1, _⟩ := xn _ _ _ _ _ _ e1
  subst a2
  unfold argF memF
  rw [ek]
  refine ⟨Nat.eq_of_beq_eq_true hb.2, kU hb.1, by rw [← V.renFs_ren]; exact a1, fun b blk hl => ?_⟩
  have := pm b1 b blk hl
  rw [this, Blk.renF_ren]
theorem tO : ∀ (j : Nat) (l : List PB), (zipH j l).map (·.1) = upTo j l.length
  | _, [] => rfl
  | j, _ :: l => by simp only [zipH, List.map_cons, List.length_cons, upTo, tO (j + 1) l]
theorem pz (Q : PB → Bool) : ∀ (j : Nat) (l : List PB), l.all Q = true → ∀ p ∈ zipH j l, Q p.2 = true ∧ j ≤ p.1 ∧ p.1 < j + l.length
  | _, [], _, p, hp => by simp [zipH] at hp
  | j, q :: l, h, p, hp => by
    simp only [List.all_cons, Bool.and_eq_true] at h
    simp only [zipH, List.mem_cons] at hp
    simp only [List.length_cons]
    rcases hp with rfl | hp
    · exact ⟨h.1, Nat.le_refl _, by simp only; omega⟩
    · obtain ⟨h1, h2, h3⟩ := pz Q (j + 1) l h.2 p hp
      exact ⟨h1, by omega, by omega⟩
theorem uc {H : List (Nat × Blk)} : ∀ {m : Nat}, (∀ b, b < m → ∃ blk, look H b = some blk ∧ blk ≠ .dead) → pC H m = true
  | 0, _ => rfl
  | m + 1, h => by
    simp only [pC, Bool.and_eq_true]
    refine ⟨?_, uc fun b hb => h b (by omega)⟩
    obtain ⟨blk, h1, h2⟩ := h m (by omega)
    rw [h1]
    cases blk <;> first | exact absurd rfl h2 | rfl
theorem qV : ∀ (l : List (Nat × PB)) (r : List Ty) (x : HL (lvH l r)), (∀ p ∈ l, p.2.isDead = false) → ∀ b blk, look (valH l r x) b = some blk → blk ≠ .dead
  | [], _, _, _, b, blk, h => by cases h
  | (c, p) :: l, r, x, hd, b, blk, h => by
    simp only [valH, ay] at h
    split at h
    · cases h; exact PB.dead_ok p _ x (hd (c, p) List.mem_cons_self)
    · exact qV l r _ (fun q hq => hd q (List.mem_cons_of_mem _ hq)) b blk h
def chkF (as : List PV) (HP : List PB) (ro rb : Nat) (outs : List PO) : Bool :=
  Nat.ble ro rb && (Nat.ble ro HP.length && (PV.lts HP.length as && (HP.all (fun p => p.lt HP.length && !p.isDead) && outs.all (PO.chk HP.length ro))))
theorem sX {as : List PV} {HP : List PB} (h : HP.all (fun p => p.lt HP.length && !p.isDead) = true) (a : Tup (lvF as HP)) : pC (memF as HP a) HP.length = true := by
  have hz := pz _ 0 HP h
  refine uc fun b hb => ?_
  have hk : b ∈ (memF as HP a).map (·.1) := by
    have := m6 (zipH 0 HP) [] (PV.rests as _ (toHL _ a))
    simp only [keys] at this
    unfold memF
    rw [this, tO]
    exact iv.2 ⟨Nat.zero_le _, by omega⟩
  obtain ⟨blk, hl⟩ := kl hk
  exact ⟨blk, hl, qV _ _ _ (fun p hp => by have := (hz p hp).1; simp only [Bool.and_eq_true, Bool.not_eq_true'] at this; exact this.2) b blk hl⟩
theorem yU {as : List PV} {HP : List PB} (h : HP.all (fun p => p.lt HP.length && !p.isDead) = true) (a : Tup (lvF as HP)) : chkH HP.length (memF as HP a) = true := by
  refine p9 _ _ _ ?_
  rw [List.all_eq_true]
  intro p hp
  have := pz _ 0 HP h p hp
  simp only [Bool.and_eq_true] at this ⊢
  exact ⟨Nat.ble_eq_true_of_le (by omega), this.1.1⟩
structure FF (P : Program) (f : Nat) (as : List PV) (HP : List PB) (ro rb : Nat) (outs : List PO) where
  sh : Tup (lvF as HP) → Option (SumO outs)
  ord : List Nat
  hc : jb P f
  chk : chkF as HP ro rb outs = true
  ok : ∀ a y, sh a = some y → uV P f (argF as HP a) (memF as HP a) HP.length ro rb (outO HP.length ro outs y)
def FF.e {f : Nat} {as : List PV} {HP : List PB} {ro rb : Nat} {outs : List PO} (c : FF P f as HP ro rb outs) : FE P :=
  ⟨funE f rb (unF c.ord as HP) c.sh (fun α => AO HP.length ro α outs), by
    have h := c.chk
    unfold chkF at h
    simp only [Bool.and_eq_true] at h
    obtain ⟨h1, h2, h3, h4, h5⟩ := h
    have hrm := Nat.le_of_ble_eq_true h2
    have hg := nj (m := HP.length) hrm h5
    refine AN (m := HP.length) (ro := ro) (arg := argF as HP) (H0 := memF as HP) (out := outO HP.length ro outs) c.hc (Nat.le_of_ble_eq_true h1) hrm (fun α => tR HP.length ro α outs) (B8 c.ord as HP)
      (fun a => PV.lts_ok as _ _ h3) (fun a => lk (yU h4 a)) (sX h4) (fun r => rf (hg r).2.1) (fun r b blk h => (lk (hg r).2.1 b blk h).2) (fun r b e1 e2 => (hg r).2.2 b e1 e2) (fun r => (hg r).1) c.ok,
    fun l H => isS (unF c.ord as HP l H)⟩
theorem Cm {f : Nat} {as : List PV} {HP : List PB} {ro rb : Nat} {outs : List PO} (hchk : chkF as HP ro rb outs = true) {a : Tup (lvF as HP)} {y : SumO outs}
    (h : qa P f (argF as HP a) (memF as HP a) HP.length ro (funX (upTo ro (HP.length - ro)) HP.length ro rb (unO HP.length outs)) y) : uV P f (argF as HP a) (memF as HP a) HP.length ro rb (outO HP.length ro outs y) := by
  unfold chkF at hchk
  simp only [Bool.and_eq_true] at hchk
  obtain ⟨h1, h2, h3, h4, h5⟩ := hchk
  have hrm := Nat.le_of_ble_eq_true h2
  have hg := nj (m := HP.length) hrm h5
  exact A6 (ws := upTo ro (HP.length - ro)) (fun pan v H nw r => zG HP.length ro outs pan v H nw r) (fun r => (hg r).1) (fun r b blk h => (lk (hg r).2.1 b blk h).2) (fun r => rf (hg r).2.1) hrm (sX h4 a) h
def funC {f : Nat} {as : List PV} {HP : List PB} {ro rb : Nat} {outs : List PO} {fn : Func} (hf : P.funcs[f]? = some fn) (hc : jb P f) (E : List (FE P)) (L : List (LP P fn.ntmps)) (un mk ord : List Nat) {F : Type} (sh0 : F) (hF : F = Cur (lvF as HP) (Option (SumO outs)))
    (h : (chkF as HP ro rb outs && (Nat.ble as.length fn.ntmps && (fn.body.isSome && d6 (L.map LP.m))), subs (acM un mk fn), fun a => entK as HP a fun l M => run P (E.map FE.e) (L.map LP.s) fn.ntmps (acM un mk fn) ⟨kW l 0, M, HP.length, HP.length, ro, rb⟩
      (finK P fn.results.toList (funX (upTo ro (HP.length - ro)) HP.length ro rb (unO HP.length outs)))) = (true, L.map LP.key, fun a => oE (lvF as HP) (cast hF sh0) a)) : FF P f as HP ro rb outs :=
  ⟨fun a => oE (lvF as HP) (cast hF sh0) a, ord, hc, by simp only [Prod.mk.injEq, Bool.and_eq_true] at h; exact h.1.1, fun a y e => by
    simp only [Prod.mk.injEq, Bool.and_eq_true] at h
    obtain ⟨⟨h1, h2, h3, h4⟩, h5, h6⟩ := h
    have hl : (argF as HP a).length = as.length := ll as _ _
    obtain ⟨c, hb⟩ := Option.isSome_iff_exists.1 h3
    exact Cm h1 fun ι0 w xs hW hf0 hgl hx => xH (FE.oks E) hf hb ((qt un mk fn).trans (by unfold mn; rw [hb])) (rP h4 h5) (by rw [hl]; exact h2) ((vo as HP a _).symm.trans ((congrFun h6 a).trans e)) ι0 w xs hW hf0 hgl hx⟩
structure Dfr where
  ac : AC
  k : Nat
  idD : Nat
  idR : Nat
  t : Nat
  gid : Nat
  tr : Nat
def Dfr.ops (D : Dfr) : List Oper := Ac (eP D.k D.ac)
def Dfr.o1 (D : Dfr) : Oper := getO D.ops 0
def Dfr.oD (D : Dfr) : Oper := getO D.ops 1
def Dfr.acB (D : Dfr) : AC := eP (D.k + 1) D.ac
def oRof (c : AC) : Oper := getO (Ac c) 0
def funD {f : Nat} {as : List PV} {HP : List PB} {ro rb : Nat} {outs : List PO} {fn fnC : Func} (D : Dfr) (hf : P.funcs[f]? = some fn) (hc : jb P f) (hfC : P.funcs[D.gid]? = some fnC) (hEn : jb P D.gid) (E : List (FE P)) (L : List (LP P fn.ntmps)) (un mk ord : List Nat) {F : Type} (sh0 : F) (hF : F = Cur (lvF as HP) (Option (SumO outs)))
    (hD : (D.ac, eP D.k D.ac, D.o1.guard, D.oD.guard, D.oD.op, D.oD.dst) = (acM un mk fn, AC.seq (.reg D.idD [D.o1, D.oD]) D.acB, none, none, .defer ⟨.value (.tmp D.t), #[], #[]⟩, none))
    (hC : (eP 0 (acOf fnC), (oRof (acOf fnC)).op, (oRof (acOf fnC)).guard, (oRof (acOf fnC)).dst, fnC.results, subs (acOf fnC), fnC.body.isSome) = (AC.seq (.reg D.idR [oRof (acOf fnC)]) (eP 1 (acOf fnC)), .call ⟨.builtin .recover, #[], #[]⟩, none, some D.tr, #[], [], true))
    (h : (chkF as HP ro rb outs && (Nat.ble as.length fn.ntmps && (fn.body.isSome && d6 (L.map LP.m))), subs (acM un mk fn), fun a => entK as HP a fun l M => Bp P (E.map FE.e) (L.map LP.s) fn.ntmps (jG D.k D.ac) D.o1 (.tmp D.t) D.gid D.acB [] [] fnC.ntmps (eP 1 (acOf fnC)) D.tr fn.results.toList
      (funX (upTo ro (HP.length - ro)) HP.length ro rb (unO HP.length outs)) ⟨kW l 0, M, HP.length, HP.length, ro, rb⟩) = (true, L.map LP.key, fun a => oE (lvF as HP) (cast hF sh0) a)) : FF P f as HP ro rb outs :=
  ⟨fun a => oE (lvF as HP) (cast hF sh0) a, ord, hc, by simp only [Prod.mk.injEq, Bool.and_eq_true] at h; exact h.1.1, fun a y e => by
    simp only [Prod.mk.injEq, Bool.and_eq_true] at h hD hC
    obtain ⟨⟨h1, h2, h3, h4⟩, h5, h6⟩ := h
    obtain ⟨d0, d1, d2, d3, d4, d5⟩ := hD
    obtain ⟨c1, c2, c3, c4, c5, c6, c7⟩ := hC
    have hl : (argF as HP a).length = as.length := ll as _ _
    obtain ⟨c, hb⟩ := Option.isSome_iff_exists.1 h3
    obtain ⟨c', hb'⟩ := Option.isSome_iff_exists.1 c7
    refine Cm h1 (vI (FE.oks E) (k := D.k) (idD := D.idD) (o1 := D.o1) (oD := D.oD) (acB := D.acB) (ac := D.ac) (idR := D.idR) (oR := oRof (acOf fnC)) (EC := []) hf hb (by rw [d0]; exact (qt un mk fn).trans (by unfold mn; rw [hb])) d1
      (by rw [d0]; exact rP h4 h5) d2 d3 d4 d5 (fun x hx => by cases hx) hfC hb' ((rU fnC).trans (by unfold mn; rw [hb'])) c1 c2 c3 c4 c5 (gH _ (by rw [c6]; intro p hp; cases hp)) hEn (by rw [hl]; exact h2) ((vo as HP a _).symm.trans ((congrFun h6 a).trans e)))⟩
def libF {x : Ent} (h : dY P x) : FE P := ⟨x, h, fun _ _ => true⟩
end Go.Abs
