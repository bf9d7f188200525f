/- Several contracts of one function, several shapes of one loop.
   Conditions: none; generic over the program. -/
import Derived.Test.YtpeccjabfkaicaaDoorAbsP
namespace Go.Abs
variable {P : Program}

/-- Two contracts of one function: the first where its arguments read so. -/
def altE (x : Ent) (t : List V → List (Nat × Blk) → Bool) (y : Ent) : Ent :=
  ⟨x.f, fun α args H fr k => cond (t args H) (x.e α args H fr k) (y.e α args H fr k)⟩

theorem altE_ok {x y : Ent} {t : List V → List (Nat × Blk) → Bool} (hx : EntOK P x) (hy : EntOK P y) (hf : y.f = x.f) : EntOK P (altE x t y) := by
  intro α args H fr k z h
  simp only [altE] at h
  cases ht : t args H with
  | true => rw [ht] at h; exact hx α args H fr k z h
  | false =>
    rw [ht] at h
    have := hy α args H fr k z h
    rw [hf] at this
    exact this

/-- Two shapes of one piece of code. -/
def altS (x : Sub) (t : St → Bool) (y : Sub) : Sub := ⟨x.m, fun α s k => cond (t s) (x.e α s k) (y.e α s k)⟩

theorem altS_ok {α : Type} {n : Nat} {c : Code} {x y : Sub} {t : St → Bool} {s : St} {k : Ex → St → Option α} {z : α}
    (hx : x.e α s k = some z → SemC P n c s fun ex s' => k ex s' = some z) (hy : y.e α s k = some z → SemC P n c s fun ex s' => k ex s' = some z)
    (h : (altS x t y).e α s k = some z) : SemC P n c s fun ex s' => k ex s' = some z := by
  simp only [altS] at h
  cases ht : t s with
  | true => rw [ht] at h; exact hx h
  | false => rw [ht] at h; exact hy h

/-- Does a state read so? -/
def readsS {X : Type} (an : Ann) (un : St → Option X) (s : St) : Bool := match cleanK an s fun s' => ob (un s') fun _ => some () with | some _ => true | none => false

def isS {α : Type} : Option α → Bool
  | some _ => true
  | none => false

end Go.Abs
