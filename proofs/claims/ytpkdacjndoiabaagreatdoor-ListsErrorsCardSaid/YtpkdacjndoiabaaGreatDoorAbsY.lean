/- Opening a law's arguments: slices of integers, wherever they lie.
   Conditions: none; generic over the program. -/
import Derived.Test.YtpkdacjndoiabaaGreatDoorAbsX
import Derived.ChangeSame
import Derived.ChangeSlices
set_option linter.unusedSimpArgs false
namespace Go.Abs
open Go.RowKit Go.ChangeShapes Go.WideShapes
def wo (w:World) (v:Value) (t:List Lf) (l:List (den t)):Option Rf->Prop
 | none=>l=[]/\∃a,v=.slice a 0 0
 | some q=>q.fz=true/\v=.slice (some ⟨q.r,q.o,none⟩) q.n q.k/\∃o,w.heap[q.r]?=some o/\BR gi q (.rows t l) o
def ux (L:List (Option Rf)):Inj:=λb=>L[b]?
theorem wo.bw {w:World} {v:Value} {t:List Lf} {l:List (den t)} {ρ:Option Rf} (h:wo w v t l ρ) {L:List (Option Rf)} {b:Nat} (hb:L[b]?=some ρ):BW (ux L) w b (.rows t l):=by
 cases ρ with
 | none=>obtain ⟨rfl,_⟩:=h;exact .inr ⟨hb,t,rfl⟩
 | some q=>obtain ⟨_,_,o,h1,h2⟩:=h;exact .inl ⟨q,o,hb,h1,h2⟩
theorem wo.vr {w:World} {v:Value} {t:List Lf} {l:List (den t)} {ρ:Option Rf} (h:wo w v t l ρ) {L:List (Option Rf)} {b:Nat} (hb:L[b]?=some ρ):VR (ux L) (.ws b) v:=by
 unfold VR
 cases ρ with
 | none=>obtain ⟨_,a,rfl⟩:=h;exact .inr ⟨hb,a,rfl⟩
 | some q=>obtain ⟨_,rfl,_⟩:=h;exact .inl ⟨q,hb,rfl⟩
theorem wo.ok {w:World} {v:Value} {t:List Lf} {l:List (den t)} {q:Rf} (h:wo w v t l (some q)):q.fz=true/\q.r<w.heap.size:=by
 obtain ⟨h1,_,o,h2,_⟩:=h
 exact ⟨h1,mL h2⟩
theorem WR.entry {w:World} {L:List (Option Rf)} {H:List (Nat×Blk)} (hz:∀(b:Nat) (q:Rf),L[b]?=some (some q)->q.fz=true/\q.r<w.heap.size) (hH:∀b blk,look H b=some blk->BW (ux L) w b blk):WR (ux L) H L.length w:=by
 refine ⟨λb b' q q' h1 h2 _=>.inr ⟨(hz b q h1).1,(hz b' q' h2).1⟩,λb q h=>?_,λb q h=>(hz b q h).2,λb blk h _=>hH b blk h⟩
 unfold ux at h
 rcases aH b L.length with h' | h'
 ·exact h'
 ·rw [eo h'] at h
  simp at h
theorem Pq {w:World} {x0:Value} {t0:List Lf} {l0:List (den t0)} {ρ0:Option Rf} (z0:wo w x0 t0 l0 ρ0):WR (ux [ρ0]) [(0,.rows t0 l0)] 1 w:=by
 refine WR.entry (L:=[ρ0]) (λb q h=>?_) λb blk h=>?_
 ·match b,h with
  | 0,h=>
   simp only [jL,am] at h
   subst h;exact z0.ok
  | b+1,h=>simp at h
 ·rw [aM] at h
  split at h
  ·rename_i e;subst e
   simp only [am] at h;subst h
   exact z0.bw rfl
  ·cases h
end Go.Abs
