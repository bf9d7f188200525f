/- Opening a law's arguments: slices of integers, wherever they lie.
   Conditions: none; generic over the program. -/
import Derived.Test.YtlampgohpnchdaaGreatDoorAbsX
import Derived.ChangeSame
import Derived.ChangeSlices
namespace Go.Abs
open Go.RowKit Go.ChangeShapes Go.WideShapes
def mV (w:World) (v:Value) (t:List Lf) (l:List (den t)):Option Rf->Prop
 | none=>l=[]/\∃a,v=.slice a 0 0
 | some q=>q.fz=true/\v=.slice (some ⟨q.r,q.o,none⟩) q.n q.k/\∃o,w.heap[q.r]?=some o/\BR fI q (.rows t l) o
def oW (L:List (Option Rf)):Inj:=λb=>L[b]?
theorem mV.bw {w:World} {v:Value} {t:List Lf} {l:List (den t)} {ρ:Option Rf} (h:mV w v t l ρ) {L:List (Option Rf)} {b:Nat} (hb:L[b]?=some ρ):BW (oW L) w b (.rows t l):=by
 cases ρ with
 | none=>obtain ⟨rfl,_⟩:=h;exact .inr ⟨hb,t,rfl⟩
 | some q=>obtain ⟨_,_,o,h1,h2⟩:=h;exact .inl ⟨q,o,hb,h1,h2⟩
theorem mV.vr {w:World} {v:Value} {t:List Lf} {l:List (den t)} {ρ:Option Rf} (h:mV w v t l ρ) {L:List (Option Rf)} {b:Nat} (hb:L[b]?=some ρ):VR (oW L) (.ws b) v:=by
 unfold VR
 cases ρ with
 | none=>obtain ⟨_,a,rfl⟩:=h;exact .inr ⟨hb,a,rfl⟩
 | some q=>obtain ⟨_,rfl,_⟩:=h;exact .inl ⟨q,hb,rfl⟩
theorem mV.ok {w:World} {v:Value} {t:List Lf} {l:List (den t)} {q:Rf} (h:mV w v t l (some q)):q.fz=true/\q.r<w.heap.size:=by
 obtain ⟨h1,_,o,h2,_⟩:=h
 exact ⟨h1,lr h2⟩
theorem WR.entry {w:World} {L:List (Option Rf)} {H:List (Nat×Blk)} (hz:∀(b:Nat) (q:Rf),L[b]?=some (some q)->q.fz=true/\q.r<w.heap.size) (hH:∀b blk,look H b=some blk->BW (oW L) w b blk):WR (oW L) H L.length w:=by
 refine ⟨λb b' q q' h1 h2 _=>.inr ⟨(hz b q h1).1,(hz b' q' h2).1⟩,λb q h=>?_,λb q h=>(hz b q h).2,λb blk h _=>hH b blk h⟩
 unfold oW at h
 rcases Nat.lt_or_ge b L.length with h' | h'
 ·exact h'
 ·rw [List.getElem?_eq_none h'] at h
  simp at h
theorem Ev {w:World} {x0 x1:Value} {t0 t1:List Lf} {l0:List (den t0)} {l1:List (den t1)} {ρ0 ρ1:Option Rf} (z0:mV w x0 t0 l0 ρ0) (z1:mV w x1 t1 l1 ρ1):
  WR (oW [ρ0,ρ1]) [(0,.rows t0 l0),(1,.rows t1 l1)] 2 w:=by
 refine WR.entry (L:=[ρ0,ρ1]) (λb q h=>?_) λb blk h=>?_
 ·match b,h with
  | 0,h=>
   simp only [List.getElem?_cons_zero,Option.some.injEq] at h
   subst h;exact z0.ok
  | 1,h=>
   simp only [List.getElem?_cons_succ,List.getElem?_cons_zero,Option.some.injEq] at h
   subst h;exact z1.ok
  | b+2,h=>simp at h
 ·rw [ay] at h
  split at h
  ·rename_i e;subst e
   simp only [Option.some.injEq] at h;subst h
   exact z0.bw rfl
  ·rw [ay] at h
   split at h
   ·rename_i e;subst e
    simp only [Option.some.injEq] at h;subst h
    exact z1.bw rfl
   ·cases h
end Go.Abs
