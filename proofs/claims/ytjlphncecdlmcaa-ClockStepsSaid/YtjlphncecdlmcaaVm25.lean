/- A call in a state where nothing is written any more: what is behind it. -/
import Derived.Test.YtjlphncecdlmcaaVm24
import Derived.Sort.Grow
import Derived.Deep.Draws
set_option linter.unusedVariables false
set_option linter.unusedSimpArgs false
namespace Go.Vm
/-- All blocks frozen. -/
def St.fz (s : St) : St := { s with role := fun _ => none }
theorem St.ext_fz (s : St) : Ext s s.fz :=
  ⟨rfl, rfl, rfl, Nat.le_refl _, Nat.le_refl _, fun _ _ _ => ⟨rfl, rfl⟩, fun _ _ _ _ _ => ⟨.inl rfl, fun _ _ => rfl⟩, fun _ _ h => h, fun _ st h => ⟨st, h, .inl rfl⟩, Nat.le_refl _⟩
theorem HRel.fz {s : St} {H : AH} (hr : HRel s H) : HRel s.fz (fun _ => none) :=
  ⟨fun _ _ h => (by cases h), fun _ _ h => (by cases h), hr.blk, hr.tok, fun _ _ _ h => (by cases h)⟩
/-- Behind a call out of a frozen state: draws, and new blocks. -/
theorem grown_of {s s' : St} (h : Ext s.fz s') : ∃ q os, s'.w = Sort.grow (s.w.drewN q) os := by
  refine ⟨s'.w.drawn - s.w.drawn, s'.w.heap.extract s.w.heap.size s'.w.heap.size, ?_⟩
  have h1 := h.os; have h2 := h.tape; have h3 := h.output; have h4 := h.drawn; have h5 := h.size; have h6 := h.froz
  obtain ⟨w', _, _, _, _⟩ := s'
  obtain ⟨heap', tape', drawn', os', out'⟩ := w'
  simp only [St.fz] at h1 h2 h3 h4 h5 h6
  simp only [Sort.grow, World.drewN]
  have hd : drawn' = s.w.drawn + (drawn' - s.w.drawn) := by omega
  have hh : heap' = s.w.heap ++ heap'.extract s.w.heap.size heap'.size := by
    apply Array.ext_getElem?
    intro b
    rw [Array.getElem?_append]
    split
    · rename_i hb; exact (h6 b hb trivial).2
    · rename_i hb
      rw [Array.getElem?_extract]
      by_cases hb2 : b < heap'.size
      · rw [if_pos (by omega)]; congr 1; omega
      · rw [if_neg (by omega), Array.getElem?_eq_none (by omega)]
  rw [← hh, ← hd, h1, h2, h3]
/-- Known numbers of which nothing is known. -/
def AH.shade (H : AH) (n : Nat) : AH := fun k => match H k with
  | some o => some o
  | none => if k < n then some .dead else none
theorem AH.le_shade (H : AH) (n : Nat) : H.le (H.shade n) := fun k o hk => by simp only [AH.shade, hk]
theorem AH.shade_none {H : AH} {n k : Nat} (h : H.shade n k = none) : H k = none ∧ n ≤ k := by
  simp only [AH.shade] at h
  split at h
  · cases h
  · rename_i e
    refine ⟨e, ?_⟩
    split at h
    · cases h
    · omega
theorem HRel.shade {s : St} {H : AH} (hr : HRel s H) : HRel s (H.shade s.nx) := by
  refine ⟨fun k o hk => ?_, fun k o hk => ?_, hr.blk, hr.tok, hr.role⟩
  · simp only [AH.shade] at hk
    split at hk
    · rename_i e; cases hk; exact hr.obj k _ e
    · split at hk
      · cases hk; trivial
      · cases hk
  · simp only [AH.shade] at hk
    split at hk
    · rename_i e; exact hr.lt k _ e
    · split at hk
      · assumption
      · cases hk
end Go.Vm
