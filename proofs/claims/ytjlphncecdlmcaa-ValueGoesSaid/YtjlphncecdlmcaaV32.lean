/- Of the walks of this seat: contracts of functions of the given program, proved over the abstract values of the texts Vm. Conditions: as each theorem says. -/
import Derived.Test.YtjlphncecdlmcaaV21
import Derived.Test.YtjlphncecdlmcaaVD
set_option linter.unusedVariables false
set_option linter.unusedSimpArgs false
namespace Go.Proofs.Ytjlphncecdlmcaa
open Go.Vm
theorem cells_step : Try.prog.cellsOf 49 = 2 := by kernel_rfl
set_option maxRecDepth 100000 in
theorem step_ofB {n : Nat} {vs : List V} (h : rdB Try.prog n 49 vs) : ∃ s : St2, vs = [.str s.1, .int .i64 s.2] ∧ s.1.length ≤ 140737488355328 := by
  obtain ⟨m, hm, hl, hf⟩ := rdB_struct Try.underlying49 h
  rw [cells_step] at hl
  match vs, hl with
  | [a, b], _ =>
    have h0 := hf _ (List.mem_cons_self ..)
    have h1 := hf _ (List.mem_cons_of_mem _ (List.mem_cons_self ..))
    simp only [cellsB_str, cellsB_int] at h0 h1
    obtain ⟨x0, e0, b0⟩ := rdB_str Try.underlying9 h0
    obtain ⟨x1, e1, _⟩ := rdB_int Try.underlying3 h1
    simp only [List.drop, List.take] at e0 e1
    cases e0; cases e1
    exact ⟨(x0, x1), rfl, Nat.le_trans b0 reach_le⟩
theorem steps_ofB {es : List (List V)} (h : ∀ c ∈ es, ∃ m, rdB Try.prog m 49 c) : ∃ l : List St2, es = stE l ∧ ∀ s ∈ l, s.1.length ≤ 140737488355328 := by
  induction es with
  | nil => exact ⟨[], rfl, by simp⟩
  | cons c es ih =>
    obtain ⟨l, rfl, h1⟩ := ih fun c hc => h c (List.mem_cons_of_mem _ hc)
    obtain ⟨m, hm⟩ := h c List.mem_cons_self
    obtain ⟨s, rfl, hs⟩ := step_ofB hm
    refine ⟨s :: l, rfl, fun t ht => ?_⟩
    rcases List.mem_cons.1 ht with rfl | ht
    · exact hs
    · exact h1 t ht
end Go.Proofs.Ytjlphncecdlmcaa
