/- Of the walks of this seat: contracts of functions of the given program, proved over the abstract values of the texts Vm. Conditions: as each theorem says. -/
import Derived.Test.YtedjokeaanfdfaaE4
import Derived.Test.YtedjokeaanfdfaaVm21
set_option linter.unusedVariables false
set_option linter.unusedSimpArgs false
namespace Go.Proofs.Ytedjokeaanfdfaa
open Go.Vm
theorem cells_rule : Try.prog.cellsOf 23 = 4 := by kernel_rfl
theorem cells_int : Try.prog.cellsOf 3 = 1 := by kernel_rfl
set_option maxRecDepth 100000 in
/-- A rule, opened. -/
theorem rule_rd {n : Nat} {vs : List V} (h : rd Try.prog n 23 vs) : ∃ r : Rl, vs = r.cells := by
  obtain ⟨m, hl, hf⟩ := rd_struct Try.underlying23 h
  rw [cells_rule] at hl
  match vs, hl with
  | [a, b, c, d], _ =>
    have h0 := hf _ (List.mem_cons_self ..)
    have h1 := hf _ (List.mem_cons_of_mem _ (List.mem_cons_self ..))
    have h2 := hf _ (List.mem_cons_of_mem _ (List.mem_cons_of_mem _ (List.mem_cons_self ..)))
    have h3 := hf _ (List.mem_cons_of_mem _ (List.mem_cons_of_mem _ (List.mem_cons_of_mem _ (List.mem_cons_self ..))))
    simp only [cells_int] at h0 h1 h2 h3
    obtain ⟨m0, e0, _⟩ := rd_int Try.underlying3 h0
    obtain ⟨m1, e1, _⟩ := rd_int Try.underlying3 h1
    obtain ⟨m2, e2, _⟩ := rd_int Try.underlying3 h2
    obtain ⟨m3, e3, _⟩ := rd_int Try.underlying3 h3
    simp only [List.drop, List.take] at e0 e1 e2 e3
    cases e0; cases e1; cases e2; cases e3
    exact ⟨⟨m0, m1, m2, m3⟩, rfl⟩
end Go.Proofs.Ytedjokeaanfdfaa
