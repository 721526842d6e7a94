/- Of the walks of this seat: contracts of functions of the given program, proved over the abstract values of the texts Vm. Conditions: as each theorem says. -/
import Derived.Test.YtjlphncecdlmcaaDp
import Derived.Test.YtjlphncecdlmcaaVm21
import Derived.Test.YtjlphncecdlmcaaProg
import Derived.KernelRfl
set_option linter.unusedVariables false
set_option linter.unusedSimpArgs false
namespace Go.Proofs.Ytjlphncecdlmcaa
open Go.Vm
theorem cells_nt : Try.prog.cellsOf 26 = 2 := by kernel_rfl
theorem cells_str : Try.prog.cellsOf 9 = 1 := by kernel_rfl
theorem cells_bool : Try.prog.cellsOf 4 = 1 := by kernel_rfl
set_option maxRecDepth 100000 in
theorem nt_rd {n : Nat} {vs : List V} (h : rd Try.prog n 26 vs) : ∃ f : Nt, vs = ntC f := by
  obtain ⟨m, hl, hf⟩ := rd_struct Try.underlying26 h
  rw [cells_nt] at hl
  match vs, hl with
  | [a, b], _ =>
    have h0 := hf _ (List.mem_cons_self ..)
    have h1 := hf _ (List.mem_cons_of_mem _ (List.mem_cons_self ..))
    simp only [cells_str, cells_bool] at h0 h1
    obtain ⟨x, e0⟩ := rd_bool Try.underlying4 h0
    obtain ⟨y, e1, _⟩ := rd_str Try.underlying9 h1
    simp only [List.drop, List.take] at e0 e1
    cases e0; cases e1
    exact ⟨⟨x, y⟩, rfl⟩
theorem nts_of {es : List (List V)} (h2 : ∀ c ∈ es, ∃ m, rd Try.prog m 26 c) : ∃ l : List Nt, es = ntsE l := by
  obtain ⟨l, rfl, h⟩ := map_of ntC (fun _ => True) es (fun c hc => by
    obtain ⟨m, h⟩ := h2 c hc
    obtain ⟨f, h1⟩ := nt_rd h
    exact ⟨f, h1, trivial⟩)
  exact ⟨l, rfl⟩
end Go.Proofs.Ytjlphncecdlmcaa
