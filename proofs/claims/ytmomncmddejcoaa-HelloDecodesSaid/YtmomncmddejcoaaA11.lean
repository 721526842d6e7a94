/- Of the walks of this seat: contracts of functions of the given program, proved over the abstract values of the texts Vm. Conditions: as each theorem says. -/
import Derived.Test.YtmomncmddejcoaaA10
import Derived.Test.YtmomncmddejcoaaVm21
set_option linter.unusedVariables false
set_option linter.unusedSimpArgs false
namespace Go.Proofs.Ytmomncmddejcoaa
open Go.Vm
theorem cells_hello : Try.prog.cellsOf 25 = 2 := by kernel_rfl
theorem cells_ints : Try.prog.cellsOf 22 = 1 := by kernel_rfl
theorem cells_strs : Try.prog.cellsOf 23 = 1 := by kernel_rfl
theorem cells_int : Try.prog.cellsOf 3 = 1 := by kernel_rfl
theorem cells_str : Try.prog.cellsOf 9 = 1 := by kernel_rfl
theorem ints_rd {n : Nat} {vs : List V} (h : rd Try.prog n 22 vs) : ∃ l : List Int, vs = [.sl 1 (intsE l) .no] ∧ l.length ≤ maxLen ∧ ∀ m ∈ l, (Lit.int .i64 m).wf = true := by
  obtain ⟨es, rfl, h1, h2⟩ := rd_slice Try.underlying22 h
  obtain ⟨l, rfl, h3⟩ := map_of (fun n : Int => [V.int .i64 n]) (fun m => (Lit.int .i64 m).wf = true) es (fun c hc => by
    obtain ⟨m, h⟩ := h2 c hc
    exact rd_int Try.underlying3 h)
  exact ⟨l, by rw [cells_int]; rfl, by simpa using h1, h3⟩
theorem strs_rd {n : Nat} {vs : List V} (h : rd Try.prog n 23 vs) : ∃ l : List (List UInt8), vs = [.sl 1 (strsE l) .no] ∧ l.length ≤ maxLen ∧ ∀ m ∈ l, m.length ≤ maxLen := by
  obtain ⟨es, rfl, h1, h2⟩ := rd_slice Try.underlying23 h
  obtain ⟨l, rfl, h3⟩ := map_of (fun n : List UInt8 => [V.str n]) (fun m => m.length ≤ maxLen) es (fun c hc => by
    obtain ⟨m, h⟩ := h2 c hc
    exact rd_str Try.underlying9 h)
  exact ⟨l, by rw [cells_str]; rfl, by simpa using h1, h3⟩
set_option maxRecDepth 100000 in
/-- A hello, opened. -/
theorem hello_rd {n : Nat} {vs : List V} (h : rd Try.prog n 25 vs) : ∃ (va : List Int) (sa : List (List UInt8)), vs = [.sl 1 (intsE va) .no, .sl 1 (strsE sa) .no] ∧ va.length ≤ maxLen ∧ sa.length ≤ maxLen ∧ (∀ s ∈ sa, s.length ≤ maxLen) ∧ ∀ m ∈ va, (Lit.int .i64 m).wf = true := by
  obtain ⟨m, hl, hf⟩ := rd_struct Try.underlying25 h
  rw [cells_hello] at hl
  match vs, hl with
  | [a, b], _ =>
    have h0 := hf _ (List.mem_cons_self ..)
    have h1 := hf _ (List.mem_cons_of_mem _ (List.mem_cons_self ..))
    simp only [cells_ints, cells_strs] at h0 h1
    obtain ⟨va, e0, l0, w0⟩ := ints_rd h0
    obtain ⟨sa, e1, l1, w1⟩ := strs_rd h1
    simp only [List.drop, List.take] at e0 e1
    cases e0; cases e1
    exact ⟨va, sa, rfl, l0, l1, w1, w0⟩
end Go.Proofs.Ytmomncmddejcoaa
