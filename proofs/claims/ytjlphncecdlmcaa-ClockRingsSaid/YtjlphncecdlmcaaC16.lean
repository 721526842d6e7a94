/- Of the walks of this seat: contracts of functions of the given program, proved over the abstract values of the texts Vm. Conditions: as each theorem says. -/
import Derived.Test.YtjlphncecdlmcaaC15
import Derived.Test.YtjlphncecdlmcaaVm21
import Derived.KernelRfl
set_option linter.unusedVariables false
set_option linter.unusedSimpArgs false
namespace Go.Proofs.Ytjlphncecdlmcaa
open Go.Vm
theorem cells_ac : Try.prog.cellsOf 76 = 3 := by kernel_rfl
theorem cellsC_str : Try.prog.cellsOf 9 = 1 := by kernel_rfl
theorem cellsC_u8 : Try.prog.cellsOf 5 = 1 := by kernel_rfl
theorem cellsC_int : Try.prog.cellsOf 3 = 1 := by kernel_rfl
set_option maxRecDepth 100000 in
theorem ac_rd {n : Nat} {vs : List V} (h : rd Try.prog n 76 vs) : ∃ f : Ac, vs = [.int .u8 f.kind, .str f.name, .int .i64 f.n] := by
  obtain ⟨m, hl, hf⟩ := rd_struct Try.underlying76 h
  rw [cells_ac] at hl
  match vs, hl with
  | [a, b, c], _ =>
    have h0 := hf _ (List.mem_cons_self ..)
    have h1 := hf _ (List.mem_cons_of_mem _ (List.mem_cons_self ..))
    have h2 := hf _ (List.mem_cons_of_mem _ (List.mem_cons_of_mem _ (List.mem_cons_self ..)))
    simp only [cellsC_str, cellsC_u8, cellsC_int] at h0 h1 h2
    obtain ⟨x, e0, w0⟩ := rd_int Try.underlying5 h0
    obtain ⟨y, e1, _⟩ := rd_str Try.underlying9 h1
    obtain ⟨z, e2, _⟩ := rd_int Try.underlying3 h2
    simp only [List.drop, List.take] at e0 e1 e2
    cases e0; cases e1; cases e2
    obtain ⟨q1, q2⟩ := wf_u8 w0
    refine ⟨⟨x.toNat, y, z⟩, ?_⟩
    simp only
    rw [show ((x.toNat : Nat) : Int) = x by omega]
theorem acs_of {es : List (List V)} (h2 : ∀ c ∈ es, ∃ m, rd Try.prog m 76 c) : ∃ l : List Ac, es = acE l := by
  obtain ⟨l, rfl, h⟩ := map_of (fun f : Ac => [V.int .u8 f.kind, .str f.name, .int .i64 f.n]) (fun _ => True) es (fun c hc => by
    obtain ⟨m, h⟩ := h2 c hc
    obtain ⟨f, h1⟩ := ac_rd h
    exact ⟨f, h1, trivial⟩)
  exact ⟨l, rfl⟩
end Go.Proofs.Ytjlphncecdlmcaa
