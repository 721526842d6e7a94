/- Of the walks of this seat: contracts of functions of the given program, proved over the abstract values of the texts Vm. Conditions: as each theorem says. -/
import Derived.Test.YtmomncmddejcoaaM2
import Derived.Test.YtmomncmddejcoaaVm21
import Derived.Test.YtmomncmddejcoaaProg
import Derived.KernelRfl
set_option linter.unusedVariables false
set_option linter.unusedSimpArgs false
namespace Go.Proofs.Ytmomncmddejcoaa
open Go.Vm
theorem cells_fld : Try.prog.cellsOf 55 = 4 := by kernel_rfl
theorem cells_bytes : Try.prog.cellsOf 40 = 1 := by kernel_rfl
theorem cells_u8 : Try.prog.cellsOf 5 = 1 := by kernel_rfl
theorem cells_i64 : Try.prog.cellsOf 3 = 1 := by kernel_rfl
theorem cells_u64 : Try.prog.cellsOf 53 = 1 := by kernel_rfl
theorem cells_bool : Try.prog.cellsOf 4 = 1 := by kernel_rfl
theorem bytes_of {es : List (List V)} (h2 : ∀ c ∈ es, ∃ m, rd Try.prog m 5 c) : ∃ l : List UInt8, es = byteCells l := by
  obtain ⟨l, rfl, _⟩ := map_of (fun b : UInt8 => [V.int .u8 (b.toNat : Int)]) (fun _ => True) es (fun c hc => by
    obtain ⟨m, h⟩ := h2 c hc
    obtain ⟨q, rfl, hw⟩ := rd_int Try.underlying5 h
    obtain ⟨w1, w2⟩ := wf_u8 hw
    refine ⟨UInt8.ofNat q.toNat, ?_, trivial⟩
    rw [ofNat_toNat (by omega)]
    congr 2; omega)
  exact ⟨l, rfl⟩
theorem bytes_rd {n : Nat} {vs : List V} (h : rd Try.prog n 40 vs) : ∃ l : List UInt8, vs = [.sl 1 (byteCells l) .no] ∧ l.length ≤ maxLen := by
  obtain ⟨es, rfl, h1, h2⟩ := rd_slice Try.underlying40 h
  obtain ⟨l, rfl⟩ := bytes_of h2
  exact ⟨l, by rw [cells_u8], by simpa [byteCells] using h1⟩
set_option maxRecDepth 100000 in
theorem fld_rd {n : Nat} {vs : List V} (h : rd Try.prog n 55 vs) : ∃ f : Fld, vs = fldC f ∧ (f.n < 18446744073709551616 ∧ f.b.length ≤ maxLen ∧ (Lit.int .i64 f.tag).wf = true) := by
  obtain ⟨m, hl, hf⟩ := rd_struct Try.underlying55 h
  rw [cells_fld] at hl
  match vs, hl with
  | [a, b, c, d], _ =>
    have h0 := hf _ (List.mem_cons_self ..)
    have h1 := hf _ (List.mem_cons_of_mem _ (List.mem_cons_self ..))
    have h2 := hf _ (List.mem_cons_of_mem _ (List.mem_cons_of_mem _ (List.mem_cons_self ..)))
    have h3 := hf _ (List.mem_cons_of_mem _ (List.mem_cons_of_mem _ (List.mem_cons_of_mem _ (List.mem_cons_self ..))))
    simp only [cells_i64, cells_bool, cells_u64, cells_bytes] at h0 h1 h2 h3
    obtain ⟨t, e0, w0⟩ := rd_int Try.underlying3 h0
    obtain ⟨x, e1⟩ := rd_bool Try.underlying4 h1
    obtain ⟨q, e2, w2⟩ := rd_int Try.underlying53 h2
    obtain ⟨l, e3, l3⟩ := bytes_rd h3
    simp only [List.drop, List.take] at e0 e1 e2 e3
    cases e0; cases e1; cases e2; cases e3
    obtain ⟨q1, q2⟩ := wf_u64 w2
    refine ⟨⟨t, x, q.toNat, l⟩, ?_, by simp only; omega, l3, w0⟩
    simp only [fldC]
    rw [show ((q.toNat : Nat) : Int) = q by omega]
theorem flds_of {es : List (List V)} (h2 : ∀ c ∈ es, ∃ m, rd Try.prog m 55 c) : ∃ l : List Fld, es = fldsE l ∧ ∀ f ∈ l, f.n < 18446744073709551616 ∧ f.b.length ≤ maxLen ∧ (Lit.int .i64 f.tag).wf = true := by
  obtain ⟨l, rfl, h⟩ := map_of fldC (fun f => f.n < 18446744073709551616 ∧ f.b.length ≤ maxLen ∧ (Lit.int .i64 f.tag).wf = true) es (fun c hc => by
    obtain ⟨m, h⟩ := h2 c hc
    obtain ⟨f, h1, h2⟩ := fld_rd h
    exact ⟨f, h1, h2⟩)
  exact ⟨l, rfl, h⟩
end Go.Proofs.Ytmomncmddejcoaa
