/- Of the walks of this seat: contracts of functions of the given program, proved over the abstract values of the texts Vm. Conditions: as each theorem says. -/
import Derived.Test.YtoicninkfmfnbaaGreatZW9
import Derived.Test.YtoicninkfmfnbaaGreatVmT
import Derived.Test.YtoicninkfmfnbaaGreatProg
import Derived.KernelRfl
set_option linter.unusedVariables false
set_option linter.unusedSimpArgs false
namespace Go.Proofs.YtoicninkfmfnbaaGreat
open Go.Vm
theorem cells_u8 : Tryz.prog.cellsOf 5 = 1 := by kernel_rfl
theorem bytes_of {es : List (List V)} (h2 : ∀ c ∈ es, ∃ m, rd Tryz.prog m 5 c) : ∃ l : List UInt8, es = byteCells l := by
  obtain ⟨l, rfl, _⟩ := map_of (fun b : UInt8 => [V.int .u8 (b.toNat : Int)]) (fun _ => True) es (fun c hc => by
    obtain ⟨m, h⟩ := h2 c hc
    obtain ⟨q, rfl, hw⟩ := rd_int Tryz.underlying5 h
    obtain ⟨w1, w2⟩ := wf_u8 hw
    refine ⟨UInt8.ofNat q.toNat, ?_, trivial⟩
    rw [ofNat_toNat (by omega)]
    congr 2; omega)
  exact ⟨l, rfl⟩
end Go.Proofs.YtoicninkfmfnbaaGreat
