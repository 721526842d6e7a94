/- maps.Clone of a map that nobody writes: a new map that may be written. -/
import Derived.Test.YtjlphncecdlmcaaShc
import Derived.Test.YtjlphncecdlmcaaVA
set_option linter.unusedVariables false
set_option linter.unusedSimpArgs false
namespace Go.Proofs.Ytjlphncecdlmcaa
open Go.Vm Go.Proofs
theorem mclone_calls {es : List (V × V)} (H : AH) : ACalls Try.prog 153 [.mapv es] H (fun o H' => ∃ v, o = .ret v ∧ ∃ k, H k = none ∧ v = .map k ∧ H' = H.put k (.map es)) := by
  intro s xs hr hv
  cases hv with
  | cons _ x _ xs h1 h2 =>
    cases h2
    cases h1 with
    | mapv _ b ms clock q1 q2 q3 q4 q5 q6 =>
      have hC := AnyW.maps_Clone Try.clone153 b ms clock s.w q3
      refine Calls.mono hC ?_
      rintro e w' ⟨rfl, rfl⟩
      have hx := St.ext_newObj hr (.map ms clock)
      have hb : (s.newObj (.map ms clock)).blk s.nx = some s.w.heap.size := by simp [St.newObj]
      refine ⟨s.newObj (.map ms clock), H.put s.nx (.map es), .ret (.map s.nx), rfl, hx, hr.newObj _ (.map es) ⟨s.w.heap.size, ms, clock, hb, by simp [St.newObj], Go.Vm.heap_alloc_new, q4.mono hx, q5, q6⟩, .map _ _ hb, _, rfl, s.nx, hr.fresh, rfl, rfl⟩
end Go.Proofs.Ytjlphncecdlmcaa
