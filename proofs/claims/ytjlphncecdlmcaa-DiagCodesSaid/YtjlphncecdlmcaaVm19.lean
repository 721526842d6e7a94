/- From a contract to a row: the first state, and what is left behind. -/
import Derived.Test.YtjlphncecdlmcaaVm18
set_option linter.unusedVariables false
set_option linter.unusedSimpArgs false
namespace Go.Vm
open Go.RowKit
def St.start (w : World) : St := ⟨w, fun _ => none, fun _ => none, fun _ => none, 0, false⟩
theorem HRel.start (w : World) : HRel (St.start w) (fun _ => none) :=
  ⟨fun _ _ h => (nomatch h), fun _ _ h => (nomatch h), fun _ _ h => (nomatch h), fun _ _ h => (nomatch h), fun _ _ _ h => (nomatch h)⟩
theorem row_of {P : Program} {f : FuncId} {vs : List V} {xs : List Value} {w : World} (h : ACalls P f vs (fun _ => none) (fun o H' => o = .ret (.bool true) ∧ H' = fun _ => none)) (hv : (St.start w).vals vs xs) :
    Calls P f xs.toArray w (fun e w' => e = .returned (.bool true) ∧ Below w.heap.size w w') := by
  refine (h (St.start w) xs (HRel.start w) hv).mono fun e w' p => ?_
  obtain ⟨s', H', o, rfl, hx, _, ho, rfl, _⟩ := p
  cases e with
  | returned x =>
    have := val_bool ho
    subst this
    exact ⟨rfl, hx.os, hx.tape, hx.output, hx.size, fun k hk => (hx.froz k hk rfl).2⟩
  | panicked c => exact ho.elim
  | outgrown => exact ho.elim
theorem start_str (w : World) (a : ByteArray) : (St.start w).val (.str a.data.toList) (.string a) := by
  have := Holds.str (s := St.start w) a.data.toList
  simpa using this
end Go.Vm
