/- From a contract to a row: the first state, and what is left behind. -/
import Derived.Test.YtoicninkfmfnbaaGreatVm18
set_option linter.unusedVariables false
set_option linter.unusedSimpArgs false
namespace Go.Vm
open Go.RowKit
def St.start (w : World) : St := ⟨w, fun _ => none, fun _ => none, fun _ => none, 0, false⟩
theorem HRel.start (w : World) : HRel (St.start w) (fun _ => none) :=
  ⟨fun _ _ h => (nomatch h), fun _ _ h => (nomatch h), fun _ _ h => (nomatch h), fun _ _ h => (nomatch h), fun _ _ _ h => (nomatch h)⟩
def ghost : AH := AH.put (fun _ => none) 0 .nodr
def St.startG (w : World) : St := ⟨w, fun _ => none, fun _ => none, fun _ => none, 1, false⟩
theorem HRel.startG (w : World) : HRel (St.startG w) ghost := by
  refine ⟨fun k o h => ?_, fun k o h => ?_, fun _ _ h => (nomatch h), fun _ _ h => (nomatch h), fun _ _ _ h => (nomatch h)⟩
  · unfold ghost at h
    by_cases e : k = 0
    · subst e; rw [AH.put_same] at h; cases h; exact rfl
    · rw [AH.put_ne _ _ e] at h; cases h
  · unfold ghost at h
    by_cases e : k = 0
    · subst e; exact Nat.one_pos
    · rw [AH.put_ne _ _ e] at h; cases h
theorem start_ext (w : World) : Ext (St.start w) (St.startG w) :=
  ⟨rfl, rfl, rfl, ⟨rfl, fun _ => Nat.le_refl _⟩, Nat.le_refl _, fun _ _ h => ⟨h, rfl⟩, fun _ _ e _ h => (nomatch h), fun _ _ h => h, fun _ st h => (nomatch h), Nat.zero_le _⟩
theorem row_ofG {P : Program} {f : FuncId} {vs : List V} {xs : List Value} {w : World} (h : ACalls P f vs ghost (fun o H' => o = .ret (.bool true) ∧ H' = ghost)) (hv : (St.start w).vals vs xs) :
    Calls P f xs.toArray w (fun e w' => e = .returned (.bool true) ∧ Below w.heap.size w w') := by
  refine (h (St.startG w) xs (HRel.startG w) (Holds.mono (start_ext w) hv)).mono fun e w' p => ?_
  obtain ⟨s', H', o, rfl, hx, _, ho, rfl, _⟩ := p
  cases e with
  | returned x =>
    have := val_bool ho
    subst this
    exact ⟨rfl, hx.os, hx.tape, hx.output, hx.size, fun k hk => (hx.froz k hk rfl).2⟩
  | panicked c => exact ho.elim
  | outgrown => exact ho.elim
theorem start_str (w : World) (a : ByteArray) : (St.start w).val (.str a.data.toList) (.string a) := by
  have := Holds.str (s := St.start w) a.data.toList
  simpa using this
end Go.Vm
