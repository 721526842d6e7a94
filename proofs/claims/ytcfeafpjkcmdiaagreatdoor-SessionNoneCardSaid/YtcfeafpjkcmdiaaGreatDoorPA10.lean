/- Of the walks of this seat: contracts of functions of the given program, proved over the abstract values of the texts Vm. Conditions: as each theorem says. -/
import Derived.Test.YtcfeafpjkcmdiaaGreatDoorPA9
set_option linter.unusedVariables false
set_option linter.unusedSimpArgs false
namespace Go.Proofs.YtcfeafpjkcmdiaaGreatDoor.Hel
open Go.Vm
attribute [local go_sem] strsE_get strsE_length intsE_get intsE_length Int.toNat_natCast Option.map_some Int.natCast_nonneg decide_eq_true_eq decide_eq_false_iff_not
def long60 (s : List UInt8) : Bool := decide (60 < s.length)
def greatS (vs : List Int) (ss : List (List UInt8)) : Bool := ss.any long60 || (decide (30 < vs.length) || decide (30 < ss.length))
theorem any_drop {α : Type} (p : α → Bool) (l : List α) (i : Nat) (h : i < l.length) : (l.drop i).any p = (p l[i] || (l.drop (i + 1)).any p) := by
  rw [List.drop_eq_getElem_cons h]; rfl
theorem great_le {vs : List Int} {ss : List (List UInt8)} (h : greatS vs ss = false) : vs.length ≤ 30 ∧ ss.length ≤ 30 ∧ ∀ s ∈ ss, s.length ≤ 60 := by
  simp only [greatS, Bool.or_eq_false_iff, decide_eq_false_iff_not] at h
  obtain ⟨h1, h2, h3⟩ := h
  refine ⟨by omega, by omega, fun s hs => ?_⟩
  have : long60 s = false := by
    cases e : long60 s with
    | false => rfl
    | true => rw [List.any_eq_true.2 ⟨s, hs, e⟩] at h1; cases h1
  have := of_decide_eq_false this
  omega
end Go.Proofs.YtcfeafpjkcmdiaaGreatDoor.Hel
