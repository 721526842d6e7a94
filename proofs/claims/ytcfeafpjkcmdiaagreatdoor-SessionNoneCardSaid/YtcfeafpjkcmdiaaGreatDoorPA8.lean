/- Of the walks of this seat: contracts of functions of the given program, proved over the abstract values of the texts Vm. Conditions: as each theorem says. -/
import Derived.Test.YtcfeafpjkcmdiaaGreatDoorPA7
set_option linter.unusedVariables false
set_option linter.unusedSimpArgs false
namespace Go.Proofs.YtcfeafpjkcmdiaaGreatDoor.Hel
open Go.Vm
attribute [local go_sem] strsE_get strsE_length intsE_get intsE_length Int.toNat_natCast Option.map_some Int.natCast_nonneg decide_eq_true_eq decide_eq_false_iff_not
theorem agree_awake : agreeS [1, 2] [] [2, 3] [] = (2, [], 0) := by decide
theorem ext_of {α : Type} {l m : List α} (hlen : l.length = m.length) (h : ∀ j, j < l.length → l[j]? = m[j]?) : l = m := by
  apply List.ext_getElem? 
  intro j
  by_cases hj : j < l.length
  · exact h j hj
  · rw [List.getElem?_eq_none (by omega), List.getElem?_eq_none (by omega)]
end Go.Proofs.YtcfeafpjkcmdiaaGreatDoor.Hel
