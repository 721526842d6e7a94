/- Of the walks of this seat: contracts of functions of the given program, proved over the abstract values of the texts Vm. Conditions: as each theorem says. -/
import Derived.Test.YtcfeafpjkcmdiaaGreatDoorPA8
set_option linter.unusedVariables false
set_option linter.unusedSimpArgs false
namespace Go.Proofs.YtcfeafpjkcmdiaaGreatDoor.Hel
open Go.Vm
attribute [local go_sem] strsE_get strsE_length intsE_get intsE_length Int.toNat_natCast Option.map_some Int.natCast_nonneg decide_eq_true_eq decide_eq_false_iff_not
theorem bool_sub {s : St} {x : Value} {b : Bool} (e : b = true) (h : s.val (.bool b) x) : s.val (.bool true) x := e ▸ h
theorem agree_own : agreeS [1, 2] [impS, upgS] [1, 2] [impS, upgS] = (2, [impS, upgS], 0) := by decide
theorem right_own : wrong [1, 2] [impS, upgS] = 0 := by decide
end Go.Proofs.YtcfeafpjkcmdiaaGreatDoor.Hel
