/- Of the walks of this seat: contracts of functions of the given program, proved over the abstract values of the texts Vm. Conditions: as each theorem says. -/
import Derived.Test.YtcfeafpjkcmdiaaGreatDoorPA5
set_option linter.unusedVariables false
set_option linter.unusedSimpArgs false
namespace Go.Proofs.YtcfeafpjkcmdiaaGreatDoor.Hel
open Go.Vm
attribute [local go_sem] strsE_get strsE_length intsE_get intsE_length Int.toNat_natCast Option.map_some Int.natCast_nonneg decide_eq_true_eq decide_eq_false_iff_not
theorem all_drop {α : Type} (p : α → Bool) (l : List α) (i : Nat) (h : i < l.length) : (l.drop i).all p = (p l[i] && (l.drop (i + 1)).all p) := by
  rw [List.drop_eq_getElem_cons h]; rfl
/-- From a place on: each right, and above the one ahead. -/
def from1 {α : Type} (lt : α → α → Bool) (p : α → Bool) (l : List α) (i : Nat) : Bool := rise lt (l.drop (i - 1)) && (l.drop i).all p
theorem from1_zero {α : Type} (lt : α → α → Bool) (p : α → Bool) (l : List α) : from1 lt p l 0 = (rise lt l && l.all p) := by simp [from1]
theorem from1_end {α : Type} (lt : α → α → Bool) (p : α → Bool) (l : List α) (i : Nat) (h : l.length ≤ i) : from1 lt p l i = true := by
  rw [from1, rise_end _ _ (by simp; omega), List.drop_eq_nil_of_le h]; rfl
theorem from1_step {α : Type} (lt : α → α → Bool) (p : α → Bool) (l : List α) (i : Nat) (h : i < l.length) : from1 lt p l i = ((if 0 < i then lt (l[i - 1]'(by omega)) l[i] else true) && p l[i] && from1 lt p l (i + 1)) := by
  unfold from1
  rw [all_drop p l i h]
  simp only [Nat.add_sub_cancel]
  by_cases h0 : 0 < i
  · rw [rise_drop lt l i h h0, if_pos h0]
    cases lt (l[i - 1]'(by omega)) l[i] <;> cases p l[i] <;> simp
  · obtain rfl : i = 0 := by omega
    simp only [Nat.zero_sub, if_neg h0, Bool.true_and, List.drop_zero]
    cases p l[0] <;> simp
end Go.Proofs.YtcfeafpjkcmdiaaGreatDoor.Hel
