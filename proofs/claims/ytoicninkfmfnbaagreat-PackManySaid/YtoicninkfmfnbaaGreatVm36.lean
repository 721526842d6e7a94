/- Short names for what every walk does. -/
import Derived.Test.YtoicninkfmfnbaaGreatVmQ
set_option linter.unusedVariables false
set_option linter.unusedSimpArgs false
namespace Go.Vm
theorem bD : (∀ (p : Prop) [Decidable p], (decide p = true) = p) ∧ (∀ (p : Prop) [Decidable p], (decide p = false) = ¬ p) ∧ (∀ a b : Bool, ((a || b) = true) = (a = true ∨ b = true)) ∧ (∀ a b : Bool, ((a && b) = true) = (a = true ∧ b = true)) ∧
    (∀ a b : Bool, ((a || b) = false) = (a = false ∧ b = false)) ∧ (∀ a : Bool, ((!a) = true) = (a = false)) ∧ (∀ a : Bool, ((!a) = false) = (a = true)) :=
  ⟨fun _ _ => decide_eq_true_eq, fun _ _ => by simp, fun _ _ => by simp, fun _ _ => by simp, fun _ _ => by simp, fun _ => by simp, fun _ => by simp⟩
theorem need_lk {H : AH} {i : Nat} {o : AObj} {K : AObj → Prop} (hk : K o) (h : H i = some o := by repeat (first | assumption | exact AH.put_same _ _ _ | refine look_put ?_ (by assumption) | refine look_lec ?_ (by assumption))) : need (H i) K := need_look h hk
theorem vc_intro {p q : Prop} (hq : q) (hp : p := by first | exact AH.lec_refl _ | assumption | exact AccP.lec (by assumption) | omega) : p ∧ q := ⟨hp, hq⟩
end Go.Vm
