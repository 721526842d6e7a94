/- Behind a call nothing is reckoned until its answer is known. -/
import Derived.Test.YtkldmgnhbomknaaGreatVmV
set_option linter.unusedVariables false
set_option linter.unusedSimpArgs false
namespace Go.Vm
variable {P : Program} {d : Option Nat} {ms : List MO} {a : A} {H : AH}
def qcont (P : Program) (d : Option Nat) (ms : List MO) (a : A) (H : AH) (K : A → Prop) : V → Prop := fun v => drawE P ms (a.putD d v) H K
@[go_sem ↓] theorem qcont_v {K : A → Prop} (v : V) : qcont P d ms a H K v = drawE P ms (a.putD d v) H K := rfl
@[go_sem ↓] theorem drawE_call {K : A → Prop} (f : Nat) (xs : List Opd) : drawE P (⟨d,none,.call f xs⟩ :: ms) a H K = need (a.evs xs) (fun vs => qcall P f vs H (qcont P d ms a H K)) := rfl
@[go_sem ↓ high] theorem gq_call {K : A → Prop} (f : Nat) (xs : List Opd) : gq true P d (.call f xs) ms a H K = need (a.evs xs) (fun vs => qcall P f vs H (qcont P d ms a H K)) := by rw [gq_true]; rfl
def wcont (P : Program) (d : Option Nat) (ms : List MO) (a : A) (K : A → AH → Prop) (Kp : AH → Prop) : V → AH → Prop := fun v H' => awOps P ms (a.putD d v) H' K Kp
@[go_sem ↓] theorem wcont_v {K : A → AH → Prop} {Kp : AH → Prop} (v : V) (H' : AH) : wcont P d ms a K Kp v H' = awOps P ms (a.putD d v) H' K Kp := rfl
@[go_sem ↓] theorem awOps_call {K : A → AH → Prop} {Kp : AH → Prop} (f : Nat) (xs : List Opd) : awOps P (⟨d,none,.call f xs⟩ :: ms) a H K Kp = need (a.evs xs) (fun vs => ACalls P f vs H (outK (wcont P d ms a K Kp) Kp)) := rfl
@[go_sem ↓ high] theorem gd_call {K : A → AH → Prop} {Kp : AH → Prop} (f : Nat) (xs : List Opd) : gd true P d (.call f xs) ms a H K Kp = need (a.evs xs) (fun vs => ACalls P f vs H (outK (wcont P d ms a K Kp) Kp)) := by rw [gd_true]; rfl
end Go.Vm
