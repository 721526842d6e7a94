/- Drawn regions in which an operation panics: whatever comes up ahead of it, nothing of what there was has turned. -/
import Derived.Test.YtjlphncecdlmcaaVm32
set_option linter.unusedVariables false
set_option linter.unusedSimpArgs false
namespace Go.Vm
section
variable {P : Program} {k : V → Prop} {a : A} {H : AH}
@[go_sem ↓] theorem qmop_tap (t : Nat) (x : Opd) : qmop P (.tap t x) a H k = need (a.ev x) (tapK t k False) := rfl
end
def Imp : V := .agg [.agg []]
def QI (P : Program) (Kp : AH → Prop) (m : MO) (a : A) (H : AH) (v : V) : Prop :=
  (∃ t ∈ m.looks, a.get t = some Imp) ∨ ∀ a' H', Agree m.looks a a' → H.le H' → ∀ (k' : A → AH → Prop), k' (a'.putD m.dst v) H' → stepE P m a' H' k' Kp
inductive RunI (P : Program) (Kp : AH → Prop) (H : AH) : List MO → List V → A → A → Prop where
  | nil (a : A) : RunI P Kp H [] [] a a
  | cons (m : MO) (ms : List MO) (v : V) (vs : List V) (a a' : A) : QI P Kp m a H v → RunI P Kp H ms vs (a.putD m.dst v) a' → RunI P Kp H (m :: ms) (v :: vs) a a'
section
variable {P : Program} {imm : Nat → Bool} {N : Nat} {ops : Array Oper} {ms : List MO} {c : Nat → Nat} {Kp : AH → Prop} {H0 : AH} {vs : List V} {a0 ap : A}
end
/-! ### The same, over the short form -/
inductive PS where
  | ok
  | pan
  | bad
def isImp : Option V → Bool
  | some (.agg [.agg []]) => true
  | _ => false
def panK (t : Nat) : V → Prop
  | .iface u _ => u ≠ t
  | .nilIface => True
  | _ => False
def panE (P : Program) (Kp : AH → Prop) (m : MO) (a : A) (H : AH) : Prop :=
  m.g = none ∧ match m.op with
  | .tap t x => need (a.ev x) (panK t) ∧ ∀ H', H.le H' → Kp H'
  | .call f xs => need (a.evs xs) fun vs => ∀ H', H.le H' → ACalls P f vs H' (fun o H'' => o = .pan ∧ Kp H'')
  | _ => False
def drawES (P : Program) (Kp : AH → Prop) : List PS → List MO → A → AH → (A → Prop) → Prop
  | _, [], a, _, K => K a
  | [], _ :: _, _, _, _ => False
  | .ok :: st, m :: ms, a, H, K => quietE P m a H fun a' => drawES P Kp st ms a' H K
  | .pan :: st, m :: ms, a, H, K => panE P Kp m a H ∧ drawES P Kp st ms (a.putD m.dst Imp) H K
  | .bad :: st, m :: ms, a, H, K => (m.looks.any fun t => isImp (a.get t)) = true ∧ drawES P Kp st ms (a.putD m.dst Imp) H K
section
variable {P : Program} {Kp : AH → Prop} {a : A} {H : AH} {K : A → Prop}
@[go_sem] theorem drawES_nil (st : List PS) : drawES P Kp st [] a H K = K a := by cases st <;> rfl
@[go_sem] theorem drawES_ok (st : List PS) (d : Option Nat) (m : MOp) (ms : List MO) : drawES P Kp (.ok :: st) (⟨d, none, m⟩ :: ms) a H K = qmop P m a H (fun v => drawES P Kp st ms (a.putD d v) H K) := rfl
@[go_sem] theorem drawES_pan (st : List PS) (m : MO) (ms : List MO) : drawES P Kp (.pan :: st) (m :: ms) a H K = (panE P Kp m a H ∧ drawES P Kp st ms (a.putD m.dst Imp) H K) := rfl
@[go_sem] theorem drawES_bad (st : List PS) (m : MO) (ms : List MO) : drawES P Kp (.bad :: st) (m :: ms) a H K = ((m.looks.any fun t => isImp (a.get t)) = true ∧ drawES P Kp st ms (a.putD m.dst Imp) H K) := rfl
@[go_sem] theorem panE_tap (d : Option Nat) (t : Nat) (x : Opd) : panE P Kp ⟨d, none, .tap t x⟩ a H = (need (a.ev x) (panK t) ∧ ∀ H', H.le H' → Kp H') := by simp [panE]
@[go_sem] theorem panE_call (d : Option Nat) (f : Nat) (xs : List Opd) : panE P Kp ⟨d, none, .call f xs⟩ a H = need (a.evs xs) (fun vs => ∀ H', H.le H' → ACalls P f vs H' (fun o H'' => o = .pan ∧ Kp H'')) := by simp [panE]
@[go_sem] theorem panK_iface (t u : Nat) (v : V) : panK t (.iface u v) = (u ≠ t) := rfl
@[go_sem] theorem panK_nil (t : Nat) : panK t .nilIface = True := rfl
end
end Go.Vm
