/- Contracts of functions of the given program. Conditions: as each theorem says. -/
import Derived.Test.YtkldmgnhbomknaaGreatVmQ
set_option linter.unusedVariables false
set_option linter.unusedSimpArgs false
/- Short names for what every walk does. -/
namespace Go.Vm
theorem bD : (∀ (p : Prop) [Decidable p],(decide p = true) = p) ∧ (∀ (p : Prop) [Decidable p],(decide p = false) = ¬ p) ∧ (∀ a b : Bool,((a || b) = true) = (a = true ∨ b = true)) ∧ (∀ a b : Bool,((a && b) = true) = (a = true ∧ b = true)) ∧
    (∀ a b : Bool,((a || b) = false) = (a = false ∧ b = false)) ∧ (∀ a : Bool,((!a) = true) = (a = false)) ∧ (∀ a : Bool,((!a) = false) = (a = true)) :=
  ⟨fun _ _ => decide_eq_true_eq,fun _ _ => by simp,fun _ _ => by simp,fun _ _ => by simp,fun _ _ => by simp,fun _ => by simp,fun _ => by simp⟩
theorem need_lk {H : AH} {i : Nat} {o : AObj} {K : AObj → Prop} (hk : K o) (h : H i = some o := by repeat (first | assumption | exact AH.put_same _ _ _ | refine look_put ?_ (by assumption) | refine look_lec ?_ (by assumption))) : need (H i) K := need_look h hk
theorem vc_intro {p q : Prop} (hq : q) (hp : p := by first | exact AH.lec_refl _ | assumption | exact AccP.lec (by assumption) | omega) : p ∧ q := ⟨hp,hq⟩
end Go.Vm
/- Shorter names still: one rule for what every walk does by itself. -/
namespace Go.Vm
/-- A step into a code that reckons nothing. -/
class G0 (p : Prop) (q : outParam Prop) : Prop where
  h : q → p
instance {P : Program} {N : Nat} {x y : MC} {Q : AExit → A → AH → Prop} {a : A} {H : AH} : G0 (AM P N (.seq x y) Q a H) (AM P N x (SQ P N y Q) a H) := ⟨am_seq⟩
instance {P : Program} {N : Nat} {i : Nat} {x : MC} {Q : AExit → A → AH → Prop} {a : A} {H : AH} : G0 (AM P N (.block i x) Q a H) (AM P N x (BQ i Q) a H) := ⟨am_block⟩
theorem go0 {p q : Prop} [i : G0 p q] (h : q) : p := i.h h
/-- A step that may be reckoned. -/
class G1 (p : Prop) (q : outParam Prop) : Prop where
  h : q → p
instance {P : Program} {N : Nat} {ms : List MO} {l : List Nat} {Q : AExit → A → AH → Prop} {a : A} {H : AH} : G1 (AM P N (.reg ms l) Q a H) (awOps P ms a H (regK l Q) (regP Q)) := ⟨am_reg⟩
instance {P : Program} {N : Nat} {ps ts : List MO} {l : List Nat} {Q : AExit → A → AH → Prop} {a : A} {H : AH} : G1 (AM P N (.drw ps ts l) Q a H) (drawE P ps a H (fun a' => awOps P ts a' H (regK l Q) (regP Q))) := ⟨am_drw⟩
instance {P : Program} {N : Nat} {ps ts : List MO} {l : List Nat} {Q : AExit → A → AH → Prop} {a : A} {H : AH} : G1 (AM P N (.drx ps ts l) Q a H) (drawE P ps a H (fun a' => awOpsG P (some H) ts a' H (regK l Q) (regP Q))) := ⟨am_drx⟩
instance {P : Program} {N : Nat} {ps as : List MO} {t : TT} {l : List Nat} {Q : AExit → A → AH → Prop} {a : A} {H : AH} : G1 (AM P N (.drt ps as t l) Q a H) (drawE P ps a H (fun a' => awOps P as a' H (fun a H => awT P (regK l Q) (regP Q) t a H) (regP Q))) := ⟨am_drt⟩
instance {P : Program} {N : Nat} {Q : AExit → A → AH → Prop} {a : A} {H : AH} : G1 (AM P N .skip Q a H) (Q .normal a H) := ⟨am_skip⟩
instance {P : Program} {N : Nat} {i : Nat} {Q : AExit → A → AH → Prop} {a : A} {H : AH} : G1 (AM P N (.exit i) Q a H) (Q (.exit i) a H) := ⟨am_exit⟩
instance {P : Program} {N : Nat} {Q : AExit → A → AH → Prop} {a : A} {H : AH} : G1 (AM P N .ret Q a H) (Q .ret a H) := ⟨am_ret⟩
theorem go1 {p q : Prop} [i : G1 p q] (h : q) : p := i.h h
theorem am_cnd {P : Program} {N : Nat} {Q : AExit → A → AH → Prop} {a : A} {H : AH} {t : Opd} {x y : MC} {b : Bool} {p q : Prop} (ht : p → AM P N x Q a H) (hf : q → AM P N y Q a H) (hb : a.ev t = some (.bool b) := by with_unfolding_all rfl)
    (hp : (b = true) = p := by (try simp only [reduceCtorEq,bD,beq_iff_eq]); rfl) (hq : (b = false) = q := by (try simp only [reduceCtorEq,bD,beq_iff_eq]); rfl) : AM P N (.cond t x y) Q a H :=
  am_cond hb (fun h => ht (hp ▸ h)) (fun h => hf (hq ▸ h))
theorem need_el {H H' G : AH} {sz : Nat} {es : List (List V)} {v : V} {k : List (List V) → Prop} (hk : k es) (h : AccP H sz es v H' := by assumption) : need (Go.Vm.elemsH G sz v) k := need_elems h hk
theorem vlen_a {H H' G : AH} {sz : Nat} {es : List (List V)} {v : V} {k : V → Prop} (hk : k (.int .i64 es.length)) (h : AccP H sz es v H' := by assumption) : vlen G .sl v k := vlen_acc h hk
theorem need_by {H H' G : AH} {l : List UInt8} {v : V} {k : List UInt8 → Prop} (hk : k l) (h : AccP H 1 (byteCells l) v H' := by assumption) : need (vbytesH G v) k := need_bytes h hk
theorem vapp_go {H H' : AH} {sz b : Nat} {es fs : List (List V)} {v : V} {K : V → AH → Prop} (hb : (es.length + fs.length) * b ≤ 140737488355328)
    (hk : ∀ v2 H2,AccP H sz (es ++ fs) v2 H2 → H'.lec H2 → K v2 H2) (h : AccP H sz es v H' := by first | assumption | exact AccP.mono (by assumption) (AccP.le (by assumption)) | exact AccP.new (by assumption) (by assumption) _) : vapp H' sz b fs K v := vapp_accL h hb hk
abbrev vl (d : Nat) (m : VOp) : MO := ⟨some d,none,.val m⟩
abbrev mv (d t : Nat) : MO := ⟨some d,none,.val (.mv (.t t))⟩
end Go.Vm
