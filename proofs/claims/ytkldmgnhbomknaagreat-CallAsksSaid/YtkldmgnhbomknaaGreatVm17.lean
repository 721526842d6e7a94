/- How the walks reckon: ends, and regions that draw. -/
import Derived.Test.YtkldmgnhbomknaaGreatVm16
set_option linter.unusedVariables false
set_option linter.unusedSimpArgs false
namespace Go.Vm
/-! ### Ends -/
section
variable {P : Program} {N : Nat} {y : MC} {Q : AExit → A → AH → Prop}
@[go_sem ↓] theorem SQ_normal : SQ P N y Q .normal = AM P N y Q := rfl
@[go_sem ↓] theorem SQ_ret : SQ P N y Q .ret = Q .ret := rfl
@[go_sem ↓] theorem SQ_exit (i : Nat) : SQ P N y Q (.exit i) = Q (.exit i) := rfl
@[go_sem ↓] theorem SQ_panic : SQ P N y Q .panic = Q .panic := rfl
@[go_sem ↓] theorem BQ_normal (i : Nat) : BQ i Q .normal = Q .normal := rfl
@[go_sem ↓] theorem BQ_ret (i : Nat) : BQ i Q .ret = Q .ret := rfl
@[go_sem ↓] theorem BQ_panic (i : Nat) : BQ i Q .panic = Q .panic := rfl
@[go_sem ↓] theorem BQ_exit (i j : Nat) : BQ i Q (.exit j) = if j = i then Q .normal else Q (.exit j) := rfl
@[go_sem ↓] theorem LQ_normal (I : Nat → A → AH → Prop) (n : Nat) : LQ I n Q .normal = fun a' H' => ∃ m,m < n ∧ I m a' H' := rfl
@[go_sem ↓] theorem LQ_ret (I : Nat → A → AH → Prop) (n : Nat) : LQ I n Q .ret = Q .ret := rfl
@[go_sem ↓] theorem LQ_panic (I : Nat → A → AH → Prop) (n : Nat) : LQ I n Q .panic = Q .panic := rfl
@[go_sem ↓] theorem LQ_exit (I : Nat → A → AH → Prop) (n i : Nat) : LQ I n Q (.exit i) = Q (.exit i) := rfl
@[go_sem ↓] theorem Body_normal (rs : List RV) (R : Out → AH → Prop) (a : A) (H : AH) : Body rs R .normal a H = need (rvsGet a H rs) (fun vs => R (.ret (resOne vs)) H) := rfl
@[go_sem ↓] theorem Body_ret (rs : List RV) (R : Out → AH → Prop) (a : A) (H : AH) : Body rs R .ret a H = need (rvsGet a H rs) (fun vs => R (.ret (resOne vs)) H) := rfl
@[go_sem ↓] theorem Body_panic (rs : List RV) (R : Out → AH → Prop) (a : A) (H : AH) : Body rs R .panic a H = R .pan H := rfl
@[go_sem] theorem rvs_nil (a : A) (H : AH) : rvsGet a H [] = some [] := rfl
@[go_sem] theorem rvs_cons (a : A) (H : AH) (r : RV) (rs : List RV) : rvsGet a H (r :: rs) = consO (rvGet a H r) (rvsGet a H rs) := by
  simp only [rvsGet]; cases rvGet a H r <;> cases rvsGet a H rs <;> rfl
@[go_sem] theorem rv_tmp (a : A) (H : AH) (t : Nat) : rvGet a H (.tmp t) = a.get t := rfl
def cellO (H : AH) (g : Bool) (z : Nat) : Option V → Option V
  | some (.ptr i off) => match H i with
    | some (.cells cs) => pickCells g z cs off
    | _ => none
  | some (.rptr cs off) => pickCells g z cs off
  | _ => none
@[go_sem] theorem rv_cell (a : A) (H : AH) (t z : Nat) (g : Bool) : rvGet a H (.cell t g z) = cellO H g z (a.get t) := by
  simp only [rvGet,cellO]
  cases a.get t with
  | none => rfl
  | some v => cases v <;> rfl
attribute [go_sem] cellO resOne params
end
/-! ### Quiet operations -/
section
variable {P : Program} {a : A} {H : AH} {K : A → Prop} {k : V → Prop}
def gq (b : Bool) (P : Program) (d : Option Nat) (m : MOp) (ms : List MO) (a : A) (H : AH) (K : A → Prop) : Prop :=
  if b = true then qmop P m a H (fun v => drawE P ms (a.putD d v) H K) else drawE P ms (a.putD d unitV) H K
section
variable {d : Option Nat} {m : MOp} {ms : List MO}
@[congr] theorem gq_congr {b b' : Bool} (h : b = b') : gq b P d m ms a H K = gq b' P d m ms a H K := by rw [h]
@[go_sem ↓] theorem gq_true : gq true P d m ms a H K = qmop P m a H (fun v => drawE P ms (a.putD d v) H K) := by simp [gq]
@[go_sem ↓] theorem gq_false : gq false P d m ms a H K = drawE P ms (a.putD d unitV) H K := by simp [gq]
theorem gq_of {b : Bool} (h1 : b = true → qmop P m a H (fun v => drawE P ms (a.putD d v) H K)) (h2 : b = false → drawE P ms (a.putD d unitV) H K) : gq b P d m ms a H K := by
  cases b
  · rw [gq_false]; exact h2 rfl
  · rw [gq_true]; exact h1 rfl
theorem gq_not {b : Bool} (h1 : b = false → qmop P m a H (fun v => drawE P ms (a.putD d v) H K)) (h2 : b = true → drawE P ms (a.putD d unitV) H K) : gq (!b) P d m ms a H K := by
  cases b
  · rw [Bool.not_false,gq_true]; exact h1 rfl
  · rw [Bool.not_true,gq_false]; exact h2 rfl
end
def guardQ (w : Bool) (P : Program) (d : Option Nat) (m : MOp) (ms : List MO) (a : A) (H : AH) (K : A → Prop) : V → Prop
  | .bool b => gq (b == w) P d m ms a H K
  | .tuple _ => drawE P ms (a.putD d unitV) H K
  | _ => False
@[go_sem ↓] theorem guardQ_bool (w b : Bool) (d : Option Nat) (m : MOp) (ms : List MO) : guardQ w P d m ms a H K (.bool b) = gq (b == w) P d m ms a H K := rfl
@[go_sem ↓] theorem guardQ_unit (w : Bool) (d : Option Nat) (m : MOp) (ms : List MO) : guardQ w P d m ms a H K unitV = drawE P ms (a.putD d unitV) H K := rfl
@[go_sem] theorem drawE_nil : drawE P [] a H K = K a := rfl
@[go_sem] theorem drawE_cons (d : Option Nat) (m : MOp) (ms : List MO) : drawE P (⟨d,none,m⟩ :: ms) a H K = qmop P m a H (fun v => drawE P ms (a.putD d v) H K) := rfl
@[go_sem] theorem drawE_guard (d : Option Nat) (t : Nat) (w : Bool) (m : MOp) (ms : List MO) : drawE P (⟨d,some (t,w),m⟩ :: ms) a H K =
    need (a.get t) (guardQ w P d m ms a H K) := by
  simp only [drawE,quietE]
  cases h : a.get t with
  | none => rfl
  | some v =>
    simp only [need_some]
    cases v <;> simp only [guardK,guardQ]
    rename_i b
    by_cases e : b = w
    · subst e; simp [gq,gif]
    · simp [gq,gif,e]
@[go_sem ↓] theorem qmop_val (q : VOp) : qmop P (.val q) a H k = vop q a H k := rfl
@[go_sem ↓] theorem qmop_boxi (x : Opd) : qmop P (.boxi x) a H k = need (a.ev x) (fun v => v.flat = true ∧ k (.rptr v.cells 0)) := rfl
@[go_sem ↓] theorem qmop_build (z : List V) (ps : List (Nat × Nat × Opd)) : qmop P (.build z ps) a H k = need (lay a z ps) (fun cs => k (.agg cs)) := rfl
@[go_sem ↓] theorem qmop_bslice (sz n : Nat) (z : List V) (ps : List (Nat × Nat × Opd)) : qmop P (.bslice sz n z ps) a H k = need (lay a z ps) (fun cs => k (.sl sz (chop sz n cs) .tight)) := rfl
@[go_sem ↓] theorem qmop_s2b (x : Opd) : qmop P (.s2b x) a H k = need (a.ev x) (strK fun l => k (.sl 1 (byteCells l) .no)) := rfl
def qcall (P : Program) (f : Nat) (vs : List V) (H : AH) (k : V → Prop) : Prop := ∃ v,PureAt P f vs H v ∧ k v
@[congr] theorem qcall_congr (P : Program) (f : Nat) (vs : List V) (H : AH) (k : V → Prop) : qcall P f vs H k = qcall P f vs H k := rfl
@[go_sem ↓] theorem qmop_call (f : Nat) (xs : List Opd) : qmop P (.call f xs) a H k = need (a.evs xs) (fun vs => qcall P f vs H k) := rfl
theorem qcall_of {f : Nat} {vs : List V} {v : V} (h : ∀ H,ACalls P f vs H (fun o H' => o = .ret v ∧ H' = H)) (hk : k v) : qcall P f vs H k := ⟨v,pureAt_of h H,hk⟩
theorem call_of {f : Nat} {vs : List V} {v : V} {kk : V → AH → Prop} {kp : AH → Prop} (h : ∀ H,ACalls P f vs H (fun o H' => o = .ret v ∧ H' = H)) (hk : kk v H) : ACalls P f vs H (outK kk kp) :=
  (h H).mono (by rintro o H' ⟨rfl,rfl⟩; exact hk)
end
end Go.Vm
