/- Of the walks of this seat: contracts of functions of the given program, proved over the abstract values of the texts Vm. Conditions: as each theorem says. -/
import Derived.Test.YtcfeafpjkcmdiaaGreatDoorPA4
set_option linter.unusedVariables false
set_option linter.unusedSimpArgs false
namespace Go.Proofs.YtcfeafpjkcmdiaaGreatDoor.Hel
open Go.Vm
attribute [local go_sem] strsE_get strsE_length intsE_get intsE_length Int.toNat_natCast Option.map_some Int.natCast_nonneg decide_eq_true_eq decide_eq_false_iff_not
/- flange/hello.Right -/
abbrev k56_0 : MC :=
  .cond (.t 41) ((.seq (.reg [
     ⟨(some 2), none, .val (.mv (.c (.int .i64 7)))⟩] [2]) (.ret))) (.skip)

abbrev k56_1 : MC :=
  .cond (.t 16) ((.seq (.reg [
     ⟨(some 2), none, .val (.mv (.c (.int .i64 2)))⟩] [2]) (.ret))) ((.seq (.reg [
     ⟨(some 42), none, .val (.faddr 1 (.t 1))⟩,
     ⟨(some 43), none, .val (.load false 1 (.t 42))⟩,
     ⟨(some 44), none, .call 82 [(.t 43)]⟩,
     ⟨(some 45), none, .val (.not (.t 44))⟩,
     ⟨(some 46), none, .val (.mv (.t 45))⟩,
     ⟨(some 47), (some (46, false)), .val (.faddr 1 (.t 1))⟩,
     ⟨(some 48), (some (46, false)), .val (.load false 1 (.t 47))⟩,
     ⟨(some 49), (some (46, false)), .call 83 [(.t 48), (.c (.func (.func 84) [] []))]⟩,
     ⟨(some 50), none, .val (.pick (.t 46) (.c (.bool true)) (.t 49))⟩,
     ⟨(some 41), none, .val (.mv (.t 50))⟩] [41]) k56_0))

abbrev k56_2 : MC :=
  .cond (.t 7) ((.seq (.reg [
     ⟨(some 2), none, .val (.mv (.c (.int .i64 3)))⟩] [2]) (.ret))) ((.seq (.reg [
     ⟨(some 17), none, .val (.mv (.t 3))⟩,
     ⟨(some 18), none, .val (.bin .eql .num (.t 17) (.c (.int .i64 0)))⟩,
     ⟨(some 19), none, .val (.mv (.t 18))⟩,
     ⟨(some 20), (some (19, false)), .val (.faddr 0 (.t 1))⟩,
     ⟨(some 21), (some (19, false)), .val (.load false 1 (.t 20))⟩,
     ⟨(some 22), (some (19, false)), .call 81 [(.t 21)]⟩,
     ⟨(some 23), (some (19, false)), .val (.not (.t 22))⟩,
     ⟨(some 24), none, .val (.pick (.t 19) (.c (.bool true)) (.t 23))⟩,
     ⟨(some 25), none, .val (.mv (.t 24))⟩,
     ⟨(some 26), (some (25, false)), .val (.faddr 0 (.t 1))⟩,
     ⟨(some 27), (some (25, false)), .val (.load false 1 (.t 26))⟩,
     ⟨(some 28), (some (25, false)), .val (.iaddr 1 (.t 27) (.c (.int .i64 0)))⟩,
     ⟨(some 29), (some (25, false)), .val (.load false 1 (.t 28))⟩,
     ⟨(some 30), (some (25, false)), .val (.bin .lss .num (.t 29) (.c (.int .i64 1)))⟩,
     ⟨(some 31), none, .val (.pick (.t 25) (.c (.bool true)) (.t 30))⟩,
     ⟨(some 32), none, .val (.mv (.t 31))⟩,
     ⟨(some 33), (some (32, false)), .val (.faddr 0 (.t 1))⟩,
     ⟨(some 34), (some (32, false)), .val (.load false 1 (.t 33))⟩,
     ⟨(some 35), (some (32, false)), .val (.mv (.t 3))⟩,
     ⟨(some 36), (some (32, false)), .val (.bin .sub .num (.t 35) (.c (.int .i64 1)))⟩,
     ⟨(some 37), (some (32, false)), .val (.iaddr 1 (.t 34) (.t 36))⟩,
     ⟨(some 38), (some (32, false)), .val (.load false 1 (.t 37))⟩,
     ⟨(some 39), (some (32, false)), .val (.bin .gtr .num (.t 38) (.c (.int .i64 1000)))⟩,
     ⟨(some 40), none, .val (.pick (.t 32) (.c (.bool true)) (.t 39))⟩,
     ⟨(some 16), none, .val (.mv (.t 40))⟩] [1, 16]) k56_1))

abbrev k56_3 : MC :=
  (.seq (.reg [
    ⟨(some 2), none, .val (.mv (.c (.int .i64 0)))⟩] [2]) (.ret))

abbrev k56_4 : MC :=
  (.seq (.block 0 ((.seq (.reg [
     ⟨(some 8), none, .val (.mv (.t 3))⟩,
     ⟨(some 9), none, .val (.bin .gtr .num (.t 8) (.c (.int .i64 16)))⟩,
     ⟨(some 10), none, .val (.mv (.t 9))⟩,
     ⟨(some 11), (some (10, false)), .val (.faddr 1 (.t 1))⟩,
     ⟨(some 12), (some (10, false)), .val (.load false 1 (.t 11))⟩,
     ⟨(some 13), (some (10, false)), .val (.len .sl (.t 12))⟩,
     ⟨(some 14), (some (10, false)), .val (.bin .gtr .num (.t 13) (.c (.int .i64 16)))⟩,
     ⟨(some 15), none, .val (.pick (.t 10) (.c (.bool true)) (.t 14))⟩,
     ⟨(some 7), none, .val (.mv (.t 15))⟩] [1, 3, 7]) k56_2))) k56_3)

abbrev k56_5 : MC :=
  (.seq (.reg [
    ⟨(some 4), none, .val (.faddr 0 (.t 1))⟩,
    ⟨(some 5), none, .val (.load false 1 (.t 4))⟩,
    ⟨(some 6), none, .val (.len .sl (.t 5))⟩,
    ⟨(some 3), none, .val (.mv (.t 6))⟩] [1, 3]) k56_4)
abbrev k56 : MC :=
  (.seq (.reg [
    ⟨(some 1), none, .boxi (.t 0)⟩,
    ⟨(some 2), none, .val (.mv (.c (.int .i64 0)))⟩] [1]) k56_5)
theorem c56 : Tryz.f56.body.bind (mcOf Tryz.prog (List.contains [1] ·) (List.getD [([], [1]), ([], [1, 3]), ([], [1, 3, 7]), ([], [2]), ([], [1, 16]), ([], [2]), ([], [41]), ([], [2]), ([], [2])] · ([], [])) 51) = some k56 := by kernel_rfl
theorem r56 : rvsOf Tryz.prog Tryz.f56.results.toList = some [.tmp 2] := by kernel_rfl

def inV (v : Int) : Bool := decide (1 ≤ v) && decide (v ≤ 1000)
def okV (vs : List Int) : Bool := rise ltI vs && vs.all inV
def okS (ss : List (List UInt8)) : Bool := rise Op.bytesLess ss && ss.all named
def wrong (vs : List Int) (ss : List (List UInt8)) : Int :=
  if 16 < vs.length ∨ 16 < ss.length then 3 else if vs = [] ∨ okV vs = false then 2 else if okS ss = false then 7 else 0
theorem rise_le : ∀ (l : List Int), rise ltI l = true → ∀ (i j : Nat) (hi : i < l.length) (hj : j < l.length), i ≤ j → l[i] ≤ l[j]
  | [], _, i, j, hi, _, _ => by simp at hi
  | [a], _, i, j, hi, hj, _ => by
    simp only [List.length_singleton] at hi hj
    obtain rfl : i = 0 := by omega
    obtain rfl : j = 0 := by omega
    exact Int.le_refl _
  | a :: b :: l, h, i, j, hi, hj, hle => by
    simp only [rise, ltI, Bool.and_eq_true, decide_eq_true_eq] at h
    have ih := rise_le (b :: l) h.2
    cases i with
    | zero =>
      cases j with
      | zero => exact Int.le_refl _
      | succ j =>
        have := ih 0 j (by simp) (by simpa using hj) (by omega)
        simp only [List.getElem_cons_zero, List.getElem_cons_succ] at this ⊢
        omega
    | succ i =>
      cases j with
      | zero => omega
      | succ j =>
        have := ih i j (by simpa using hi) (by simpa using hj) (by omega)
        simpa using this
theorem okV_ends (vs : List Int) (h : 0 < vs.length) : okV vs = (rise ltI vs && (decide (1 ≤ vs[0]) && decide (vs[vs.length - 1]'(by omega) ≤ 1000))) := by
  unfold okV
  cases hr : rise ltI vs with
  | false => rfl
  | true =>
    simp only [Bool.true_and]
    have hm := rise_le vs hr
    rw [Bool.eq_iff_iff]
    simp only [List.all_eq_true, inV, Bool.and_eq_true, decide_eq_true_eq]
    constructor
    · intro hall
      exact ⟨(hall _ (List.getElem_mem h)).1, (hall _ (List.getElem_mem (by omega))).2⟩
    · rintro ⟨h1, h2⟩ v hv
      obtain ⟨i, hi, rfl⟩ := List.mem_iff_getElem.1 hv
      have a := hm 0 i h hi (by omega)
      have b := hm i (vs.length - 1) hi (by omega) (by omega)
      exact ⟨by omega, by omega⟩
theorem any_not {α : Type} (p : α → Bool) (l : List α) : (l.any fun s => !p s) = !l.all p := by
  induction l with
  | nil => rfl
  | cons x l ih => simp [ih]
theorem lt_one {α : Type} {l : List α} (h : 0 < l.length) : l[0]? = some (l[0]'h) := List.getElem?_eq_getElem h
theorem last_get {α : Type} {l : List α} (h : 0 < l.length) : l[l.length - 1]? = some (l[l.length - 1]'(by omega)) := List.getElem?_eq_getElem (by omega)
theorem right_calls (vs : List Int) (ss : List (List UInt8)) (tv ts : Tok) (hv : vs.length < 4611686018427387904) (hl : ss.length < 4611686018427387904) (hs : ∀ s ∈ ss, s.length < 4611686018427387904) (H : AH) :
    ACalls Tryz.prog 56 [.agg [.sl 1 (intsE vs) tv, .sl 1 (strsE ss) ts]] H (fun o H' => o = .ret (.int .i64 (wrong vs ss)) ∧ H' = H) := by
  refine acalls Tryz.func56 c56 r56 (by simp [Tryz.ntmps56]) ?_
  repeat (first | refine am_seq ?_ | (refine am_reg ?_; simp -implicitDefEqProofs (disch := omega) only [go_sem, eq_self, decide_true, decide_false, Nat.reduceBEq, Nat.reduceAdd, Nat.reduceSub, Nat.reduceMul, Nat.reduceEqDiff, Nat.reduceLeDiff, Nat.reduceLT, Int.reduceLE, Int.reduceLT, Int.reduceToNat, Int.reduceAdd, Int.reduceEq, Int.reduceNeg, AH.put_ne]) | (refine am_drw ?_; simp -implicitDefEqProofs (disch := omega) only [go_sem, eq_self, decide_true, decide_false, Nat.reduceBEq, Nat.reduceAdd, Nat.reduceSub, Nat.reduceMul, Nat.reduceEqDiff, Nat.reduceLeDiff, Nat.reduceLT, Int.reduceLE, Int.reduceLT, Int.reduceToNat, Int.reduceAdd, Int.reduceEq, Int.reduceNeg, AH.put_ne]) | refine am_block ?_)
  have tail : ∀ b : Bool, vs.length ≤ 16 → ss.length ≤ 16 → b = decide (vs = [] ∨ okV vs = false) → AM Tryz.prog Tryz.f56.ntmps k56_1
    (BQ 0
      (SQ Tryz.prog Tryz.f56.ntmps k56_3
        (Body [RV.tmp 2] fun o H' => o = Out.ret (V.int IntKind.i64 (wrong vs ss)) ∧ H' = H)))
    [(1, V.rptr [V.sl 1 (intsE vs) tv, V.sl 1 (strsE ss) ts] 0), (16, .bool b)] H := by
    intro b a1 a2 hb
    refine am_cond rfl (fun hc => ?_) (fun hc => ?_) <;> (try simp -implicitDefEqProofs (disch := omega) only [go_sem, eq_self, decide_true, decide_false, Nat.reduceBEq, Nat.reduceAdd, Nat.reduceSub, Nat.reduceMul, Nat.reduceEqDiff, Nat.reduceLeDiff, Nat.reduceLT, Int.reduceLE, Int.reduceLT, Int.reduceToNat, Int.reduceAdd, Int.reduceEq, Int.reduceNeg, AH.put_ne] at hc)
    · repeat (first | refine am_seq ?_ | (refine am_reg ?_; simp -implicitDefEqProofs (disch := omega) only [go_sem, eq_self, decide_true, decide_false, Nat.reduceBEq, Nat.reduceAdd, Nat.reduceSub, Nat.reduceMul, Nat.reduceEqDiff, Nat.reduceLeDiff, Nat.reduceLT, Int.reduceLE, Int.reduceLT, Int.reduceToNat, Int.reduceAdd, Int.reduceEq, Int.reduceNeg, AH.put_ne]) | (refine am_drw ?_; simp -implicitDefEqProofs (disch := omega) only [go_sem, eq_self, decide_true, decide_false, Nat.reduceBEq, Nat.reduceAdd, Nat.reduceSub, Nat.reduceMul, Nat.reduceEqDiff, Nat.reduceLeDiff, Nat.reduceLT, Int.reduceLE, Int.reduceLT, Int.reduceToNat, Int.reduceAdd, Int.reduceEq, Int.reduceNeg, AH.put_ne]) | refine am_block ?_)
      refine am_ret ?_
      simp -implicitDefEqProofs (disch := omega) only [go_sem, eq_self, decide_true, decide_false, Nat.reduceBEq, Nat.reduceAdd, Nat.reduceSub, Nat.reduceMul, Nat.reduceEqDiff, Nat.reduceLeDiff, Nat.reduceLT, Int.reduceLE, Int.reduceLT, Int.reduceToNat, Int.reduceAdd, Int.reduceEq, Int.reduceNeg, AH.put_ne]
      subst hc
      have := of_decide_eq_true hb.symm
      simp [wrong, this, show ¬ 16 < vs.length by omega, show ¬ 16 < ss.length by omega]
    · subst hc
      have hw := of_decide_eq_false hb.symm
      have e : wrong vs ss = if okS ss = false then 7 else 0 := by
        unfold wrong
        rw [if_neg (by omega), if_neg hw]
      repeat (first | refine am_seq ?_ | (refine am_reg ?_; simp -implicitDefEqProofs (disch := omega) only [go_sem, eq_self, decide_true, decide_false, Nat.reduceBEq, Nat.reduceAdd, Nat.reduceSub, Nat.reduceMul, Nat.reduceEqDiff, Nat.reduceLeDiff, Nat.reduceLT, Int.reduceLE, Int.reduceLT, Int.reduceToNat, Int.reduceAdd, Int.reduceEq, Int.reduceNeg, AH.put_ne]) | (refine am_drw ?_; simp -implicitDefEqProofs (disch := omega) only [go_sem, eq_self, decide_true, decide_false, Nat.reduceBEq, Nat.reduceAdd, Nat.reduceSub, Nat.reduceMul, Nat.reduceEqDiff, Nat.reduceLeDiff, Nat.reduceLT, Int.reduceLE, Int.reduceLT, Int.reduceToNat, Int.reduceAdd, Int.reduceEq, Int.reduceNeg, AH.put_ne]) | refine am_block ?_)
      refine call_of (rising_str ss ts hl) ?_
      try simp -implicitDefEqProofs (disch := omega) only [go_sem, eq_self, decide_true, decide_false, Nat.reduceBEq, Nat.reduceAdd, Nat.reduceSub, Nat.reduceMul, Nat.reduceEqDiff, Nat.reduceLeDiff, Nat.reduceLT, Int.reduceLE, Int.reduceLT, Int.reduceToNat, Int.reduceAdd, Int.reduceEq, Int.reduceNeg, AH.put_ne]
      refine gd_of (fun h => ?_) (fun h => ?_) <;> simp -implicitDefEqProofs (disch := omega) only [go_sem, eq_self, decide_true, decide_false, Nat.reduceBEq, Nat.reduceAdd, Nat.reduceSub, Nat.reduceMul, Nat.reduceEqDiff, Nat.reduceLeDiff, Nat.reduceLT, Int.reduceLE, Int.reduceLT, Int.reduceToNat, Int.reduceAdd, Int.reduceEq, Int.reduceNeg, AH.put_ne, h]
      · refine call_of (containsf_calls ss ts hl hs) ?_
        try simp -implicitDefEqProofs (disch := omega) only [go_sem, eq_self, decide_true, decide_false, Nat.reduceBEq, Nat.reduceAdd, Nat.reduceSub, Nat.reduceMul, Nat.reduceEqDiff, Nat.reduceLeDiff, Nat.reduceLT, Int.reduceLE, Int.reduceLT, Int.reduceToNat, Int.reduceAdd, Int.reduceEq, Int.reduceNeg, AH.put_ne]
        refine am_cond rfl (fun hc => ?_) (fun hc => ?_) <;> (try simp -implicitDefEqProofs (disch := omega) only [go_sem, eq_self, decide_true, decide_false, Nat.reduceBEq, Nat.reduceAdd, Nat.reduceSub, Nat.reduceMul, Nat.reduceEqDiff, Nat.reduceLeDiff, Nat.reduceLT, Int.reduceLE, Int.reduceLT, Int.reduceToNat, Int.reduceAdd, Int.reduceEq, Int.reduceNeg, AH.put_ne] at hc)
        · repeat (first | refine am_seq ?_ | (refine am_reg ?_; simp -implicitDefEqProofs (disch := omega) only [go_sem, eq_self, decide_true, decide_false, Nat.reduceBEq, Nat.reduceAdd, Nat.reduceSub, Nat.reduceMul, Nat.reduceEqDiff, Nat.reduceLeDiff, Nat.reduceLT, Int.reduceLE, Int.reduceLT, Int.reduceToNat, Int.reduceAdd, Int.reduceEq, Int.reduceNeg, AH.put_ne]) | (refine am_drw ?_; simp -implicitDefEqProofs (disch := omega) only [go_sem, eq_self, decide_true, decide_false, Nat.reduceBEq, Nat.reduceAdd, Nat.reduceSub, Nat.reduceMul, Nat.reduceEqDiff, Nat.reduceLeDiff, Nat.reduceLT, Int.reduceLE, Int.reduceLT, Int.reduceToNat, Int.reduceAdd, Int.reduceEq, Int.reduceNeg, AH.put_ne]) | refine am_block ?_)
          refine am_ret ?_
          simp -implicitDefEqProofs (disch := omega) only [go_sem, eq_self, decide_true, decide_false, Nat.reduceBEq, Nat.reduceAdd, Nat.reduceSub, Nat.reduceMul, Nat.reduceEqDiff, Nat.reduceLeDiff, Nat.reduceLT, Int.reduceLE, Int.reduceLT, Int.reduceToNat, Int.reduceAdd, Int.reduceEq, Int.reduceNeg, AH.put_ne]
          rw [any_not] at hc
          simp only [Bool.not_eq_false', Bool.not_eq_true'] at hc
          rw [e, okS, h, hc]
          rfl
        · refine am_skip ?_
          simp -implicitDefEqProofs (disch := omega) only [go_sem, eq_self, decide_true, decide_false, Nat.reduceBEq, Nat.reduceAdd, Nat.reduceSub, Nat.reduceMul, Nat.reduceEqDiff, Nat.reduceLeDiff, Nat.reduceLT, Int.reduceLE, Int.reduceLT, Int.reduceToNat, Int.reduceAdd, Int.reduceEq, Int.reduceNeg, AH.put_ne]
          repeat (first | refine am_seq ?_ | (refine am_reg ?_; simp -implicitDefEqProofs (disch := omega) only [go_sem, eq_self, decide_true, decide_false, Nat.reduceBEq, Nat.reduceAdd, Nat.reduceSub, Nat.reduceMul, Nat.reduceEqDiff, Nat.reduceLeDiff, Nat.reduceLT, Int.reduceLE, Int.reduceLT, Int.reduceToNat, Int.reduceAdd, Int.reduceEq, Int.reduceNeg, AH.put_ne]) | (refine am_drw ?_; simp -implicitDefEqProofs (disch := omega) only [go_sem, eq_self, decide_true, decide_false, Nat.reduceBEq, Nat.reduceAdd, Nat.reduceSub, Nat.reduceMul, Nat.reduceEqDiff, Nat.reduceLeDiff, Nat.reduceLT, Int.reduceLE, Int.reduceLT, Int.reduceToNat, Int.reduceAdd, Int.reduceEq, Int.reduceNeg, AH.put_ne]) | refine am_block ?_)
          refine am_ret ?_
          simp -implicitDefEqProofs (disch := omega) only [go_sem, eq_self, decide_true, decide_false, Nat.reduceBEq, Nat.reduceAdd, Nat.reduceSub, Nat.reduceMul, Nat.reduceEqDiff, Nat.reduceLeDiff, Nat.reduceLT, Int.reduceLE, Int.reduceLT, Int.reduceToNat, Int.reduceAdd, Int.reduceEq, Int.reduceNeg, AH.put_ne]
          rw [any_not] at hc
          simp only [Bool.not_eq_false', Bool.not_eq_true'] at hc
          rw [e, okS, h, hc]
          rfl
      · refine am_cond rfl (fun hc => ?_) (fun hc => ?_) <;> (try simp -implicitDefEqProofs (disch := omega) only [go_sem, eq_self, decide_true, decide_false, Nat.reduceBEq, Nat.reduceAdd, Nat.reduceSub, Nat.reduceMul, Nat.reduceEqDiff, Nat.reduceLeDiff, Nat.reduceLT, Int.reduceLE, Int.reduceLT, Int.reduceToNat, Int.reduceAdd, Int.reduceEq, Int.reduceNeg, AH.put_ne] at hc)
        · repeat (first | refine am_seq ?_ | (refine am_reg ?_; simp -implicitDefEqProofs (disch := omega) only [go_sem, eq_self, decide_true, decide_false, Nat.reduceBEq, Nat.reduceAdd, Nat.reduceSub, Nat.reduceMul, Nat.reduceEqDiff, Nat.reduceLeDiff, Nat.reduceLT, Int.reduceLE, Int.reduceLT, Int.reduceToNat, Int.reduceAdd, Int.reduceEq, Int.reduceNeg, AH.put_ne]) | (refine am_drw ?_; simp -implicitDefEqProofs (disch := omega) only [go_sem, eq_self, decide_true, decide_false, Nat.reduceBEq, Nat.reduceAdd, Nat.reduceSub, Nat.reduceMul, Nat.reduceEqDiff, Nat.reduceLeDiff, Nat.reduceLT, Int.reduceLE, Int.reduceLT, Int.reduceToNat, Int.reduceAdd, Int.reduceEq, Int.reduceNeg, AH.put_ne]) | refine am_block ?_)
          refine am_ret ?_
          simp -implicitDefEqProofs (disch := omega) only [go_sem, eq_self, decide_true, decide_false, Nat.reduceBEq, Nat.reduceAdd, Nat.reduceSub, Nat.reduceMul, Nat.reduceEqDiff, Nat.reduceLeDiff, Nat.reduceLT, Int.reduceLE, Int.reduceLT, Int.reduceToNat, Int.reduceAdd, Int.reduceEq, Int.reduceNeg, AH.put_ne]
          simp [e, okS, h]
  refine gd_not (fun h => ?_) (fun h => ?_) <;> simp -implicitDefEqProofs (disch := omega) only [go_sem, eq_self, decide_true, decide_false, Nat.reduceBEq, Nat.reduceAdd, Nat.reduceSub, Nat.reduceMul, Nat.reduceEqDiff, Nat.reduceLeDiff, Nat.reduceLT, Int.reduceLE, Int.reduceLT, Int.reduceToNat, Int.reduceAdd, Int.reduceEq, Int.reduceNeg, AH.put_ne, h]
  all_goals refine am_cond rfl (fun hc => ?_) (fun hc => ?_) <;> (try simp -implicitDefEqProofs (disch := omega) only [go_sem, eq_self, decide_true, decide_false, Nat.reduceBEq, Nat.reduceAdd, Nat.reduceSub, Nat.reduceMul, Nat.reduceEqDiff, Nat.reduceLeDiff, Nat.reduceLT, Int.reduceLE, Int.reduceLT, Int.reduceToNat, Int.reduceAdd, Int.reduceEq, Int.reduceNeg, AH.put_ne] at hc)
  · repeat (first | refine am_seq ?_ | (refine am_reg ?_; simp -implicitDefEqProofs (disch := omega) only [go_sem, eq_self, decide_true, decide_false, Nat.reduceBEq, Nat.reduceAdd, Nat.reduceSub, Nat.reduceMul, Nat.reduceEqDiff, Nat.reduceLeDiff, Nat.reduceLT, Int.reduceLE, Int.reduceLT, Int.reduceToNat, Int.reduceAdd, Int.reduceEq, Int.reduceNeg, AH.put_ne]) | (refine am_drw ?_; simp -implicitDefEqProofs (disch := omega) only [go_sem, eq_self, decide_true, decide_false, Nat.reduceBEq, Nat.reduceAdd, Nat.reduceSub, Nat.reduceMul, Nat.reduceEqDiff, Nat.reduceLeDiff, Nat.reduceLT, Int.reduceLE, Int.reduceLT, Int.reduceToNat, Int.reduceAdd, Int.reduceEq, Int.reduceNeg, AH.put_ne]) | refine am_block ?_)
    refine am_ret ?_
    simp -implicitDefEqProofs (disch := omega) only [go_sem, eq_self, decide_true, decide_false, Nat.reduceBEq, Nat.reduceAdd, Nat.reduceSub, Nat.reduceMul, Nat.reduceEqDiff, Nat.reduceLeDiff, Nat.reduceLT, Int.reduceLE, Int.reduceLT, Int.reduceToNat, Int.reduceAdd, Int.reduceEq, Int.reduceNeg, AH.put_ne]
    rw [wrong, if_pos (.inr (by omega))]
  · repeat (first | refine am_seq ?_ | (refine am_reg ?_; simp -implicitDefEqProofs (disch := omega) only [go_sem, eq_self, decide_true, decide_false, Nat.reduceBEq, Nat.reduceAdd, Nat.reduceSub, Nat.reduceMul, Nat.reduceEqDiff, Nat.reduceLeDiff, Nat.reduceLT, Int.reduceLE, Int.reduceLT, Int.reduceToNat, Int.reduceAdd, Int.reduceEq, Int.reduceNeg, AH.put_ne]) | (refine am_drw ?_; simp -implicitDefEqProofs (disch := omega) only [go_sem, eq_self, decide_true, decide_false, Nat.reduceBEq, Nat.reduceAdd, Nat.reduceSub, Nat.reduceMul, Nat.reduceEqDiff, Nat.reduceLeDiff, Nat.reduceLT, Int.reduceLE, Int.reduceLT, Int.reduceToNat, Int.reduceAdd, Int.reduceEq, Int.reduceNeg, AH.put_ne]) | refine am_block ?_)
    simp only [decide_eq_false_iff_not] at h
    refine gd_not (fun h1 => ?_) (fun h1 => ?_) <;> simp -implicitDefEqProofs (disch := omega) only [go_sem, eq_self, decide_true, decide_false, Nat.reduceBEq, Nat.reduceAdd, Nat.reduceSub, Nat.reduceMul, Nat.reduceEqDiff, Nat.reduceLeDiff, Nat.reduceLT, Int.reduceLE, Int.reduceLT, Int.reduceToNat, Int.reduceAdd, Int.reduceEq, Int.reduceNeg, AH.put_ne, h1]
    · refine call_of (rising_int vs tv hv) ?_
      try simp -implicitDefEqProofs (disch := omega) only [go_sem, eq_self, decide_true, decide_false, Nat.reduceBEq, Nat.reduceAdd, Nat.reduceSub, Nat.reduceMul, Nat.reduceEqDiff, Nat.reduceLeDiff, Nat.reduceLT, Int.reduceLE, Int.reduceLT, Int.reduceToNat, Int.reduceAdd, Int.reduceEq, Int.reduceNeg, AH.put_ne]
      have hne : 0 < vs.length := by simp only [decide_eq_false_iff_not] at h1; omega
      have hnil : vs ≠ [] := by intro e; rw [e] at hne; simp at hne
      refine gd_of (fun h2 => ?_) (fun h2 => ?_) <;> simp -implicitDefEqProofs (disch := omega) only [go_sem, eq_self, decide_true, decide_false, Nat.reduceBEq, Nat.reduceAdd, Nat.reduceSub, Nat.reduceMul, Nat.reduceEqDiff, Nat.reduceLeDiff, Nat.reduceLT, Int.reduceLE, Int.reduceLT, Int.reduceToNat, Int.reduceAdd, Int.reduceEq, Int.reduceNeg, AH.put_ne, h2, lt_one hne]
      · refine gd_not (fun h3 => ?_) (fun h3 => ?_) <;> simp -implicitDefEqProofs (disch := omega) only [go_sem, eq_self, decide_true, decide_false, Nat.reduceBEq, Nat.reduceAdd, Nat.reduceSub, Nat.reduceMul, Nat.reduceEqDiff, Nat.reduceLeDiff, Nat.reduceLT, Int.reduceLE, Int.reduceLT, Int.reduceToNat, Int.reduceAdd, Int.reduceEq, Int.reduceNeg, AH.put_ne, h3, wrap_id, toNat_pred, last_get hne, pred_nonneg hne]
        · refine tail _ (by omega) (by omega) ?_
          rw [okV_ends vs hne, h2]
          simp only [decide_eq_false_iff_not] at h3
          simp [hnil]; omega
        · refine tail _ (by omega) (by omega) ?_
          rw [okV_ends vs hne, h2]
          simp only [decide_eq_true_eq] at h3
          simp [hnil]; omega
      · refine tail _ (by omega) (by omega) ?_
        simp [okV, h2]
    · refine tail _ (by omega) (by omega) ?_
      simp only [decide_eq_true_eq] at h1
      simp [List.eq_nil_of_length_eq_zero (l := vs) (by omega)]
  · repeat (first | refine am_seq ?_ | (refine am_reg ?_; simp -implicitDefEqProofs (disch := omega) only [go_sem, eq_self, decide_true, decide_false, Nat.reduceBEq, Nat.reduceAdd, Nat.reduceSub, Nat.reduceMul, Nat.reduceEqDiff, Nat.reduceLeDiff, Nat.reduceLT, Int.reduceLE, Int.reduceLT, Int.reduceToNat, Int.reduceAdd, Int.reduceEq, Int.reduceNeg, AH.put_ne]) | (refine am_drw ?_; simp -implicitDefEqProofs (disch := omega) only [go_sem, eq_self, decide_true, decide_false, Nat.reduceBEq, Nat.reduceAdd, Nat.reduceSub, Nat.reduceMul, Nat.reduceEqDiff, Nat.reduceLeDiff, Nat.reduceLT, Int.reduceLE, Int.reduceLT, Int.reduceToNat, Int.reduceAdd, Int.reduceEq, Int.reduceNeg, AH.put_ne]) | refine am_block ?_)
    refine am_ret ?_
    simp -implicitDefEqProofs (disch := omega) only [go_sem, eq_self, decide_true, decide_false, Nat.reduceBEq, Nat.reduceAdd, Nat.reduceSub, Nat.reduceMul, Nat.reduceEqDiff, Nat.reduceLeDiff, Nat.reduceLT, Int.reduceLE, Int.reduceLT, Int.reduceToNat, Int.reduceAdd, Int.reduceEq, Int.reduceNeg, AH.put_ne]
    simp only [decide_eq_true_eq] at h
    rw [wrong, if_pos (.inl (by omega))]
end Go.Proofs.YtcfeafpjkcmdiaaGreatDoor.Hel
