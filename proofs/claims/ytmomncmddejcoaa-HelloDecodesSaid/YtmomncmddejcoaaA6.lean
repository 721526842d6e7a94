/- Of the walks of this seat: contracts of functions of the given program, proved over the abstract values of the texts Vm. Conditions: as each theorem says. -/
import Derived.Test.YtmomncmddejcoaaA5
set_option linter.unusedVariables false
set_option linter.unusedSimpArgs false
namespace Go.Proofs.Ytmomncmddejcoaa
open Go.Vm
attribute [local go_sem] strsE_get strsE_length intsE_get intsE_length Int.toNat_natCast Option.map_some Int.natCast_nonneg decide_eq_true_eq decide_eq_false_iff_not
/- flange/flangelaw21.right -/
abbrev k15_0 : MC :=
  .cond (.t 14) ((.seq (.reg [
     ⟨(some 2), none, .val (.mv (.c (.int .i64 3)))⟩] [2]) .ret)) (.skip)

abbrev k15_1 : MC :=
  .cond (.t 18) ((.seq (.reg [
     ⟨(some 2), none, .val (.mv (.c (.int .i64 2)))⟩] [2]) .ret)) (.skip)

abbrev k15_2 : MC :=
  .cond (.t 23) (.skip) (.exit 0)

abbrev k15_3 : MC :=
  .cond (.t 57) ((.seq (.reg [
     ⟨(some 2), none, .val (.mv (.c (.int .i64 2)))⟩] [2]) .ret)) (.skip)

abbrev k15_4 : MC :=
  .reg [
    ⟨(some 24), none, .val (.mv (.t 3))⟩,
    ⟨(some 25), none, .val (.bin .add .num (.t 24) (.c (.int .i64 1)))⟩,
    ⟨(some 3), none, .val (.mv (.t 25))⟩] [1, 3]

abbrev k15_5 : MC :=
  (.seq (.block 1 ((.seq (.drw [
     ⟨(some 26), none, .val (.faddr 0 (.t 1))⟩,
     ⟨(some 27), none, .val (.load false 1 (.t 26))⟩,
     ⟨(some 28), none, .val (.mv (.t 3))⟩,
     ⟨(some 29), none, .val (.iaddr 1 (.t 27) (.t 28))⟩,
     ⟨(some 30), none, .val (.load false 1 (.t 29))⟩,
     ⟨(some 31), none, .val (.bin .lss .num (.t 30) (.c (.int .i64 1)))⟩,
     ⟨(some 32), none, .val (.mv (.t 31))⟩,
     ⟨(some 33), (some (32, false)), .val (.faddr 0 (.t 1))⟩,
     ⟨(some 34), (some (32, false)), .val (.load false 1 (.t 33))⟩,
     ⟨(some 35), (some (32, false)), .val (.mv (.t 3))⟩,
     ⟨(some 36), (some (32, false)), .val (.iaddr 1 (.t 34) (.t 35))⟩,
     ⟨(some 37), (some (32, false)), .val (.load false 1 (.t 36))⟩,
     ⟨(some 38), (some (32, false)), .val (.bin .gtr .num (.t 37) (.c (.int .i64 1000)))⟩,
     ⟨(some 39), none, .val (.pick (.t 32) (.c (.bool true)) (.t 38))⟩,
     ⟨(some 40), none, .val (.mv (.t 39))⟩,
     ⟨(some 41), (some (40, false)), .val (.mv (.t 3))⟩,
     ⟨(some 42), (some (40, false)), .val (.bin .gtr .num (.t 41) (.c (.int .i64 0)))⟩,
     ⟨(some 43), (some (40, false)), .val (.mv (.t 42))⟩,
     ⟨(some 44), (some (43, true)), .val (.faddr 0 (.t 1))⟩,
     ⟨(some 45), (some (43, true)), .val (.load false 1 (.t 44))⟩,
     ⟨(some 46), (some (43, true)), .val (.mv (.t 3))⟩,
     ⟨(some 47), (some (43, true)), .val (.bin .sub .num (.t 46) (.c (.int .i64 1)))⟩,
     ⟨(some 48), (some (43, true)), .val (.iaddr 1 (.t 45) (.t 47))⟩,
     ⟨(some 49), (some (43, true)), .val (.load false 1 (.t 48))⟩,
     ⟨(some 50), (some (43, true)), .val (.faddr 0 (.t 1))⟩,
     ⟨(some 51), (some (43, true)), .val (.load false 1 (.t 50))⟩,
     ⟨(some 52), (some (43, true)), .val (.mv (.t 3))⟩,
     ⟨(some 53), (some (43, true)), .val (.iaddr 1 (.t 51) (.t 52))⟩,
     ⟨(some 54), (some (43, true)), .val (.load false 1 (.t 53))⟩,
     ⟨(some 55), (some (43, true)), .val (.bin .geq .num (.t 49) (.t 54))⟩,
     ⟨(some 56), (some (40, false)), .val (.pick (.t 43) (.t 55) (.c (.bool false)))⟩,
     ⟨(some 57), none, .val (.pick (.t 40) (.c (.bool true)) (.t 56))⟩] [
] [1, 3, 57]) k15_3))) k15_4)

abbrev k15_6 : MC :=
  (.seq ((.seq (.reg [
    ⟨(some 19), none, .val (.mv (.t 3))⟩,
    ⟨(some 20), none, .val (.faddr 0 (.t 1))⟩,
    ⟨(some 21), none, .val (.load false 1 (.t 20))⟩,
    ⟨(some 22), none, .val (.len .sl (.t 21))⟩,
    ⟨(some 23), none, .val (.bin .lss .num (.t 19) (.t 22))⟩] [1, 3, 23]) k15_2)) k15_5)

abbrev k15_7 : MC :=
  .block 0 (.loop k15_6)

abbrev k15_8 : MC :=
  .cond (.t 62) (.skip) (.exit 2)

abbrev k15_9 : MC :=
  .cond (.t 89) ((.seq (.reg [
     ⟨(some 2), none, .val (.mv (.c (.int .i64 7)))⟩] [2]) .ret)) (.skip)

abbrev k15_10 : MC :=
  .reg [
    ⟨(some 63), none, .val (.mv (.t 4))⟩,
    ⟨(some 64), none, .val (.bin .add .num (.t 63) (.c (.int .i64 1)))⟩,
    ⟨(some 4), none, .val (.mv (.t 64))⟩] [1, 4]

abbrev k15_11 : MC :=
  (.seq (.block 3 ((.seq (.drw [
     ⟨(some 65), none, .val (.faddr 1 (.t 1))⟩,
     ⟨(some 66), none, .val (.load false 1 (.t 65))⟩,
     ⟨(some 67), none, .val (.mv (.t 4))⟩,
     ⟨(some 68), none, .val (.iaddr 1 (.t 66) (.t 67))⟩,
     ⟨(some 69), none, .val (.load false 1 (.t 68))⟩,
     ⟨(some 70), none, .call 39 [(.t 69)]⟩,
     ⟨(some 71), none, .val (.not (.t 70))⟩,
     ⟨(some 72), none, .val (.mv (.t 71))⟩,
     ⟨(some 73), (some (72, false)), .val (.mv (.t 4))⟩,
     ⟨(some 74), (some (72, false)), .val (.bin .gtr .num (.t 73) (.c (.int .i64 0)))⟩,
     ⟨(some 75), (some (72, false)), .val (.mv (.t 74))⟩,
     ⟨(some 76), (some (75, true)), .val (.faddr 1 (.t 1))⟩,
     ⟨(some 77), (some (75, true)), .val (.load false 1 (.t 76))⟩,
     ⟨(some 78), (some (75, true)), .val (.mv (.t 4))⟩,
     ⟨(some 79), (some (75, true)), .val (.bin .sub .num (.t 78) (.c (.int .i64 1)))⟩,
     ⟨(some 80), (some (75, true)), .val (.iaddr 1 (.t 77) (.t 79))⟩,
     ⟨(some 81), (some (75, true)), .val (.load false 1 (.t 80))⟩,
     ⟨(some 82), (some (75, true)), .val (.faddr 1 (.t 1))⟩,
     ⟨(some 83), (some (75, true)), .val (.load false 1 (.t 82))⟩,
     ⟨(some 84), (some (75, true)), .val (.mv (.t 4))⟩,
     ⟨(some 85), (some (75, true)), .val (.iaddr 1 (.t 83) (.t 84))⟩,
     ⟨(some 86), (some (75, true)), .val (.load false 1 (.t 85))⟩,
     ⟨(some 87), (some (75, true)), .val (.bin .geq .num (.t 81) (.t 86))⟩,
     ⟨(some 88), (some (72, false)), .val (.pick (.t 75) (.t 87) (.c (.bool false)))⟩,
     ⟨(some 89), none, .val (.pick (.t 72) (.c (.bool true)) (.t 88))⟩] [
] [1, 4, 89]) k15_9))) k15_10)

abbrev k15_12 : MC :=
  (.seq ((.seq (.reg [
    ⟨(some 58), none, .val (.mv (.t 4))⟩,
    ⟨(some 59), none, .val (.faddr 1 (.t 1))⟩,
    ⟨(some 60), none, .val (.load false 1 (.t 59))⟩,
    ⟨(some 61), none, .val (.len .sl (.t 60))⟩,
    ⟨(some 62), none, .val (.bin .lss .num (.t 58) (.t 61))⟩] [1, 4, 62]) k15_8)) k15_11)

abbrev k15_13 : MC :=
  .block 2 (.loop k15_12)

abbrev k15_14 : MC :=
  (.seq (.reg [
    ⟨(some 2), none, .val (.mv (.c (.int .i64 0)))⟩] [2]) .ret)

abbrev k15_15 : MC :=
  (.seq ((.seq (.reg [
    ⟨(some 4), none, .val (.mv (.c (.int .i64 0)))⟩] [1, 4]) k15_13)) k15_14)

abbrev k15_16 : MC :=
  (.seq ((.seq (.reg [
    ⟨(some 3), none, .val (.mv (.c (.int .i64 0)))⟩] [1, 3]) k15_7)) k15_15)

abbrev k15_17 : MC :=
  (.seq ((.seq (.reg [
    ⟨(some 15), none, .val (.faddr 0 (.t 1))⟩,
    ⟨(some 16), none, .val (.load false 1 (.t 15))⟩,
    ⟨(some 17), none, .val (.len .sl (.t 16))⟩,
    ⟨(some 18), none, .val (.bin .eql .num (.t 17) (.c (.int .i64 0)))⟩] [1, 18]) k15_1)) k15_16)

abbrev k15_18 : MC :=
  (.seq ((.seq (.reg [
    ⟨(some 5), none, .val (.faddr 0 (.t 1))⟩,
    ⟨(some 6), none, .val (.load false 1 (.t 5))⟩,
    ⟨(some 7), none, .val (.len .sl (.t 6))⟩,
    ⟨(some 8), none, .val (.bin .gtr .num (.t 7) (.c (.int .i64 16)))⟩,
    ⟨(some 9), none, .val (.mv (.t 8))⟩,
    ⟨(some 10), (some (9, false)), .val (.faddr 1 (.t 1))⟩,
    ⟨(some 11), (some (9, false)), .val (.load false 1 (.t 10))⟩,
    ⟨(some 12), (some (9, false)), .val (.len .sl (.t 11))⟩,
    ⟨(some 13), (some (9, false)), .val (.bin .gtr .num (.t 12) (.c (.int .i64 16)))⟩,
    ⟨(some 14), none, .val (.pick (.t 9) (.c (.bool true)) (.t 13))⟩] [1, 14]) k15_0)) k15_17)
abbrev k15 : MC :=
  (.seq (.reg [
    ⟨(some 1), none, .boxi (.t 0)⟩,
    ⟨(some 2), none, .val (.mv (.c (.int .i64 0)))⟩] [1]) k15_18)
theorem c15 : Try.f15.body.bind (mcOf Try.prog (List.contains [1] ·) (List.getD [([], [1]), ([], [1, 14]), ([], [2]), ([], [1, 18]), ([], [2]), ([], [1, 3]), ([], [1, 3, 23]), ([], [1, 3]), ([0, 0, 0, 0, 0, 0, 0, 0, 0, 0, 0, 0, 0, 0, 0, 0, 0, 0, 0, 0, 0, 0, 0, 0, 0, 0, 0, 0, 0, 0, 0, 0], [1, 3, 57]), ([], [2]), ([], [1, 4]), ([], [1, 4, 62]), ([], [1, 4]), ([0, 0, 0, 0, 0, 0, 0, 0, 0, 0, 0, 0, 0, 0, 0, 0, 0, 0, 0, 0, 0, 0, 0, 0, 0], [1, 4, 89]), ([], [2]), ([], [2])] · ([], [])) 90) = some k15 := by kernel_rfl
theorem r15 : rvsOf Try.prog Try.f15.results.toList = some [.tmp 2] := by kernel_rfl

theorem all_drop {α : Type} (p : α → Bool) (l : List α) (i : Nat) (h : i < l.length) : (l.drop i).all p = (p l[i] && (l.drop (i + 1)).all p) := by
  rw [List.drop_eq_getElem_cons h]; rfl
/-- From a place on: each right, and above the one ahead. -/
def from1 {α : Type} (lt : α → α → Bool) (p : α → Bool) (l : List α) (i : Nat) : Bool := rise lt (l.drop (i - 1)) && (l.drop i).all p
theorem from1_zero {α : Type} (lt : α → α → Bool) (p : α → Bool) (l : List α) : from1 lt p l 0 = (rise lt l && l.all p) := by simp [from1]
theorem from1_end {α : Type} (lt : α → α → Bool) (p : α → Bool) (l : List α) (i : Nat) (h : l.length ≤ i) : from1 lt p l i = true := by
  rw [from1, rise_end _ _ (by simp; omega), List.drop_eq_nil_of_le h]; rfl
theorem from1_step {α : Type} (lt : α → α → Bool) (p : α → Bool) (l : List α) (i : Nat) (h : i < l.length) : from1 lt p l i = ((if 0 < i then lt (l[i - 1]'(by omega)) l[i] else true) && p l[i] && from1 lt p l (i + 1)) := by
  unfold from1
  rw [all_drop p l i h]
  simp only [Nat.add_sub_cancel]
  by_cases h0 : 0 < i
  · rw [rise_drop lt l i h h0, if_pos h0]
    cases lt (l[i - 1]'(by omega)) l[i] <;> cases p l[i] <;> simp
  · obtain rfl : i = 0 := by omega
    simp only [Nat.zero_sub, if_neg h0, Bool.true_and, List.drop_zero]
    cases p l[0] <;> simp
theorem lright_calls (vs : List Int) (ss : List (List UInt8)) (tv ts : Tok) (hv : vs.length < 4611686018427387904) (hl : ss.length < 4611686018427387904) (hs : ∀ s ∈ ss, s.length < 4611686018427387904) (H : AH) :
    ACalls Try.prog 15 [.agg [.sl 1 (intsE vs) tv, .sl 1 (strsE ss) ts]] H (fun o H' => o = .ret (.int .i64 (wrong vs ss)) ∧ H' = H) := by
  refine acalls Try.func15 c15 r15 (by simp [Try.ntmps15]) ?_
  repeat (first | refine am_seq ?_ | (refine am_reg ?_; simp -implicitDefEqProofs (disch := omega) only [go_sem, eq_self, decide_true, decide_false, Nat.reduceBEq, Nat.reduceAdd, Nat.reduceSub, Nat.reduceMul, Nat.reduceEqDiff, Nat.reduceLeDiff, Nat.reduceLT, Int.reduceLE, Int.reduceLT, Int.reduceToNat, Int.reduceAdd, Int.reduceEq, Int.reduceNeg, AH.put_ne]) | (refine am_drw ?_; simp -implicitDefEqProofs (disch := omega) only [go_sem, eq_self, decide_true, decide_false, Nat.reduceBEq, Nat.reduceAdd, Nat.reduceSub, Nat.reduceMul, Nat.reduceEqDiff, Nat.reduceLeDiff, Nat.reduceLT, Int.reduceLE, Int.reduceLT, Int.reduceToNat, Int.reduceAdd, Int.reduceEq, Int.reduceNeg, AH.put_ne]) | refine am_block ?_)
  refine gd_not (fun h => ?_) (fun h => ?_) <;> simp -implicitDefEqProofs (disch := omega) only [go_sem, eq_self, decide_true, decide_false, Nat.reduceBEq, Nat.reduceAdd, Nat.reduceSub, Nat.reduceMul, Nat.reduceEqDiff, Nat.reduceLeDiff, Nat.reduceLT, Int.reduceLE, Int.reduceLT, Int.reduceToNat, Int.reduceAdd, Int.reduceEq, Int.reduceNeg, AH.put_ne, h]
  all_goals refine am_cond rfl (fun hc => ?_) (fun hc => ?_) <;> (try simp -implicitDefEqProofs (disch := omega) only [go_sem, eq_self, decide_true, decide_false, Nat.reduceBEq, Nat.reduceAdd, Nat.reduceSub, Nat.reduceMul, Nat.reduceEqDiff, Nat.reduceLeDiff, Nat.reduceLT, Int.reduceLE, Int.reduceLT, Int.reduceToNat, Int.reduceAdd, Int.reduceEq, Int.reduceNeg, AH.put_ne] at hc)
  · repeat (first | refine am_seq ?_ | (refine am_reg ?_; simp -implicitDefEqProofs (disch := omega) only [go_sem, eq_self, decide_true, decide_false, Nat.reduceBEq, Nat.reduceAdd, Nat.reduceSub, Nat.reduceMul, Nat.reduceEqDiff, Nat.reduceLeDiff, Nat.reduceLT, Int.reduceLE, Int.reduceLT, Int.reduceToNat, Int.reduceAdd, Int.reduceEq, Int.reduceNeg, AH.put_ne]) | (refine am_drw ?_; simp -implicitDefEqProofs (disch := omega) only [go_sem, eq_self, decide_true, decide_false, Nat.reduceBEq, Nat.reduceAdd, Nat.reduceSub, Nat.reduceMul, Nat.reduceEqDiff, Nat.reduceLeDiff, Nat.reduceLT, Int.reduceLE, Int.reduceLT, Int.reduceToNat, Int.reduceAdd, Int.reduceEq, Int.reduceNeg, AH.put_ne]) | refine am_block ?_)
    refine am_ret ?_
    simp -implicitDefEqProofs (disch := omega) only [go_sem, eq_self, decide_true, decide_false, Nat.reduceBEq, Nat.reduceAdd, Nat.reduceSub, Nat.reduceMul, Nat.reduceEqDiff, Nat.reduceLeDiff, Nat.reduceLT, Int.reduceLE, Int.reduceLT, Int.reduceToNat, Int.reduceAdd, Int.reduceEq, Int.reduceNeg, AH.put_ne]
    rw [wrong, if_pos (.inr (by omega))]
  · refine am_skip ?_
    simp -implicitDefEqProofs (disch := omega) only [go_sem, eq_self, decide_true, decide_false, Nat.reduceBEq, Nat.reduceAdd, Nat.reduceSub, Nat.reduceMul, Nat.reduceEqDiff, Nat.reduceLeDiff, Nat.reduceLT, Int.reduceLE, Int.reduceLT, Int.reduceToNat, Int.reduceAdd, Int.reduceEq, Int.reduceNeg, AH.put_ne]
    simp only [decide_eq_false_iff_not] at h
    have e1 : wrong vs ss = if vs = [] ∨ okV vs = false then 2 else if okS ss = false then 7 else 0 := by
      rw [wrong, if_neg (by omega)]
    repeat (first | refine am_seq ?_ | (refine am_reg ?_; simp -implicitDefEqProofs (disch := omega) only [go_sem, eq_self, decide_true, decide_false, Nat.reduceBEq, Nat.reduceAdd, Nat.reduceSub, Nat.reduceMul, Nat.reduceEqDiff, Nat.reduceLeDiff, Nat.reduceLT, Int.reduceLE, Int.reduceLT, Int.reduceToNat, Int.reduceAdd, Int.reduceEq, Int.reduceNeg, AH.put_ne]) | (refine am_drw ?_; simp -implicitDefEqProofs (disch := omega) only [go_sem, eq_self, decide_true, decide_false, Nat.reduceBEq, Nat.reduceAdd, Nat.reduceSub, Nat.reduceMul, Nat.reduceEqDiff, Nat.reduceLeDiff, Nat.reduceLT, Int.reduceLE, Int.reduceLT, Int.reduceToNat, Int.reduceAdd, Int.reduceEq, Int.reduceNeg, AH.put_ne]) | refine am_block ?_)
    refine am_cond rfl (fun hc => ?_) (fun hc => ?_) <;> (try simp -implicitDefEqProofs (disch := omega) only [go_sem, eq_self, decide_true, decide_false, Nat.reduceBEq, Nat.reduceAdd, Nat.reduceSub, Nat.reduceMul, Nat.reduceEqDiff, Nat.reduceLeDiff, Nat.reduceLT, Int.reduceLE, Int.reduceLT, Int.reduceToNat, Int.reduceAdd, Int.reduceEq, Int.reduceNeg, AH.put_ne] at hc)
    · repeat (first | refine am_seq ?_ | (refine am_reg ?_; simp -implicitDefEqProofs (disch := omega) only [go_sem, eq_self, decide_true, decide_false, Nat.reduceBEq, Nat.reduceAdd, Nat.reduceSub, Nat.reduceMul, Nat.reduceEqDiff, Nat.reduceLeDiff, Nat.reduceLT, Int.reduceLE, Int.reduceLT, Int.reduceToNat, Int.reduceAdd, Int.reduceEq, Int.reduceNeg, AH.put_ne]) | (refine am_drw ?_; simp -implicitDefEqProofs (disch := omega) only [go_sem, eq_self, decide_true, decide_false, Nat.reduceBEq, Nat.reduceAdd, Nat.reduceSub, Nat.reduceMul, Nat.reduceEqDiff, Nat.reduceLeDiff, Nat.reduceLT, Int.reduceLE, Int.reduceLT, Int.reduceToNat, Int.reduceAdd, Int.reduceEq, Int.reduceNeg, AH.put_ne]) | refine am_block ?_)
      refine am_ret ?_
      simp -implicitDefEqProofs (disch := omega) only [go_sem, eq_self, decide_true, decide_false, Nat.reduceBEq, Nat.reduceAdd, Nat.reduceSub, Nat.reduceMul, Nat.reduceEqDiff, Nat.reduceLeDiff, Nat.reduceLT, Int.reduceLE, Int.reduceLT, Int.reduceToNat, Int.reduceAdd, Int.reduceEq, Int.reduceNeg, AH.put_ne]
      rw [e1, if_pos (.inl (List.eq_nil_of_length_eq_zero (by omega)))]
    · refine am_skip ?_
      simp -implicitDefEqProofs (disch := omega) only [go_sem, eq_self, decide_true, decide_false, Nat.reduceBEq, Nat.reduceAdd, Nat.reduceSub, Nat.reduceMul, Nat.reduceEqDiff, Nat.reduceLeDiff, Nat.reduceLT, Int.reduceLE, Int.reduceLT, Int.reduceToNat, Int.reduceAdd, Int.reduceEq, Int.reduceNeg, AH.put_ne]
      have hnil : vs ≠ [] := by intro e; rw [e] at hc; simp at hc
      have e2 : wrong vs ss = if okV vs = false then 2 else if okS ss = false then 7 else 0 := by
        rw [e1]; simp [hnil]
      repeat (first | refine am_seq ?_ | (refine am_reg ?_; simp -implicitDefEqProofs (disch := omega) only [go_sem, eq_self, decide_true, decide_false, Nat.reduceBEq, Nat.reduceAdd, Nat.reduceSub, Nat.reduceMul, Nat.reduceEqDiff, Nat.reduceLeDiff, Nat.reduceLT, Int.reduceLE, Int.reduceLT, Int.reduceToNat, Int.reduceAdd, Int.reduceEq, Int.reduceNeg, AH.put_ne]) | (refine am_drw ?_; simp -implicitDefEqProofs (disch := omega) only [go_sem, eq_self, decide_true, decide_false, Nat.reduceBEq, Nat.reduceAdd, Nat.reduceSub, Nat.reduceMul, Nat.reduceEqDiff, Nat.reduceLeDiff, Nat.reduceLT, Int.reduceLE, Int.reduceLT, Int.reduceToNat, Int.reduceAdd, Int.reduceEq, Int.reduceNeg, AH.put_ne]) | refine am_block ?_)
      refine am_loop (fun n a H' => ∃ i : Nat, i + n = vs.length ∧ a = [(1, .rptr [V.sl 1 (intsE vs) tv, V.sl 1 (strsE ss) ts] 0), (3, .int .i64 i)] ∧ H' = H ∧ okV vs = from1 ltI inV vs i) ?_ vs.length ⟨0, by omega, by simp, rfl, by rw [from1_zero]; rfl⟩
      rintro n a H' ⟨i, hi, rfl, rfl, hg⟩
      repeat (first | refine am_seq ?_ | (refine am_reg ?_; simp -implicitDefEqProofs (disch := omega) only [go_sem, eq_self, decide_true, decide_false, Nat.reduceBEq, Nat.reduceAdd, Nat.reduceSub, Nat.reduceMul, Nat.reduceEqDiff, Nat.reduceLeDiff, Nat.reduceLT, Int.reduceLE, Int.reduceLT, Int.reduceToNat, Int.reduceAdd, Int.reduceEq, Int.reduceNeg, AH.put_ne]) | (refine am_drw ?_; simp -implicitDefEqProofs (disch := omega) only [go_sem, eq_self, decide_true, decide_false, Nat.reduceBEq, Nat.reduceAdd, Nat.reduceSub, Nat.reduceMul, Nat.reduceEqDiff, Nat.reduceLeDiff, Nat.reduceLT, Int.reduceLE, Int.reduceLT, Int.reduceToNat, Int.reduceAdd, Int.reduceEq, Int.reduceNeg, AH.put_ne]) | refine am_block ?_)
      refine am_cond rfl (fun hc => ?_) (fun hc => ?_) <;> (try simp -implicitDefEqProofs (disch := omega) only [go_sem, eq_self, decide_true, decide_false, Nat.reduceBEq, Nat.reduceAdd, Nat.reduceSub, Nat.reduceMul, Nat.reduceEqDiff, Nat.reduceLeDiff, Nat.reduceLT, Int.reduceLE, Int.reduceLT, Int.reduceToNat, Int.reduceAdd, Int.reduceEq, Int.reduceNeg, AH.put_ne] at hc)
      · have hlt : i < vs.length := by omega
        rw [from1_step _ _ _ _ hlt] at hg
        refine am_skip ?_
        simp -implicitDefEqProofs (disch := omega) only [go_sem, eq_self, decide_true, decide_false, Nat.reduceBEq, Nat.reduceAdd, Nat.reduceSub, Nat.reduceMul, Nat.reduceEqDiff, Nat.reduceLeDiff, Nat.reduceLT, Int.reduceLE, Int.reduceLT, Int.reduceToNat, Int.reduceAdd, Int.reduceEq, Int.reduceNeg, AH.put_ne]
        have tail : ∀ b : Bool, b = (!((if 0 < i then ltI vs[i - 1] vs[i] else true) && inV vs[i])) → AM Try.prog Try.f15.ntmps k15_3
          (BQ 1
            (SQ Try.prog Try.f15.ntmps k15_4
              (LQ
                (fun n a H'_1 =>
                  ∃ i : Nat,
                    i + n = vs.length ∧
                      a = [(1, V.rptr [V.sl 1 (intsE vs) tv, V.sl 1 (strsE ss) ts] 0), (3, V.int IntKind.i64 ↑i)] ∧
                        H'_1 = H' ∧ okV vs = from1 ltI inV vs i)
                n
                (BQ 0
                  (SQ Try.prog Try.f15.ntmps k15_15
                    (Body [RV.tmp 2] fun o H'_1 => o = Out.ret (V.int IntKind.i64 (wrong vs ss)) ∧ H'_1 = H'))))))
          [(1, V.rptr [V.sl 1 (intsE vs) tv, V.sl 1 (strsE ss) ts] 0), (3, V.int IntKind.i64 ↑i), (57, .bool b)] H' := by
          intro b hb
          refine am_cond rfl (fun hc => ?_) (fun hc => ?_) <;> (try simp -implicitDefEqProofs (disch := omega) only [go_sem, eq_self, decide_true, decide_false, Nat.reduceBEq, Nat.reduceAdd, Nat.reduceSub, Nat.reduceMul, Nat.reduceEqDiff, Nat.reduceLeDiff, Nat.reduceLT, Int.reduceLE, Int.reduceLT, Int.reduceToNat, Int.reduceAdd, Int.reduceEq, Int.reduceNeg, AH.put_ne] at hc)
          · repeat (first | refine am_seq ?_ | (refine am_reg ?_; simp -implicitDefEqProofs (disch := omega) only [go_sem, eq_self, decide_true, decide_false, Nat.reduceBEq, Nat.reduceAdd, Nat.reduceSub, Nat.reduceMul, Nat.reduceEqDiff, Nat.reduceLeDiff, Nat.reduceLT, Int.reduceLE, Int.reduceLT, Int.reduceToNat, Int.reduceAdd, Int.reduceEq, Int.reduceNeg, AH.put_ne]) | (refine am_drw ?_; simp -implicitDefEqProofs (disch := omega) only [go_sem, eq_self, decide_true, decide_false, Nat.reduceBEq, Nat.reduceAdd, Nat.reduceSub, Nat.reduceMul, Nat.reduceEqDiff, Nat.reduceLeDiff, Nat.reduceLT, Int.reduceLE, Int.reduceLT, Int.reduceToNat, Int.reduceAdd, Int.reduceEq, Int.reduceNeg, AH.put_ne]) | refine am_block ?_)
            refine am_ret ?_
            simp -implicitDefEqProofs (disch := omega) only [go_sem, eq_self, decide_true, decide_false, Nat.reduceBEq, Nat.reduceAdd, Nat.reduceSub, Nat.reduceMul, Nat.reduceEqDiff, Nat.reduceLeDiff, Nat.reduceLT, Int.reduceLE, Int.reduceLT, Int.reduceToNat, Int.reduceAdd, Int.reduceEq, Int.reduceNeg, AH.put_ne]
            subst hc
            rw [not_t hb, Bool.false_and] at hg
            rw [e2, if_pos hg]
          · refine am_skip ?_
            simp -implicitDefEqProofs (disch := omega) only [go_sem, eq_self, decide_true, decide_false, Nat.reduceBEq, Nat.reduceAdd, Nat.reduceSub, Nat.reduceMul, Nat.reduceEqDiff, Nat.reduceLeDiff, Nat.reduceLT, Int.reduceLE, Int.reduceLT, Int.reduceToNat, Int.reduceAdd, Int.reduceEq, Int.reduceNeg, AH.put_ne]
            repeat (first | refine am_seq ?_ | (refine am_reg ?_; simp -implicitDefEqProofs (disch := omega) only [go_sem, eq_self, decide_true, decide_false, Nat.reduceBEq, Nat.reduceAdd, Nat.reduceSub, Nat.reduceMul, Nat.reduceEqDiff, Nat.reduceLeDiff, Nat.reduceLT, Int.reduceLE, Int.reduceLT, Int.reduceToNat, Int.reduceAdd, Int.reduceEq, Int.reduceNeg, AH.put_ne, wrap_id]) | (refine am_drw ?_; simp -implicitDefEqProofs (disch := omega) only [go_sem, eq_self, decide_true, decide_false, Nat.reduceBEq, Nat.reduceAdd, Nat.reduceSub, Nat.reduceMul, Nat.reduceEqDiff, Nat.reduceLeDiff, Nat.reduceLT, Int.reduceLE, Int.reduceLT, Int.reduceToNat, Int.reduceAdd, Int.reduceEq, Int.reduceNeg, AH.put_ne, wrap_id]) | refine am_block ?_)
            subst hc
            rw [not_f hb, Bool.true_and] at hg
            exact ⟨n - 1, by omega, i + 1, by omega, by simp, hg⟩
        repeat (first | refine am_seq ?_ | (refine am_reg ?_; simp -implicitDefEqProofs (disch := omega) only [go_sem, eq_self, decide_true, decide_false, Nat.reduceBEq, Nat.reduceAdd, Nat.reduceSub, Nat.reduceMul, Nat.reduceEqDiff, Nat.reduceLeDiff, Nat.reduceLT, Int.reduceLE, Int.reduceLT, Int.reduceToNat, Int.reduceAdd, Int.reduceEq, Int.reduceNeg, AH.put_ne, get_of_lt hlt]) | (refine am_drw ?_; simp -implicitDefEqProofs (disch := omega) only [go_sem, eq_self, decide_true, decide_false, Nat.reduceBEq, Nat.reduceAdd, Nat.reduceSub, Nat.reduceMul, Nat.reduceEqDiff, Nat.reduceLeDiff, Nat.reduceLT, Int.reduceLE, Int.reduceLT, Int.reduceToNat, Int.reduceAdd, Int.reduceEq, Int.reduceNeg, AH.put_ne, get_of_lt hlt]) | refine am_block ?_)
        repeat' (first | (with_reducible refine gd_not (fun h => ?_) (fun h => ?_) <;> simp -implicitDefEqProofs (disch := omega) only [go_sem, eq_self, decide_true, decide_false, Nat.reduceBEq, Nat.reduceAdd, Nat.reduceSub, Nat.reduceMul, Nat.reduceEqDiff, Nat.reduceLeDiff, Nat.reduceLT, Int.reduceLE, Int.reduceLT, Int.reduceToNat, Int.reduceAdd, Int.reduceEq, Int.reduceNeg, AH.put_ne, h, wrap_id, get_of_lt hlt, get_pred hlt, toNat_pred]) | (with_reducible refine gd_of (fun h => ?_) (fun h => ?_) <;> simp -implicitDefEqProofs (disch := omega) only [go_sem, eq_self, decide_true, decide_false, Nat.reduceBEq, Nat.reduceAdd, Nat.reduceSub, Nat.reduceMul, Nat.reduceEqDiff, Nat.reduceLeDiff, Nat.reduceLT, Int.reduceLE, Int.reduceLT, Int.reduceToNat, Int.reduceAdd, Int.reduceEq, Int.reduceNeg, AH.put_ne, h, wrap_id, get_of_lt hlt, get_pred hlt, toNat_pred]) | (with_reducible refine gq_not (fun h => ?_) (fun h => ?_) <;> simp -implicitDefEqProofs (disch := omega) only [go_sem, eq_self, decide_true, decide_false, Nat.reduceBEq, Nat.reduceAdd, Nat.reduceSub, Nat.reduceMul, Nat.reduceEqDiff, Nat.reduceLeDiff, Nat.reduceLT, Int.reduceLE, Int.reduceLT, Int.reduceToNat, Int.reduceAdd, Int.reduceEq, Int.reduceNeg, AH.put_ne, h, wrap_id, get_of_lt hlt, get_pred hlt, toNat_pred]) | (with_reducible refine gq_of (fun h => ?_) (fun h => ?_) <;> simp -implicitDefEqProofs (disch := omega) only [go_sem, eq_self, decide_true, decide_false, Nat.reduceBEq, Nat.reduceAdd, Nat.reduceSub, Nat.reduceMul, Nat.reduceEqDiff, Nat.reduceLeDiff, Nat.reduceLT, Int.reduceLE, Int.reduceLT, Int.reduceToNat, Int.reduceAdd, Int.reduceEq, Int.reduceNeg, AH.put_ne, h, wrap_id, get_of_lt hlt, get_pred hlt, toNat_pred]) | (with_reducible refine pickB_of (fun h => ?_) (fun h => ?_) <;> simp -implicitDefEqProofs (disch := omega) only [go_sem, eq_self, decide_true, decide_false, Nat.reduceBEq, Nat.reduceAdd, Nat.reduceSub, Nat.reduceMul, Nat.reduceEqDiff, Nat.reduceLeDiff, Nat.reduceLT, Int.reduceLE, Int.reduceLT, Int.reduceToNat, Int.reduceAdd, Int.reduceEq, Int.reduceNeg, AH.put_ne, h, wrap_id, get_of_lt hlt, get_pred hlt, toNat_pred]))
        · simp only [decide_eq_false_iff_not, decide_eq_true_eq] at *
          refine ⟨by omega, tail _ ?_⟩
          rw [if_pos (by omega)]
          simp only [ltI, inV]
          rw [show decide (1 ≤ vs[i]) = true from decide_eq_true (by omega), show decide (vs[i] ≤ 1000) = true from decide_eq_true (by omega)]
          by_cases hq : vs[i] ≤ vs[i - 1]
          · rw [decide_eq_true hq, decide_eq_false (by omega)]; rfl
          · rw [decide_eq_false hq, decide_eq_true (by omega)]; rfl
        · simp only [decide_eq_false_iff_not, decide_eq_true_eq] at *
          refine tail _ ?_
          rw [if_neg (by omega)]
          simp only [inV]
          rw [show decide (1 ≤ vs[i]) = true from decide_eq_true (by omega), show decide (vs[i] ≤ 1000) = true from decide_eq_true (by omega)]
          rfl
        · simp only [decide_eq_false_iff_not, decide_eq_true_eq] at *
          refine tail _ ?_
          simp only [inV]
          rw [show decide (vs[i] ≤ 1000) = false from decide_eq_false (by omega)]
          simp
        · simp only [decide_eq_false_iff_not, decide_eq_true_eq] at *
          refine tail _ ?_
          simp only [inV]
          rw [show decide (1 ≤ vs[i]) = false from decide_eq_false (by omega)]
          simp
      · refine am_exit ?_
        simp -implicitDefEqProofs (disch := omega) only [go_sem, eq_self, decide_true, decide_false, Nat.reduceBEq, Nat.reduceAdd, Nat.reduceSub, Nat.reduceMul, Nat.reduceEqDiff, Nat.reduceLeDiff, Nat.reduceLT, Int.reduceLE, Int.reduceLT, Int.reduceToNat, Int.reduceAdd, Int.reduceEq, Int.reduceNeg, AH.put_ne]
        rw [from1_end _ _ _ _ (by omega)] at hg
        have e3 : wrong vs ss = if okS ss = false then 7 else 0 := by
          rw [e2, hg]; simp
        clear hi hc
        repeat (first | refine am_seq ?_ | (refine am_reg ?_; simp -implicitDefEqProofs (disch := omega) only [go_sem, eq_self, decide_true, decide_false, Nat.reduceBEq, Nat.reduceAdd, Nat.reduceSub, Nat.reduceMul, Nat.reduceEqDiff, Nat.reduceLeDiff, Nat.reduceLT, Int.reduceLE, Int.reduceLT, Int.reduceToNat, Int.reduceAdd, Int.reduceEq, Int.reduceNeg, AH.put_ne]) | (refine am_drw ?_; simp -implicitDefEqProofs (disch := omega) only [go_sem, eq_self, decide_true, decide_false, Nat.reduceBEq, Nat.reduceAdd, Nat.reduceSub, Nat.reduceMul, Nat.reduceEqDiff, Nat.reduceLeDiff, Nat.reduceLT, Int.reduceLE, Int.reduceLT, Int.reduceToNat, Int.reduceAdd, Int.reduceEq, Int.reduceNeg, AH.put_ne]) | refine am_block ?_)
        refine am_loop (fun n a H2 => ∃ i : Nat, i + n = ss.length ∧ a = [(1, .rptr [V.sl 1 (intsE vs) tv, V.sl 1 (strsE ss) ts] 0), (4, .int .i64 i)] ∧ H2 = H' ∧ okS ss = from1 Op.bytesLess named ss i) ?_ ss.length ⟨0, by omega, by simp, rfl, by rw [from1_zero]; rfl⟩
        clear hg i
        rintro n a H2 ⟨i, hi, rfl, rfl, hg⟩
        repeat (first | refine am_seq ?_ | (refine am_reg ?_; simp -implicitDefEqProofs (disch := omega) only [go_sem, eq_self, decide_true, decide_false, Nat.reduceBEq, Nat.reduceAdd, Nat.reduceSub, Nat.reduceMul, Nat.reduceEqDiff, Nat.reduceLeDiff, Nat.reduceLT, Int.reduceLE, Int.reduceLT, Int.reduceToNat, Int.reduceAdd, Int.reduceEq, Int.reduceNeg, AH.put_ne]) | (refine am_drw ?_; simp -implicitDefEqProofs (disch := omega) only [go_sem, eq_self, decide_true, decide_false, Nat.reduceBEq, Nat.reduceAdd, Nat.reduceSub, Nat.reduceMul, Nat.reduceEqDiff, Nat.reduceLeDiff, Nat.reduceLT, Int.reduceLE, Int.reduceLT, Int.reduceToNat, Int.reduceAdd, Int.reduceEq, Int.reduceNeg, AH.put_ne]) | refine am_block ?_)
        refine am_cond rfl (fun hc => ?_) (fun hc => ?_) <;> (try simp -implicitDefEqProofs (disch := omega) only [go_sem, eq_self, decide_true, decide_false, Nat.reduceBEq, Nat.reduceAdd, Nat.reduceSub, Nat.reduceMul, Nat.reduceEqDiff, Nat.reduceLeDiff, Nat.reduceLT, Int.reduceLE, Int.reduceLT, Int.reduceToNat, Int.reduceAdd, Int.reduceEq, Int.reduceNeg, AH.put_ne] at hc)
        · have hlt : i < ss.length := by omega
          rw [from1_step _ _ _ _ hlt] at hg
          refine am_skip ?_
          simp -implicitDefEqProofs (disch := omega) only [go_sem, eq_self, decide_true, decide_false, Nat.reduceBEq, Nat.reduceAdd, Nat.reduceSub, Nat.reduceMul, Nat.reduceEqDiff, Nat.reduceLeDiff, Nat.reduceLT, Int.reduceLE, Int.reduceLT, Int.reduceToNat, Int.reduceAdd, Int.reduceEq, Int.reduceNeg, AH.put_ne]
          have tail : ∀ b : Bool, b = (!((if 0 < i then Op.bytesLess ss[i - 1] ss[i] else true) && named ss[i])) → AM Try.prog Try.f15.ntmps k15_9
            (BQ 3
              (SQ Try.prog Try.f15.ntmps k15_10
                (LQ
                  (fun n a H'_1 =>
                    ∃ i : Nat,
                      i + n = ss.length ∧
                        a = [(1, V.rptr [V.sl 1 (intsE vs) tv, V.sl 1 (strsE ss) ts] 0), (4, V.int IntKind.i64 ↑i)] ∧
                          H'_1 = H2 ∧ okS ss = from1 Op.bytesLess named ss i)
                  n
                  (BQ 2
                    (SQ Try.prog Try.f15.ntmps k15_14
                      (Body [RV.tmp 2] fun o H'_1 => o = Out.ret (V.int IntKind.i64 (wrong vs ss)) ∧ H'_1 = H2))))))
            [(1, V.rptr [V.sl 1 (intsE vs) tv, V.sl 1 (strsE ss) ts] 0), (4, V.int IntKind.i64 ↑i), (89, .bool b)] H2 := by
            intro b hb
            refine am_cond rfl (fun hc => ?_) (fun hc => ?_) <;> (try simp -implicitDefEqProofs (disch := omega) only [go_sem, eq_self, decide_true, decide_false, Nat.reduceBEq, Nat.reduceAdd, Nat.reduceSub, Nat.reduceMul, Nat.reduceEqDiff, Nat.reduceLeDiff, Nat.reduceLT, Int.reduceLE, Int.reduceLT, Int.reduceToNat, Int.reduceAdd, Int.reduceEq, Int.reduceNeg, AH.put_ne] at hc)
            · repeat (first | refine am_seq ?_ | (refine am_reg ?_; simp -implicitDefEqProofs (disch := omega) only [go_sem, eq_self, decide_true, decide_false, Nat.reduceBEq, Nat.reduceAdd, Nat.reduceSub, Nat.reduceMul, Nat.reduceEqDiff, Nat.reduceLeDiff, Nat.reduceLT, Int.reduceLE, Int.reduceLT, Int.reduceToNat, Int.reduceAdd, Int.reduceEq, Int.reduceNeg, AH.put_ne]) | (refine am_drw ?_; simp -implicitDefEqProofs (disch := omega) only [go_sem, eq_self, decide_true, decide_false, Nat.reduceBEq, Nat.reduceAdd, Nat.reduceSub, Nat.reduceMul, Nat.reduceEqDiff, Nat.reduceLeDiff, Nat.reduceLT, Int.reduceLE, Int.reduceLT, Int.reduceToNat, Int.reduceAdd, Int.reduceEq, Int.reduceNeg, AH.put_ne]) | refine am_block ?_)
              refine am_ret ?_
              simp -implicitDefEqProofs (disch := omega) only [go_sem, eq_self, decide_true, decide_false, Nat.reduceBEq, Nat.reduceAdd, Nat.reduceSub, Nat.reduceMul, Nat.reduceEqDiff, Nat.reduceLeDiff, Nat.reduceLT, Int.reduceLE, Int.reduceLT, Int.reduceToNat, Int.reduceAdd, Int.reduceEq, Int.reduceNeg, AH.put_ne]
              subst hc
              rw [not_t hb, Bool.false_and] at hg
              rw [e3, if_pos hg]
            · refine am_skip ?_
              simp -implicitDefEqProofs (disch := omega) only [go_sem, eq_self, decide_true, decide_false, Nat.reduceBEq, Nat.reduceAdd, Nat.reduceSub, Nat.reduceMul, Nat.reduceEqDiff, Nat.reduceLeDiff, Nat.reduceLT, Int.reduceLE, Int.reduceLT, Int.reduceToNat, Int.reduceAdd, Int.reduceEq, Int.reduceNeg, AH.put_ne]
              repeat (first | refine am_seq ?_ | (refine am_reg ?_; simp -implicitDefEqProofs (disch := omega) only [go_sem, eq_self, decide_true, decide_false, Nat.reduceBEq, Nat.reduceAdd, Nat.reduceSub, Nat.reduceMul, Nat.reduceEqDiff, Nat.reduceLeDiff, Nat.reduceLT, Int.reduceLE, Int.reduceLT, Int.reduceToNat, Int.reduceAdd, Int.reduceEq, Int.reduceNeg, AH.put_ne, wrap_id]) | (refine am_drw ?_; simp -implicitDefEqProofs (disch := omega) only [go_sem, eq_self, decide_true, decide_false, Nat.reduceBEq, Nat.reduceAdd, Nat.reduceSub, Nat.reduceMul, Nat.reduceEqDiff, Nat.reduceLeDiff, Nat.reduceLT, Int.reduceLE, Int.reduceLT, Int.reduceToNat, Int.reduceAdd, Int.reduceEq, Int.reduceNeg, AH.put_ne, wrap_id]) | refine am_block ?_)
              subst hc
              rw [not_f hb, Bool.true_and] at hg
              exact ⟨n - 1, by omega, i + 1, by omega, by simp, hg⟩
          repeat (first | refine am_seq ?_ | (refine am_reg ?_; simp -implicitDefEqProofs (disch := omega) only [go_sem, eq_self, decide_true, decide_false, Nat.reduceBEq, Nat.reduceAdd, Nat.reduceSub, Nat.reduceMul, Nat.reduceEqDiff, Nat.reduceLeDiff, Nat.reduceLT, Int.reduceLE, Int.reduceLT, Int.reduceToNat, Int.reduceAdd, Int.reduceEq, Int.reduceNeg, AH.put_ne, get_of_lt hlt]) | (refine am_drw ?_; simp -implicitDefEqProofs (disch := omega) only [go_sem, eq_self, decide_true, decide_false, Nat.reduceBEq, Nat.reduceAdd, Nat.reduceSub, Nat.reduceMul, Nat.reduceEqDiff, Nat.reduceLeDiff, Nat.reduceLT, Int.reduceLE, Int.reduceLT, Int.reduceToNat, Int.reduceAdd, Int.reduceEq, Int.reduceNeg, AH.put_ne, get_of_lt hlt]) | refine am_block ?_)
          refine qcall_of (named17_calls ss[i] (hs _ (List.getElem_mem hlt))) ?_
          try simp -implicitDefEqProofs (disch := omega) only [go_sem, eq_self, decide_true, decide_false, Nat.reduceBEq, Nat.reduceAdd, Nat.reduceSub, Nat.reduceMul, Nat.reduceEqDiff, Nat.reduceLeDiff, Nat.reduceLT, Int.reduceLE, Int.reduceLT, Int.reduceToNat, Int.reduceAdd, Int.reduceEq, Int.reduceNeg, AH.put_ne]
          repeat' (first | (with_reducible refine gd_not (fun h => ?_) (fun h => ?_) <;> simp -implicitDefEqProofs (disch := omega) only [go_sem, eq_self, decide_true, decide_false, Nat.reduceBEq, Nat.reduceAdd, Nat.reduceSub, Nat.reduceMul, Nat.reduceEqDiff, Nat.reduceLeDiff, Nat.reduceLT, Int.reduceLE, Int.reduceLT, Int.reduceToNat, Int.reduceAdd, Int.reduceEq, Int.reduceNeg, AH.put_ne, h, wrap_id, get_of_lt hlt, get_pred hlt, toNat_pred]) | (with_reducible refine gd_of (fun h => ?_) (fun h => ?_) <;> simp -implicitDefEqProofs (disch := omega) only [go_sem, eq_self, decide_true, decide_false, Nat.reduceBEq, Nat.reduceAdd, Nat.reduceSub, Nat.reduceMul, Nat.reduceEqDiff, Nat.reduceLeDiff, Nat.reduceLT, Int.reduceLE, Int.reduceLT, Int.reduceToNat, Int.reduceAdd, Int.reduceEq, Int.reduceNeg, AH.put_ne, h, wrap_id, get_of_lt hlt, get_pred hlt, toNat_pred]) | (with_reducible refine gq_not (fun h => ?_) (fun h => ?_) <;> simp -implicitDefEqProofs (disch := omega) only [go_sem, eq_self, decide_true, decide_false, Nat.reduceBEq, Nat.reduceAdd, Nat.reduceSub, Nat.reduceMul, Nat.reduceEqDiff, Nat.reduceLeDiff, Nat.reduceLT, Int.reduceLE, Int.reduceLT, Int.reduceToNat, Int.reduceAdd, Int.reduceEq, Int.reduceNeg, AH.put_ne, h, wrap_id, get_of_lt hlt, get_pred hlt, toNat_pred]) | (with_reducible refine gq_of (fun h => ?_) (fun h => ?_) <;> simp -implicitDefEqProofs (disch := omega) only [go_sem, eq_self, decide_true, decide_false, Nat.reduceBEq, Nat.reduceAdd, Nat.reduceSub, Nat.reduceMul, Nat.reduceEqDiff, Nat.reduceLeDiff, Nat.reduceLT, Int.reduceLE, Int.reduceLT, Int.reduceToNat, Int.reduceAdd, Int.reduceEq, Int.reduceNeg, AH.put_ne, h, wrap_id, get_of_lt hlt, get_pred hlt, toNat_pred]) | (with_reducible refine pickB_of (fun h => ?_) (fun h => ?_) <;> simp -implicitDefEqProofs (disch := omega) only [go_sem, eq_self, decide_true, decide_false, Nat.reduceBEq, Nat.reduceAdd, Nat.reduceSub, Nat.reduceMul, Nat.reduceEqDiff, Nat.reduceLeDiff, Nat.reduceLT, Int.reduceLE, Int.reduceLT, Int.reduceToNat, Int.reduceAdd, Int.reduceEq, Int.reduceNeg, AH.put_ne, h, wrap_id, get_of_lt hlt, get_pred hlt, toNat_pred]))
          · rename_i hn
            simp only [decide_eq_true_eq] at h
            refine ⟨by omega, tail _ ?_⟩
            rw [if_pos (by omega), hn, Bool.and_true]
          · rename_i hn
            simp only [decide_eq_false_iff_not] at h
            refine tail _ ?_
            rw [if_neg (by omega), hn]
            rfl
          · refine tail _ ?_
            rw [h]
            simp
        · refine am_exit ?_
          simp -implicitDefEqProofs (disch := omega) only [go_sem, eq_self, decide_true, decide_false, Nat.reduceBEq, Nat.reduceAdd, Nat.reduceSub, Nat.reduceMul, Nat.reduceEqDiff, Nat.reduceLeDiff, Nat.reduceLT, Int.reduceLE, Int.reduceLT, Int.reduceToNat, Int.reduceAdd, Int.reduceEq, Int.reduceNeg, AH.put_ne]
          rw [from1_end _ _ _ _ (by omega)] at hg
          repeat (first | refine am_seq ?_ | (refine am_reg ?_; simp -implicitDefEqProofs (disch := omega) only [go_sem, eq_self, decide_true, decide_false, Nat.reduceBEq, Nat.reduceAdd, Nat.reduceSub, Nat.reduceMul, Nat.reduceEqDiff, Nat.reduceLeDiff, Nat.reduceLT, Int.reduceLE, Int.reduceLT, Int.reduceToNat, Int.reduceAdd, Int.reduceEq, Int.reduceNeg, AH.put_ne]) | (refine am_drw ?_; simp -implicitDefEqProofs (disch := omega) only [go_sem, eq_self, decide_true, decide_false, Nat.reduceBEq, Nat.reduceAdd, Nat.reduceSub, Nat.reduceMul, Nat.reduceEqDiff, Nat.reduceLeDiff, Nat.reduceLT, Int.reduceLE, Int.reduceLT, Int.reduceToNat, Int.reduceAdd, Int.reduceEq, Int.reduceNeg, AH.put_ne]) | refine am_block ?_)
          refine am_ret ?_
          simp -implicitDefEqProofs (disch := omega) only [go_sem, eq_self, decide_true, decide_false, Nat.reduceBEq, Nat.reduceAdd, Nat.reduceSub, Nat.reduceMul, Nat.reduceEqDiff, Nat.reduceLeDiff, Nat.reduceLT, Int.reduceLE, Int.reduceLT, Int.reduceToNat, Int.reduceAdd, Int.reduceEq, Int.reduceNeg, AH.put_ne]
          rw [e3, hg]
          rfl
  · repeat (first | refine am_seq ?_ | (refine am_reg ?_; simp -implicitDefEqProofs (disch := omega) only [go_sem, eq_self, decide_true, decide_false, Nat.reduceBEq, Nat.reduceAdd, Nat.reduceSub, Nat.reduceMul, Nat.reduceEqDiff, Nat.reduceLeDiff, Nat.reduceLT, Int.reduceLE, Int.reduceLT, Int.reduceToNat, Int.reduceAdd, Int.reduceEq, Int.reduceNeg, AH.put_ne]) | (refine am_drw ?_; simp -implicitDefEqProofs (disch := omega) only [go_sem, eq_self, decide_true, decide_false, Nat.reduceBEq, Nat.reduceAdd, Nat.reduceSub, Nat.reduceMul, Nat.reduceEqDiff, Nat.reduceLeDiff, Nat.reduceLT, Int.reduceLE, Int.reduceLT, Int.reduceToNat, Int.reduceAdd, Int.reduceEq, Int.reduceNeg, AH.put_ne]) | refine am_block ?_)
    refine am_ret ?_
    simp -implicitDefEqProofs (disch := omega) only [go_sem, eq_self, decide_true, decide_false, Nat.reduceBEq, Nat.reduceAdd, Nat.reduceSub, Nat.reduceMul, Nat.reduceEqDiff, Nat.reduceLeDiff, Nat.reduceLT, Int.reduceLE, Int.reduceLT, Int.reduceToNat, Int.reduceAdd, Int.reduceEq, Int.reduceNeg, AH.put_ne]
    simp only [decide_eq_true_eq] at h
    rw [wrong, if_pos (.inl (by omega))]
end Go.Proofs.Ytmomncmddejcoaa
