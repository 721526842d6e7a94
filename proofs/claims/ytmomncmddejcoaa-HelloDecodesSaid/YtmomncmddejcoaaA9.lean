/- Of the walks of this seat: contracts of functions of the given program, proved over the abstract values of the texts Vm. Conditions: as each theorem says. -/
import Derived.Test.YtmomncmddejcoaaA8
set_option linter.unusedVariables false
set_option linter.unusedSimpArgs false
namespace Go.Proofs.Ytmomncmddejcoaa
open Go.Vm
attribute [local go_sem] strsE_get strsE_length intsE_get intsE_length Int.toNat_natCast Option.map_some Int.natCast_nonneg decide_eq_true_eq decide_eq_false_iff_not
/- flange/flangelaw21.HelloOwn -/
abbrev k4_0 : MC :=
  .cond (.t 12) ((.seq (.reg [
     ⟨(some 13), none, .call 13 []⟩,
     ⟨(some 2), none, .val (.mv (.t 13))⟩] [2]) .ret)) (.skip)

abbrev k4_1 : MC :=
  (.seq (.reg [
    ⟨(some 21), none, .val (.load true 2 (.t 3))⟩,
    ⟨(some 22), none, .call 15 [(.t 21)]⟩,
    ⟨(some 23), none, .val (.bin .eql .num (.t 22) (.c (.int .i64 0)))⟩,
    ⟨(some 24), none, .val (.mv (.t 23))⟩,
    ⟨(some 25), (some (24, true)), .val (.load true 2 (.t 3))⟩,
    ⟨(some 26), (some (24, true)), .bslice 1 2 [(.int .i64 0), (.int .i64 0)] [(0, 1, (.c (.int .i64 1))), (1, 1, (.c (.int .i64 2)))]⟩,
    ⟨(some 27), (some (24, true)), .bslice 1 2 [(.str []), (.str [])] [(0, 1, (.c (.str [105, 109, 112, 111, 114, 116]))), (1, 1, (.c (.str [117, 112, 103, 114, 97, 100, 101])))]⟩,
    ⟨(some 28), (some (24, true)), .build [.nilSl, .nilSl] [(0, 1, (.t 26)), (1, 1, (.t 27))]⟩,
    ⟨(some 29), (some (24, true)), .call 18 [(.t 25), (.t 28)]⟩,
    ⟨(some 30), none, .val (.pick (.t 24) (.t 29) (.c (.bool false)))⟩,
    ⟨(some 31), none, .val (.mv (.t 30))⟩,
    ⟨(some 32), (some (31, true)), .val (.mv (.t 5))⟩,
    ⟨(some 33), (some (31, true)), .val (.bin .eql .num (.t 32) (.c (.int .i64 0)))⟩,
    ⟨(some 34), none, .val (.pick (.t 31) (.t 33) (.c (.bool false)))⟩,
    ⟨(some 35), none, .val (.mv (.t 34))⟩,
    ⟨(some 36), (some (35, true)), .val (.faddr 0 (.t 4))⟩,
    ⟨(some 37), (some (35, true)), .val (.load false 1 (.t 36))⟩,
    ⟨(some 38), (some (35, true)), .val (.bin .eql .num (.t 37) (.c (.int .i64 2)))⟩,
    ⟨(some 39), none, .val (.pick (.t 35) (.t 38) (.c (.bool false)))⟩,
    ⟨(some 40), none, .val (.mv (.t 39))⟩,
    ⟨(some 41), (some (40, true)), .val (.faddr 1 (.t 4))⟩,
    ⟨(some 42), (some (40, true)), .val (.load false 1 (.t 41))⟩,
    ⟨(some 43), (some (40, true)), .val (.len .sl (.t 42))⟩,
    ⟨(some 44), (some (40, true)), .val (.bin .eql .num (.t 43) (.c (.int .i64 2)))⟩,
    ⟨(some 45), none, .val (.pick (.t 40) (.t 44) (.c (.bool false)))⟩,
    ⟨(some 46), none, .val (.mv (.t 45))⟩,
    ⟨(some 47), (some (46, true)), .val (.load true 2 (.t 4))⟩,
    ⟨(some 48), (some (46, true)), .val (.mv (.t 0))⟩,
    ⟨(some 49), (some (46, true)), .call 16 [(.t 47), (.t 48)]⟩,
    ⟨(some 50), (some (46, true)), .val (.mv (.t 0))⟩,
    ⟨(some 51), (some (46, true)), .val (.bin .eql .num (.t 50) (.c (.str [105, 109, 112, 111, 114, 116])))⟩,
    ⟨(some 52), (some (46, true)), .val (.mv (.t 51))⟩,
    ⟨(some 53), (some (52, false)), .val (.mv (.t 0))⟩,
    ⟨(some 54), (some (52, false)), .val (.bin .eql .num (.t 53) (.c (.str [117, 112, 103, 114, 97, 100, 101])))⟩,
    ⟨(some 55), (some (46, true)), .val (.pick (.t 52) (.c (.bool true)) (.t 54))⟩,
    ⟨(some 56), (some (46, true)), .val (.bin .eql .bool (.t 49) (.t 55))⟩,
    ⟨(some 57), none, .val (.pick (.t 46) (.t 56) (.c (.bool false)))⟩,
    ⟨(some 2), none, .val (.mv (.t 57))⟩] [2]) .ret)

abbrev k4_2 : MC :=
  (.seq (.reg [
    ⟨(some 16), none, .val (.load true 2 (.t 3))⟩,
    ⟨(some 17), none, .val (.load true 2 (.t 3))⟩,
    ⟨(some 18), none, .call 14 [(.t 16), (.t 17)]⟩,
    ⟨(some 15), none, .val (.mv (.t 18))⟩,
    ⟨(some 19), none, .val (.ext (.t 15) 0)⟩,
    ⟨(some 20), none, .val (.ext (.t 15) 1)⟩,
    ⟨(some 4), none, .zalloc [(.int .i64 0), .nilSl]⟩,
    ⟨none, none, .store 2 (.t 4) (.t 19)⟩,
    ⟨(some 5), none, .val (.mv (.t 20))⟩] [0, 3, 4, 5]) k4_1)

abbrev k4_3 : MC :=
  (.seq (.reg [
    ⟨(some 14), none, .call 17 []⟩,
    ⟨(some 3), none, .zalloc [.nilSl, .nilSl]⟩,
    ⟨none, none, .store 2 (.t 3) (.t 14)⟩] [0, 3]) k4_2)

abbrev k4_4 : MC :=
  (.seq ((.seq (.reg [
    ⟨(some 6), none, .val (.mv (.t 0))⟩,
    ⟨(some 7), none, .val (.len .str (.t 6))⟩,
    ⟨(some 8), none, .val (.bin .gtr .num (.t 7) (.c (.int .i64 60)))⟩,
    ⟨(some 9), none, .val (.mv (.t 8))⟩,
    ⟨(some 10), (some (9, false)), .call 13 []⟩,
    ⟨(some 11), (some (9, false)), .val (.not (.t 10))⟩,
    ⟨(some 12), none, .val (.pick (.t 9) (.c (.bool true)) (.t 11))⟩] [0, 12]) k4_0)) k4_3)
abbrev k4 : MC :=
  (.seq (.reg [
    ⟨(some 2), none, .val (.mv (.c (.bool false)))⟩] [0]) k4_4)
theorem c4 : Try.f4.body.bind (mcOf Try.prog (List.contains [] ·) (List.getD [([], [0]), ([], [0, 12]), ([], [2]), ([], [0, 3]), ([], [0, 3, 4, 5]), ([], [2])] · ([], [])) 58) = some k4 := by kernel_rfl
theorem r4 : rvsOf Try.prog Try.f4.results.toList = some [.tmp 2] := by kernel_rfl

theorem bool_sub {s : St} {x : Value} {b : Bool} (e : b = true) (h : s.val (.bool b) x) : s.val (.bool true) x := e ▸ h
theorem agree_own : agreeS [1, 2] [impS, upgS] [1, 2] [impS, upgS] = (2, [impS, upgS], 0) := by decide
theorem right_own : wrong [1, 2] [impS, upgS] = 0 := by decide
theorem hello_own_calls (skill : List UInt8) (hl : skill.length < 4611686018427387904) (H : AH) : ACalls Try.prog 4 [.str skill] H (fun o H' => o = .ret (.bool true) ∧ H' = H) := by
  refine ACalls.drop ?_
  refine acalls Try.func4 c4 r4 (by simp [Try.ntmps4]) ?_
  repeat (first | refine am_seq ?_ | (refine am_reg ?_; simp -implicitDefEqProofs (disch := omega) only [go_sem, eq_self, decide_true, decide_false, Nat.reduceBEq, Nat.reduceAdd, Nat.reduceSub, Nat.reduceMul, Nat.reduceEqDiff, Nat.reduceLeDiff, Nat.reduceLT, Int.reduceLE, Int.reduceLT, Int.reduceToNat, Int.reduceAdd, Int.reduceEq, Int.reduceNeg, AH.put_ne]) | (refine am_drw ?_; simp -implicitDefEqProofs (disch := omega) only [go_sem, eq_self, decide_true, decide_false, Nat.reduceBEq, Nat.reduceAdd, Nat.reduceSub, Nat.reduceMul, Nat.reduceEqDiff, Nat.reduceLeDiff, Nat.reduceLT, Int.reduceLE, Int.reduceLT, Int.reduceToNat, Int.reduceAdd, Int.reduceEq, Int.reduceNeg, AH.put_ne]) | refine am_block ?_)
  refine gd_not (fun h => ?_) (fun h => ?_) <;> simp -implicitDefEqProofs (disch := omega) only [go_sem, eq_self, decide_true, decide_false, Nat.reduceBEq, Nat.reduceAdd, Nat.reduceSub, Nat.reduceMul, Nat.reduceEqDiff, Nat.reduceLeDiff, Nat.reduceLT, Int.reduceLE, Int.reduceLT, Int.reduceToNat, Int.reduceAdd, Int.reduceEq, Int.reduceNeg, AH.put_ne, h]
  · refine call_of awake_calls ?_
    try simp -implicitDefEqProofs (disch := omega) only [go_sem, eq_self, decide_true, decide_false, Nat.reduceBEq, Nat.reduceAdd, Nat.reduceSub, Nat.reduceMul, Nat.reduceEqDiff, Nat.reduceLeDiff, Nat.reduceLT, Int.reduceLE, Int.reduceLT, Int.reduceToNat, Int.reduceAdd, Int.reduceEq, Int.reduceNeg, AH.put_ne]
    refine am_cond rfl (fun hc => ?_) (fun hc => ?_) <;> (try simp -implicitDefEqProofs (disch := omega) only [go_sem, eq_self, decide_true, decide_false, Nat.reduceBEq, Nat.reduceAdd, Nat.reduceSub, Nat.reduceMul, Nat.reduceEqDiff, Nat.reduceLeDiff, Nat.reduceLT, Int.reduceLE, Int.reduceLT, Int.reduceToNat, Int.reduceAdd, Int.reduceEq, Int.reduceNeg, AH.put_ne] at hc)
    refine am_skip ?_
    simp -implicitDefEqProofs (disch := omega) only [go_sem, eq_self, decide_true, decide_false, Nat.reduceBEq, Nat.reduceAdd, Nat.reduceSub, Nat.reduceMul, Nat.reduceEqDiff, Nat.reduceLeDiff, Nat.reduceLT, Int.reduceLE, Int.reduceLT, Int.reduceToNat, Int.reduceAdd, Int.reduceEq, Int.reduceNeg, AH.put_ne]
    repeat (first | refine am_seq ?_ | (refine am_reg ?_; simp -implicitDefEqProofs (disch := omega) only [go_sem, eq_self, decide_true, decide_false, Nat.reduceBEq, Nat.reduceAdd, Nat.reduceSub, Nat.reduceMul, Nat.reduceEqDiff, Nat.reduceLeDiff, Nat.reduceLT, Int.reduceLE, Int.reduceLT, Int.reduceToNat, Int.reduceAdd, Int.reduceEq, Int.reduceNeg, AH.put_ne]) | (refine am_drw ?_; simp -implicitDefEqProofs (disch := omega) only [go_sem, eq_self, decide_true, decide_false, Nat.reduceBEq, Nat.reduceAdd, Nat.reduceSub, Nat.reduceMul, Nat.reduceEqDiff, Nat.reduceLeDiff, Nat.reduceLT, Int.reduceLE, Int.reduceLT, Int.reduceToNat, Int.reduceAdd, Int.reduceEq, Int.reduceNeg, AH.put_ne]) | refine am_block ?_)
    refine call_of own_calls ?_
    try simp -implicitDefEqProofs (disch := omega) only [go_sem, eq_self, decide_true, decide_false, Nat.reduceBEq, Nat.reduceAdd, Nat.reduceSub, Nat.reduceMul, Nat.reduceEqDiff, Nat.reduceLeDiff, Nat.reduceLT, Int.reduceLE, Int.reduceLT, Int.reduceToNat, Int.reduceAdd, Int.reduceEq, Int.reduceNeg, AH.put_ne]
    intro k hk
    repeat (first | refine am_seq ?_ | (refine am_reg ?_; simp -implicitDefEqProofs (disch := omega) only [go_sem, eq_self, decide_true, decide_false, Nat.reduceBEq, Nat.reduceAdd, Nat.reduceSub, Nat.reduceMul, Nat.reduceEqDiff, Nat.reduceLeDiff, Nat.reduceLT, Int.reduceLE, Int.reduceLT, Int.reduceToNat, Int.reduceAdd, Int.reduceEq, Int.reduceNeg, AH.put_ne]) | (refine am_drw ?_; simp -implicitDefEqProofs (disch := omega) only [go_sem, eq_self, decide_true, decide_false, Nat.reduceBEq, Nat.reduceAdd, Nat.reduceSub, Nat.reduceMul, Nat.reduceEqDiff, Nat.reduceLeDiff, Nat.reduceLT, Int.reduceLE, Int.reduceLT, Int.reduceToNat, Int.reduceAdd, Int.reduceEq, Int.reduceNeg, AH.put_ne]) | refine am_block ?_)
    refine call_of (agree_calls [1, 2] [impS, upgS] [1, 2] [impS, upgS] .tight .tight .tight .tight (by simp) (by simp) (by simp [impS, upgS]) (by simp) (by simp) (by simp [impS, upgS])) ?_
    rw [agree_own]
    try simp -implicitDefEqProofs (disch := omega) only [go_sem, eq_self, decide_true, decide_false, Nat.reduceBEq, Nat.reduceAdd, Nat.reduceSub, Nat.reduceMul, Nat.reduceEqDiff, Nat.reduceLeDiff, Nat.reduceLT, Int.reduceLE, Int.reduceLT, Int.reduceToNat, Int.reduceAdd, Int.reduceEq, Int.reduceNeg, AH.put_ne]
    intro k2 hk2
    have hne : k ≠ k2 := by rintro rfl; rw [AH.put_same] at hk2; cases hk2
    repeat (first | refine am_seq ?_ | (refine am_reg ?_; simp -implicitDefEqProofs (disch := omega) only [go_sem, eq_self, decide_true, decide_false, Nat.reduceBEq, Nat.reduceAdd, Nat.reduceSub, Nat.reduceMul, Nat.reduceEqDiff, Nat.reduceLeDiff, Nat.reduceLT, Int.reduceLE, Int.reduceLT, Int.reduceToNat, Int.reduceAdd, Int.reduceEq, Int.reduceNeg, AH.put_ne, AH.put_ne _ _ hne]) | (refine am_drw ?_; simp -implicitDefEqProofs (disch := omega) only [go_sem, eq_self, decide_true, decide_false, Nat.reduceBEq, Nat.reduceAdd, Nat.reduceSub, Nat.reduceMul, Nat.reduceEqDiff, Nat.reduceLeDiff, Nat.reduceLT, Int.reduceLE, Int.reduceLT, Int.reduceToNat, Int.reduceAdd, Int.reduceEq, Int.reduceNeg, AH.put_ne, AH.put_ne _ _ hne]) | refine am_block ?_)
    refine call_of (lright_calls [1, 2] [impS, upgS] .tight .tight (by simp) (by simp) (by simp [impS, upgS])) ?_
    rw [right_own]
    try simp -implicitDefEqProofs (disch := omega) only [go_sem, eq_self, decide_true, decide_false, Nat.reduceBEq, Nat.reduceAdd, Nat.reduceSub, Nat.reduceMul, Nat.reduceEqDiff, Nat.reduceLeDiff, Nat.reduceLT, Int.reduceLE, Int.reduceLT, Int.reduceToNat, Int.reduceAdd, Int.reduceEq, Int.reduceNeg, AH.put_ne, AH.put_ne _ _ hne]
    refine call_of (same_calls [1, 2] [impS, upgS] [1, 2] [impS, upgS] .tight .tight .tight .tight (by simp) (by simp)) ?_
    try simp -implicitDefEqProofs (disch := omega) only [go_sem, eq_self, decide_true, decide_false, Nat.reduceBEq, Nat.reduceAdd, Nat.reduceSub, Nat.reduceMul, Nat.reduceEqDiff, Nat.reduceLeDiff, Nat.reduceLT, Int.reduceLE, Int.reduceLT, Int.reduceToNat, Int.reduceAdd, Int.reduceEq, Int.reduceNeg, AH.put_ne, AH.put_ne _ _ hne]
    refine call_of (has_calls 2 [impS, upgS] skill .no (by simp)) ?_
    try simp -implicitDefEqProofs (disch := omega) only [go_sem, eq_self, decide_true, decide_false, Nat.reduceBEq, Nat.reduceAdd, Nat.reduceSub, Nat.reduceMul, Nat.reduceEqDiff, Nat.reduceLeDiff, Nat.reduceLT, Int.reduceLE, Int.reduceLT, Int.reduceToNat, Int.reduceAdd, Int.reduceEq, Int.reduceNeg, AH.put_ne]
    repeat' (first | (with_reducible refine gd_not (fun h => ?_) (fun h => ?_) <;> simp -implicitDefEqProofs (disch := omega) only [go_sem, eq_self, decide_true, decide_false, Nat.reduceBEq, Nat.reduceAdd, Nat.reduceSub, Nat.reduceMul, Nat.reduceEqDiff, Nat.reduceLeDiff, Nat.reduceLT, Int.reduceLE, Int.reduceLT, Int.reduceToNat, Int.reduceAdd, Int.reduceEq, Int.reduceNeg, AH.put_ne, h, true_and]) | (with_reducible refine gd_of (fun h => ?_) (fun h => ?_) <;> simp -implicitDefEqProofs (disch := omega) only [go_sem, eq_self, decide_true, decide_false, Nat.reduceBEq, Nat.reduceAdd, Nat.reduceSub, Nat.reduceMul, Nat.reduceEqDiff, Nat.reduceLeDiff, Nat.reduceLT, Int.reduceLE, Int.reduceLT, Int.reduceToNat, Int.reduceAdd, Int.reduceEq, Int.reduceNeg, AH.put_ne, h, true_and]) | (with_reducible refine gq_not (fun h => ?_) (fun h => ?_) <;> simp -implicitDefEqProofs (disch := omega) only [go_sem, eq_self, decide_true, decide_false, Nat.reduceBEq, Nat.reduceAdd, Nat.reduceSub, Nat.reduceMul, Nat.reduceEqDiff, Nat.reduceLeDiff, Nat.reduceLT, Int.reduceLE, Int.reduceLT, Int.reduceToNat, Int.reduceAdd, Int.reduceEq, Int.reduceNeg, AH.put_ne, h, true_and]) | (with_reducible refine gq_of (fun h => ?_) (fun h => ?_) <;> simp -implicitDefEqProofs (disch := omega) only [go_sem, eq_self, decide_true, decide_false, Nat.reduceBEq, Nat.reduceAdd, Nat.reduceSub, Nat.reduceMul, Nat.reduceEqDiff, Nat.reduceLeDiff, Nat.reduceLT, Int.reduceLE, Int.reduceLT, Int.reduceToNat, Int.reduceAdd, Int.reduceEq, Int.reduceNeg, AH.put_ne, h, true_and]) | (with_reducible refine pickB_of (fun h => ?_) (fun h => ?_) <;> simp -implicitDefEqProofs (disch := omega) only [go_sem, eq_self, decide_true, decide_false, Nat.reduceBEq, Nat.reduceAdd, Nat.reduceSub, Nat.reduceMul, Nat.reduceEqDiff, Nat.reduceLeDiff, Nat.reduceLT, Int.reduceLE, Int.reduceLT, Int.reduceToNat, Int.reduceAdd, Int.reduceEq, Int.reduceNeg, AH.put_ne, h, true_and]))
    all_goals
      refine am_ret ?_
      simp -implicitDefEqProofs (disch := omega) only [go_sem, eq_self, decide_true, decide_false, Nat.reduceBEq, Nat.reduceAdd, Nat.reduceSub, Nat.reduceMul, Nat.reduceEqDiff, Nat.reduceLeDiff, Nat.reduceLT, Int.reduceLE, Int.reduceLT, Int.reduceToNat, Int.reduceAdd, Int.reduceEq, Int.reduceNeg, AH.put_ne]
      refine ⟨⟨_, rfl, fun s x hx => bool_sub ?_ hx⟩, AH.le_put (AH.le_put (AH.le_refl _) hk _) ((AH.put_none _ _ _ _).1 hk2).2 _⟩
      simp_all [impS, upgS]
  · refine am_cond rfl (fun hc => ?_) (fun hc => ?_) <;> (try simp -implicitDefEqProofs (disch := omega) only [go_sem, eq_self, decide_true, decide_false, Nat.reduceBEq, Nat.reduceAdd, Nat.reduceSub, Nat.reduceMul, Nat.reduceEqDiff, Nat.reduceLeDiff, Nat.reduceLT, Int.reduceLE, Int.reduceLT, Int.reduceToNat, Int.reduceAdd, Int.reduceEq, Int.reduceNeg, AH.put_ne] at hc)
    repeat (first | refine am_seq ?_ | (refine am_reg ?_; simp -implicitDefEqProofs (disch := omega) only [go_sem, eq_self, decide_true, decide_false, Nat.reduceBEq, Nat.reduceAdd, Nat.reduceSub, Nat.reduceMul, Nat.reduceEqDiff, Nat.reduceLeDiff, Nat.reduceLT, Int.reduceLE, Int.reduceLT, Int.reduceToNat, Int.reduceAdd, Int.reduceEq, Int.reduceNeg, AH.put_ne]) | (refine am_drw ?_; simp -implicitDefEqProofs (disch := omega) only [go_sem, eq_self, decide_true, decide_false, Nat.reduceBEq, Nat.reduceAdd, Nat.reduceSub, Nat.reduceMul, Nat.reduceEqDiff, Nat.reduceLeDiff, Nat.reduceLT, Int.reduceLE, Int.reduceLT, Int.reduceToNat, Int.reduceAdd, Int.reduceEq, Int.reduceNeg, AH.put_ne]) | refine am_block ?_)
    refine call_of awake_calls ?_
    try simp -implicitDefEqProofs (disch := omega) only [go_sem, eq_self, decide_true, decide_false, Nat.reduceBEq, Nat.reduceAdd, Nat.reduceSub, Nat.reduceMul, Nat.reduceEqDiff, Nat.reduceLeDiff, Nat.reduceLT, Int.reduceLE, Int.reduceLT, Int.reduceToNat, Int.reduceAdd, Int.reduceEq, Int.reduceNeg, AH.put_ne]
    refine am_ret ?_
    simp -implicitDefEqProofs (disch := omega) only [go_sem, eq_self, decide_true, decide_false, Nat.reduceBEq, Nat.reduceAdd, Nat.reduceSub, Nat.reduceMul, Nat.reduceEqDiff, Nat.reduceLeDiff, Nat.reduceLT, Int.reduceLE, Int.reduceLT, Int.reduceToNat, Int.reduceAdd, Int.reduceEq, Int.reduceNeg, AH.put_ne]
    exact ⟨⟨_, rfl, fun s x h => h⟩, AH.le_refl _⟩
end Go.Proofs.Ytmomncmddejcoaa
