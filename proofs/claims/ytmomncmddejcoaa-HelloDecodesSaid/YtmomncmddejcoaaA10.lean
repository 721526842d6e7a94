/- Of the walks of this seat: contracts of functions of the given program, proved over the abstract values of the texts Vm. Conditions: as each theorem says. -/
import Derived.Test.YtmomncmddejcoaaA9
set_option linter.unusedVariables false
set_option linter.unusedSimpArgs false
namespace Go.Proofs.Ytmomncmddejcoaa
open Go.Vm
attribute [local go_sem] strsE_get strsE_length intsE_get intsE_length Int.toNat_natCast Option.map_some Int.natCast_nonneg decide_eq_true_eq decide_eq_false_iff_not
/- flange/flangelaw21.great -/
abbrev k12_0 : MC :=
  .cond (.t 8) (.skip) (.exit 0)

abbrev k12_1 : MC :=
  .cond (.t 17) ((.seq (.reg [
     ⟨(some 2), none, .val (.mv (.c (.bool true)))⟩] [2]) .ret)) (.skip)

abbrev k12_2 : MC :=
  .reg [
    ⟨(some 9), none, .val (.mv (.t 3))⟩,
    ⟨(some 10), none, .val (.bin .add .num (.t 9) (.c (.int .i64 1)))⟩,
    ⟨(some 3), none, .val (.mv (.t 10))⟩] [1, 3]

abbrev k12_3 : MC :=
  (.seq (.block 1 ((.seq (.reg [
     ⟨(some 11), none, .val (.faddr 1 (.t 1))⟩,
     ⟨(some 12), none, .val (.load false 1 (.t 11))⟩,
     ⟨(some 13), none, .val (.mv (.t 3))⟩,
     ⟨(some 14), none, .val (.iaddr 1 (.t 12) (.t 13))⟩,
     ⟨(some 15), none, .val (.load false 1 (.t 14))⟩,
     ⟨(some 16), none, .val (.len .str (.t 15))⟩,
     ⟨(some 17), none, .val (.bin .gtr .num (.t 16) (.c (.int .i64 60)))⟩] [1, 3, 17]) k12_1))) k12_2)

abbrev k12_4 : MC :=
  (.seq ((.seq (.reg [
    ⟨(some 4), none, .val (.mv (.t 3))⟩,
    ⟨(some 5), none, .val (.faddr 1 (.t 1))⟩,
    ⟨(some 6), none, .val (.load false 1 (.t 5))⟩,
    ⟨(some 7), none, .val (.len .sl (.t 6))⟩,
    ⟨(some 8), none, .val (.bin .lss .num (.t 4) (.t 7))⟩] [1, 3, 8]) k12_0)) k12_3)

abbrev k12_5 : MC :=
  .block 0 (.loop k12_4)

abbrev k12_6 : MC :=
  (.seq (.reg [
    ⟨(some 18), none, .val (.faddr 0 (.t 1))⟩,
    ⟨(some 19), none, .val (.load false 1 (.t 18))⟩,
    ⟨(some 20), none, .val (.len .sl (.t 19))⟩,
    ⟨(some 21), none, .val (.bin .gtr .num (.t 20) (.c (.int .i64 30)))⟩,
    ⟨(some 22), none, .val (.mv (.t 21))⟩,
    ⟨(some 23), (some (22, false)), .val (.faddr 1 (.t 1))⟩,
    ⟨(some 24), (some (22, false)), .val (.load false 1 (.t 23))⟩,
    ⟨(some 25), (some (22, false)), .val (.len .sl (.t 24))⟩,
    ⟨(some 26), (some (22, false)), .val (.bin .gtr .num (.t 25) (.c (.int .i64 30)))⟩,
    ⟨(some 27), none, .val (.pick (.t 22) (.c (.bool true)) (.t 26))⟩,
    ⟨(some 2), none, .val (.mv (.t 27))⟩] [2]) .ret)

abbrev k12_7 : MC :=
  (.seq ((.seq (.reg [
    ⟨(some 3), none, .val (.mv (.c (.int .i64 0)))⟩] [1, 3]) k12_5)) k12_6)
abbrev k12 : MC :=
  (.seq (.reg [
    ⟨(some 1), none, .boxi (.t 0)⟩,
    ⟨(some 2), none, .val (.mv (.c (.bool false)))⟩] [1]) k12_7)
theorem c12 : Try.f12.body.bind (mcOf Try.prog (List.contains [1] ·) (List.getD [([], [1]), ([], [1, 3]), ([], [1, 3, 8]), ([], [1, 3]), ([], [1, 3, 17]), ([], [2]), ([], [2])] · ([], [])) 28) = some k12 := by kernel_rfl
theorem r12 : rvsOf Try.prog Try.f12.results.toList = some [.tmp 2] := by kernel_rfl

def long60 (s : List UInt8) : Bool := decide (60 < s.length)
def greatS (vs : List Int) (ss : List (List UInt8)) : Bool := ss.any long60 || (decide (30 < vs.length) || decide (30 < ss.length))
theorem any_drop {α : Type} (p : α → Bool) (l : List α) (i : Nat) (h : i < l.length) : (l.drop i).any p = (p l[i] || (l.drop (i + 1)).any p) := by
  rw [List.drop_eq_getElem_cons h]; rfl
theorem great_calls (vs : List Int) (ss : List (List UInt8)) (tv ts : Tok) (hl : ss.length < 9223372036854775808) (H : AH) : ACalls Try.prog 12 [.agg [.sl 1 (intsE vs) tv, .sl 1 (strsE ss) ts]] H (fun o H' => o = .ret (.bool (greatS vs ss)) ∧ H' = H) := by
  refine acalls Try.func12 c12 r12 (by simp [Try.ntmps12]) ?_
  repeat (first | refine am_seq ?_ | (refine am_reg ?_; simp -implicitDefEqProofs (disch := omega) only [go_sem, eq_self, decide_true, decide_false, Nat.reduceBEq, Nat.reduceAdd, Nat.reduceSub, Nat.reduceMul, Nat.reduceEqDiff, Nat.reduceLeDiff, Nat.reduceLT, Int.reduceLE, Int.reduceLT, Int.reduceToNat, Int.reduceAdd, Int.reduceEq, Int.reduceNeg, AH.put_ne]) | (refine am_drw ?_; simp -implicitDefEqProofs (disch := omega) only [go_sem, eq_self, decide_true, decide_false, Nat.reduceBEq, Nat.reduceAdd, Nat.reduceSub, Nat.reduceMul, Nat.reduceEqDiff, Nat.reduceLeDiff, Nat.reduceLT, Int.reduceLE, Int.reduceLT, Int.reduceToNat, Int.reduceAdd, Int.reduceEq, Int.reduceNeg, AH.put_ne]) | refine am_block ?_)
  refine am_loop (fun n a H' => ∃ i : Nat, i + n = ss.length ∧ a = [(1, .rptr [.sl 1 (intsE vs) tv, .sl 1 (strsE ss) ts] 0), (3, .int .i64 i)] ∧ H' = H ∧ ss.any long60 = (ss.drop i).any long60) ?_ ss.length ⟨0, by simp, by simp, rfl, by simp⟩
  rintro n a H' ⟨i, hi, rfl, rfl, hg⟩
  repeat (first | refine am_seq ?_ | (refine am_reg ?_; simp -implicitDefEqProofs (disch := omega) only [go_sem, eq_self, decide_true, decide_false, Nat.reduceBEq, Nat.reduceAdd, Nat.reduceSub, Nat.reduceMul, Nat.reduceEqDiff, Nat.reduceLeDiff, Nat.reduceLT, Int.reduceLE, Int.reduceLT, Int.reduceToNat, Int.reduceAdd, Int.reduceEq, Int.reduceNeg, AH.put_ne]) | (refine am_drw ?_; simp -implicitDefEqProofs (disch := omega) only [go_sem, eq_self, decide_true, decide_false, Nat.reduceBEq, Nat.reduceAdd, Nat.reduceSub, Nat.reduceMul, Nat.reduceEqDiff, Nat.reduceLeDiff, Nat.reduceLT, Int.reduceLE, Int.reduceLT, Int.reduceToNat, Int.reduceAdd, Int.reduceEq, Int.reduceNeg, AH.put_ne]) | refine am_block ?_)
  refine am_cond rfl (fun hc => ?_) (fun hc => ?_) <;> (try simp -implicitDefEqProofs (disch := omega) only [go_sem, eq_self, decide_true, decide_false, Nat.reduceBEq, Nat.reduceAdd, Nat.reduceSub, Nat.reduceMul, Nat.reduceEqDiff, Nat.reduceLeDiff, Nat.reduceLT, Int.reduceLE, Int.reduceLT, Int.reduceToNat, Int.reduceAdd, Int.reduceEq, Int.reduceNeg, AH.put_ne] at hc)
  · have hlt : i < ss.length := by omega
    rw [any_drop _ _ _ hlt] at hg
    refine am_skip ?_
    simp -implicitDefEqProofs (disch := omega) only [go_sem, eq_self, decide_true, decide_false, Nat.reduceBEq, Nat.reduceAdd, Nat.reduceSub, Nat.reduceMul, Nat.reduceEqDiff, Nat.reduceLeDiff, Nat.reduceLT, Int.reduceLE, Int.reduceLT, Int.reduceToNat, Int.reduceAdd, Int.reduceEq, Int.reduceNeg, AH.put_ne]
    repeat (first | refine am_seq ?_ | (refine am_reg ?_; simp -implicitDefEqProofs (disch := omega) only [go_sem, eq_self, decide_true, decide_false, Nat.reduceBEq, Nat.reduceAdd, Nat.reduceSub, Nat.reduceMul, Nat.reduceEqDiff, Nat.reduceLeDiff, Nat.reduceLT, Int.reduceLE, Int.reduceLT, Int.reduceToNat, Int.reduceAdd, Int.reduceEq, Int.reduceNeg, AH.put_ne, get_of_lt hlt]) | (refine am_drw ?_; simp -implicitDefEqProofs (disch := omega) only [go_sem, eq_self, decide_true, decide_false, Nat.reduceBEq, Nat.reduceAdd, Nat.reduceSub, Nat.reduceMul, Nat.reduceEqDiff, Nat.reduceLeDiff, Nat.reduceLT, Int.reduceLE, Int.reduceLT, Int.reduceToNat, Int.reduceAdd, Int.reduceEq, Int.reduceNeg, AH.put_ne, get_of_lt hlt]) | refine am_block ?_)
    refine am_cond rfl (fun hc => ?_) (fun hc => ?_) <;> (try simp -implicitDefEqProofs (disch := omega) only [go_sem, eq_self, decide_true, decide_false, Nat.reduceBEq, Nat.reduceAdd, Nat.reduceSub, Nat.reduceMul, Nat.reduceEqDiff, Nat.reduceLeDiff, Nat.reduceLT, Int.reduceLE, Int.reduceLT, Int.reduceToNat, Int.reduceAdd, Int.reduceEq, Int.reduceNeg, AH.put_ne] at hc)
    · repeat (first | refine am_seq ?_ | (refine am_reg ?_; simp -implicitDefEqProofs (disch := omega) only [go_sem, eq_self, decide_true, decide_false, Nat.reduceBEq, Nat.reduceAdd, Nat.reduceSub, Nat.reduceMul, Nat.reduceEqDiff, Nat.reduceLeDiff, Nat.reduceLT, Int.reduceLE, Int.reduceLT, Int.reduceToNat, Int.reduceAdd, Int.reduceEq, Int.reduceNeg, AH.put_ne]) | (refine am_drw ?_; simp -implicitDefEqProofs (disch := omega) only [go_sem, eq_self, decide_true, decide_false, Nat.reduceBEq, Nat.reduceAdd, Nat.reduceSub, Nat.reduceMul, Nat.reduceEqDiff, Nat.reduceLeDiff, Nat.reduceLT, Int.reduceLE, Int.reduceLT, Int.reduceToNat, Int.reduceAdd, Int.reduceEq, Int.reduceNeg, AH.put_ne]) | refine am_block ?_)
      refine am_ret ?_
      simp -implicitDefEqProofs (disch := omega) only [go_sem, eq_self, decide_true, decide_false, Nat.reduceBEq, Nat.reduceAdd, Nat.reduceSub, Nat.reduceMul, Nat.reduceEqDiff, Nat.reduceLeDiff, Nat.reduceLT, Int.reduceLE, Int.reduceLT, Int.reduceToNat, Int.reduceAdd, Int.reduceEq, Int.reduceNeg, AH.put_ne]
      rw [show long60 ss[i] = true from decide_eq_true (by omega), Bool.true_or] at hg
      simp [greatS, hg]
    · refine am_skip ?_
      simp -implicitDefEqProofs (disch := omega) only [go_sem, eq_self, decide_true, decide_false, Nat.reduceBEq, Nat.reduceAdd, Nat.reduceSub, Nat.reduceMul, Nat.reduceEqDiff, Nat.reduceLeDiff, Nat.reduceLT, Int.reduceLE, Int.reduceLT, Int.reduceToNat, Int.reduceAdd, Int.reduceEq, Int.reduceNeg, AH.put_ne]
      repeat (first | refine am_seq ?_ | (refine am_reg ?_; simp -implicitDefEqProofs (disch := omega) only [go_sem, eq_self, decide_true, decide_false, Nat.reduceBEq, Nat.reduceAdd, Nat.reduceSub, Nat.reduceMul, Nat.reduceEqDiff, Nat.reduceLeDiff, Nat.reduceLT, Int.reduceLE, Int.reduceLT, Int.reduceToNat, Int.reduceAdd, Int.reduceEq, Int.reduceNeg, AH.put_ne, wrap_id]) | (refine am_drw ?_; simp -implicitDefEqProofs (disch := omega) only [go_sem, eq_self, decide_true, decide_false, Nat.reduceBEq, Nat.reduceAdd, Nat.reduceSub, Nat.reduceMul, Nat.reduceEqDiff, Nat.reduceLeDiff, Nat.reduceLT, Int.reduceLE, Int.reduceLT, Int.reduceToNat, Int.reduceAdd, Int.reduceEq, Int.reduceNeg, AH.put_ne, wrap_id]) | refine am_block ?_)
      rw [show long60 ss[i] = false from decide_eq_false (by omega), Bool.false_or] at hg
      exact ⟨n - 1, by omega, i + 1, by omega, by simp, hg⟩
  · refine am_exit ?_
    simp -implicitDefEqProofs (disch := omega) only [go_sem, eq_self, decide_true, decide_false, Nat.reduceBEq, Nat.reduceAdd, Nat.reduceSub, Nat.reduceMul, Nat.reduceEqDiff, Nat.reduceLeDiff, Nat.reduceLT, Int.reduceLE, Int.reduceLT, Int.reduceToNat, Int.reduceAdd, Int.reduceEq, Int.reduceNeg, AH.put_ne]
    rw [List.drop_eq_nil_of_le (by omega)] at hg
    repeat (first | refine am_seq ?_ | (refine am_reg ?_; simp -implicitDefEqProofs (disch := omega) only [go_sem, eq_self, decide_true, decide_false, Nat.reduceBEq, Nat.reduceAdd, Nat.reduceSub, Nat.reduceMul, Nat.reduceEqDiff, Nat.reduceLeDiff, Nat.reduceLT, Int.reduceLE, Int.reduceLT, Int.reduceToNat, Int.reduceAdd, Int.reduceEq, Int.reduceNeg, AH.put_ne]) | (refine am_drw ?_; simp -implicitDefEqProofs (disch := omega) only [go_sem, eq_self, decide_true, decide_false, Nat.reduceBEq, Nat.reduceAdd, Nat.reduceSub, Nat.reduceMul, Nat.reduceEqDiff, Nat.reduceLeDiff, Nat.reduceLT, Int.reduceLE, Int.reduceLT, Int.reduceToNat, Int.reduceAdd, Int.reduceEq, Int.reduceNeg, AH.put_ne]) | refine am_block ?_)
    repeat' (first | (with_reducible refine gd_not (fun h => ?_) (fun h => ?_) <;> simp -implicitDefEqProofs (disch := omega) only [go_sem, eq_self, decide_true, decide_false, Nat.reduceBEq, Nat.reduceAdd, Nat.reduceSub, Nat.reduceMul, Nat.reduceEqDiff, Nat.reduceLeDiff, Nat.reduceLT, Int.reduceLE, Int.reduceLT, Int.reduceToNat, Int.reduceAdd, Int.reduceEq, Int.reduceNeg, AH.put_ne, h, true_and]) | (with_reducible refine gd_of (fun h => ?_) (fun h => ?_) <;> simp -implicitDefEqProofs (disch := omega) only [go_sem, eq_self, decide_true, decide_false, Nat.reduceBEq, Nat.reduceAdd, Nat.reduceSub, Nat.reduceMul, Nat.reduceEqDiff, Nat.reduceLeDiff, Nat.reduceLT, Int.reduceLE, Int.reduceLT, Int.reduceToNat, Int.reduceAdd, Int.reduceEq, Int.reduceNeg, AH.put_ne, h, true_and]) | (with_reducible refine gq_not (fun h => ?_) (fun h => ?_) <;> simp -implicitDefEqProofs (disch := omega) only [go_sem, eq_self, decide_true, decide_false, Nat.reduceBEq, Nat.reduceAdd, Nat.reduceSub, Nat.reduceMul, Nat.reduceEqDiff, Nat.reduceLeDiff, Nat.reduceLT, Int.reduceLE, Int.reduceLT, Int.reduceToNat, Int.reduceAdd, Int.reduceEq, Int.reduceNeg, AH.put_ne, h, true_and]) | (with_reducible refine gq_of (fun h => ?_) (fun h => ?_) <;> simp -implicitDefEqProofs (disch := omega) only [go_sem, eq_self, decide_true, decide_false, Nat.reduceBEq, Nat.reduceAdd, Nat.reduceSub, Nat.reduceMul, Nat.reduceEqDiff, Nat.reduceLeDiff, Nat.reduceLT, Int.reduceLE, Int.reduceLT, Int.reduceToNat, Int.reduceAdd, Int.reduceEq, Int.reduceNeg, AH.put_ne, h, true_and]) | (with_reducible refine pickB_of (fun h => ?_) (fun h => ?_) <;> simp -implicitDefEqProofs (disch := omega) only [go_sem, eq_self, decide_true, decide_false, Nat.reduceBEq, Nat.reduceAdd, Nat.reduceSub, Nat.reduceMul, Nat.reduceEqDiff, Nat.reduceLeDiff, Nat.reduceLT, Int.reduceLE, Int.reduceLT, Int.reduceToNat, Int.reduceAdd, Int.reduceEq, Int.reduceNeg, AH.put_ne, h, true_and]))
    all_goals (refine am_ret ?_; simp -implicitDefEqProofs (disch := omega) only [go_sem, eq_self, decide_true, decide_false, Nat.reduceBEq, Nat.reduceAdd, Nat.reduceSub, Nat.reduceMul, Nat.reduceEqDiff, Nat.reduceLeDiff, Nat.reduceLT, Int.reduceLE, Int.reduceLT, Int.reduceToNat, Int.reduceAdd, Int.reduceEq, Int.reduceNeg, AH.put_ne]; simp only [decide_eq_true_eq, decide_eq_false_iff_not] at h)
    · simp only [greatS, hg, List.any_nil, Bool.false_or]
      rw [show decide (30 < vs.length) = false from decide_eq_false (by omega), Bool.false_or]
      rw [show decide ((30 : Int) < ss.length) = decide (30 < ss.length) from by simp only [decide_eq_decide]; omega]
    · simp only [greatS, hg, List.any_nil, Bool.false_or]
      rw [show decide (30 < vs.length) = true from decide_eq_true (by omega), Bool.true_or]
theorem great_le {vs : List Int} {ss : List (List UInt8)} (h : greatS vs ss = false) : vs.length ≤ 30 ∧ ss.length ≤ 30 ∧ ∀ s ∈ ss, s.length ≤ 60 := by
  simp only [greatS, Bool.or_eq_false_iff, decide_eq_false_iff_not] at h
  obtain ⟨h1, h2, h3⟩ := h
  refine ⟨by omega, by omega, fun s hs => ?_⟩
  have : long60 s = false := by
    cases e : long60 s with
    | false => rfl
    | true => rw [List.any_eq_true.2 ⟨s, hs, e⟩] at h1; cases h1
  have := of_decide_eq_false this
  omega
end Go.Proofs.Ytmomncmddejcoaa
