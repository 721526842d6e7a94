/- Of the walks of this seat: contracts of functions of the given program, proved over the abstract values of the texts Vm. Conditions: as each theorem says. -/
import Derived.Test.YtcfeafpjkcmdiaaGreatDoorPA3
set_option linter.unusedVariables false
set_option linter.unusedSimpArgs false
namespace Go.Proofs.YtcfeafpjkcmdiaaGreatDoor.Hel
open Go.Vm
attribute [local go_sem] strsE_get strsE_length intsE_get intsE_length Int.toNat_natCast Option.map_some Int.natCast_nonneg decide_eq_true_eq decide_eq_false_iff_not
/- flange/hello.both[int] -/
abbrev k94_0 : MC :=
  .cond (.t 16) (.reg [
     ⟨(some 17), none, .val (.mv (.t 5))⟩,
     ⟨(some 18), none, .val (.mv (.t 7))⟩,
     ⟨(some 19), none, .bslice 1 1 [(.int .i64 0)] [(0, 1, (.t 18))]⟩,
     ⟨(some 20), none, .app 1 8 (.t 17) (.t 19)⟩,
     ⟨(some 5), none, .val (.mv (.t 20))⟩] [1, 5, 8, 9, 10]) (.skip)

abbrev k94_1 : MC :=
  (.seq (.reg [
    ⟨(some 14), none, .val (.mv (.t 1))⟩,
    ⟨(some 15), none, .val (.mv (.t 7))⟩,
    ⟨(some 16), none, .call 114 [(.t 14), (.t 15)]⟩] [1, 5, 7, 8, 9, 10, 16]) k94_0)

abbrev k94_2 : MC :=
  .reg [
    ⟨(some 21), none, .val (.bin .add .num (.t 10) (.c (.int .i64 1)))⟩,
    ⟨(some 10), none, .val (.mv (.t 21))⟩] [1, 5, 8, 9, 10]

abbrev k94_3 : MC :=
  (.seq (.block 1 ((.seq (.reg [
     ⟨(some 12), none, .val (.iaddr 1 (.t 8) (.t 10))⟩,
     ⟨(some 13), none, .val (.load false 1 (.t 12))⟩,
     ⟨(some 7), none, .val (.mv (.t 13))⟩] [1, 5, 7, 8, 9, 10]) k94_1))) k94_2)

abbrev k94_4 : MC :=
  (.seq (.cond (.t 11) (.skip) (.exit 0)) k94_3)

abbrev k94_5 : MC :=
  (.seq (.reg [
    ⟨(some 11), none, .val (.bin .lss .num (.t 10) (.t 9))⟩] [1, 5, 8, 9, 10, 11]) k94_4)

abbrev k94_6 : MC :=
  .block 0 (.loop k94_5)

abbrev k94_7 : MC :=
  (.seq (.reg [
    ⟨(some 22), none, .val (.mv (.t 5))⟩,
    ⟨(some 4), none, .val (.mv (.t 22))⟩] [4]) (.ret))

abbrev k94_8 : MC :=
  (.seq ((.seq (.reg [
    ⟨(some 8), none, .val (.mv (.t 0))⟩,
    ⟨(some 9), none, .val (.len .sl (.t 8))⟩,
    ⟨(some 10), none, .val (.mv (.c (.int .i64 0)))⟩] [1, 5, 8, 9, 10]) k94_6)) k94_7)

abbrev k94_9 : MC :=
  (.seq (.reg [
    ⟨(some 5), none, .val (.mv (.c .nilSl))⟩] [0, 1, 5]) k94_8)
abbrev k94 : MC :=
  (.seq (.reg [
    ⟨(some 4), none, .val (.mv (.c .nilSl))⟩] [0, 1]) k94_9)
theorem c94 : Tryz.f94.body.bind (mcOf Tryz.prog (List.contains [] ·) (List.getD [([], [0, 1]), ([], [0, 1, 5]), ([], [1, 5, 8, 9, 10]), ([], [1, 5, 8, 9, 10, 11]), ([], [1, 5, 7, 8, 9, 10]), ([], [1, 5, 7, 8, 9, 10, 16]), ([], [1, 5, 8, 9, 10]), ([], [1, 5, 8, 9, 10]), ([], [4])] · ([], [])) 23) = some k94 := by kernel_rfl
theorem r94 : rvsOf Tryz.prog Tryz.f94.results.toList = some [.tmp 4] := by kernel_rfl

/- flange/hello.both[string] -/
abbrev k95_0 : MC :=
  .cond (.t 16) (.reg [
     ⟨(some 17), none, .val (.mv (.t 5))⟩,
     ⟨(some 18), none, .val (.mv (.t 7))⟩,
     ⟨(some 19), none, .bslice 1 1 [(.str [])] [(0, 1, (.t 18))]⟩,
     ⟨(some 20), none, .app 1 16 (.t 17) (.t 19)⟩,
     ⟨(some 5), none, .val (.mv (.t 20))⟩] [1, 5, 8, 9, 10]) (.skip)

abbrev k95_1 : MC :=
  (.seq (.reg [
    ⟨(some 14), none, .val (.mv (.t 1))⟩,
    ⟨(some 15), none, .val (.mv (.t 7))⟩,
    ⟨(some 16), none, .call 115 [(.t 14), (.t 15)]⟩] [1, 5, 7, 8, 9, 10, 16]) k95_0)

abbrev k95_2 : MC :=
  .reg [
    ⟨(some 21), none, .val (.bin .add .num (.t 10) (.c (.int .i64 1)))⟩,
    ⟨(some 10), none, .val (.mv (.t 21))⟩] [1, 5, 8, 9, 10]

abbrev k95_3 : MC :=
  (.seq (.block 1 ((.seq (.reg [
     ⟨(some 12), none, .val (.iaddr 1 (.t 8) (.t 10))⟩,
     ⟨(some 13), none, .val (.load false 1 (.t 12))⟩,
     ⟨(some 7), none, .val (.mv (.t 13))⟩] [1, 5, 7, 8, 9, 10]) k95_1))) k95_2)

abbrev k95_4 : MC :=
  (.seq (.cond (.t 11) (.skip) (.exit 0)) k95_3)

abbrev k95_5 : MC :=
  (.seq (.reg [
    ⟨(some 11), none, .val (.bin .lss .num (.t 10) (.t 9))⟩] [1, 5, 8, 9, 10, 11]) k95_4)

abbrev k95_6 : MC :=
  .block 0 (.loop k95_5)

abbrev k95_7 : MC :=
  (.seq (.reg [
    ⟨(some 22), none, .val (.mv (.t 5))⟩,
    ⟨(some 4), none, .val (.mv (.t 22))⟩] [4]) (.ret))

abbrev k95_8 : MC :=
  (.seq ((.seq (.reg [
    ⟨(some 8), none, .val (.mv (.t 0))⟩,
    ⟨(some 9), none, .val (.len .sl (.t 8))⟩,
    ⟨(some 10), none, .val (.mv (.c (.int .i64 0)))⟩] [1, 5, 8, 9, 10]) k95_6)) k95_7)

abbrev k95_9 : MC :=
  (.seq (.reg [
    ⟨(some 5), none, .val (.mv (.c .nilSl))⟩] [0, 1, 5]) k95_8)
abbrev k95 : MC :=
  (.seq (.reg [
    ⟨(some 4), none, .val (.mv (.c .nilSl))⟩] [0, 1]) k95_9)
theorem c95 : Tryz.f95.body.bind (mcOf Tryz.prog (List.contains [] ·) (List.getD [([], [0, 1]), ([], [0, 1, 5]), ([], [1, 5, 8, 9, 10]), ([], [1, 5, 8, 9, 10, 11]), ([], [1, 5, 7, 8, 9, 10]), ([], [1, 5, 7, 8, 9, 10, 16]), ([], [1, 5, 8, 9, 10]), ([], [1, 5, 8, 9, 10]), ([], [4])] · ([], [])) 23) = some k95 := by kernel_rfl
theorem r95 : rvsOf Tryz.prog Tryz.f95.results.toList = some [.tmp 4] := by kernel_rfl

def bothL {α : Type} [DecidableEq α] (a b : List α) : List α := a.filter fun x => decide (x ∈ b)
theorem bothL_cons {α : Type} [DecidableEq α] (x : α) (a b : List α) : bothL (x :: a) b = if x ∈ b then x :: bothL a b else bothL a b := by
  by_cases h : x ∈ b <;> simp [bothL, List.filter_cons, h]
theorem both_int (l m : List Int) (t u : Tok) (hl : l.length < 10000000) (hm : m.length < 4611686018427387904) (H : AH) : ACalls Tryz.prog 94 [.sl 1 (intsE l) t, .sl 1 (intsE m) u] H (fun o H' => o = .ret (.sl 1 (intsE (bothL l m)) .no) ∧ H' = H) := by
  refine ACalls.drop ?_
  refine acalls Tryz.func94 c94 r94 (by simp [Tryz.ntmps94]) ?_
  repeat (first | refine am_seq ?_ | (refine am_reg ?_; simp -implicitDefEqProofs (disch := omega) only [go_sem, eq_self, decide_true, decide_false, Nat.reduceBEq, Nat.reduceAdd, Nat.reduceSub, Nat.reduceMul, Nat.reduceEqDiff, Nat.reduceLeDiff, Nat.reduceLT, Int.reduceLE, Int.reduceLT, Int.reduceToNat, Int.reduceAdd, Int.reduceEq, Int.reduceNeg, AH.put_ne]) | (refine am_drw ?_; simp -implicitDefEqProofs (disch := omega) only [go_sem, eq_self, decide_true, decide_false, Nat.reduceBEq, Nat.reduceAdd, Nat.reduceSub, Nat.reduceMul, Nat.reduceEqDiff, Nat.reduceLeDiff, Nat.reduceLT, Int.reduceLE, Int.reduceLT, Int.reduceToNat, Int.reduceAdd, Int.reduceEq, Int.reduceNeg, AH.put_ne]) | refine am_block ?_)
  refine am_loop (fun n a H' => ∃ (i : Nat) (v : V) (acc : List Int), i + n = l.length ∧ a = [(1, .sl 1 (intsE m) u), (5, v), (8, .sl 1 (intsE l) t), (9, .int .i64 l.length), (10, .int .i64 i)] ∧ AccP H 1 (intsE acc) v H' ∧ acc.length ≤ i ∧ acc ++ bothL (l.drop i) m = bothL l m) ?_ l.length ⟨0, .nilSl, [], by simp, by simp, AccP.nil _ _, by simp, by simp⟩
  rintro n a H' ⟨i, v, acc, hi, rfl, hacc, hle, hg⟩
  repeat (first | refine am_seq ?_ | (refine am_reg ?_; simp -implicitDefEqProofs (disch := omega) only [go_sem, eq_self, decide_true, decide_false, Nat.reduceBEq, Nat.reduceAdd, Nat.reduceSub, Nat.reduceMul, Nat.reduceEqDiff, Nat.reduceLeDiff, Nat.reduceLT, Int.reduceLE, Int.reduceLT, Int.reduceToNat, Int.reduceAdd, Int.reduceEq, Int.reduceNeg, AH.put_ne]) | (refine am_drw ?_; simp -implicitDefEqProofs (disch := omega) only [go_sem, eq_self, decide_true, decide_false, Nat.reduceBEq, Nat.reduceAdd, Nat.reduceSub, Nat.reduceMul, Nat.reduceEqDiff, Nat.reduceLeDiff, Nat.reduceLT, Int.reduceLE, Int.reduceLT, Int.reduceToNat, Int.reduceAdd, Int.reduceEq, Int.reduceNeg, AH.put_ne]) | refine am_block ?_)
  refine am_cond rfl (fun hc => ?_) (fun hc => ?_) <;> (try simp -implicitDefEqProofs (disch := omega) only [go_sem, eq_self, decide_true, decide_false, Nat.reduceBEq, Nat.reduceAdd, Nat.reduceSub, Nat.reduceMul, Nat.reduceEqDiff, Nat.reduceLeDiff, Nat.reduceLT, Int.reduceLE, Int.reduceLT, Int.reduceToNat, Int.reduceAdd, Int.reduceEq, Int.reduceNeg, AH.put_ne] at hc)
  · have hlt : i < l.length := by omega
    rw [List.drop_eq_getElem_cons hlt, bothL_cons] at hg
    refine am_skip ?_
    simp -implicitDefEqProofs (disch := omega) only [go_sem, eq_self, decide_true, decide_false, Nat.reduceBEq, Nat.reduceAdd, Nat.reduceSub, Nat.reduceMul, Nat.reduceEqDiff, Nat.reduceLeDiff, Nat.reduceLT, Int.reduceLE, Int.reduceLT, Int.reduceToNat, Int.reduceAdd, Int.reduceEq, Int.reduceNeg, AH.put_ne]
    repeat (first | refine am_seq ?_ | (refine am_reg ?_; simp -implicitDefEqProofs (disch := omega) only [go_sem, eq_self, decide_true, decide_false, Nat.reduceBEq, Nat.reduceAdd, Nat.reduceSub, Nat.reduceMul, Nat.reduceEqDiff, Nat.reduceLeDiff, Nat.reduceLT, Int.reduceLE, Int.reduceLT, Int.reduceToNat, Int.reduceAdd, Int.reduceEq, Int.reduceNeg, AH.put_ne, get_of_lt hlt]) | (refine am_drw ?_; simp -implicitDefEqProofs (disch := omega) only [go_sem, eq_self, decide_true, decide_false, Nat.reduceBEq, Nat.reduceAdd, Nat.reduceSub, Nat.reduceMul, Nat.reduceEqDiff, Nat.reduceLeDiff, Nat.reduceLT, Int.reduceLE, Int.reduceLT, Int.reduceToNat, Int.reduceAdd, Int.reduceEq, Int.reduceNeg, AH.put_ne, get_of_lt hlt]) | refine am_block ?_)
    refine call_of (contains_int m l[i] u hm) ?_
    try simp -implicitDefEqProofs (disch := omega) only [go_sem, eq_self, decide_true, decide_false, Nat.reduceBEq, Nat.reduceAdd, Nat.reduceSub, Nat.reduceMul, Nat.reduceEqDiff, Nat.reduceLeDiff, Nat.reduceLT, Int.reduceLE, Int.reduceLT, Int.reduceToNat, Int.reduceAdd, Int.reduceEq, Int.reduceNeg, AH.put_ne]
    refine am_cond rfl (fun hc => ?_) (fun hc => ?_) <;> (try simp -implicitDefEqProofs (disch := omega) only [go_sem, eq_self, decide_true, decide_false, Nat.reduceBEq, Nat.reduceAdd, Nat.reduceSub, Nat.reduceMul, Nat.reduceEqDiff, Nat.reduceLeDiff, Nat.reduceLT, Int.reduceLE, Int.reduceLT, Int.reduceToNat, Int.reduceAdd, Int.reduceEq, Int.reduceNeg, AH.put_ne] at hc)
    · repeat (first | refine am_seq ?_ | (refine am_reg ?_; simp -implicitDefEqProofs (disch := omega) only [go_sem, eq_self, decide_true, decide_false, Nat.reduceBEq, Nat.reduceAdd, Nat.reduceSub, Nat.reduceMul, Nat.reduceEqDiff, Nat.reduceLeDiff, Nat.reduceLT, Int.reduceLE, Int.reduceLT, Int.reduceToNat, Int.reduceAdd, Int.reduceEq, Int.reduceNeg, AH.put_ne]) | (refine am_drw ?_; simp -implicitDefEqProofs (disch := omega) only [go_sem, eq_self, decide_true, decide_false, Nat.reduceBEq, Nat.reduceAdd, Nat.reduceSub, Nat.reduceMul, Nat.reduceEqDiff, Nat.reduceLeDiff, Nat.reduceLT, Int.reduceLE, Int.reduceLT, Int.reduceToNat, Int.reduceAdd, Int.reduceEq, Int.reduceNeg, AH.put_ne]) | refine am_block ?_)
      refine vapp_acc hacc ?_ (fun v2 H2 hacc2 => ?_)
      · simp [intsE, strsE]; omega
      try simp -implicitDefEqProofs (disch := omega) only [go_sem, eq_self, decide_true, decide_false, Nat.reduceBEq, Nat.reduceAdd, Nat.reduceSub, Nat.reduceMul, Nat.reduceEqDiff, Nat.reduceLeDiff, Nat.reduceLT, Int.reduceLE, Int.reduceLT, Int.reduceToNat, Int.reduceAdd, Int.reduceEq, Int.reduceNeg, AH.put_ne]
      repeat (first | refine am_seq ?_ | (refine am_reg ?_; simp -implicitDefEqProofs (disch := omega) only [go_sem, eq_self, decide_true, decide_false, Nat.reduceBEq, Nat.reduceAdd, Nat.reduceSub, Nat.reduceMul, Nat.reduceEqDiff, Nat.reduceLeDiff, Nat.reduceLT, Int.reduceLE, Int.reduceLT, Int.reduceToNat, Int.reduceAdd, Int.reduceEq, Int.reduceNeg, AH.put_ne, wrap_id]) | (refine am_drw ?_; simp -implicitDefEqProofs (disch := omega) only [go_sem, eq_self, decide_true, decide_false, Nat.reduceBEq, Nat.reduceAdd, Nat.reduceSub, Nat.reduceMul, Nat.reduceEqDiff, Nat.reduceLeDiff, Nat.reduceLT, Int.reduceLE, Int.reduceLT, Int.reduceToNat, Int.reduceAdd, Int.reduceEq, Int.reduceNeg, AH.put_ne, wrap_id]) | refine am_block ?_)
      refine ⟨n - 1, by omega, i + 1, v2, acc ++ [l[i]], by omega, by simp, by simpa [intsE] using hacc2, by simp; omega, ?_⟩
      rw [if_pos hc] at hg
      rw [← hg]
      simp
    · refine am_skip ?_
      simp -implicitDefEqProofs (disch := omega) only [go_sem, eq_self, decide_true, decide_false, Nat.reduceBEq, Nat.reduceAdd, Nat.reduceSub, Nat.reduceMul, Nat.reduceEqDiff, Nat.reduceLeDiff, Nat.reduceLT, Int.reduceLE, Int.reduceLT, Int.reduceToNat, Int.reduceAdd, Int.reduceEq, Int.reduceNeg, AH.put_ne]
      repeat (first | refine am_seq ?_ | (refine am_reg ?_; simp -implicitDefEqProofs (disch := omega) only [go_sem, eq_self, decide_true, decide_false, Nat.reduceBEq, Nat.reduceAdd, Nat.reduceSub, Nat.reduceMul, Nat.reduceEqDiff, Nat.reduceLeDiff, Nat.reduceLT, Int.reduceLE, Int.reduceLT, Int.reduceToNat, Int.reduceAdd, Int.reduceEq, Int.reduceNeg, AH.put_ne, wrap_id]) | (refine am_drw ?_; simp -implicitDefEqProofs (disch := omega) only [go_sem, eq_self, decide_true, decide_false, Nat.reduceBEq, Nat.reduceAdd, Nat.reduceSub, Nat.reduceMul, Nat.reduceEqDiff, Nat.reduceLeDiff, Nat.reduceLT, Int.reduceLE, Int.reduceLT, Int.reduceToNat, Int.reduceAdd, Int.reduceEq, Int.reduceNeg, AH.put_ne, wrap_id]) | refine am_block ?_)
      refine ⟨n - 1, by omega, i + 1, v, acc, by omega, by simp, hacc, by omega, ?_⟩
      rw [if_neg hc] at hg
      exact hg
  · refine am_exit ?_
    simp -implicitDefEqProofs (disch := omega) only [go_sem, eq_self, decide_true, decide_false, Nat.reduceBEq, Nat.reduceAdd, Nat.reduceSub, Nat.reduceMul, Nat.reduceEqDiff, Nat.reduceLeDiff, Nat.reduceLT, Int.reduceLE, Int.reduceLT, Int.reduceToNat, Int.reduceAdd, Int.reduceEq, Int.reduceNeg, AH.put_ne]
    repeat (first | refine am_seq ?_ | (refine am_reg ?_; simp -implicitDefEqProofs (disch := omega) only [go_sem, eq_self, decide_true, decide_false, Nat.reduceBEq, Nat.reduceAdd, Nat.reduceSub, Nat.reduceMul, Nat.reduceEqDiff, Nat.reduceLeDiff, Nat.reduceLT, Int.reduceLE, Int.reduceLT, Int.reduceToNat, Int.reduceAdd, Int.reduceEq, Int.reduceNeg, AH.put_ne]) | (refine am_drw ?_; simp -implicitDefEqProofs (disch := omega) only [go_sem, eq_self, decide_true, decide_false, Nat.reduceBEq, Nat.reduceAdd, Nat.reduceSub, Nat.reduceMul, Nat.reduceEqDiff, Nat.reduceLeDiff, Nat.reduceLT, Int.reduceLE, Int.reduceLT, Int.reduceToNat, Int.reduceAdd, Int.reduceEq, Int.reduceNeg, AH.put_ne]) | refine am_block ?_)
    refine am_ret ?_
    simp -implicitDefEqProofs (disch := omega) only [go_sem, eq_self, decide_true, decide_false, Nat.reduceBEq, Nat.reduceAdd, Nat.reduceSub, Nat.reduceMul, Nat.reduceEqDiff, Nat.reduceLeDiff, Nat.reduceLT, Int.reduceLE, Int.reduceLT, Int.reduceToNat, Int.reduceAdd, Int.reduceEq, Int.reduceNeg, AH.put_ne]
    rw [List.drop_eq_nil_of_le (by omega)] at hg
    refine ⟨⟨v, rfl, ?_⟩, hacc.le⟩
    rw [← hg]
    simpa [bothL] using hacc.sub
theorem both_str (l m : List (List UInt8)) (t u : Tok) (hl : l.length < 10000000) (hm : m.length < 4611686018427387904) (H : AH) : ACalls Tryz.prog 95 [.sl 1 (strsE l) t, .sl 1 (strsE m) u] H (fun o H' => o = .ret (.sl 1 (strsE (bothL l m)) .no) ∧ H' = H) := by
  refine ACalls.drop ?_
  refine acalls Tryz.func95 c95 r95 (by simp [Tryz.ntmps95]) ?_
  repeat (first | refine am_seq ?_ | (refine am_reg ?_; simp -implicitDefEqProofs (disch := omega) only [go_sem, eq_self, decide_true, decide_false, Nat.reduceBEq, Nat.reduceAdd, Nat.reduceSub, Nat.reduceMul, Nat.reduceEqDiff, Nat.reduceLeDiff, Nat.reduceLT, Int.reduceLE, Int.reduceLT, Int.reduceToNat, Int.reduceAdd, Int.reduceEq, Int.reduceNeg, AH.put_ne]) | (refine am_drw ?_; simp -implicitDefEqProofs (disch := omega) only [go_sem, eq_self, decide_true, decide_false, Nat.reduceBEq, Nat.reduceAdd, Nat.reduceSub, Nat.reduceMul, Nat.reduceEqDiff, Nat.reduceLeDiff, Nat.reduceLT, Int.reduceLE, Int.reduceLT, Int.reduceToNat, Int.reduceAdd, Int.reduceEq, Int.reduceNeg, AH.put_ne]) | refine am_block ?_)
  refine am_loop (fun n a H' => ∃ (i : Nat) (v : V) (acc : List (List UInt8)), i + n = l.length ∧ a = [(1, .sl 1 (strsE m) u), (5, v), (8, .sl 1 (strsE l) t), (9, .int .i64 l.length), (10, .int .i64 i)] ∧ AccP H 1 (strsE acc) v H' ∧ acc.length ≤ i ∧ acc ++ bothL (l.drop i) m = bothL l m) ?_ l.length ⟨0, .nilSl, [], by simp, by simp, AccP.nil _ _, by simp, by simp⟩
  rintro n a H' ⟨i, v, acc, hi, rfl, hacc, hle, hg⟩
  repeat (first | refine am_seq ?_ | (refine am_reg ?_; simp -implicitDefEqProofs (disch := omega) only [go_sem, eq_self, decide_true, decide_false, Nat.reduceBEq, Nat.reduceAdd, Nat.reduceSub, Nat.reduceMul, Nat.reduceEqDiff, Nat.reduceLeDiff, Nat.reduceLT, Int.reduceLE, Int.reduceLT, Int.reduceToNat, Int.reduceAdd, Int.reduceEq, Int.reduceNeg, AH.put_ne]) | (refine am_drw ?_; simp -implicitDefEqProofs (disch := omega) only [go_sem, eq_self, decide_true, decide_false, Nat.reduceBEq, Nat.reduceAdd, Nat.reduceSub, Nat.reduceMul, Nat.reduceEqDiff, Nat.reduceLeDiff, Nat.reduceLT, Int.reduceLE, Int.reduceLT, Int.reduceToNat, Int.reduceAdd, Int.reduceEq, Int.reduceNeg, AH.put_ne]) | refine am_block ?_)
  refine am_cond rfl (fun hc => ?_) (fun hc => ?_) <;> (try simp -implicitDefEqProofs (disch := omega) only [go_sem, eq_self, decide_true, decide_false, Nat.reduceBEq, Nat.reduceAdd, Nat.reduceSub, Nat.reduceMul, Nat.reduceEqDiff, Nat.reduceLeDiff, Nat.reduceLT, Int.reduceLE, Int.reduceLT, Int.reduceToNat, Int.reduceAdd, Int.reduceEq, Int.reduceNeg, AH.put_ne] at hc)
  · have hlt : i < l.length := by omega
    rw [List.drop_eq_getElem_cons hlt, bothL_cons] at hg
    refine am_skip ?_
    simp -implicitDefEqProofs (disch := omega) only [go_sem, eq_self, decide_true, decide_false, Nat.reduceBEq, Nat.reduceAdd, Nat.reduceSub, Nat.reduceMul, Nat.reduceEqDiff, Nat.reduceLeDiff, Nat.reduceLT, Int.reduceLE, Int.reduceLT, Int.reduceToNat, Int.reduceAdd, Int.reduceEq, Int.reduceNeg, AH.put_ne]
    repeat (first | refine am_seq ?_ | (refine am_reg ?_; simp -implicitDefEqProofs (disch := omega) only [go_sem, eq_self, decide_true, decide_false, Nat.reduceBEq, Nat.reduceAdd, Nat.reduceSub, Nat.reduceMul, Nat.reduceEqDiff, Nat.reduceLeDiff, Nat.reduceLT, Int.reduceLE, Int.reduceLT, Int.reduceToNat, Int.reduceAdd, Int.reduceEq, Int.reduceNeg, AH.put_ne, get_of_lt hlt]) | (refine am_drw ?_; simp -implicitDefEqProofs (disch := omega) only [go_sem, eq_self, decide_true, decide_false, Nat.reduceBEq, Nat.reduceAdd, Nat.reduceSub, Nat.reduceMul, Nat.reduceEqDiff, Nat.reduceLeDiff, Nat.reduceLT, Int.reduceLE, Int.reduceLT, Int.reduceToNat, Int.reduceAdd, Int.reduceEq, Int.reduceNeg, AH.put_ne, get_of_lt hlt]) | refine am_block ?_)
    refine call_of (contains_str m l[i] u hm) ?_
    try simp -implicitDefEqProofs (disch := omega) only [go_sem, eq_self, decide_true, decide_false, Nat.reduceBEq, Nat.reduceAdd, Nat.reduceSub, Nat.reduceMul, Nat.reduceEqDiff, Nat.reduceLeDiff, Nat.reduceLT, Int.reduceLE, Int.reduceLT, Int.reduceToNat, Int.reduceAdd, Int.reduceEq, Int.reduceNeg, AH.put_ne]
    refine am_cond rfl (fun hc => ?_) (fun hc => ?_) <;> (try simp -implicitDefEqProofs (disch := omega) only [go_sem, eq_self, decide_true, decide_false, Nat.reduceBEq, Nat.reduceAdd, Nat.reduceSub, Nat.reduceMul, Nat.reduceEqDiff, Nat.reduceLeDiff, Nat.reduceLT, Int.reduceLE, Int.reduceLT, Int.reduceToNat, Int.reduceAdd, Int.reduceEq, Int.reduceNeg, AH.put_ne] at hc)
    · repeat (first | refine am_seq ?_ | (refine am_reg ?_; simp -implicitDefEqProofs (disch := omega) only [go_sem, eq_self, decide_true, decide_false, Nat.reduceBEq, Nat.reduceAdd, Nat.reduceSub, Nat.reduceMul, Nat.reduceEqDiff, Nat.reduceLeDiff, Nat.reduceLT, Int.reduceLE, Int.reduceLT, Int.reduceToNat, Int.reduceAdd, Int.reduceEq, Int.reduceNeg, AH.put_ne]) | (refine am_drw ?_; simp -implicitDefEqProofs (disch := omega) only [go_sem, eq_self, decide_true, decide_false, Nat.reduceBEq, Nat.reduceAdd, Nat.reduceSub, Nat.reduceMul, Nat.reduceEqDiff, Nat.reduceLeDiff, Nat.reduceLT, Int.reduceLE, Int.reduceLT, Int.reduceToNat, Int.reduceAdd, Int.reduceEq, Int.reduceNeg, AH.put_ne]) | refine am_block ?_)
      refine vapp_acc hacc ?_ (fun v2 H2 hacc2 => ?_)
      · simp [intsE, strsE]; omega
      try simp -implicitDefEqProofs (disch := omega) only [go_sem, eq_self, decide_true, decide_false, Nat.reduceBEq, Nat.reduceAdd, Nat.reduceSub, Nat.reduceMul, Nat.reduceEqDiff, Nat.reduceLeDiff, Nat.reduceLT, Int.reduceLE, Int.reduceLT, Int.reduceToNat, Int.reduceAdd, Int.reduceEq, Int.reduceNeg, AH.put_ne]
      repeat (first | refine am_seq ?_ | (refine am_reg ?_; simp -implicitDefEqProofs (disch := omega) only [go_sem, eq_self, decide_true, decide_false, Nat.reduceBEq, Nat.reduceAdd, Nat.reduceSub, Nat.reduceMul, Nat.reduceEqDiff, Nat.reduceLeDiff, Nat.reduceLT, Int.reduceLE, Int.reduceLT, Int.reduceToNat, Int.reduceAdd, Int.reduceEq, Int.reduceNeg, AH.put_ne, wrap_id]) | (refine am_drw ?_; simp -implicitDefEqProofs (disch := omega) only [go_sem, eq_self, decide_true, decide_false, Nat.reduceBEq, Nat.reduceAdd, Nat.reduceSub, Nat.reduceMul, Nat.reduceEqDiff, Nat.reduceLeDiff, Nat.reduceLT, Int.reduceLE, Int.reduceLT, Int.reduceToNat, Int.reduceAdd, Int.reduceEq, Int.reduceNeg, AH.put_ne, wrap_id]) | refine am_block ?_)
      refine ⟨n - 1, by omega, i + 1, v2, acc ++ [l[i]], by omega, by simp, by simpa [strsE] using hacc2, by simp; omega, ?_⟩
      rw [if_pos hc] at hg
      rw [← hg]
      simp
    · refine am_skip ?_
      simp -implicitDefEqProofs (disch := omega) only [go_sem, eq_self, decide_true, decide_false, Nat.reduceBEq, Nat.reduceAdd, Nat.reduceSub, Nat.reduceMul, Nat.reduceEqDiff, Nat.reduceLeDiff, Nat.reduceLT, Int.reduceLE, Int.reduceLT, Int.reduceToNat, Int.reduceAdd, Int.reduceEq, Int.reduceNeg, AH.put_ne]
      repeat (first | refine am_seq ?_ | (refine am_reg ?_; simp -implicitDefEqProofs (disch := omega) only [go_sem, eq_self, decide_true, decide_false, Nat.reduceBEq, Nat.reduceAdd, Nat.reduceSub, Nat.reduceMul, Nat.reduceEqDiff, Nat.reduceLeDiff, Nat.reduceLT, Int.reduceLE, Int.reduceLT, Int.reduceToNat, Int.reduceAdd, Int.reduceEq, Int.reduceNeg, AH.put_ne, wrap_id]) | (refine am_drw ?_; simp -implicitDefEqProofs (disch := omega) only [go_sem, eq_self, decide_true, decide_false, Nat.reduceBEq, Nat.reduceAdd, Nat.reduceSub, Nat.reduceMul, Nat.reduceEqDiff, Nat.reduceLeDiff, Nat.reduceLT, Int.reduceLE, Int.reduceLT, Int.reduceToNat, Int.reduceAdd, Int.reduceEq, Int.reduceNeg, AH.put_ne, wrap_id]) | refine am_block ?_)
      refine ⟨n - 1, by omega, i + 1, v, acc, by omega, by simp, hacc, by omega, ?_⟩
      rw [if_neg hc] at hg
      exact hg
  · refine am_exit ?_
    simp -implicitDefEqProofs (disch := omega) only [go_sem, eq_self, decide_true, decide_false, Nat.reduceBEq, Nat.reduceAdd, Nat.reduceSub, Nat.reduceMul, Nat.reduceEqDiff, Nat.reduceLeDiff, Nat.reduceLT, Int.reduceLE, Int.reduceLT, Int.reduceToNat, Int.reduceAdd, Int.reduceEq, Int.reduceNeg, AH.put_ne]
    repeat (first | refine am_seq ?_ | (refine am_reg ?_; simp -implicitDefEqProofs (disch := omega) only [go_sem, eq_self, decide_true, decide_false, Nat.reduceBEq, Nat.reduceAdd, Nat.reduceSub, Nat.reduceMul, Nat.reduceEqDiff, Nat.reduceLeDiff, Nat.reduceLT, Int.reduceLE, Int.reduceLT, Int.reduceToNat, Int.reduceAdd, Int.reduceEq, Int.reduceNeg, AH.put_ne]) | (refine am_drw ?_; simp -implicitDefEqProofs (disch := omega) only [go_sem, eq_self, decide_true, decide_false, Nat.reduceBEq, Nat.reduceAdd, Nat.reduceSub, Nat.reduceMul, Nat.reduceEqDiff, Nat.reduceLeDiff, Nat.reduceLT, Int.reduceLE, Int.reduceLT, Int.reduceToNat, Int.reduceAdd, Int.reduceEq, Int.reduceNeg, AH.put_ne]) | refine am_block ?_)
    refine am_ret ?_
    simp -implicitDefEqProofs (disch := omega) only [go_sem, eq_self, decide_true, decide_false, Nat.reduceBEq, Nat.reduceAdd, Nat.reduceSub, Nat.reduceMul, Nat.reduceEqDiff, Nat.reduceLeDiff, Nat.reduceLT, Int.reduceLE, Int.reduceLT, Int.reduceToNat, Int.reduceAdd, Int.reduceEq, Int.reduceNeg, AH.put_ne]
    rw [List.drop_eq_nil_of_le (by omega)] at hg
    refine ⟨⟨v, rfl, ?_⟩, hacc.le⟩
    rw [← hg]
    simpa [bothL] using hacc.sub
end Go.Proofs.YtcfeafpjkcmdiaaGreatDoor.Hel
