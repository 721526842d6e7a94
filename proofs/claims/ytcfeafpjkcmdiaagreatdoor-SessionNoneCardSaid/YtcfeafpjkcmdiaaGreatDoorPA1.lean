/- Of the walks of this seat: contracts of functions of the given program, proved over the abstract values of the texts Vm. Conditions: as each theorem says. -/
import Derived.Test.YtcfeafpjkcmdiaaGreatDoorVm18
import Derived.Test.YtcfeafpjkcmdiaaGreatDoorProg
import Derived.KernelRfl
set_option linter.unusedVariables false
set_option linter.unusedSimpArgs false
namespace Go.Proofs.YtcfeafpjkcmdiaaGreatDoor.Hel
open Go.Vm
attribute [local go_sem] strsE_get strsE_length intsE_get intsE_length Int.toNat_natCast Option.map_some Int.natCast_nonneg decide_eq_true_eq decide_eq_false_iff_not
/- slices.Index[[]string,string] -/
abbrev k143_0 : MC :=
  .cond (.t 16) ((.seq (.reg [
     ⟨(some 17), none, .val (.mv (.t 5))⟩,
     ⟨(some 4), none, .val (.mv (.t 17))⟩] [4]) (.ret))) (.skip)

abbrev k143_1 : MC :=
  (.seq (.reg [
    ⟨(some 11), none, .val (.mv (.t 1))⟩,
    ⟨(some 12), none, .val (.mv (.t 0))⟩,
    ⟨(some 13), none, .val (.mv (.t 5))⟩,
    ⟨(some 14), none, .val (.iaddr 1 (.t 12) (.t 13))⟩,
    ⟨(some 15), none, .val (.load false 1 (.t 14))⟩,
    ⟨(some 16), none, .val (.bin .eql .num (.t 11) (.t 15))⟩] [0, 1, 5, 7, 8, 16]) k143_0)

abbrev k143_2 : MC :=
  .reg [
    ⟨(some 18), none, .val (.bin .add .num (.t 8) (.c (.int .i64 1)))⟩,
    ⟨(some 8), none, .val (.mv (.t 18))⟩] [0, 1, 7, 8]

abbrev k143_3 : MC :=
  (.seq (.block 1 ((.seq (.reg [
     ⟨(some 10), none, .val (.mv (.t 8))⟩,
     ⟨(some 5), none, .val (.mv (.t 10))⟩] [0, 1, 5, 7, 8]) k143_1))) k143_2)

abbrev k143_4 : MC :=
  (.seq (.cond (.t 9) (.skip) (.exit 0)) k143_3)

abbrev k143_5 : MC :=
  (.seq (.reg [
    ⟨(some 9), none, .val (.bin .lss .num (.t 8) (.t 7))⟩] [0, 1, 7, 8, 9]) k143_4)

abbrev k143_6 : MC :=
  .block 0 (.loop k143_5)

abbrev k143_7 : MC :=
  (.seq (.reg [
    ⟨(some 4), none, .val (.mv (.c (.int .i64 (-1))))⟩] [4]) (.ret))

abbrev k143_8 : MC :=
  (.seq ((.seq (.reg [
    ⟨(some 6), none, .val (.mv (.t 0))⟩,
    ⟨(some 7), none, .val (.len .sl (.t 6))⟩,
    ⟨(some 8), none, .val (.mv (.c (.int .i64 0)))⟩] [0, 1, 7, 8]) k143_6)) k143_7)
abbrev k143 : MC :=
  (.seq (.reg [
    ⟨(some 4), none, .val (.mv (.c (.int .i64 0)))⟩] [0, 1]) k143_8)
theorem c143 : Tryz.f143.body.bind (mcOf Tryz.prog (List.contains [] ·) (List.getD [([], [0, 1]), ([], [0, 1, 7, 8]), ([], [0, 1, 7, 8, 9]), ([], [0, 1, 5, 7, 8]), ([], [0, 1, 5, 7, 8, 16]), ([], [4]), ([], [0, 1, 7, 8]), ([], [4])] · ([], [])) 19) = some k143 := by kernel_rfl
theorem r143 : rvsOf Tryz.prog Tryz.f143.results.toList = some [.tmp 4] := by kernel_rfl

/- slices.Contains[[]string,string] -/
abbrev k115_0 : MC :=
  (.seq (.reg [
    ⟨(some 5), none, .val (.mv (.t 0))⟩,
    ⟨(some 6), none, .val (.mv (.t 1))⟩,
    ⟨(some 7), none, .call 143 [(.t 5), (.t 6)]⟩,
    ⟨(some 8), none, .val (.bin .geq .num (.t 7) (.c (.int .i64 0)))⟩,
    ⟨(some 4), none, .val (.mv (.t 8))⟩] [4]) (.ret))
abbrev k115 : MC :=
  (.seq (.reg [
    ⟨(some 4), none, .val (.mv (.c (.bool false)))⟩] [0, 1]) k115_0)
theorem c115 : Tryz.f115.body.bind (mcOf Tryz.prog (List.contains [] ·) (List.getD [([], [0, 1]), ([], [4])] · ([], [])) 9) = some k115 := by kernel_rfl
theorem r115 : rvsOf Tryz.prog Tryz.f115.results.toList = some [.tmp 4] := by kernel_rfl

/- slices.Index[[]int,int] -/
abbrev k142_0 : MC :=
  .cond (.t 16) ((.seq (.reg [
     ⟨(some 17), none, .val (.mv (.t 5))⟩,
     ⟨(some 4), none, .val (.mv (.t 17))⟩] [4]) (.ret))) (.skip)

abbrev k142_1 : MC :=
  (.seq (.reg [
    ⟨(some 11), none, .val (.mv (.t 1))⟩,
    ⟨(some 12), none, .val (.mv (.t 0))⟩,
    ⟨(some 13), none, .val (.mv (.t 5))⟩,
    ⟨(some 14), none, .val (.iaddr 1 (.t 12) (.t 13))⟩,
    ⟨(some 15), none, .val (.load false 1 (.t 14))⟩,
    ⟨(some 16), none, .val (.bin .eql .num (.t 11) (.t 15))⟩] [0, 1, 5, 7, 8, 16]) k142_0)

abbrev k142_2 : MC :=
  .reg [
    ⟨(some 18), none, .val (.bin .add .num (.t 8) (.c (.int .i64 1)))⟩,
    ⟨(some 8), none, .val (.mv (.t 18))⟩] [0, 1, 7, 8]

abbrev k142_3 : MC :=
  (.seq (.block 1 ((.seq (.reg [
     ⟨(some 10), none, .val (.mv (.t 8))⟩,
     ⟨(some 5), none, .val (.mv (.t 10))⟩] [0, 1, 5, 7, 8]) k142_1))) k142_2)

abbrev k142_4 : MC :=
  (.seq (.cond (.t 9) (.skip) (.exit 0)) k142_3)

abbrev k142_5 : MC :=
  (.seq (.reg [
    ⟨(some 9), none, .val (.bin .lss .num (.t 8) (.t 7))⟩] [0, 1, 7, 8, 9]) k142_4)

abbrev k142_6 : MC :=
  .block 0 (.loop k142_5)

abbrev k142_7 : MC :=
  (.seq (.reg [
    ⟨(some 4), none, .val (.mv (.c (.int .i64 (-1))))⟩] [4]) (.ret))

abbrev k142_8 : MC :=
  (.seq ((.seq (.reg [
    ⟨(some 6), none, .val (.mv (.t 0))⟩,
    ⟨(some 7), none, .val (.len .sl (.t 6))⟩,
    ⟨(some 8), none, .val (.mv (.c (.int .i64 0)))⟩] [0, 1, 7, 8]) k142_6)) k142_7)
abbrev k142 : MC :=
  (.seq (.reg [
    ⟨(some 4), none, .val (.mv (.c (.int .i64 0)))⟩] [0, 1]) k142_8)
theorem c142 : Tryz.f142.body.bind (mcOf Tryz.prog (List.contains [] ·) (List.getD [([], [0, 1]), ([], [0, 1, 7, 8]), ([], [0, 1, 7, 8, 9]), ([], [0, 1, 5, 7, 8]), ([], [0, 1, 5, 7, 8, 16]), ([], [4]), ([], [0, 1, 7, 8]), ([], [4])] · ([], [])) 19) = some k142 := by kernel_rfl
theorem r142 : rvsOf Tryz.prog Tryz.f142.results.toList = some [.tmp 4] := by kernel_rfl

/- slices.Contains[[]int,int] -/
abbrev k114_0 : MC :=
  (.seq (.reg [
    ⟨(some 5), none, .val (.mv (.t 0))⟩,
    ⟨(some 6), none, .val (.mv (.t 1))⟩,
    ⟨(some 7), none, .call 142 [(.t 5), (.t 6)]⟩,
    ⟨(some 8), none, .val (.bin .geq .num (.t 7) (.c (.int .i64 0)))⟩,
    ⟨(some 4), none, .val (.mv (.t 8))⟩] [4]) (.ret))
abbrev k114 : MC :=
  (.seq (.reg [
    ⟨(some 4), none, .val (.mv (.c (.bool false)))⟩] [0, 1]) k114_0)
theorem c114 : Tryz.f114.body.bind (mcOf Tryz.prog (List.contains [] ·) (List.getD [([], [0, 1]), ([], [4])] · ([], [])) 9) = some k114 := by kernel_rfl
theorem r114 : rvsOf Tryz.prog Tryz.f114.results.toList = some [.tmp 4] := by kernel_rfl

theorem index_str (l : List (List UInt8)) (x : List UInt8) (t : Tok) (hl : l.length < 4611686018427387904) (H : AH) : ACalls Tryz.prog 143 [.sl 1 (strsE l) t, .str x] H (fun o H' => o = .ret (.int .i64 (idx x l 0)) ∧ H' = H) := by
  refine acalls Tryz.func143 c143 r143 (by simp [Tryz.ntmps143]) ?_
  repeat (first | refine am_seq ?_ | (refine am_reg ?_; simp -implicitDefEqProofs (disch := omega) only [go_sem, eq_self, decide_true, decide_false, Nat.reduceBEq, Nat.reduceAdd, Nat.reduceSub, Nat.reduceMul, Nat.reduceEqDiff, Nat.reduceLeDiff, Nat.reduceLT, Int.reduceLE, Int.reduceLT, Int.reduceToNat, Int.reduceAdd, Int.reduceEq, Int.reduceNeg, AH.put_ne]) | (refine am_drw ?_; simp -implicitDefEqProofs (disch := omega) only [go_sem, eq_self, decide_true, decide_false, Nat.reduceBEq, Nat.reduceAdd, Nat.reduceSub, Nat.reduceMul, Nat.reduceEqDiff, Nat.reduceLeDiff, Nat.reduceLT, Int.reduceLE, Int.reduceLT, Int.reduceToNat, Int.reduceAdd, Int.reduceEq, Int.reduceNeg, AH.put_ne]) | refine am_block ?_)
  refine am_loop (fun n a H' => ∃ i : Nat, i + n = l.length ∧ a = [(0, .sl 1 (strsE l) t), (1, .str x), (7, .int .i64 l.length), (8, .int .i64 i)] ∧ H' = H ∧ idx x l 0 = idx x (l.drop i) i) ?_ l.length ⟨0, by simp, by simp, rfl, by simp⟩
  rintro n a H' ⟨i, hi, rfl, rfl, hg⟩
  repeat (first | refine am_seq ?_ | (refine am_reg ?_; simp -implicitDefEqProofs (disch := omega) only [go_sem, eq_self, decide_true, decide_false, Nat.reduceBEq, Nat.reduceAdd, Nat.reduceSub, Nat.reduceMul, Nat.reduceEqDiff, Nat.reduceLeDiff, Nat.reduceLT, Int.reduceLE, Int.reduceLT, Int.reduceToNat, Int.reduceAdd, Int.reduceEq, Int.reduceNeg, AH.put_ne]) | (refine am_drw ?_; simp -implicitDefEqProofs (disch := omega) only [go_sem, eq_self, decide_true, decide_false, Nat.reduceBEq, Nat.reduceAdd, Nat.reduceSub, Nat.reduceMul, Nat.reduceEqDiff, Nat.reduceLeDiff, Nat.reduceLT, Int.reduceLE, Int.reduceLT, Int.reduceToNat, Int.reduceAdd, Int.reduceEq, Int.reduceNeg, AH.put_ne]) | refine am_block ?_)
  refine am_cond rfl (fun hc => ?_) (fun hc => ?_) <;> simp -implicitDefEqProofs (disch := omega) only [go_sem, eq_self, decide_true, decide_false, Nat.reduceBEq, Nat.reduceAdd, Nat.reduceSub, Nat.reduceMul, Nat.reduceEqDiff, Nat.reduceLeDiff, Nat.reduceLT, Int.reduceLE, Int.reduceLT, Int.reduceToNat, Int.reduceAdd, Int.reduceEq, Int.reduceNeg, AH.put_ne] at hc
  · have hlt : i < l.length := by omega
    rw [List.drop_eq_getElem_cons hlt, idx] at hg
    refine am_skip ?_
    simp -implicitDefEqProofs (disch := omega) only [go_sem, eq_self, decide_true, decide_false, Nat.reduceBEq, Nat.reduceAdd, Nat.reduceSub, Nat.reduceMul, Nat.reduceEqDiff, Nat.reduceLeDiff, Nat.reduceLT, Int.reduceLE, Int.reduceLT, Int.reduceToNat, Int.reduceAdd, Int.reduceEq, Int.reduceNeg, AH.put_ne]
    repeat (first | refine am_seq ?_ | (refine am_reg ?_; simp -implicitDefEqProofs (disch := omega) only [go_sem, eq_self, decide_true, decide_false, Nat.reduceBEq, Nat.reduceAdd, Nat.reduceSub, Nat.reduceMul, Nat.reduceEqDiff, Nat.reduceLeDiff, Nat.reduceLT, Int.reduceLE, Int.reduceLT, Int.reduceToNat, Int.reduceAdd, Int.reduceEq, Int.reduceNeg, AH.put_ne, get_of_lt hlt]) | (refine am_drw ?_; simp -implicitDefEqProofs (disch := omega) only [go_sem, eq_self, decide_true, decide_false, Nat.reduceBEq, Nat.reduceAdd, Nat.reduceSub, Nat.reduceMul, Nat.reduceEqDiff, Nat.reduceLeDiff, Nat.reduceLT, Int.reduceLE, Int.reduceLT, Int.reduceToNat, Int.reduceAdd, Int.reduceEq, Int.reduceNeg, AH.put_ne, get_of_lt hlt]) | refine am_block ?_)
    refine am_cond rfl (fun hc => ?_) (fun hc => ?_) <;> simp -implicitDefEqProofs (disch := omega) only [go_sem, eq_self, decide_true, decide_false, Nat.reduceBEq, Nat.reduceAdd, Nat.reduceSub, Nat.reduceMul, Nat.reduceEqDiff, Nat.reduceLeDiff, Nat.reduceLT, Int.reduceLE, Int.reduceLT, Int.reduceToNat, Int.reduceAdd, Int.reduceEq, Int.reduceNeg, AH.put_ne] at hc
    · repeat (first | refine am_seq ?_ | (refine am_reg ?_; simp -implicitDefEqProofs (disch := omega) only [go_sem, eq_self, decide_true, decide_false, Nat.reduceBEq, Nat.reduceAdd, Nat.reduceSub, Nat.reduceMul, Nat.reduceEqDiff, Nat.reduceLeDiff, Nat.reduceLT, Int.reduceLE, Int.reduceLT, Int.reduceToNat, Int.reduceAdd, Int.reduceEq, Int.reduceNeg, AH.put_ne]) | (refine am_drw ?_; simp -implicitDefEqProofs (disch := omega) only [go_sem, eq_self, decide_true, decide_false, Nat.reduceBEq, Nat.reduceAdd, Nat.reduceSub, Nat.reduceMul, Nat.reduceEqDiff, Nat.reduceLeDiff, Nat.reduceLT, Int.reduceLE, Int.reduceLT, Int.reduceToNat, Int.reduceAdd, Int.reduceEq, Int.reduceNeg, AH.put_ne]) | refine am_block ?_)
      refine am_ret ?_
      simp -implicitDefEqProofs (disch := omega) only [go_sem, eq_self, decide_true, decide_false, Nat.reduceBEq, Nat.reduceAdd, Nat.reduceSub, Nat.reduceMul, Nat.reduceEqDiff, Nat.reduceLeDiff, Nat.reduceLT, Int.reduceLE, Int.reduceLT, Int.reduceToNat, Int.reduceAdd, Int.reduceEq, Int.reduceNeg, AH.put_ne]
      rw [if_pos hc] at hg
      rw [hg]
    · refine am_skip ?_
      simp -implicitDefEqProofs (disch := omega) only [go_sem, eq_self, decide_true, decide_false, Nat.reduceBEq, Nat.reduceAdd, Nat.reduceSub, Nat.reduceMul, Nat.reduceEqDiff, Nat.reduceLeDiff, Nat.reduceLT, Int.reduceLE, Int.reduceLT, Int.reduceToNat, Int.reduceAdd, Int.reduceEq, Int.reduceNeg, AH.put_ne]
      repeat (first | refine am_seq ?_ | (refine am_reg ?_; simp -implicitDefEqProofs (disch := omega) only [go_sem, eq_self, decide_true, decide_false, Nat.reduceBEq, Nat.reduceAdd, Nat.reduceSub, Nat.reduceMul, Nat.reduceEqDiff, Nat.reduceLeDiff, Nat.reduceLT, Int.reduceLE, Int.reduceLT, Int.reduceToNat, Int.reduceAdd, Int.reduceEq, Int.reduceNeg, AH.put_ne, wrap_id]) | (refine am_drw ?_; simp -implicitDefEqProofs (disch := omega) only [go_sem, eq_self, decide_true, decide_false, Nat.reduceBEq, Nat.reduceAdd, Nat.reduceSub, Nat.reduceMul, Nat.reduceEqDiff, Nat.reduceLeDiff, Nat.reduceLT, Int.reduceLE, Int.reduceLT, Int.reduceToNat, Int.reduceAdd, Int.reduceEq, Int.reduceNeg, AH.put_ne, wrap_id]) | refine am_block ?_)
      rw [if_neg hc] at hg
      exact ⟨n - 1, by omega, i + 1, by omega, by simp, by rw [hg]; rfl⟩
  · refine am_exit ?_
    simp -implicitDefEqProofs (disch := omega) only [go_sem, eq_self, decide_true, decide_false, Nat.reduceBEq, Nat.reduceAdd, Nat.reduceSub, Nat.reduceMul, Nat.reduceEqDiff, Nat.reduceLeDiff, Nat.reduceLT, Int.reduceLE, Int.reduceLT, Int.reduceToNat, Int.reduceAdd, Int.reduceEq, Int.reduceNeg, AH.put_ne]
    repeat (first | refine am_seq ?_ | (refine am_reg ?_; simp -implicitDefEqProofs (disch := omega) only [go_sem, eq_self, decide_true, decide_false, Nat.reduceBEq, Nat.reduceAdd, Nat.reduceSub, Nat.reduceMul, Nat.reduceEqDiff, Nat.reduceLeDiff, Nat.reduceLT, Int.reduceLE, Int.reduceLT, Int.reduceToNat, Int.reduceAdd, Int.reduceEq, Int.reduceNeg, AH.put_ne]) | (refine am_drw ?_; simp -implicitDefEqProofs (disch := omega) only [go_sem, eq_self, decide_true, decide_false, Nat.reduceBEq, Nat.reduceAdd, Nat.reduceSub, Nat.reduceMul, Nat.reduceEqDiff, Nat.reduceLeDiff, Nat.reduceLT, Int.reduceLE, Int.reduceLT, Int.reduceToNat, Int.reduceAdd, Int.reduceEq, Int.reduceNeg, AH.put_ne]) | refine am_block ?_)
    refine am_ret ?_
    simp -implicitDefEqProofs (disch := omega) only [go_sem, eq_self, decide_true, decide_false, Nat.reduceBEq, Nat.reduceAdd, Nat.reduceSub, Nat.reduceMul, Nat.reduceEqDiff, Nat.reduceLeDiff, Nat.reduceLT, Int.reduceLE, Int.reduceLT, Int.reduceToNat, Int.reduceAdd, Int.reduceEq, Int.reduceNeg, AH.put_ne]
    rw [List.drop_eq_nil_of_le (by omega)] at hg
    rw [hg]; rfl
theorem index_int (l : List Int) (x : Int) (t : Tok) (hl : l.length < 4611686018427387904) (H : AH) : ACalls Tryz.prog 142 [.sl 1 (intsE l) t, .int .i64 x] H (fun o H' => o = .ret (.int .i64 (idx x l 0)) ∧ H' = H) := by
  refine acalls Tryz.func142 c142 r142 (by simp [Tryz.ntmps142]) ?_
  repeat (first | refine am_seq ?_ | (refine am_reg ?_; simp -implicitDefEqProofs (disch := omega) only [go_sem, eq_self, decide_true, decide_false, Nat.reduceBEq, Nat.reduceAdd, Nat.reduceSub, Nat.reduceMul, Nat.reduceEqDiff, Nat.reduceLeDiff, Nat.reduceLT, Int.reduceLE, Int.reduceLT, Int.reduceToNat, Int.reduceAdd, Int.reduceEq, Int.reduceNeg, AH.put_ne]) | (refine am_drw ?_; simp -implicitDefEqProofs (disch := omega) only [go_sem, eq_self, decide_true, decide_false, Nat.reduceBEq, Nat.reduceAdd, Nat.reduceSub, Nat.reduceMul, Nat.reduceEqDiff, Nat.reduceLeDiff, Nat.reduceLT, Int.reduceLE, Int.reduceLT, Int.reduceToNat, Int.reduceAdd, Int.reduceEq, Int.reduceNeg, AH.put_ne]) | refine am_block ?_)
  refine am_loop (fun n a H' => ∃ i : Nat, i + n = l.length ∧ a = [(0, .sl 1 (intsE l) t), (1, .int .i64 x), (7, .int .i64 l.length), (8, .int .i64 i)] ∧ H' = H ∧ idx x l 0 = idx x (l.drop i) i) ?_ l.length ⟨0, by simp, by simp, rfl, by simp⟩
  rintro n a H' ⟨i, hi, rfl, rfl, hg⟩
  repeat (first | refine am_seq ?_ | (refine am_reg ?_; simp -implicitDefEqProofs (disch := omega) only [go_sem, eq_self, decide_true, decide_false, Nat.reduceBEq, Nat.reduceAdd, Nat.reduceSub, Nat.reduceMul, Nat.reduceEqDiff, Nat.reduceLeDiff, Nat.reduceLT, Int.reduceLE, Int.reduceLT, Int.reduceToNat, Int.reduceAdd, Int.reduceEq, Int.reduceNeg, AH.put_ne]) | (refine am_drw ?_; simp -implicitDefEqProofs (disch := omega) only [go_sem, eq_self, decide_true, decide_false, Nat.reduceBEq, Nat.reduceAdd, Nat.reduceSub, Nat.reduceMul, Nat.reduceEqDiff, Nat.reduceLeDiff, Nat.reduceLT, Int.reduceLE, Int.reduceLT, Int.reduceToNat, Int.reduceAdd, Int.reduceEq, Int.reduceNeg, AH.put_ne]) | refine am_block ?_)
  refine am_cond rfl (fun hc => ?_) (fun hc => ?_) <;> simp -implicitDefEqProofs (disch := omega) only [go_sem, eq_self, decide_true, decide_false, Nat.reduceBEq, Nat.reduceAdd, Nat.reduceSub, Nat.reduceMul, Nat.reduceEqDiff, Nat.reduceLeDiff, Nat.reduceLT, Int.reduceLE, Int.reduceLT, Int.reduceToNat, Int.reduceAdd, Int.reduceEq, Int.reduceNeg, AH.put_ne] at hc
  · have hlt : i < l.length := by omega
    rw [List.drop_eq_getElem_cons hlt, idx] at hg
    refine am_skip ?_
    simp -implicitDefEqProofs (disch := omega) only [go_sem, eq_self, decide_true, decide_false, Nat.reduceBEq, Nat.reduceAdd, Nat.reduceSub, Nat.reduceMul, Nat.reduceEqDiff, Nat.reduceLeDiff, Nat.reduceLT, Int.reduceLE, Int.reduceLT, Int.reduceToNat, Int.reduceAdd, Int.reduceEq, Int.reduceNeg, AH.put_ne]
    repeat (first | refine am_seq ?_ | (refine am_reg ?_; simp -implicitDefEqProofs (disch := omega) only [go_sem, eq_self, decide_true, decide_false, Nat.reduceBEq, Nat.reduceAdd, Nat.reduceSub, Nat.reduceMul, Nat.reduceEqDiff, Nat.reduceLeDiff, Nat.reduceLT, Int.reduceLE, Int.reduceLT, Int.reduceToNat, Int.reduceAdd, Int.reduceEq, Int.reduceNeg, AH.put_ne, get_of_lt hlt]) | (refine am_drw ?_; simp -implicitDefEqProofs (disch := omega) only [go_sem, eq_self, decide_true, decide_false, Nat.reduceBEq, Nat.reduceAdd, Nat.reduceSub, Nat.reduceMul, Nat.reduceEqDiff, Nat.reduceLeDiff, Nat.reduceLT, Int.reduceLE, Int.reduceLT, Int.reduceToNat, Int.reduceAdd, Int.reduceEq, Int.reduceNeg, AH.put_ne, get_of_lt hlt]) | refine am_block ?_)
    refine am_cond rfl (fun hc => ?_) (fun hc => ?_) <;> simp -implicitDefEqProofs (disch := omega) only [go_sem, eq_self, decide_true, decide_false, Nat.reduceBEq, Nat.reduceAdd, Nat.reduceSub, Nat.reduceMul, Nat.reduceEqDiff, Nat.reduceLeDiff, Nat.reduceLT, Int.reduceLE, Int.reduceLT, Int.reduceToNat, Int.reduceAdd, Int.reduceEq, Int.reduceNeg, AH.put_ne] at hc
    · repeat (first | refine am_seq ?_ | (refine am_reg ?_; simp -implicitDefEqProofs (disch := omega) only [go_sem, eq_self, decide_true, decide_false, Nat.reduceBEq, Nat.reduceAdd, Nat.reduceSub, Nat.reduceMul, Nat.reduceEqDiff, Nat.reduceLeDiff, Nat.reduceLT, Int.reduceLE, Int.reduceLT, Int.reduceToNat, Int.reduceAdd, Int.reduceEq, Int.reduceNeg, AH.put_ne]) | (refine am_drw ?_; simp -implicitDefEqProofs (disch := omega) only [go_sem, eq_self, decide_true, decide_false, Nat.reduceBEq, Nat.reduceAdd, Nat.reduceSub, Nat.reduceMul, Nat.reduceEqDiff, Nat.reduceLeDiff, Nat.reduceLT, Int.reduceLE, Int.reduceLT, Int.reduceToNat, Int.reduceAdd, Int.reduceEq, Int.reduceNeg, AH.put_ne]) | refine am_block ?_)
      refine am_ret ?_
      simp -implicitDefEqProofs (disch := omega) only [go_sem, eq_self, decide_true, decide_false, Nat.reduceBEq, Nat.reduceAdd, Nat.reduceSub, Nat.reduceMul, Nat.reduceEqDiff, Nat.reduceLeDiff, Nat.reduceLT, Int.reduceLE, Int.reduceLT, Int.reduceToNat, Int.reduceAdd, Int.reduceEq, Int.reduceNeg, AH.put_ne]
      rw [if_pos hc] at hg
      rw [hg]
    · refine am_skip ?_
      simp -implicitDefEqProofs (disch := omega) only [go_sem, eq_self, decide_true, decide_false, Nat.reduceBEq, Nat.reduceAdd, Nat.reduceSub, Nat.reduceMul, Nat.reduceEqDiff, Nat.reduceLeDiff, Nat.reduceLT, Int.reduceLE, Int.reduceLT, Int.reduceToNat, Int.reduceAdd, Int.reduceEq, Int.reduceNeg, AH.put_ne]
      repeat (first | refine am_seq ?_ | (refine am_reg ?_; simp -implicitDefEqProofs (disch := omega) only [go_sem, eq_self, decide_true, decide_false, Nat.reduceBEq, Nat.reduceAdd, Nat.reduceSub, Nat.reduceMul, Nat.reduceEqDiff, Nat.reduceLeDiff, Nat.reduceLT, Int.reduceLE, Int.reduceLT, Int.reduceToNat, Int.reduceAdd, Int.reduceEq, Int.reduceNeg, AH.put_ne, wrap_id]) | (refine am_drw ?_; simp -implicitDefEqProofs (disch := omega) only [go_sem, eq_self, decide_true, decide_false, Nat.reduceBEq, Nat.reduceAdd, Nat.reduceSub, Nat.reduceMul, Nat.reduceEqDiff, Nat.reduceLeDiff, Nat.reduceLT, Int.reduceLE, Int.reduceLT, Int.reduceToNat, Int.reduceAdd, Int.reduceEq, Int.reduceNeg, AH.put_ne, wrap_id]) | refine am_block ?_)
      rw [if_neg hc] at hg
      exact ⟨n - 1, by omega, i + 1, by omega, by simp, by rw [hg]; rfl⟩
  · refine am_exit ?_
    simp -implicitDefEqProofs (disch := omega) only [go_sem, eq_self, decide_true, decide_false, Nat.reduceBEq, Nat.reduceAdd, Nat.reduceSub, Nat.reduceMul, Nat.reduceEqDiff, Nat.reduceLeDiff, Nat.reduceLT, Int.reduceLE, Int.reduceLT, Int.reduceToNat, Int.reduceAdd, Int.reduceEq, Int.reduceNeg, AH.put_ne]
    repeat (first | refine am_seq ?_ | (refine am_reg ?_; simp -implicitDefEqProofs (disch := omega) only [go_sem, eq_self, decide_true, decide_false, Nat.reduceBEq, Nat.reduceAdd, Nat.reduceSub, Nat.reduceMul, Nat.reduceEqDiff, Nat.reduceLeDiff, Nat.reduceLT, Int.reduceLE, Int.reduceLT, Int.reduceToNat, Int.reduceAdd, Int.reduceEq, Int.reduceNeg, AH.put_ne]) | (refine am_drw ?_; simp -implicitDefEqProofs (disch := omega) only [go_sem, eq_self, decide_true, decide_false, Nat.reduceBEq, Nat.reduceAdd, Nat.reduceSub, Nat.reduceMul, Nat.reduceEqDiff, Nat.reduceLeDiff, Nat.reduceLT, Int.reduceLE, Int.reduceLT, Int.reduceToNat, Int.reduceAdd, Int.reduceEq, Int.reduceNeg, AH.put_ne]) | refine am_block ?_)
    refine am_ret ?_
    simp -implicitDefEqProofs (disch := omega) only [go_sem, eq_self, decide_true, decide_false, Nat.reduceBEq, Nat.reduceAdd, Nat.reduceSub, Nat.reduceMul, Nat.reduceEqDiff, Nat.reduceLeDiff, Nat.reduceLT, Int.reduceLE, Int.reduceLT, Int.reduceToNat, Int.reduceAdd, Int.reduceEq, Int.reduceNeg, AH.put_ne]
    rw [List.drop_eq_nil_of_le (by omega)] at hg
    rw [hg]; rfl
theorem contains_str (l : List (List UInt8)) (x : List UInt8) (t : Tok) (hl : l.length < 4611686018427387904) (H : AH) : ACalls Tryz.prog 115 [.sl 1 (strsE l) t, .str x] H (fun o H' => o = .ret (.bool (decide (x ∈ l))) ∧ H' = H) := by
  refine acalls Tryz.func115 c115 r115 (by simp [Tryz.ntmps115]) ?_
  repeat (first | refine am_seq ?_ | (refine am_reg ?_; simp -implicitDefEqProofs (disch := omega) only [go_sem, eq_self, decide_true, decide_false, Nat.reduceBEq, Nat.reduceAdd, Nat.reduceSub, Nat.reduceMul, Nat.reduceEqDiff, Nat.reduceLeDiff, Nat.reduceLT, Int.reduceLE, Int.reduceLT, Int.reduceToNat, Int.reduceAdd, Int.reduceEq, Int.reduceNeg, AH.put_ne]) | (refine am_drw ?_; simp -implicitDefEqProofs (disch := omega) only [go_sem, eq_self, decide_true, decide_false, Nat.reduceBEq, Nat.reduceAdd, Nat.reduceSub, Nat.reduceMul, Nat.reduceEqDiff, Nat.reduceLeDiff, Nat.reduceLT, Int.reduceLE, Int.reduceLT, Int.reduceToNat, Int.reduceAdd, Int.reduceEq, Int.reduceNeg, AH.put_ne]) | refine am_block ?_)
  refine call_of (index_str l x t hl) ?_
  simp -implicitDefEqProofs (disch := omega) only [go_sem, eq_self, decide_true, decide_false, Nat.reduceBEq, Nat.reduceAdd, Nat.reduceSub, Nat.reduceMul, Nat.reduceEqDiff, Nat.reduceLeDiff, Nat.reduceLT, Int.reduceLE, Int.reduceLT, Int.reduceToNat, Int.reduceAdd, Int.reduceEq, Int.reduceNeg, AH.put_ne, ge_iff_le, idx_mem]
  refine am_ret ?_
  simp -implicitDefEqProofs (disch := omega) only [go_sem, eq_self, decide_true, decide_false, Nat.reduceBEq, Nat.reduceAdd, Nat.reduceSub, Nat.reduceMul, Nat.reduceEqDiff, Nat.reduceLeDiff, Nat.reduceLT, Int.reduceLE, Int.reduceLT, Int.reduceToNat, Int.reduceAdd, Int.reduceEq, Int.reduceNeg, AH.put_ne]
theorem contains_int (l : List Int) (x : Int) (t : Tok) (hl : l.length < 4611686018427387904) (H : AH) : ACalls Tryz.prog 114 [.sl 1 (intsE l) t, .int .i64 x] H (fun o H' => o = .ret (.bool (decide (x ∈ l))) ∧ H' = H) := by
  refine acalls Tryz.func114 c114 r114 (by simp [Tryz.ntmps114]) ?_
  repeat (first | refine am_seq ?_ | (refine am_reg ?_; simp -implicitDefEqProofs (disch := omega) only [go_sem, eq_self, decide_true, decide_false, Nat.reduceBEq, Nat.reduceAdd, Nat.reduceSub, Nat.reduceMul, Nat.reduceEqDiff, Nat.reduceLeDiff, Nat.reduceLT, Int.reduceLE, Int.reduceLT, Int.reduceToNat, Int.reduceAdd, Int.reduceEq, Int.reduceNeg, AH.put_ne]) | (refine am_drw ?_; simp -implicitDefEqProofs (disch := omega) only [go_sem, eq_self, decide_true, decide_false, Nat.reduceBEq, Nat.reduceAdd, Nat.reduceSub, Nat.reduceMul, Nat.reduceEqDiff, Nat.reduceLeDiff, Nat.reduceLT, Int.reduceLE, Int.reduceLT, Int.reduceToNat, Int.reduceAdd, Int.reduceEq, Int.reduceNeg, AH.put_ne]) | refine am_block ?_)
  refine call_of (index_int l x t hl) ?_
  simp -implicitDefEqProofs (disch := omega) only [go_sem, eq_self, decide_true, decide_false, Nat.reduceBEq, Nat.reduceAdd, Nat.reduceSub, Nat.reduceMul, Nat.reduceEqDiff, Nat.reduceLeDiff, Nat.reduceLT, Int.reduceLE, Int.reduceLT, Int.reduceToNat, Int.reduceAdd, Int.reduceEq, Int.reduceNeg, AH.put_ne, ge_iff_le, idx_mem]
  refine am_ret ?_
  simp -implicitDefEqProofs (disch := omega) only [go_sem, eq_self, decide_true, decide_false, Nat.reduceBEq, Nat.reduceAdd, Nat.reduceSub, Nat.reduceMul, Nat.reduceEqDiff, Nat.reduceLeDiff, Nat.reduceLT, Int.reduceLE, Int.reduceLT, Int.reduceToNat, Int.reduceAdd, Int.reduceEq, Int.reduceNeg, AH.put_ne]
end Go.Proofs.YtcfeafpjkcmdiaaGreatDoor.Hel
