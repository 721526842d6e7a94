/- Of the walks of this seat: contracts of functions of the given program, proved over the abstract values of the texts Vm. Conditions: as each theorem says. -/
import Derived.Test.YtmomncmddejcoaaA2
set_option linter.unusedVariables false
set_option linter.unusedSimpArgs false
namespace Go.Proofs.Ytmomncmddejcoaa
open Go.Vm
attribute [local go_sem] strsE_get strsE_length intsE_get intsE_length Int.toNat_natCast Option.map_some Int.natCast_nonneg decide_eq_true_eq decide_eq_false_iff_not
/- flange/kind.Named -/
abbrev k60_0 : MC :=
  .cond (.t 31) ((.seq (.reg [
     ⟨(some 2), none, .val (.mv (.c (.bool false)))⟩] [2]) .ret)) (.skip)

abbrev k60_1 : MC :=
  (.seq (.reg [
    ⟨(some 13), none, .val (.mv (.t 4))⟩,
    ⟨(some 14), none, .val (.bin .geq .num (.t 13) (.c (.int .u8 97)))⟩,
    ⟨(some 15), none, .val (.mv (.t 14))⟩,
    ⟨(some 16), (some (15, true)), .val (.mv (.t 4))⟩,
    ⟨(some 17), (some (15, true)), .val (.bin .leq .num (.t 16) (.c (.int .u8 122)))⟩,
    ⟨(some 18), none, .val (.pick (.t 15) (.t 17) (.c (.bool false)))⟩,
    ⟨(some 19), none, .val (.mv (.t 18))⟩,
    ⟨(some 20), (some (19, false)), .val (.mv (.t 3))⟩,
    ⟨(some 21), (some (19, false)), .val (.bin .gtr .num (.t 20) (.c (.int .i64 0)))⟩,
    ⟨(some 22), (some (19, false)), .val (.mv (.t 21))⟩,
    ⟨(some 23), (some (22, true)), .val (.mv (.t 4))⟩,
    ⟨(some 24), (some (22, true)), .val (.bin .geq .num (.t 23) (.c (.int .u8 48)))⟩,
    ⟨(some 25), (some (19, false)), .val (.pick (.t 22) (.t 24) (.c (.bool false)))⟩,
    ⟨(some 26), (some (19, false)), .val (.mv (.t 25))⟩,
    ⟨(some 27), (some (26, true)), .val (.mv (.t 4))⟩,
    ⟨(some 28), (some (26, true)), .val (.bin .leq .num (.t 27) (.c (.int .u8 57)))⟩,
    ⟨(some 29), (some (19, false)), .val (.pick (.t 26) (.t 28) (.c (.bool false)))⟩,
    ⟨(some 30), none, .val (.pick (.t 19) (.c (.bool true)) (.t 29))⟩,
    ⟨(some 31), none, .val (.not (.t 30))⟩] [0, 6, 7, 31]) k60_0)

abbrev k60_2 : MC :=
  (.seq (.reg [
    ⟨(some 10), none, .val (.mv (.t 0))⟩,
    ⟨(some 11), none, .val (.mv (.t 3))⟩,
    ⟨(some 12), none, .val (.idx (.t 10) (.t 11))⟩,
    ⟨(some 4), none, .val (.mv (.t 12))⟩] [0, 3, 4, 6, 7]) k60_1)

abbrev k60_3 : MC :=
  .reg [
    ⟨(some 32), none, .val (.bin .add .num (.t 7) (.c (.int .i64 1)))⟩,
    ⟨(some 7), none, .val (.mv (.t 32))⟩] [0, 6, 7]

abbrev k60_4 : MC :=
  (.seq (.block 1 ((.seq (.reg [
     ⟨(some 9), none, .val (.mv (.t 7))⟩,
     ⟨(some 3), none, .val (.mv (.t 9))⟩] [0, 3, 6, 7]) k60_2))) k60_3)

abbrev k60_5 : MC :=
  (.seq (.cond (.t 8) (.skip) (.exit 0)) k60_4)

abbrev k60_6 : MC :=
  (.seq (.reg [
    ⟨(some 8), none, .val (.bin .lss .num (.t 7) (.t 6))⟩] [0, 6, 7, 8]) k60_5)

abbrev k60_7 : MC :=
  .block 0 (.loop k60_6)

abbrev k60_8 : MC :=
  (.seq (.reg [
    ⟨(some 33), none, .val (.mv (.t 0))⟩,
    ⟨(some 34), none, .val (.bin .neq .num (.t 33) (.c (.str [])))⟩,
    ⟨(some 35), none, .val (.mv (.t 34))⟩,
    ⟨(some 36), (some (35, true)), .val (.mv (.t 0))⟩,
    ⟨(some 37), (some (35, true)), .val (.len .str (.t 36))⟩,
    ⟨(some 38), (some (35, true)), .val (.bin .leq .num (.t 37) (.c (.int .i64 20)))⟩,
    ⟨(some 39), none, .val (.pick (.t 35) (.t 38) (.c (.bool false)))⟩,
    ⟨(some 2), none, .val (.mv (.t 39))⟩] [2]) .ret)

abbrev k60_9 : MC :=
  (.seq ((.seq (.reg [
    ⟨(some 5), none, .val (.mv (.t 0))⟩,
    ⟨(some 6), none, .val (.len .str (.t 5))⟩,
    ⟨(some 7), none, .val (.mv (.c (.int .i64 0)))⟩] [0, 6, 7]) k60_7)) k60_8)
abbrev k60 : MC :=
  (.seq (.reg [
    ⟨(some 2), none, .val (.mv (.c (.bool false)))⟩] [0]) k60_9)
theorem c60 : Try.f60.body.bind (mcOf Try.prog (List.contains [] ·) (List.getD [([], [0]), ([], [0, 6, 7]), ([], [0, 6, 7, 8]), ([], [0, 3, 6, 7]), ([], [0, 3, 4, 6, 7]), ([], [0, 6, 7, 31]), ([], [2]), ([], [0, 6, 7]), ([], [2])] · ([], [])) 40) = some k60 := by kernel_rfl
theorem r60 : rvsOf Try.prog Try.f60.results.toList = some [.tmp 2] := by kernel_rfl

/- flange/flangeref17.lettered -/
abbrev k63_0 : MC :=
  (.seq (.reg [
    ⟨(some 5), none, .val (.mv (.t 0))⟩,
    ⟨(some 6), none, .val (.bin .geq .num (.t 5) (.c (.int .u8 97)))⟩,
    ⟨(some 7), none, .val (.mv (.t 6))⟩,
    ⟨(some 8), (some (7, true)), .val (.mv (.t 0))⟩,
    ⟨(some 9), (some (7, true)), .val (.bin .leq .num (.t 8) (.c (.int .u8 122)))⟩,
    ⟨(some 10), none, .val (.pick (.t 7) (.t 9) (.c (.bool false)))⟩,
    ⟨(some 11), none, .val (.mv (.t 10))⟩,
    ⟨(some 12), (some (11, false)), .val (.mv (.t 1))⟩,
    ⟨(some 13), (some (11, false)), .val (.bin .gtr .num (.t 12) (.c (.int .i64 0)))⟩,
    ⟨(some 14), (some (11, false)), .val (.mv (.t 13))⟩,
    ⟨(some 15), (some (14, true)), .val (.mv (.t 0))⟩,
    ⟨(some 16), (some (14, true)), .val (.bin .geq .num (.t 15) (.c (.int .u8 48)))⟩,
    ⟨(some 17), (some (11, false)), .val (.pick (.t 14) (.t 16) (.c (.bool false)))⟩,
    ⟨(some 18), (some (11, false)), .val (.mv (.t 17))⟩,
    ⟨(some 19), (some (18, true)), .val (.mv (.t 0))⟩,
    ⟨(some 20), (some (18, true)), .val (.bin .leq .num (.t 19) (.c (.int .u8 57)))⟩,
    ⟨(some 21), (some (11, false)), .val (.pick (.t 18) (.t 20) (.c (.bool false)))⟩,
    ⟨(some 22), none, .val (.pick (.t 11) (.c (.bool true)) (.t 21))⟩,
    ⟨(some 4), none, .val (.mv (.t 22))⟩] [4]) .ret)
abbrev k63 : MC :=
  (.seq (.reg [
    ⟨(some 4), none, .val (.mv (.c (.bool false)))⟩] [0, 1]) k63_0)
theorem c63 : Try.f63.body.bind (mcOf Try.prog (List.contains [] ·) (List.getD [([], [0, 1]), ([], [4])] · ([], [])) 23) = some k63 := by kernel_rfl
theorem r63 : rvsOf Try.prog Try.f63.results.toList = some [.tmp 4] := by kernel_rfl

/- flange/flangeref17.Named -/
abbrev k39_0 : MC :=
  .cond (.t 7) (.skip) (.exit 0)

abbrev k39_1 : MC :=
  .cond (.t 15) ((.seq (.reg [
     ⟨(some 2), none, .val (.mv (.c (.bool false)))⟩] [2]) .ret)) (.skip)

abbrev k39_2 : MC :=
  .reg [
    ⟨(some 8), none, .val (.mv (.t 3))⟩,
    ⟨(some 9), none, .val (.bin .add .num (.t 8) (.c (.int .i64 1)))⟩,
    ⟨(some 3), none, .val (.mv (.t 9))⟩] [0, 3]

abbrev k39_3 : MC :=
  (.seq (.block 1 ((.seq (.reg [
     ⟨(some 10), none, .val (.mv (.t 0))⟩,
     ⟨(some 11), none, .val (.mv (.t 3))⟩,
     ⟨(some 12), none, .val (.idx (.t 10) (.t 11))⟩,
     ⟨(some 13), none, .val (.mv (.t 3))⟩,
     ⟨(some 14), none, .call 63 [(.t 12), (.t 13)]⟩,
     ⟨(some 15), none, .val (.not (.t 14))⟩] [0, 3, 15]) k39_1))) k39_2)

abbrev k39_4 : MC :=
  (.seq ((.seq (.reg [
    ⟨(some 4), none, .val (.mv (.t 3))⟩,
    ⟨(some 5), none, .val (.mv (.t 0))⟩,
    ⟨(some 6), none, .val (.len .str (.t 5))⟩,
    ⟨(some 7), none, .val (.bin .lss .num (.t 4) (.t 6))⟩] [0, 3, 7]) k39_0)) k39_3)

abbrev k39_5 : MC :=
  .block 0 (.loop k39_4)

abbrev k39_6 : MC :=
  (.seq (.reg [
    ⟨(some 16), none, .val (.mv (.t 0))⟩,
    ⟨(some 17), none, .val (.len .str (.t 16))⟩,
    ⟨(some 18), none, .val (.bin .gtr .num (.t 17) (.c (.int .i64 0)))⟩,
    ⟨(some 19), none, .val (.mv (.t 18))⟩,
    ⟨(some 20), (some (19, true)), .val (.mv (.t 0))⟩,
    ⟨(some 21), (some (19, true)), .val (.len .str (.t 20))⟩,
    ⟨(some 22), (some (19, true)), .val (.bin .leq .num (.t 21) (.c (.int .i64 20)))⟩,
    ⟨(some 23), none, .val (.pick (.t 19) (.t 22) (.c (.bool false)))⟩,
    ⟨(some 2), none, .val (.mv (.t 23))⟩] [2]) .ret)

abbrev k39_7 : MC :=
  (.seq ((.seq (.reg [
    ⟨(some 3), none, .val (.mv (.c (.int .i64 0)))⟩] [0, 3]) k39_5)) k39_6)
abbrev k39 : MC :=
  (.seq (.reg [
    ⟨(some 2), none, .val (.mv (.c (.bool false)))⟩] [0]) k39_7)
theorem c39 : Try.f39.body.bind (mcOf Try.prog (List.contains [] ·) (List.getD [([], [0]), ([], [0, 3]), ([], [0, 3, 7]), ([], [0, 3]), ([], [0, 3, 15]), ([], [2]), ([], [2])] · ([], [])) 24) = some k39 := by kernel_rfl
theorem r39 : rvsOf Try.prog Try.f39.results.toList = some [.tmp 2] := by kernel_rfl

/- flange/hello.Right$1 -/
abbrev k59_0 : MC :=
  (.seq (.reg [
    ⟨(some 3), none, .val (.mv (.t 0))⟩,
    ⟨(some 4), none, .call 60 [(.t 3)]⟩,
    ⟨(some 5), none, .val (.not (.t 4))⟩,
    ⟨(some 2), none, .val (.mv (.t 5))⟩] [2]) .ret)
abbrev k59 : MC :=
  (.seq (.reg [
    ⟨(some 2), none, .val (.mv (.c (.bool false)))⟩] [0]) k59_0)
theorem c59 : Try.f59.body.bind (mcOf Try.prog (List.contains [] ·) (List.getD [([], [0]), ([], [2])] · ([], [])) 6) = some k59 := by kernel_rfl
theorem r59 : rvsOf Try.prog Try.f59.results.toList = some [.tmp 2] := by kernel_rfl

/- slices.IndexFunc[[]string,string] -/
abbrev k68_0 : MC :=
  .cond (.t 16) ((.seq (.reg [
     ⟨(some 17), none, .val (.mv (.t 5))⟩,
     ⟨(some 4), none, .val (.mv (.t 17))⟩] [4]) .ret)) (.skip)

abbrev k68_1 : MC :=
  (.seq (.reg [
    ⟨(some 11), none, .val (.mv (.t 1))⟩,
    ⟨(some 12), none, .val (.mv (.t 0))⟩,
    ⟨(some 13), none, .val (.mv (.t 5))⟩,
    ⟨(some 14), none, .val (.iaddr 1 (.t 12) (.t 13))⟩,
    ⟨(some 15), none, .val (.load false 1 (.t 14))⟩,
    ⟨(some 16), none, .callv (.t 11) [(.t 15)]⟩] [0, 1, 5, 7, 8, 16]) k68_0)

abbrev k68_2 : MC :=
  .reg [
    ⟨(some 18), none, .val (.bin .add .num (.t 8) (.c (.int .i64 1)))⟩,
    ⟨(some 8), none, .val (.mv (.t 18))⟩] [0, 1, 7, 8]

abbrev k68_3 : MC :=
  (.seq (.block 1 ((.seq (.reg [
     ⟨(some 10), none, .val (.mv (.t 8))⟩,
     ⟨(some 5), none, .val (.mv (.t 10))⟩] [0, 1, 5, 7, 8]) k68_1))) k68_2)

abbrev k68_4 : MC :=
  (.seq (.cond (.t 9) (.skip) (.exit 0)) k68_3)

abbrev k68_5 : MC :=
  (.seq (.reg [
    ⟨(some 9), none, .val (.bin .lss .num (.t 8) (.t 7))⟩] [0, 1, 7, 8, 9]) k68_4)

abbrev k68_6 : MC :=
  .block 0 (.loop k68_5)

abbrev k68_7 : MC :=
  (.seq (.reg [
    ⟨(some 4), none, .val (.mv (.c (.int .i64 (-1))))⟩] [4]) .ret)

abbrev k68_8 : MC :=
  (.seq ((.seq (.reg [
    ⟨(some 6), none, .val (.mv (.t 0))⟩,
    ⟨(some 7), none, .val (.len .sl (.t 6))⟩,
    ⟨(some 8), none, .val (.mv (.c (.int .i64 0)))⟩] [0, 1, 7, 8]) k68_6)) k68_7)
abbrev k68 : MC :=
  (.seq (.reg [
    ⟨(some 4), none, .val (.mv (.c (.int .i64 0)))⟩] [0, 1]) k68_8)
theorem c68 : Try.f68.body.bind (mcOf Try.prog (List.contains [] ·) (List.getD [([], [0, 1]), ([], [0, 1, 7, 8]), ([], [0, 1, 7, 8, 9]), ([], [0, 1, 5, 7, 8]), ([], [0, 1, 5, 7, 8, 16]), ([], [4]), ([], [0, 1, 7, 8]), ([], [4])] · ([], [])) 19) = some k68 := by kernel_rfl
theorem r68 : rvsOf Try.prog Try.f68.results.toList = some [.tmp 4] := by kernel_rfl

/- slices.ContainsFunc[[]string,string] -/
abbrev k58_0 : MC :=
  (.seq (.reg [
    ⟨(some 5), none, .val (.mv (.t 0))⟩,
    ⟨(some 6), none, .val (.mv (.t 1))⟩,
    ⟨(some 7), none, .call 68 [(.t 5), (.t 6)]⟩,
    ⟨(some 8), none, .val (.bin .geq .num (.t 7) (.c (.int .i64 0)))⟩,
    ⟨(some 4), none, .val (.mv (.t 8))⟩] [4]) .ret)
abbrev k58 : MC :=
  (.seq (.reg [
    ⟨(some 4), none, .val (.mv (.c (.bool false)))⟩] [0, 1]) k58_0)
theorem c58 : Try.f58.body.bind (mcOf Try.prog (List.contains [] ·) (List.getD [([], [0, 1]), ([], [4])] · ([], [])) 9) = some k58 := by kernel_rfl
theorem r58 : rvsOf Try.prog Try.f58.results.toList = some [.tmp 4] := by kernel_rfl

/-- May a byte stand in a name, at a place? -/
def lett (c i : Int) : Bool := (decide (97 ≤ c) && decide (c ≤ 122)) || (decide (0 < i) && decide (48 ≤ c) && decide (c ≤ 57))
def letts : List UInt8 → Int → Bool
  | [], _ => true
  | c :: s, i => lett c.toNat i && letts s (i + 1)
def named (s : List UInt8) : Bool := letts s 0 && (decide (0 < s.length) && decide (s.length ≤ 20))
theorem lettered_calls (c i : Int) (H : AH) : ACalls Try.prog 63 [.int .u8 c, .int .i64 i] H (fun o H' => o = .ret (.bool (lett c i)) ∧ H' = H) := by
  refine acalls Try.func63 c63 r63 (by simp [Try.ntmps63]) ?_
  repeat (first | refine am_seq ?_ | (refine am_reg ?_; simp -implicitDefEqProofs (disch := omega) only [go_sem, eq_self, decide_true, decide_false, Nat.reduceBEq, Nat.reduceAdd, Nat.reduceSub, Nat.reduceMul, Nat.reduceEqDiff, Nat.reduceLeDiff, Nat.reduceLT, Int.reduceLE, Int.reduceLT, Int.reduceToNat, Int.reduceAdd, Int.reduceEq, Int.reduceNeg, AH.put_ne]) | (refine am_drw ?_; simp -implicitDefEqProofs (disch := omega) only [go_sem, eq_self, decide_true, decide_false, Nat.reduceBEq, Nat.reduceAdd, Nat.reduceSub, Nat.reduceMul, Nat.reduceEqDiff, Nat.reduceLeDiff, Nat.reduceLT, Int.reduceLE, Int.reduceLT, Int.reduceToNat, Int.reduceAdd, Int.reduceEq, Int.reduceNeg, AH.put_ne]) | refine am_block ?_)
  repeat' (first | (with_reducible refine gd_not (fun h => ?_) (fun h => ?_) <;> simp -implicitDefEqProofs (disch := omega) only [go_sem, eq_self, decide_true, decide_false, Nat.reduceBEq, Nat.reduceAdd, Nat.reduceSub, Nat.reduceMul, Nat.reduceEqDiff, Nat.reduceLeDiff, Nat.reduceLT, Int.reduceLE, Int.reduceLT, Int.reduceToNat, Int.reduceAdd, Int.reduceEq, Int.reduceNeg, AH.put_ne, h, true_and]) | (with_reducible refine gd_of (fun h => ?_) (fun h => ?_) <;> simp -implicitDefEqProofs (disch := omega) only [go_sem, eq_self, decide_true, decide_false, Nat.reduceBEq, Nat.reduceAdd, Nat.reduceSub, Nat.reduceMul, Nat.reduceEqDiff, Nat.reduceLeDiff, Nat.reduceLT, Int.reduceLE, Int.reduceLT, Int.reduceToNat, Int.reduceAdd, Int.reduceEq, Int.reduceNeg, AH.put_ne, h, true_and]) | (with_reducible refine gq_not (fun h => ?_) (fun h => ?_) <;> simp -implicitDefEqProofs (disch := omega) only [go_sem, eq_self, decide_true, decide_false, Nat.reduceBEq, Nat.reduceAdd, Nat.reduceSub, Nat.reduceMul, Nat.reduceEqDiff, Nat.reduceLeDiff, Nat.reduceLT, Int.reduceLE, Int.reduceLT, Int.reduceToNat, Int.reduceAdd, Int.reduceEq, Int.reduceNeg, AH.put_ne, h, true_and]) | (with_reducible refine gq_of (fun h => ?_) (fun h => ?_) <;> simp -implicitDefEqProofs (disch := omega) only [go_sem, eq_self, decide_true, decide_false, Nat.reduceBEq, Nat.reduceAdd, Nat.reduceSub, Nat.reduceMul, Nat.reduceEqDiff, Nat.reduceLeDiff, Nat.reduceLT, Int.reduceLE, Int.reduceLT, Int.reduceToNat, Int.reduceAdd, Int.reduceEq, Int.reduceNeg, AH.put_ne, h, true_and]) | (with_reducible refine pickB_of (fun h => ?_) (fun h => ?_) <;> simp -implicitDefEqProofs (disch := omega) only [go_sem, eq_self, decide_true, decide_false, Nat.reduceBEq, Nat.reduceAdd, Nat.reduceSub, Nat.reduceMul, Nat.reduceEqDiff, Nat.reduceLeDiff, Nat.reduceLT, Int.reduceLE, Int.reduceLT, Int.reduceToNat, Int.reduceAdd, Int.reduceEq, Int.reduceNeg, AH.put_ne, h, true_and]))
  all_goals (refine am_ret ?_; simp -implicitDefEqProofs (disch := omega) only [go_sem, eq_self, decide_true, decide_false, Nat.reduceBEq, Nat.reduceAdd, Nat.reduceSub, Nat.reduceMul, Nat.reduceEqDiff, Nat.reduceLeDiff, Nat.reduceLT, Int.reduceLE, Int.reduceLT, Int.reduceToNat, Int.reduceAdd, Int.reduceEq, Int.reduceNeg, AH.put_ne]; simp_all [lett] <;> omega)
theorem named_calls (s : List UInt8) (hl : s.length < 4611686018427387904) (H : AH) : ACalls Try.prog 60 [.str s] H (fun o H' => o = .ret (.bool (named s)) ∧ H' = H) := by
  refine acalls Try.func60 c60 r60 (by simp [Try.ntmps60]) ?_
  repeat (first | refine am_seq ?_ | (refine am_reg ?_; simp -implicitDefEqProofs (disch := omega) only [go_sem, eq_self, decide_true, decide_false, Nat.reduceBEq, Nat.reduceAdd, Nat.reduceSub, Nat.reduceMul, Nat.reduceEqDiff, Nat.reduceLeDiff, Nat.reduceLT, Int.reduceLE, Int.reduceLT, Int.reduceToNat, Int.reduceAdd, Int.reduceEq, Int.reduceNeg, AH.put_ne]) | (refine am_drw ?_; simp -implicitDefEqProofs (disch := omega) only [go_sem, eq_self, decide_true, decide_false, Nat.reduceBEq, Nat.reduceAdd, Nat.reduceSub, Nat.reduceMul, Nat.reduceEqDiff, Nat.reduceLeDiff, Nat.reduceLT, Int.reduceLE, Int.reduceLT, Int.reduceToNat, Int.reduceAdd, Int.reduceEq, Int.reduceNeg, AH.put_ne]) | refine am_block ?_)
  refine am_loop (fun n a H' => ∃ i : Nat, i + n = s.length ∧ a = [(0, .str s), (6, .int .i64 s.length), (7, .int .i64 i)] ∧ H' = H ∧ letts s 0 = letts (s.drop i) i) ?_ s.length ⟨0, by omega, by simp, rfl, by simp⟩
  rintro n a H' ⟨i, hi, rfl, rfl, hg⟩
  repeat (first | refine am_seq ?_ | (refine am_reg ?_; simp -implicitDefEqProofs (disch := omega) only [go_sem, eq_self, decide_true, decide_false, Nat.reduceBEq, Nat.reduceAdd, Nat.reduceSub, Nat.reduceMul, Nat.reduceEqDiff, Nat.reduceLeDiff, Nat.reduceLT, Int.reduceLE, Int.reduceLT, Int.reduceToNat, Int.reduceAdd, Int.reduceEq, Int.reduceNeg, AH.put_ne]) | (refine am_drw ?_; simp -implicitDefEqProofs (disch := omega) only [go_sem, eq_self, decide_true, decide_false, Nat.reduceBEq, Nat.reduceAdd, Nat.reduceSub, Nat.reduceMul, Nat.reduceEqDiff, Nat.reduceLeDiff, Nat.reduceLT, Int.reduceLE, Int.reduceLT, Int.reduceToNat, Int.reduceAdd, Int.reduceEq, Int.reduceNeg, AH.put_ne]) | refine am_block ?_)
  refine am_cond rfl (fun hc => ?_) (fun hc => ?_) <;> (try simp -implicitDefEqProofs (disch := omega) only [go_sem, eq_self, decide_true, decide_false, Nat.reduceBEq, Nat.reduceAdd, Nat.reduceSub, Nat.reduceMul, Nat.reduceEqDiff, Nat.reduceLeDiff, Nat.reduceLT, Int.reduceLE, Int.reduceLT, Int.reduceToNat, Int.reduceAdd, Int.reduceEq, Int.reduceNeg, AH.put_ne] at hc)
  · have hlt : i < s.length := by omega
    rw [List.drop_eq_getElem_cons hlt, letts] at hg
    refine am_skip ?_
    simp -implicitDefEqProofs (disch := omega) only [go_sem, eq_self, decide_true, decide_false, Nat.reduceBEq, Nat.reduceAdd, Nat.reduceSub, Nat.reduceMul, Nat.reduceEqDiff, Nat.reduceLeDiff, Nat.reduceLT, Int.reduceLE, Int.reduceLT, Int.reduceToNat, Int.reduceAdd, Int.reduceEq, Int.reduceNeg, AH.put_ne]
    repeat (first | refine am_seq ?_ | (refine am_reg ?_; simp -implicitDefEqProofs (disch := omega) only [go_sem, eq_self, decide_true, decide_false, Nat.reduceBEq, Nat.reduceAdd, Nat.reduceSub, Nat.reduceMul, Nat.reduceEqDiff, Nat.reduceLeDiff, Nat.reduceLT, Int.reduceLE, Int.reduceLT, Int.reduceToNat, Int.reduceAdd, Int.reduceEq, Int.reduceNeg, AH.put_ne, get_of_lt hlt]) | (refine am_drw ?_; simp -implicitDefEqProofs (disch := omega) only [go_sem, eq_self, decide_true, decide_false, Nat.reduceBEq, Nat.reduceAdd, Nat.reduceSub, Nat.reduceMul, Nat.reduceEqDiff, Nat.reduceLeDiff, Nat.reduceLT, Int.reduceLE, Int.reduceLT, Int.reduceToNat, Int.reduceAdd, Int.reduceEq, Int.reduceNeg, AH.put_ne, get_of_lt hlt]) | refine am_block ?_)
    have hx : ∀ b : Bool, b = (!lett ↑s[i].toNat ↑i) → AM Try.prog Try.f60.ntmps k60_0
      (BQ 1
        (SQ Try.prog Try.f60.ntmps k60_3
          (LQ
            (fun n a H'_1 =>
              ∃ i : Nat,
                i + n = s.length ∧
                  a = [(0, V.str s), (6, V.int IntKind.i64 ↑s.length), (7, V.int IntKind.i64 ↑i)] ∧
                    H'_1 = H' ∧ letts s 0 = letts (List.drop i s) ↑i)
            n
            (BQ 0
              (SQ Try.prog Try.f60.ntmps k60_8
                (Body [RV.tmp 2] fun o H'_1 => o = Out.ret (V.bool (named s)) ∧ H'_1 = H'))))))
      [(0, V.str s), (6, V.int IntKind.i64 ↑s.length), (7, V.int IntKind.i64 ↑i), (31, .bool b)] H' := by
      intro b hb
      refine am_cond rfl (fun hc => ?_) (fun hc => ?_) <;> (try simp -implicitDefEqProofs (disch := omega) only [go_sem, eq_self, decide_true, decide_false, Nat.reduceBEq, Nat.reduceAdd, Nat.reduceSub, Nat.reduceMul, Nat.reduceEqDiff, Nat.reduceLeDiff, Nat.reduceLT, Int.reduceLE, Int.reduceLT, Int.reduceToNat, Int.reduceAdd, Int.reduceEq, Int.reduceNeg, AH.put_ne] at hc)
      · repeat (first | refine am_seq ?_ | (refine am_reg ?_; simp -implicitDefEqProofs (disch := omega) only [go_sem, eq_self, decide_true, decide_false, Nat.reduceBEq, Nat.reduceAdd, Nat.reduceSub, Nat.reduceMul, Nat.reduceEqDiff, Nat.reduceLeDiff, Nat.reduceLT, Int.reduceLE, Int.reduceLT, Int.reduceToNat, Int.reduceAdd, Int.reduceEq, Int.reduceNeg, AH.put_ne]) | (refine am_drw ?_; simp -implicitDefEqProofs (disch := omega) only [go_sem, eq_self, decide_true, decide_false, Nat.reduceBEq, Nat.reduceAdd, Nat.reduceSub, Nat.reduceMul, Nat.reduceEqDiff, Nat.reduceLeDiff, Nat.reduceLT, Int.reduceLE, Int.reduceLT, Int.reduceToNat, Int.reduceAdd, Int.reduceEq, Int.reduceNeg, AH.put_ne]) | refine am_block ?_)
        refine am_ret ?_
        simp -implicitDefEqProofs (disch := omega) only [go_sem, eq_self, decide_true, decide_false, Nat.reduceBEq, Nat.reduceAdd, Nat.reduceSub, Nat.reduceMul, Nat.reduceEqDiff, Nat.reduceLeDiff, Nat.reduceLT, Int.reduceLE, Int.reduceLT, Int.reduceToNat, Int.reduceAdd, Int.reduceEq, Int.reduceNeg, AH.put_ne]
        simp_all [named]
      · refine am_skip ?_
        simp -implicitDefEqProofs (disch := omega) only [go_sem, eq_self, decide_true, decide_false, Nat.reduceBEq, Nat.reduceAdd, Nat.reduceSub, Nat.reduceMul, Nat.reduceEqDiff, Nat.reduceLeDiff, Nat.reduceLT, Int.reduceLE, Int.reduceLT, Int.reduceToNat, Int.reduceAdd, Int.reduceEq, Int.reduceNeg, AH.put_ne]
        repeat (first | refine am_seq ?_ | (refine am_reg ?_; simp -implicitDefEqProofs (disch := omega) only [go_sem, eq_self, decide_true, decide_false, Nat.reduceBEq, Nat.reduceAdd, Nat.reduceSub, Nat.reduceMul, Nat.reduceEqDiff, Nat.reduceLeDiff, Nat.reduceLT, Int.reduceLE, Int.reduceLT, Int.reduceToNat, Int.reduceAdd, Int.reduceEq, Int.reduceNeg, AH.put_ne, wrap_id]) | (refine am_drw ?_; simp -implicitDefEqProofs (disch := omega) only [go_sem, eq_self, decide_true, decide_false, Nat.reduceBEq, Nat.reduceAdd, Nat.reduceSub, Nat.reduceMul, Nat.reduceEqDiff, Nat.reduceLeDiff, Nat.reduceLT, Int.reduceLE, Int.reduceLT, Int.reduceToNat, Int.reduceAdd, Int.reduceEq, Int.reduceNeg, AH.put_ne, wrap_id]) | refine am_block ?_)
        refine ⟨n - 1, by omega, i + 1, by omega, by simp, ?_⟩
        rw [hg]
        simp_all
    repeat' (first | (with_reducible refine gd_not (fun h => ?_) (fun h => ?_) <;> simp -implicitDefEqProofs (disch := omega) only [go_sem, eq_self, decide_true, decide_false, Nat.reduceBEq, Nat.reduceAdd, Nat.reduceSub, Nat.reduceMul, Nat.reduceEqDiff, Nat.reduceLeDiff, Nat.reduceLT, Int.reduceLE, Int.reduceLT, Int.reduceToNat, Int.reduceAdd, Int.reduceEq, Int.reduceNeg, AH.put_ne, h, true_and]) | (with_reducible refine gd_of (fun h => ?_) (fun h => ?_) <;> simp -implicitDefEqProofs (disch := omega) only [go_sem, eq_self, decide_true, decide_false, Nat.reduceBEq, Nat.reduceAdd, Nat.reduceSub, Nat.reduceMul, Nat.reduceEqDiff, Nat.reduceLeDiff, Nat.reduceLT, Int.reduceLE, Int.reduceLT, Int.reduceToNat, Int.reduceAdd, Int.reduceEq, Int.reduceNeg, AH.put_ne, h, true_and]) | (with_reducible refine gq_not (fun h => ?_) (fun h => ?_) <;> simp -implicitDefEqProofs (disch := omega) only [go_sem, eq_self, decide_true, decide_false, Nat.reduceBEq, Nat.reduceAdd, Nat.reduceSub, Nat.reduceMul, Nat.reduceEqDiff, Nat.reduceLeDiff, Nat.reduceLT, Int.reduceLE, Int.reduceLT, Int.reduceToNat, Int.reduceAdd, Int.reduceEq, Int.reduceNeg, AH.put_ne, h, true_and]) | (with_reducible refine gq_of (fun h => ?_) (fun h => ?_) <;> simp -implicitDefEqProofs (disch := omega) only [go_sem, eq_self, decide_true, decide_false, Nat.reduceBEq, Nat.reduceAdd, Nat.reduceSub, Nat.reduceMul, Nat.reduceEqDiff, Nat.reduceLeDiff, Nat.reduceLT, Int.reduceLE, Int.reduceLT, Int.reduceToNat, Int.reduceAdd, Int.reduceEq, Int.reduceNeg, AH.put_ne, h, true_and]) | (with_reducible refine pickB_of (fun h => ?_) (fun h => ?_) <;> simp -implicitDefEqProofs (disch := omega) only [go_sem, eq_self, decide_true, decide_false, Nat.reduceBEq, Nat.reduceAdd, Nat.reduceSub, Nat.reduceMul, Nat.reduceEqDiff, Nat.reduceLeDiff, Nat.reduceLT, Int.reduceLE, Int.reduceLT, Int.reduceToNat, Int.reduceAdd, Int.reduceEq, Int.reduceNeg, AH.put_ne, h, true_and]))
    all_goals (refine hx _ ?_; simp_all [lett] <;> omega)
  · refine am_exit ?_
    simp -implicitDefEqProofs (disch := omega) only [go_sem, eq_self, decide_true, decide_false, Nat.reduceBEq, Nat.reduceAdd, Nat.reduceSub, Nat.reduceMul, Nat.reduceEqDiff, Nat.reduceLeDiff, Nat.reduceLT, Int.reduceLE, Int.reduceLT, Int.reduceToNat, Int.reduceAdd, Int.reduceEq, Int.reduceNeg, AH.put_ne]
    repeat (first | refine am_seq ?_ | (refine am_reg ?_; simp -implicitDefEqProofs (disch := omega) only [go_sem, eq_self, decide_true, decide_false, Nat.reduceBEq, Nat.reduceAdd, Nat.reduceSub, Nat.reduceMul, Nat.reduceEqDiff, Nat.reduceLeDiff, Nat.reduceLT, Int.reduceLE, Int.reduceLT, Int.reduceToNat, Int.reduceAdd, Int.reduceEq, Int.reduceNeg, AH.put_ne]) | (refine am_drw ?_; simp -implicitDefEqProofs (disch := omega) only [go_sem, eq_self, decide_true, decide_false, Nat.reduceBEq, Nat.reduceAdd, Nat.reduceSub, Nat.reduceMul, Nat.reduceEqDiff, Nat.reduceLeDiff, Nat.reduceLT, Int.reduceLE, Int.reduceLT, Int.reduceToNat, Int.reduceAdd, Int.reduceEq, Int.reduceNeg, AH.put_ne]) | refine am_block ?_)
    rw [List.drop_eq_nil_of_le (by omega)] at hg
    repeat' (first | (with_reducible refine gd_not (fun h => ?_) (fun h => ?_) <;> simp -implicitDefEqProofs (disch := omega) only [go_sem, eq_self, decide_true, decide_false, Nat.reduceBEq, Nat.reduceAdd, Nat.reduceSub, Nat.reduceMul, Nat.reduceEqDiff, Nat.reduceLeDiff, Nat.reduceLT, Int.reduceLE, Int.reduceLT, Int.reduceToNat, Int.reduceAdd, Int.reduceEq, Int.reduceNeg, AH.put_ne, h, true_and]) | (with_reducible refine gd_of (fun h => ?_) (fun h => ?_) <;> simp -implicitDefEqProofs (disch := omega) only [go_sem, eq_self, decide_true, decide_false, Nat.reduceBEq, Nat.reduceAdd, Nat.reduceSub, Nat.reduceMul, Nat.reduceEqDiff, Nat.reduceLeDiff, Nat.reduceLT, Int.reduceLE, Int.reduceLT, Int.reduceToNat, Int.reduceAdd, Int.reduceEq, Int.reduceNeg, AH.put_ne, h, true_and]) | (with_reducible refine gq_not (fun h => ?_) (fun h => ?_) <;> simp -implicitDefEqProofs (disch := omega) only [go_sem, eq_self, decide_true, decide_false, Nat.reduceBEq, Nat.reduceAdd, Nat.reduceSub, Nat.reduceMul, Nat.reduceEqDiff, Nat.reduceLeDiff, Nat.reduceLT, Int.reduceLE, Int.reduceLT, Int.reduceToNat, Int.reduceAdd, Int.reduceEq, Int.reduceNeg, AH.put_ne, h, true_and]) | (with_reducible refine gq_of (fun h => ?_) (fun h => ?_) <;> simp -implicitDefEqProofs (disch := omega) only [go_sem, eq_self, decide_true, decide_false, Nat.reduceBEq, Nat.reduceAdd, Nat.reduceSub, Nat.reduceMul, Nat.reduceEqDiff, Nat.reduceLeDiff, Nat.reduceLT, Int.reduceLE, Int.reduceLT, Int.reduceToNat, Int.reduceAdd, Int.reduceEq, Int.reduceNeg, AH.put_ne, h, true_and]) | (with_reducible refine pickB_of (fun h => ?_) (fun h => ?_) <;> simp -implicitDefEqProofs (disch := omega) only [go_sem, eq_self, decide_true, decide_false, Nat.reduceBEq, Nat.reduceAdd, Nat.reduceSub, Nat.reduceMul, Nat.reduceEqDiff, Nat.reduceLeDiff, Nat.reduceLT, Int.reduceLE, Int.reduceLT, Int.reduceToNat, Int.reduceAdd, Int.reduceEq, Int.reduceNeg, AH.put_ne, h, true_and]))
    all_goals (refine am_ret ?_; simp -implicitDefEqProofs (disch := omega) only [go_sem, eq_self, decide_true, decide_false, Nat.reduceBEq, Nat.reduceAdd, Nat.reduceSub, Nat.reduceMul, Nat.reduceEqDiff, Nat.reduceLeDiff, Nat.reduceLT, Int.reduceLE, Int.reduceLT, Int.reduceToNat, Int.reduceAdd, Int.reduceEq, Int.reduceNeg, AH.put_ne]; simp_all [named, letts, List.length_pos_iff] <;> omega)
theorem right1_calls (s : List UInt8) (hl : s.length < 4611686018427387904) (H : AH) : ACalls Try.prog 59 [.str s] H (fun o H' => o = .ret (.bool (!named s)) ∧ H' = H) := by
  refine acalls Try.func59 c59 r59 (by simp [Try.ntmps59]) ?_
  repeat (first | refine am_seq ?_ | (refine am_reg ?_; simp -implicitDefEqProofs (disch := omega) only [go_sem, eq_self, decide_true, decide_false, Nat.reduceBEq, Nat.reduceAdd, Nat.reduceSub, Nat.reduceMul, Nat.reduceEqDiff, Nat.reduceLeDiff, Nat.reduceLT, Int.reduceLE, Int.reduceLT, Int.reduceToNat, Int.reduceAdd, Int.reduceEq, Int.reduceNeg, AH.put_ne]) | (refine am_drw ?_; simp -implicitDefEqProofs (disch := omega) only [go_sem, eq_self, decide_true, decide_false, Nat.reduceBEq, Nat.reduceAdd, Nat.reduceSub, Nat.reduceMul, Nat.reduceEqDiff, Nat.reduceLeDiff, Nat.reduceLT, Int.reduceLE, Int.reduceLT, Int.reduceToNat, Int.reduceAdd, Int.reduceEq, Int.reduceNeg, AH.put_ne]) | refine am_block ?_)
  refine call_of (named_calls s hl) ?_
  simp -implicitDefEqProofs (disch := omega) only [go_sem, eq_self, decide_true, decide_false, Nat.reduceBEq, Nat.reduceAdd, Nat.reduceSub, Nat.reduceMul, Nat.reduceEqDiff, Nat.reduceLeDiff, Nat.reduceLT, Int.reduceLE, Int.reduceLT, Int.reduceToNat, Int.reduceAdd, Int.reduceEq, Int.reduceNeg, AH.put_ne]
  refine am_ret ?_
  simp -implicitDefEqProofs (disch := omega) only [go_sem, eq_self, decide_true, decide_false, Nat.reduceBEq, Nat.reduceAdd, Nat.reduceSub, Nat.reduceMul, Nat.reduceEqDiff, Nat.reduceLeDiff, Nat.reduceLT, Int.reduceLE, Int.reduceLT, Int.reduceToNat, Int.reduceAdd, Int.reduceEq, Int.reduceNeg, AH.put_ne]
/-- The first that is so, from a number on. -/
def idxB {α : Type} (p : α → Bool) : List α → Int → Int
  | [], _ => -1
  | y :: l, i => if p y = true then i else idxB p l (i + 1)
theorem idxB_any {α : Type} (p : α → Bool) : ∀ (l : List α) (i : Int), 0 ≤ i → (0 ≤ idxB p l i ↔ l.any p = true)
  | [], i, _ => by simp [idxB]
  | y :: l, i, h => by
    have := idxB_any p l (i + 1) (by omega)
    by_cases hx : p y = true
    · simp [idxB, hx, h]
    · simp only [Bool.not_eq_true] at hx
      simp [idxB, hx, this]
theorem indexf_calls (l : List (List UInt8)) (t : Tok) (hl : l.length < 4611686018427387904) (hs : ∀ s ∈ l, s.length < 4611686018427387904) (H : AH) : ACalls Try.prog 68 [.sl 1 (strsE l) t, .func (.func 59) [] []] H (fun o H' => o = .ret (.int .i64 (idxB (fun s => !named s) l 0)) ∧ H' = H) := by
  refine acalls Try.func68 c68 r68 (by simp [Try.ntmps68]) ?_
  repeat (first | refine am_seq ?_ | (refine am_reg ?_; simp -implicitDefEqProofs (disch := omega) only [go_sem, eq_self, decide_true, decide_false, Nat.reduceBEq, Nat.reduceAdd, Nat.reduceSub, Nat.reduceMul, Nat.reduceEqDiff, Nat.reduceLeDiff, Nat.reduceLT, Int.reduceLE, Int.reduceLT, Int.reduceToNat, Int.reduceAdd, Int.reduceEq, Int.reduceNeg, AH.put_ne]) | (refine am_drw ?_; simp -implicitDefEqProofs (disch := omega) only [go_sem, eq_self, decide_true, decide_false, Nat.reduceBEq, Nat.reduceAdd, Nat.reduceSub, Nat.reduceMul, Nat.reduceEqDiff, Nat.reduceLeDiff, Nat.reduceLT, Int.reduceLE, Int.reduceLT, Int.reduceToNat, Int.reduceAdd, Int.reduceEq, Int.reduceNeg, AH.put_ne]) | refine am_block ?_)
  refine am_loop (fun n a H' => ∃ i : Nat, i + n = l.length ∧ a = [(0, .sl 1 (strsE l) t), (1, .func (.func 59) [] []), (7, .int .i64 l.length), (8, .int .i64 i)] ∧ H' = H ∧ idxB (fun s => !named s) l 0 = idxB (fun s => !named s) (l.drop i) i) ?_ l.length ⟨0, by simp, by simp, rfl, by simp⟩
  rintro n a H' ⟨i, hi, rfl, rfl, hg⟩
  repeat (first | refine am_seq ?_ | (refine am_reg ?_; simp -implicitDefEqProofs (disch := omega) only [go_sem, eq_self, decide_true, decide_false, Nat.reduceBEq, Nat.reduceAdd, Nat.reduceSub, Nat.reduceMul, Nat.reduceEqDiff, Nat.reduceLeDiff, Nat.reduceLT, Int.reduceLE, Int.reduceLT, Int.reduceToNat, Int.reduceAdd, Int.reduceEq, Int.reduceNeg, AH.put_ne]) | (refine am_drw ?_; simp -implicitDefEqProofs (disch := omega) only [go_sem, eq_self, decide_true, decide_false, Nat.reduceBEq, Nat.reduceAdd, Nat.reduceSub, Nat.reduceMul, Nat.reduceEqDiff, Nat.reduceLeDiff, Nat.reduceLT, Int.reduceLE, Int.reduceLT, Int.reduceToNat, Int.reduceAdd, Int.reduceEq, Int.reduceNeg, AH.put_ne]) | refine am_block ?_)
  refine am_cond rfl (fun hc => ?_) (fun hc => ?_) <;> (try simp -implicitDefEqProofs (disch := omega) only [go_sem, eq_self, decide_true, decide_false, Nat.reduceBEq, Nat.reduceAdd, Nat.reduceSub, Nat.reduceMul, Nat.reduceEqDiff, Nat.reduceLeDiff, Nat.reduceLT, Int.reduceLE, Int.reduceLT, Int.reduceToNat, Int.reduceAdd, Int.reduceEq, Int.reduceNeg, AH.put_ne] at hc)
  · have hlt : i < l.length := by omega
    rw [List.drop_eq_getElem_cons hlt, idxB] at hg
    refine am_skip ?_
    simp -implicitDefEqProofs (disch := omega) only [go_sem, eq_self, decide_true, decide_false, Nat.reduceBEq, Nat.reduceAdd, Nat.reduceSub, Nat.reduceMul, Nat.reduceEqDiff, Nat.reduceLeDiff, Nat.reduceLT, Int.reduceLE, Int.reduceLT, Int.reduceToNat, Int.reduceAdd, Int.reduceEq, Int.reduceNeg, AH.put_ne]
    repeat (first | refine am_seq ?_ | (refine am_reg ?_; simp -implicitDefEqProofs (disch := omega) only [go_sem, eq_self, decide_true, decide_false, Nat.reduceBEq, Nat.reduceAdd, Nat.reduceSub, Nat.reduceMul, Nat.reduceEqDiff, Nat.reduceLeDiff, Nat.reduceLT, Int.reduceLE, Int.reduceLT, Int.reduceToNat, Int.reduceAdd, Int.reduceEq, Int.reduceNeg, AH.put_ne, get_of_lt hlt]) | (refine am_drw ?_; simp -implicitDefEqProofs (disch := omega) only [go_sem, eq_self, decide_true, decide_false, Nat.reduceBEq, Nat.reduceAdd, Nat.reduceSub, Nat.reduceMul, Nat.reduceEqDiff, Nat.reduceLeDiff, Nat.reduceLT, Int.reduceLE, Int.reduceLT, Int.reduceToNat, Int.reduceAdd, Int.reduceEq, Int.reduceNeg, AH.put_ne, get_of_lt hlt]) | refine am_block ?_)
    refine ⟨by kernel_rfl, ?_⟩
    refine call_of (right1_calls l[i] (hs _ (List.getElem_mem hlt))) ?_
    try simp -implicitDefEqProofs (disch := omega) only [go_sem, eq_self, decide_true, decide_false, Nat.reduceBEq, Nat.reduceAdd, Nat.reduceSub, Nat.reduceMul, Nat.reduceEqDiff, Nat.reduceLeDiff, Nat.reduceLT, Int.reduceLE, Int.reduceLT, Int.reduceToNat, Int.reduceAdd, Int.reduceEq, Int.reduceNeg, AH.put_ne]
    refine am_cond rfl (fun hc => ?_) (fun hc => ?_) <;> (try simp -implicitDefEqProofs (disch := omega) only [go_sem, eq_self, decide_true, decide_false, Nat.reduceBEq, Nat.reduceAdd, Nat.reduceSub, Nat.reduceMul, Nat.reduceEqDiff, Nat.reduceLeDiff, Nat.reduceLT, Int.reduceLE, Int.reduceLT, Int.reduceToNat, Int.reduceAdd, Int.reduceEq, Int.reduceNeg, AH.put_ne] at hc)
    · repeat (first | refine am_seq ?_ | (refine am_reg ?_; simp -implicitDefEqProofs (disch := omega) only [go_sem, eq_self, decide_true, decide_false, Nat.reduceBEq, Nat.reduceAdd, Nat.reduceSub, Nat.reduceMul, Nat.reduceEqDiff, Nat.reduceLeDiff, Nat.reduceLT, Int.reduceLE, Int.reduceLT, Int.reduceToNat, Int.reduceAdd, Int.reduceEq, Int.reduceNeg, AH.put_ne]) | (refine am_drw ?_; simp -implicitDefEqProofs (disch := omega) only [go_sem, eq_self, decide_true, decide_false, Nat.reduceBEq, Nat.reduceAdd, Nat.reduceSub, Nat.reduceMul, Nat.reduceEqDiff, Nat.reduceLeDiff, Nat.reduceLT, Int.reduceLE, Int.reduceLT, Int.reduceToNat, Int.reduceAdd, Int.reduceEq, Int.reduceNeg, AH.put_ne]) | refine am_block ?_)
      refine am_ret ?_
      simp -implicitDefEqProofs (disch := omega) only [go_sem, eq_self, decide_true, decide_false, Nat.reduceBEq, Nat.reduceAdd, Nat.reduceSub, Nat.reduceMul, Nat.reduceEqDiff, Nat.reduceLeDiff, Nat.reduceLT, Int.reduceLE, Int.reduceLT, Int.reduceToNat, Int.reduceAdd, Int.reduceEq, Int.reduceNeg, AH.put_ne]
      rw [if_pos hc] at hg
      rw [hg]
    · refine am_skip ?_
      simp -implicitDefEqProofs (disch := omega) only [go_sem, eq_self, decide_true, decide_false, Nat.reduceBEq, Nat.reduceAdd, Nat.reduceSub, Nat.reduceMul, Nat.reduceEqDiff, Nat.reduceLeDiff, Nat.reduceLT, Int.reduceLE, Int.reduceLT, Int.reduceToNat, Int.reduceAdd, Int.reduceEq, Int.reduceNeg, AH.put_ne]
      repeat (first | refine am_seq ?_ | (refine am_reg ?_; simp -implicitDefEqProofs (disch := omega) only [go_sem, eq_self, decide_true, decide_false, Nat.reduceBEq, Nat.reduceAdd, Nat.reduceSub, Nat.reduceMul, Nat.reduceEqDiff, Nat.reduceLeDiff, Nat.reduceLT, Int.reduceLE, Int.reduceLT, Int.reduceToNat, Int.reduceAdd, Int.reduceEq, Int.reduceNeg, AH.put_ne, wrap_id]) | (refine am_drw ?_; simp -implicitDefEqProofs (disch := omega) only [go_sem, eq_self, decide_true, decide_false, Nat.reduceBEq, Nat.reduceAdd, Nat.reduceSub, Nat.reduceMul, Nat.reduceEqDiff, Nat.reduceLeDiff, Nat.reduceLT, Int.reduceLE, Int.reduceLT, Int.reduceToNat, Int.reduceAdd, Int.reduceEq, Int.reduceNeg, AH.put_ne, wrap_id]) | refine am_block ?_)
      rw [if_neg (by simpa using hc)] at hg
      exact ⟨n - 1, by omega, i + 1, by omega, by simp, by rw [hg]; rfl⟩
  · refine am_exit ?_
    simp -implicitDefEqProofs (disch := omega) only [go_sem, eq_self, decide_true, decide_false, Nat.reduceBEq, Nat.reduceAdd, Nat.reduceSub, Nat.reduceMul, Nat.reduceEqDiff, Nat.reduceLeDiff, Nat.reduceLT, Int.reduceLE, Int.reduceLT, Int.reduceToNat, Int.reduceAdd, Int.reduceEq, Int.reduceNeg, AH.put_ne]
    repeat (first | refine am_seq ?_ | (refine am_reg ?_; simp -implicitDefEqProofs (disch := omega) only [go_sem, eq_self, decide_true, decide_false, Nat.reduceBEq, Nat.reduceAdd, Nat.reduceSub, Nat.reduceMul, Nat.reduceEqDiff, Nat.reduceLeDiff, Nat.reduceLT, Int.reduceLE, Int.reduceLT, Int.reduceToNat, Int.reduceAdd, Int.reduceEq, Int.reduceNeg, AH.put_ne]) | (refine am_drw ?_; simp -implicitDefEqProofs (disch := omega) only [go_sem, eq_self, decide_true, decide_false, Nat.reduceBEq, Nat.reduceAdd, Nat.reduceSub, Nat.reduceMul, Nat.reduceEqDiff, Nat.reduceLeDiff, Nat.reduceLT, Int.reduceLE, Int.reduceLT, Int.reduceToNat, Int.reduceAdd, Int.reduceEq, Int.reduceNeg, AH.put_ne]) | refine am_block ?_)
    refine am_ret ?_
    simp -implicitDefEqProofs (disch := omega) only [go_sem, eq_self, decide_true, decide_false, Nat.reduceBEq, Nat.reduceAdd, Nat.reduceSub, Nat.reduceMul, Nat.reduceEqDiff, Nat.reduceLeDiff, Nat.reduceLT, Int.reduceLE, Int.reduceLT, Int.reduceToNat, Int.reduceAdd, Int.reduceEq, Int.reduceNeg, AH.put_ne]
    rw [List.drop_eq_nil_of_le (by omega)] at hg
    rw [hg]; rfl
theorem containsf_calls (l : List (List UInt8)) (t : Tok) (hl : l.length < 4611686018427387904) (hs : ∀ s ∈ l, s.length < 4611686018427387904) (H : AH) : ACalls Try.prog 58 [.sl 1 (strsE l) t, .func (.func 59) [] []] H (fun o H' => o = .ret (.bool (l.any fun s => !named s)) ∧ H' = H) := by
  refine acalls Try.func58 c58 r58 (by simp [Try.ntmps58]) ?_
  repeat (first | refine am_seq ?_ | (refine am_reg ?_; simp -implicitDefEqProofs (disch := omega) only [go_sem, eq_self, decide_true, decide_false, Nat.reduceBEq, Nat.reduceAdd, Nat.reduceSub, Nat.reduceMul, Nat.reduceEqDiff, Nat.reduceLeDiff, Nat.reduceLT, Int.reduceLE, Int.reduceLT, Int.reduceToNat, Int.reduceAdd, Int.reduceEq, Int.reduceNeg, AH.put_ne]) | (refine am_drw ?_; simp -implicitDefEqProofs (disch := omega) only [go_sem, eq_self, decide_true, decide_false, Nat.reduceBEq, Nat.reduceAdd, Nat.reduceSub, Nat.reduceMul, Nat.reduceEqDiff, Nat.reduceLeDiff, Nat.reduceLT, Int.reduceLE, Int.reduceLT, Int.reduceToNat, Int.reduceAdd, Int.reduceEq, Int.reduceNeg, AH.put_ne]) | refine am_block ?_)
  refine call_of (indexf_calls l t hl hs) ?_
  simp -implicitDefEqProofs (disch := omega) only [go_sem, eq_self, decide_true, decide_false, Nat.reduceBEq, Nat.reduceAdd, Nat.reduceSub, Nat.reduceMul, Nat.reduceEqDiff, Nat.reduceLeDiff, Nat.reduceLT, Int.reduceLE, Int.reduceLT, Int.reduceToNat, Int.reduceAdd, Int.reduceEq, Int.reduceNeg, AH.put_ne, ge_iff_le, idxB_any, Bool.decide_eq_true]
  refine am_ret ?_
  simp -implicitDefEqProofs (disch := omega) only [go_sem, eq_self, decide_true, decide_false, Nat.reduceBEq, Nat.reduceAdd, Nat.reduceSub, Nat.reduceMul, Nat.reduceEqDiff, Nat.reduceLeDiff, Nat.reduceLT, Int.reduceLE, Int.reduceLT, Int.reduceToNat, Int.reduceAdd, Int.reduceEq, Int.reduceNeg, AH.put_ne]
end Go.Proofs.Ytmomncmddejcoaa
