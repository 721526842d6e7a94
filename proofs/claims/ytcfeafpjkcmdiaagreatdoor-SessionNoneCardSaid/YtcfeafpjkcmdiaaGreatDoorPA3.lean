/- Of the walks of this seat: contracts of functions of the given program, proved over the abstract values of the texts Vm. Conditions: as each theorem says. -/
import Derived.Test.YtcfeafpjkcmdiaaGreatDoorPA2
set_option linter.unusedVariables false
set_option linter.unusedSimpArgs false
namespace Go.Proofs.YtcfeafpjkcmdiaaGreatDoor.Hel
open Go.Vm
attribute [local go_sem] strsE_get strsE_length intsE_get intsE_length Int.toNat_natCast Option.map_some Int.natCast_nonneg decide_eq_true_eq decide_eq_false_iff_not
/- flange/kind.Named -/
abbrev k85_0 : MC :=
  .cond (.t 31) ((.seq (.reg [
     ⟨(some 2), none, .val (.mv (.c (.bool false)))⟩] [2]) (.ret))) (.skip)

abbrev k85_1 : MC :=
  (.seq (.reg [
    ⟨(some 13), none, .val (.mv (.t 4))⟩,
    ⟨(some 14), none, .val (.bin .geq .num (.t 13) (.c (.int .u8 97)))⟩,
    ⟨(some 15), none, .val (.mv (.t 14))⟩,
    ⟨(some 16), (some (15, true)), .val (.mv (.t 4))⟩,
    ⟨(some 17), (some (15, true)), .val (.bin .leq .num (.t 16) (.c (.int .u8 122)))⟩,
    ⟨(some 18), none, .val (.pick (.t 15) (.t 17) (.c (.bool false)))⟩,
    ⟨(some 19), none, .val (.mv (.t 18))⟩,
    ⟨(some 20), (some (19, false)), .val (.mv (.t 3))⟩,
    ⟨(some 21), (some (19, false)), .val (.bin .gtr .num (.t 20) (.c (.int .i64 0)))⟩,
    ⟨(some 22), (some (19, false)), .val (.mv (.t 21))⟩,
    ⟨(some 23), (some (22, true)), .val (.mv (.t 4))⟩,
    ⟨(some 24), (some (22, true)), .val (.bin .geq .num (.t 23) (.c (.int .u8 48)))⟩,
    ⟨(some 25), (some (19, false)), .val (.pick (.t 22) (.t 24) (.c (.bool false)))⟩,
    ⟨(some 26), (some (19, false)), .val (.mv (.t 25))⟩,
    ⟨(some 27), (some (26, true)), .val (.mv (.t 4))⟩,
    ⟨(some 28), (some (26, true)), .val (.bin .leq .num (.t 27) (.c (.int .u8 57)))⟩,
    ⟨(some 29), (some (19, false)), .val (.pick (.t 26) (.t 28) (.c (.bool false)))⟩,
    ⟨(some 30), none, .val (.pick (.t 19) (.c (.bool true)) (.t 29))⟩,
    ⟨(some 31), none, .val (.not (.t 30))⟩] [0, 6, 7, 31]) k85_0)

abbrev k85_2 : MC :=
  (.seq (.reg [
    ⟨(some 10), none, .val (.mv (.t 0))⟩,
    ⟨(some 11), none, .val (.mv (.t 3))⟩,
    ⟨(some 12), none, .val (.idx (.t 10) (.t 11))⟩,
    ⟨(some 4), none, .val (.mv (.t 12))⟩] [0, 3, 4, 6, 7]) k85_1)

abbrev k85_3 : MC :=
  .reg [
    ⟨(some 32), none, .val (.bin .add .num (.t 7) (.c (.int .i64 1)))⟩,
    ⟨(some 7), none, .val (.mv (.t 32))⟩] [0, 6, 7]

abbrev k85_4 : MC :=
  (.seq (.block 1 ((.seq (.reg [
     ⟨(some 9), none, .val (.mv (.t 7))⟩,
     ⟨(some 3), none, .val (.mv (.t 9))⟩] [0, 3, 6, 7]) k85_2))) k85_3)

abbrev k85_5 : MC :=
  (.seq (.cond (.t 8) (.skip) (.exit 0)) k85_4)

abbrev k85_6 : MC :=
  (.seq (.reg [
    ⟨(some 8), none, .val (.bin .lss .num (.t 7) (.t 6))⟩] [0, 6, 7, 8]) k85_5)

abbrev k85_7 : MC :=
  .block 0 (.loop k85_6)

abbrev k85_8 : MC :=
  (.seq (.reg [
    ⟨(some 33), none, .val (.mv (.t 0))⟩,
    ⟨(some 34), none, .val (.bin .neq .num (.t 33) (.c (.str [])))⟩,
    ⟨(some 35), none, .val (.mv (.t 34))⟩,
    ⟨(some 36), (some (35, true)), .val (.mv (.t 0))⟩,
    ⟨(some 37), (some (35, true)), .val (.len .str (.t 36))⟩,
    ⟨(some 38), (some (35, true)), .val (.bin .leq .num (.t 37) (.c (.int .i64 20)))⟩,
    ⟨(some 39), none, .val (.pick (.t 35) (.t 38) (.c (.bool false)))⟩,
    ⟨(some 2), none, .val (.mv (.t 39))⟩] [2]) (.ret))

abbrev k85_9 : MC :=
  (.seq ((.seq (.reg [
    ⟨(some 5), none, .val (.mv (.t 0))⟩,
    ⟨(some 6), none, .val (.len .str (.t 5))⟩,
    ⟨(some 7), none, .val (.mv (.c (.int .i64 0)))⟩] [0, 6, 7]) k85_7)) k85_8)
abbrev k85 : MC :=
  (.seq (.reg [
    ⟨(some 2), none, .val (.mv (.c (.bool false)))⟩] [0]) k85_9)
theorem c85 : Tryz.f85.body.bind (mcOf Tryz.prog (List.contains [] ·) (List.getD [([], [0]), ([], [0, 6, 7]), ([], [0, 6, 7, 8]), ([], [0, 3, 6, 7]), ([], [0, 3, 4, 6, 7]), ([], [0, 6, 7, 31]), ([], [2]), ([], [0, 6, 7]), ([], [2])] · ([], [])) 40) = some k85 := by kernel_rfl
theorem r85 : rvsOf Tryz.prog Tryz.f85.results.toList = some [.tmp 2] := by kernel_rfl

/- flange/hello.Right$1 -/
abbrev k84_0 : MC :=
  (.seq (.reg [
    ⟨(some 3), none, .val (.mv (.t 0))⟩,
    ⟨(some 4), none, .call 85 [(.t 3)]⟩,
    ⟨(some 5), none, .val (.not (.t 4))⟩,
    ⟨(some 2), none, .val (.mv (.t 5))⟩] [2]) (.ret))
abbrev k84 : MC :=
  (.seq (.reg [
    ⟨(some 2), none, .val (.mv (.c (.bool false)))⟩] [0]) k84_0)
theorem c84 : Tryz.f84.body.bind (mcOf Tryz.prog (List.contains [] ·) (List.getD [([], [0]), ([], [2])] · ([], [])) 6) = some k84 := by kernel_rfl
theorem r84 : rvsOf Tryz.prog Tryz.f84.results.toList = some [.tmp 2] := by kernel_rfl

/- slices.IndexFunc[[]string,string] -/
abbrev k110_0 : MC :=
  .cond (.t 16) ((.seq (.reg [
     ⟨(some 17), none, .val (.mv (.t 5))⟩,
     ⟨(some 4), none, .val (.mv (.t 17))⟩] [4]) (.ret))) (.skip)

abbrev k110_1 : MC :=
  (.seq (.reg [
    ⟨(some 11), none, .val (.mv (.t 1))⟩,
    ⟨(some 12), none, .val (.mv (.t 0))⟩,
    ⟨(some 13), none, .val (.mv (.t 5))⟩,
    ⟨(some 14), none, .val (.iaddr 1 (.t 12) (.t 13))⟩,
    ⟨(some 15), none, .val (.load false 1 (.t 14))⟩,
    ⟨(some 16), none, .callv (.t 11) [(.t 15)]⟩] [0, 1, 5, 7, 8, 16]) k110_0)

abbrev k110_2 : MC :=
  .reg [
    ⟨(some 18), none, .val (.bin .add .num (.t 8) (.c (.int .i64 1)))⟩,
    ⟨(some 8), none, .val (.mv (.t 18))⟩] [0, 1, 7, 8]

abbrev k110_3 : MC :=
  (.seq (.block 1 ((.seq (.reg [
     ⟨(some 10), none, .val (.mv (.t 8))⟩,
     ⟨(some 5), none, .val (.mv (.t 10))⟩] [0, 1, 5, 7, 8]) k110_1))) k110_2)

abbrev k110_4 : MC :=
  (.seq (.cond (.t 9) (.skip) (.exit 0)) k110_3)

abbrev k110_5 : MC :=
  (.seq (.reg [
    ⟨(some 9), none, .val (.bin .lss .num (.t 8) (.t 7))⟩] [0, 1, 7, 8, 9]) k110_4)

abbrev k110_6 : MC :=
  .block 0 (.loop k110_5)

abbrev k110_7 : MC :=
  (.seq (.reg [
    ⟨(some 4), none, .val (.mv (.c (.int .i64 (-1))))⟩] [4]) (.ret))

abbrev k110_8 : MC :=
  (.seq ((.seq (.reg [
    ⟨(some 6), none, .val (.mv (.t 0))⟩,
    ⟨(some 7), none, .val (.len .sl (.t 6))⟩,
    ⟨(some 8), none, .val (.mv (.c (.int .i64 0)))⟩] [0, 1, 7, 8]) k110_6)) k110_7)
abbrev k110 : MC :=
  (.seq (.reg [
    ⟨(some 4), none, .val (.mv (.c (.int .i64 0)))⟩] [0, 1]) k110_8)
theorem c110 : Tryz.f110.body.bind (mcOf Tryz.prog (List.contains [] ·) (List.getD [([], [0, 1]), ([], [0, 1, 7, 8]), ([], [0, 1, 7, 8, 9]), ([], [0, 1, 5, 7, 8]), ([], [0, 1, 5, 7, 8, 16]), ([], [4]), ([], [0, 1, 7, 8]), ([], [4])] · ([], [])) 19) = some k110 := by kernel_rfl
theorem r110 : rvsOf Tryz.prog Tryz.f110.results.toList = some [.tmp 4] := by kernel_rfl

/- slices.ContainsFunc[[]string,string] -/
abbrev k83_0 : MC :=
  (.seq (.reg [
    ⟨(some 5), none, .val (.mv (.t 0))⟩,
    ⟨(some 6), none, .val (.mv (.t 1))⟩,
    ⟨(some 7), none, .call 110 [(.t 5), (.t 6)]⟩,
    ⟨(some 8), none, .val (.bin .geq .num (.t 7) (.c (.int .i64 0)))⟩,
    ⟨(some 4), none, .val (.mv (.t 8))⟩] [4]) (.ret))
abbrev k83 : MC :=
  (.seq (.reg [
    ⟨(some 4), none, .val (.mv (.c (.bool false)))⟩] [0, 1]) k83_0)
theorem c83 : Tryz.f83.body.bind (mcOf Tryz.prog (List.contains [] ·) (List.getD [([], [0, 1]), ([], [4])] · ([], [])) 9) = some k83 := by kernel_rfl
theorem r83 : rvsOf Tryz.prog Tryz.f83.results.toList = some [.tmp 4] := by kernel_rfl

/-- May a byte stand in a name, at a place? -/
def lett (c i : Int) : Bool := (decide (97 ≤ c) && decide (c ≤ 122)) || (decide (0 < i) && decide (48 ≤ c) && decide (c ≤ 57))
def letts : List UInt8 → Int → Bool
  | [], _ => true
  | c :: s, i => lett c.toNat i && letts s (i + 1)
def named (s : List UInt8) : Bool := letts s 0 && (decide (0 < s.length) && decide (s.length ≤ 20))
theorem named_calls (s : List UInt8) (hl : s.length < 4611686018427387904) (H : AH) : ACalls Tryz.prog 85 [.str s] H (fun o H' => o = .ret (.bool (named s)) ∧ H' = H) := by
  refine acalls Tryz.func85 c85 r85 (by simp [Tryz.ntmps85]) ?_
  repeat (first | refine am_seq ?_ | (refine am_reg ?_; simp -implicitDefEqProofs (disch := omega) only [go_sem, eq_self, decide_true, decide_false, Nat.reduceBEq, Nat.reduceAdd, Nat.reduceSub, Nat.reduceMul, Nat.reduceEqDiff, Nat.reduceLeDiff, Nat.reduceLT, Int.reduceLE, Int.reduceLT, Int.reduceToNat, Int.reduceAdd, Int.reduceEq, Int.reduceNeg, AH.put_ne]) | (refine am_drw ?_; simp -implicitDefEqProofs (disch := omega) only [go_sem, eq_self, decide_true, decide_false, Nat.reduceBEq, Nat.reduceAdd, Nat.reduceSub, Nat.reduceMul, Nat.reduceEqDiff, Nat.reduceLeDiff, Nat.reduceLT, Int.reduceLE, Int.reduceLT, Int.reduceToNat, Int.reduceAdd, Int.reduceEq, Int.reduceNeg, AH.put_ne]) | refine am_block ?_)
  refine am_loop (fun n a H' => ∃ i : Nat, i + n = s.length ∧ a = [(0, .str s), (6, .int .i64 s.length), (7, .int .i64 i)] ∧ H' = H ∧ letts s 0 = letts (s.drop i) i) ?_ s.length ⟨0, by omega, by simp, rfl, by simp⟩
  rintro n a H' ⟨i, hi, rfl, rfl, hg⟩
  repeat (first | refine am_seq ?_ | (refine am_reg ?_; simp -implicitDefEqProofs (disch := omega) only [go_sem, eq_self, decide_true, decide_false, Nat.reduceBEq, Nat.reduceAdd, Nat.reduceSub, Nat.reduceMul, Nat.reduceEqDiff, Nat.reduceLeDiff, Nat.reduceLT, Int.reduceLE, Int.reduceLT, Int.reduceToNat, Int.reduceAdd, Int.reduceEq, Int.reduceNeg, AH.put_ne]) | (refine am_drw ?_; simp -implicitDefEqProofs (disch := omega) only [go_sem, eq_self, decide_true, decide_false, Nat.reduceBEq, Nat.reduceAdd, Nat.reduceSub, Nat.reduceMul, Nat.reduceEqDiff, Nat.reduceLeDiff, Nat.reduceLT, Int.reduceLE, Int.reduceLT, Int.reduceToNat, Int.reduceAdd, Int.reduceEq, Int.reduceNeg, AH.put_ne]) | refine am_block ?_)
  refine am_cond rfl (fun hc => ?_) (fun hc => ?_) <;> (try simp -implicitDefEqProofs (disch := omega) only [go_sem, eq_self, decide_true, decide_false, Nat.reduceBEq, Nat.reduceAdd, Nat.reduceSub, Nat.reduceMul, Nat.reduceEqDiff, Nat.reduceLeDiff, Nat.reduceLT, Int.reduceLE, Int.reduceLT, Int.reduceToNat, Int.reduceAdd, Int.reduceEq, Int.reduceNeg, AH.put_ne] at hc)
  · have hlt : i < s.length := by omega
    rw [List.drop_eq_getElem_cons hlt, letts] at hg
    refine am_skip ?_
    simp -implicitDefEqProofs (disch := omega) only [go_sem, eq_self, decide_true, decide_false, Nat.reduceBEq, Nat.reduceAdd, Nat.reduceSub, Nat.reduceMul, Nat.reduceEqDiff, Nat.reduceLeDiff, Nat.reduceLT, Int.reduceLE, Int.reduceLT, Int.reduceToNat, Int.reduceAdd, Int.reduceEq, Int.reduceNeg, AH.put_ne]
    repeat (first | refine am_seq ?_ | (refine am_reg ?_; simp -implicitDefEqProofs (disch := omega) only [go_sem, eq_self, decide_true, decide_false, Nat.reduceBEq, Nat.reduceAdd, Nat.reduceSub, Nat.reduceMul, Nat.reduceEqDiff, Nat.reduceLeDiff, Nat.reduceLT, Int.reduceLE, Int.reduceLT, Int.reduceToNat, Int.reduceAdd, Int.reduceEq, Int.reduceNeg, AH.put_ne, get_of_lt hlt]) | (refine am_drw ?_; simp -implicitDefEqProofs (disch := omega) only [go_sem, eq_self, decide_true, decide_false, Nat.reduceBEq, Nat.reduceAdd, Nat.reduceSub, Nat.reduceMul, Nat.reduceEqDiff, Nat.reduceLeDiff, Nat.reduceLT, Int.reduceLE, Int.reduceLT, Int.reduceToNat, Int.reduceAdd, Int.reduceEq, Int.reduceNeg, AH.put_ne, get_of_lt hlt]) | refine am_block ?_)
    have hx : ∀ b : Bool, b = (!lett ↑s[i].toNat ↑i) → AM Tryz.prog Tryz.f85.ntmps k85_0
      (BQ 1
        (SQ Tryz.prog Tryz.f85.ntmps k85_3
          (LQ
            (fun n a H'_1 =>
              ∃ i : Nat,
                i + n = s.length ∧
                  a = [(0, V.str s), (6, V.int IntKind.i64 ↑s.length), (7, V.int IntKind.i64 ↑i)] ∧
                    H'_1 = H' ∧ letts s 0 = letts (List.drop i s) ↑i)
            n
            (BQ 0
              (SQ Tryz.prog Tryz.f85.ntmps k85_8
                (Body [RV.tmp 2] fun o H'_1 => o = Out.ret (V.bool (named s)) ∧ H'_1 = H'))))))
      [(0, V.str s), (6, V.int IntKind.i64 ↑s.length), (7, V.int IntKind.i64 ↑i), (31, .bool b)] H' := by
      intro b hb
      refine am_cond rfl (fun hc => ?_) (fun hc => ?_) <;> (try simp -implicitDefEqProofs (disch := omega) only [go_sem, eq_self, decide_true, decide_false, Nat.reduceBEq, Nat.reduceAdd, Nat.reduceSub, Nat.reduceMul, Nat.reduceEqDiff, Nat.reduceLeDiff, Nat.reduceLT, Int.reduceLE, Int.reduceLT, Int.reduceToNat, Int.reduceAdd, Int.reduceEq, Int.reduceNeg, AH.put_ne] at hc)
      · repeat (first | refine am_seq ?_ | (refine am_reg ?_; simp -implicitDefEqProofs (disch := omega) only [go_sem, eq_self, decide_true, decide_false, Nat.reduceBEq, Nat.reduceAdd, Nat.reduceSub, Nat.reduceMul, Nat.reduceEqDiff, Nat.reduceLeDiff, Nat.reduceLT, Int.reduceLE, Int.reduceLT, Int.reduceToNat, Int.reduceAdd, Int.reduceEq, Int.reduceNeg, AH.put_ne]) | (refine am_drw ?_; simp -implicitDefEqProofs (disch := omega) only [go_sem, eq_self, decide_true, decide_false, Nat.reduceBEq, Nat.reduceAdd, Nat.reduceSub, Nat.reduceMul, Nat.reduceEqDiff, Nat.reduceLeDiff, Nat.reduceLT, Int.reduceLE, Int.reduceLT, Int.reduceToNat, Int.reduceAdd, Int.reduceEq, Int.reduceNeg, AH.put_ne]) | refine am_block ?_)
        refine am_ret ?_
        simp -implicitDefEqProofs (disch := omega) only [go_sem, eq_self, decide_true, decide_false, Nat.reduceBEq, Nat.reduceAdd, Nat.reduceSub, Nat.reduceMul, Nat.reduceEqDiff, Nat.reduceLeDiff, Nat.reduceLT, Int.reduceLE, Int.reduceLT, Int.reduceToNat, Int.reduceAdd, Int.reduceEq, Int.reduceNeg, AH.put_ne]
        simp_all [named]
      · refine am_skip ?_
        simp -implicitDefEqProofs (disch := omega) only [go_sem, eq_self, decide_true, decide_false, Nat.reduceBEq, Nat.reduceAdd, Nat.reduceSub, Nat.reduceMul, Nat.reduceEqDiff, Nat.reduceLeDiff, Nat.reduceLT, Int.reduceLE, Int.reduceLT, Int.reduceToNat, Int.reduceAdd, Int.reduceEq, Int.reduceNeg, AH.put_ne]
        repeat (first | refine am_seq ?_ | (refine am_reg ?_; simp -implicitDefEqProofs (disch := omega) only [go_sem, eq_self, decide_true, decide_false, Nat.reduceBEq, Nat.reduceAdd, Nat.reduceSub, Nat.reduceMul, Nat.reduceEqDiff, Nat.reduceLeDiff, Nat.reduceLT, Int.reduceLE, Int.reduceLT, Int.reduceToNat, Int.reduceAdd, Int.reduceEq, Int.reduceNeg, AH.put_ne, wrap_id]) | (refine am_drw ?_; simp -implicitDefEqProofs (disch := omega) only [go_sem, eq_self, decide_true, decide_false, Nat.reduceBEq, Nat.reduceAdd, Nat.reduceSub, Nat.reduceMul, Nat.reduceEqDiff, Nat.reduceLeDiff, Nat.reduceLT, Int.reduceLE, Int.reduceLT, Int.reduceToNat, Int.reduceAdd, Int.reduceEq, Int.reduceNeg, AH.put_ne, wrap_id]) | refine am_block ?_)
        refine ⟨n - 1, by omega, i + 1, by omega, by simp, ?_⟩
        rw [hg]
        simp_all
    repeat' (first | (with_reducible refine gd_not (fun h => ?_) (fun h => ?_) <;> simp -implicitDefEqProofs (disch := omega) only [go_sem, eq_self, decide_true, decide_false, Nat.reduceBEq, Nat.reduceAdd, Nat.reduceSub, Nat.reduceMul, Nat.reduceEqDiff, Nat.reduceLeDiff, Nat.reduceLT, Int.reduceLE, Int.reduceLT, Int.reduceToNat, Int.reduceAdd, Int.reduceEq, Int.reduceNeg, AH.put_ne, h, true_and]) | (with_reducible refine gd_of (fun h => ?_) (fun h => ?_) <;> simp -implicitDefEqProofs (disch := omega) only [go_sem, eq_self, decide_true, decide_false, Nat.reduceBEq, Nat.reduceAdd, Nat.reduceSub, Nat.reduceMul, Nat.reduceEqDiff, Nat.reduceLeDiff, Nat.reduceLT, Int.reduceLE, Int.reduceLT, Int.reduceToNat, Int.reduceAdd, Int.reduceEq, Int.reduceNeg, AH.put_ne, h, true_and]) | (with_reducible refine gq_not (fun h => ?_) (fun h => ?_) <;> simp -implicitDefEqProofs (disch := omega) only [go_sem, eq_self, decide_true, decide_false, Nat.reduceBEq, Nat.reduceAdd, Nat.reduceSub, Nat.reduceMul, Nat.reduceEqDiff, Nat.reduceLeDiff, Nat.reduceLT, Int.reduceLE, Int.reduceLT, Int.reduceToNat, Int.reduceAdd, Int.reduceEq, Int.reduceNeg, AH.put_ne, h, true_and]) | (with_reducible refine gq_of (fun h => ?_) (fun h => ?_) <;> simp -implicitDefEqProofs (disch := omega) only [go_sem, eq_self, decide_true, decide_false, Nat.reduceBEq, Nat.reduceAdd, Nat.reduceSub, Nat.reduceMul, Nat.reduceEqDiff, Nat.reduceLeDiff, Nat.reduceLT, Int.reduceLE, Int.reduceLT, Int.reduceToNat, Int.reduceAdd, Int.reduceEq, Int.reduceNeg, AH.put_ne, h, true_and]) | (with_reducible refine pickB_of (fun h => ?_) (fun h => ?_) <;> simp -implicitDefEqProofs (disch := omega) only [go_sem, eq_self, decide_true, decide_false, Nat.reduceBEq, Nat.reduceAdd, Nat.reduceSub, Nat.reduceMul, Nat.reduceEqDiff, Nat.reduceLeDiff, Nat.reduceLT, Int.reduceLE, Int.reduceLT, Int.reduceToNat, Int.reduceAdd, Int.reduceEq, Int.reduceNeg, AH.put_ne, h, true_and]))
    all_goals (refine hx _ ?_; simp_all [lett] <;> omega)
  · refine am_exit ?_
    simp -implicitDefEqProofs (disch := omega) only [go_sem, eq_self, decide_true, decide_false, Nat.reduceBEq, Nat.reduceAdd, Nat.reduceSub, Nat.reduceMul, Nat.reduceEqDiff, Nat.reduceLeDiff, Nat.reduceLT, Int.reduceLE, Int.reduceLT, Int.reduceToNat, Int.reduceAdd, Int.reduceEq, Int.reduceNeg, AH.put_ne]
    repeat (first | refine am_seq ?_ | (refine am_reg ?_; simp -implicitDefEqProofs (disch := omega) only [go_sem, eq_self, decide_true, decide_false, Nat.reduceBEq, Nat.reduceAdd, Nat.reduceSub, Nat.reduceMul, Nat.reduceEqDiff, Nat.reduceLeDiff, Nat.reduceLT, Int.reduceLE, Int.reduceLT, Int.reduceToNat, Int.reduceAdd, Int.reduceEq, Int.reduceNeg, AH.put_ne]) | (refine am_drw ?_; simp -implicitDefEqProofs (disch := omega) only [go_sem, eq_self, decide_true, decide_false, Nat.reduceBEq, Nat.reduceAdd, Nat.reduceSub, Nat.reduceMul, Nat.reduceEqDiff, Nat.reduceLeDiff, Nat.reduceLT, Int.reduceLE, Int.reduceLT, Int.reduceToNat, Int.reduceAdd, Int.reduceEq, Int.reduceNeg, AH.put_ne]) | refine am_block ?_)
    rw [List.drop_eq_nil_of_le (by omega)] at hg
    repeat' (first | (with_reducible refine gd_not (fun h => ?_) (fun h => ?_) <;> simp -implicitDefEqProofs (disch := omega) only [go_sem, eq_self, decide_true, decide_false, Nat.reduceBEq, Nat.reduceAdd, Nat.reduceSub, Nat.reduceMul, Nat.reduceEqDiff, Nat.reduceLeDiff, Nat.reduceLT, Int.reduceLE, Int.reduceLT, Int.reduceToNat, Int.reduceAdd, Int.reduceEq, Int.reduceNeg, AH.put_ne, h, true_and]) | (with_reducible refine gd_of (fun h => ?_) (fun h => ?_) <;> simp -implicitDefEqProofs (disch := omega) only [go_sem, eq_self, decide_true, decide_false, Nat.reduceBEq, Nat.reduceAdd, Nat.reduceSub, Nat.reduceMul, Nat.reduceEqDiff, Nat.reduceLeDiff, Nat.reduceLT, Int.reduceLE, Int.reduceLT, Int.reduceToNat, Int.reduceAdd, Int.reduceEq, Int.reduceNeg, AH.put_ne, h, true_and]) | (with_reducible refine gq_not (fun h => ?_) (fun h => ?_) <;> simp -implicitDefEqProofs (disch := omega) only [go_sem, eq_self, decide_true, decide_false, Nat.reduceBEq, Nat.reduceAdd, Nat.reduceSub, Nat.reduceMul, Nat.reduceEqDiff, Nat.reduceLeDiff, Nat.reduceLT, Int.reduceLE, Int.reduceLT, Int.reduceToNat, Int.reduceAdd, Int.reduceEq, Int.reduceNeg, AH.put_ne, h, true_and]) | (with_reducible refine gq_of (fun h => ?_) (fun h => ?_) <;> simp -implicitDefEqProofs (disch := omega) only [go_sem, eq_self, decide_true, decide_false, Nat.reduceBEq, Nat.reduceAdd, Nat.reduceSub, Nat.reduceMul, Nat.reduceEqDiff, Nat.reduceLeDiff, Nat.reduceLT, Int.reduceLE, Int.reduceLT, Int.reduceToNat, Int.reduceAdd, Int.reduceEq, Int.reduceNeg, AH.put_ne, h, true_and]) | (with_reducible refine pickB_of (fun h => ?_) (fun h => ?_) <;> simp -implicitDefEqProofs (disch := omega) only [go_sem, eq_self, decide_true, decide_false, Nat.reduceBEq, Nat.reduceAdd, Nat.reduceSub, Nat.reduceMul, Nat.reduceEqDiff, Nat.reduceLeDiff, Nat.reduceLT, Int.reduceLE, Int.reduceLT, Int.reduceToNat, Int.reduceAdd, Int.reduceEq, Int.reduceNeg, AH.put_ne, h, true_and]))
    all_goals (refine am_ret ?_; simp -implicitDefEqProofs (disch := omega) only [go_sem, eq_self, decide_true, decide_false, Nat.reduceBEq, Nat.reduceAdd, Nat.reduceSub, Nat.reduceMul, Nat.reduceEqDiff, Nat.reduceLeDiff, Nat.reduceLT, Int.reduceLE, Int.reduceLT, Int.reduceToNat, Int.reduceAdd, Int.reduceEq, Int.reduceNeg, AH.put_ne]; simp_all [named, letts, List.length_pos_iff] <;> omega)
theorem right1_calls (s : List UInt8) (hl : s.length < 4611686018427387904) (H : AH) : ACalls Tryz.prog 84 [.str s] H (fun o H' => o = .ret (.bool (!named s)) ∧ H' = H) := by
  refine acalls Tryz.func84 c84 r84 (by simp [Tryz.ntmps84]) ?_
  repeat (first | refine am_seq ?_ | (refine am_reg ?_; simp -implicitDefEqProofs (disch := omega) only [go_sem, eq_self, decide_true, decide_false, Nat.reduceBEq, Nat.reduceAdd, Nat.reduceSub, Nat.reduceMul, Nat.reduceEqDiff, Nat.reduceLeDiff, Nat.reduceLT, Int.reduceLE, Int.reduceLT, Int.reduceToNat, Int.reduceAdd, Int.reduceEq, Int.reduceNeg, AH.put_ne]) | (refine am_drw ?_; simp -implicitDefEqProofs (disch := omega) only [go_sem, eq_self, decide_true, decide_false, Nat.reduceBEq, Nat.reduceAdd, Nat.reduceSub, Nat.reduceMul, Nat.reduceEqDiff, Nat.reduceLeDiff, Nat.reduceLT, Int.reduceLE, Int.reduceLT, Int.reduceToNat, Int.reduceAdd, Int.reduceEq, Int.reduceNeg, AH.put_ne]) | refine am_block ?_)
  refine call_of (named_calls s hl) ?_
  simp -implicitDefEqProofs (disch := omega) only [go_sem, eq_self, decide_true, decide_false, Nat.reduceBEq, Nat.reduceAdd, Nat.reduceSub, Nat.reduceMul, Nat.reduceEqDiff, Nat.reduceLeDiff, Nat.reduceLT, Int.reduceLE, Int.reduceLT, Int.reduceToNat, Int.reduceAdd, Int.reduceEq, Int.reduceNeg, AH.put_ne]
  refine am_ret ?_
  simp -implicitDefEqProofs (disch := omega) only [go_sem, eq_self, decide_true, decide_false, Nat.reduceBEq, Nat.reduceAdd, Nat.reduceSub, Nat.reduceMul, Nat.reduceEqDiff, Nat.reduceLeDiff, Nat.reduceLT, Int.reduceLE, Int.reduceLT, Int.reduceToNat, Int.reduceAdd, Int.reduceEq, Int.reduceNeg, AH.put_ne]
/-- The first that is so, from a number on. -/
def idxB {α : Type} (p : α → Bool) : List α → Int → Int
  | [], _ => -1
  | y :: l, i => if p y = true then i else idxB p l (i + 1)
theorem idxB_any {α : Type} (p : α → Bool) : ∀ (l : List α) (i : Int), 0 ≤ i → (0 ≤ idxB p l i ↔ l.any p = true)
  | [], i, _ => by simp [idxB]
  | y :: l, i, h => by
    have := idxB_any p l (i + 1) (by omega)
    by_cases hx : p y = true
    · simp [idxB, hx, h]
    · simp only [Bool.not_eq_true] at hx
      simp [idxB, hx, this]
theorem indexf_calls (l : List (List UInt8)) (t : Tok) (hl : l.length < 4611686018427387904) (hs : ∀ s ∈ l, s.length < 4611686018427387904) (H : AH) : ACalls Tryz.prog 110 [.sl 1 (strsE l) t, .func (.func 84) [] []] H (fun o H' => o = .ret (.int .i64 (idxB (fun s => !named s) l 0)) ∧ H' = H) := by
  refine acalls Tryz.func110 c110 r110 (by simp [Tryz.ntmps110]) ?_
  repeat (first | refine am_seq ?_ | (refine am_reg ?_; simp -implicitDefEqProofs (disch := omega) only [go_sem, eq_self, decide_true, decide_false, Nat.reduceBEq, Nat.reduceAdd, Nat.reduceSub, Nat.reduceMul, Nat.reduceEqDiff, Nat.reduceLeDiff, Nat.reduceLT, Int.reduceLE, Int.reduceLT, Int.reduceToNat, Int.reduceAdd, Int.reduceEq, Int.reduceNeg, AH.put_ne]) | (refine am_drw ?_; simp -implicitDefEqProofs (disch := omega) only [go_sem, eq_self, decide_true, decide_false, Nat.reduceBEq, Nat.reduceAdd, Nat.reduceSub, Nat.reduceMul, Nat.reduceEqDiff, Nat.reduceLeDiff, Nat.reduceLT, Int.reduceLE, Int.reduceLT, Int.reduceToNat, Int.reduceAdd, Int.reduceEq, Int.reduceNeg, AH.put_ne]) | refine am_block ?_)
  refine am_loop (fun n a H' => ∃ i : Nat, i + n = l.length ∧ a = [(0, .sl 1 (strsE l) t), (1, .func (.func 84) [] []), (7, .int .i64 l.length), (8, .int .i64 i)] ∧ H' = H ∧ idxB (fun s => !named s) l 0 = idxB (fun s => !named s) (l.drop i) i) ?_ l.length ⟨0, by simp, by simp, rfl, by simp⟩
  rintro n a H' ⟨i, hi, rfl, rfl, hg⟩
  repeat (first | refine am_seq ?_ | (refine am_reg ?_; simp -implicitDefEqProofs (disch := omega) only [go_sem, eq_self, decide_true, decide_false, Nat.reduceBEq, Nat.reduceAdd, Nat.reduceSub, Nat.reduceMul, Nat.reduceEqDiff, Nat.reduceLeDiff, Nat.reduceLT, Int.reduceLE, Int.reduceLT, Int.reduceToNat, Int.reduceAdd, Int.reduceEq, Int.reduceNeg, AH.put_ne]) | (refine am_drw ?_; simp -implicitDefEqProofs (disch := omega) only [go_sem, eq_self, decide_true, decide_false, Nat.reduceBEq, Nat.reduceAdd, Nat.reduceSub, Nat.reduceMul, Nat.reduceEqDiff, Nat.reduceLeDiff, Nat.reduceLT, Int.reduceLE, Int.reduceLT, Int.reduceToNat, Int.reduceAdd, Int.reduceEq, Int.reduceNeg, AH.put_ne]) | refine am_block ?_)
  refine am_cond rfl (fun hc => ?_) (fun hc => ?_) <;> (try simp -implicitDefEqProofs (disch := omega) only [go_sem, eq_self, decide_true, decide_false, Nat.reduceBEq, Nat.reduceAdd, Nat.reduceSub, Nat.reduceMul, Nat.reduceEqDiff, Nat.reduceLeDiff, Nat.reduceLT, Int.reduceLE, Int.reduceLT, Int.reduceToNat, Int.reduceAdd, Int.reduceEq, Int.reduceNeg, AH.put_ne] at hc)
  · have hlt : i < l.length := by omega
    rw [List.drop_eq_getElem_cons hlt, idxB] at hg
    refine am_skip ?_
    simp -implicitDefEqProofs (disch := omega) only [go_sem, eq_self, decide_true, decide_false, Nat.reduceBEq, Nat.reduceAdd, Nat.reduceSub, Nat.reduceMul, Nat.reduceEqDiff, Nat.reduceLeDiff, Nat.reduceLT, Int.reduceLE, Int.reduceLT, Int.reduceToNat, Int.reduceAdd, Int.reduceEq, Int.reduceNeg, AH.put_ne]
    repeat (first | refine am_seq ?_ | (refine am_reg ?_; simp -implicitDefEqProofs (disch := omega) only [go_sem, eq_self, decide_true, decide_false, Nat.reduceBEq, Nat.reduceAdd, Nat.reduceSub, Nat.reduceMul, Nat.reduceEqDiff, Nat.reduceLeDiff, Nat.reduceLT, Int.reduceLE, Int.reduceLT, Int.reduceToNat, Int.reduceAdd, Int.reduceEq, Int.reduceNeg, AH.put_ne, get_of_lt hlt]) | (refine am_drw ?_; simp -implicitDefEqProofs (disch := omega) only [go_sem, eq_self, decide_true, decide_false, Nat.reduceBEq, Nat.reduceAdd, Nat.reduceSub, Nat.reduceMul, Nat.reduceEqDiff, Nat.reduceLeDiff, Nat.reduceLT, Int.reduceLE, Int.reduceLT, Int.reduceToNat, Int.reduceAdd, Int.reduceEq, Int.reduceNeg, AH.put_ne, get_of_lt hlt]) | refine am_block ?_)
    refine ⟨by kernel_rfl, ?_⟩
    refine call_of (right1_calls l[i] (hs _ (List.getElem_mem hlt))) ?_
    try simp -implicitDefEqProofs (disch := omega) only [go_sem, eq_self, decide_true, decide_false, Nat.reduceBEq, Nat.reduceAdd, Nat.reduceSub, Nat.reduceMul, Nat.reduceEqDiff, Nat.reduceLeDiff, Nat.reduceLT, Int.reduceLE, Int.reduceLT, Int.reduceToNat, Int.reduceAdd, Int.reduceEq, Int.reduceNeg, AH.put_ne]
    refine am_cond rfl (fun hc => ?_) (fun hc => ?_) <;> (try simp -implicitDefEqProofs (disch := omega) only [go_sem, eq_self, decide_true, decide_false, Nat.reduceBEq, Nat.reduceAdd, Nat.reduceSub, Nat.reduceMul, Nat.reduceEqDiff, Nat.reduceLeDiff, Nat.reduceLT, Int.reduceLE, Int.reduceLT, Int.reduceToNat, Int.reduceAdd, Int.reduceEq, Int.reduceNeg, AH.put_ne] at hc)
    · repeat (first | refine am_seq ?_ | (refine am_reg ?_; simp -implicitDefEqProofs (disch := omega) only [go_sem, eq_self, decide_true, decide_false, Nat.reduceBEq, Nat.reduceAdd, Nat.reduceSub, Nat.reduceMul, Nat.reduceEqDiff, Nat.reduceLeDiff, Nat.reduceLT, Int.reduceLE, Int.reduceLT, Int.reduceToNat, Int.reduceAdd, Int.reduceEq, Int.reduceNeg, AH.put_ne]) | (refine am_drw ?_; simp -implicitDefEqProofs (disch := omega) only [go_sem, eq_self, decide_true, decide_false, Nat.reduceBEq, Nat.reduceAdd, Nat.reduceSub, Nat.reduceMul, Nat.reduceEqDiff, Nat.reduceLeDiff, Nat.reduceLT, Int.reduceLE, Int.reduceLT, Int.reduceToNat, Int.reduceAdd, Int.reduceEq, Int.reduceNeg, AH.put_ne]) | refine am_block ?_)
      refine am_ret ?_
      simp -implicitDefEqProofs (disch := omega) only [go_sem, eq_self, decide_true, decide_false, Nat.reduceBEq, Nat.reduceAdd, Nat.reduceSub, Nat.reduceMul, Nat.reduceEqDiff, Nat.reduceLeDiff, Nat.reduceLT, Int.reduceLE, Int.reduceLT, Int.reduceToNat, Int.reduceAdd, Int.reduceEq, Int.reduceNeg, AH.put_ne]
      rw [if_pos hc] at hg
      rw [hg]
    · refine am_skip ?_
      simp -implicitDefEqProofs (disch := omega) only [go_sem, eq_self, decide_true, decide_false, Nat.reduceBEq, Nat.reduceAdd, Nat.reduceSub, Nat.reduceMul, Nat.reduceEqDiff, Nat.reduceLeDiff, Nat.reduceLT, Int.reduceLE, Int.reduceLT, Int.reduceToNat, Int.reduceAdd, Int.reduceEq, Int.reduceNeg, AH.put_ne]
      repeat (first | refine am_seq ?_ | (refine am_reg ?_; simp -implicitDefEqProofs (disch := omega) only [go_sem, eq_self, decide_true, decide_false, Nat.reduceBEq, Nat.reduceAdd, Nat.reduceSub, Nat.reduceMul, Nat.reduceEqDiff, Nat.reduceLeDiff, Nat.reduceLT, Int.reduceLE, Int.reduceLT, Int.reduceToNat, Int.reduceAdd, Int.reduceEq, Int.reduceNeg, AH.put_ne, wrap_id]) | (refine am_drw ?_; simp -implicitDefEqProofs (disch := omega) only [go_sem, eq_self, decide_true, decide_false, Nat.reduceBEq, Nat.reduceAdd, Nat.reduceSub, Nat.reduceMul, Nat.reduceEqDiff, Nat.reduceLeDiff, Nat.reduceLT, Int.reduceLE, Int.reduceLT, Int.reduceToNat, Int.reduceAdd, Int.reduceEq, Int.reduceNeg, AH.put_ne, wrap_id]) | refine am_block ?_)
      rw [if_neg (by simpa using hc)] at hg
      exact ⟨n - 1, by omega, i + 1, by omega, by simp, by rw [hg]; rfl⟩
  · refine am_exit ?_
    simp -implicitDefEqProofs (disch := omega) only [go_sem, eq_self, decide_true, decide_false, Nat.reduceBEq, Nat.reduceAdd, Nat.reduceSub, Nat.reduceMul, Nat.reduceEqDiff, Nat.reduceLeDiff, Nat.reduceLT, Int.reduceLE, Int.reduceLT, Int.reduceToNat, Int.reduceAdd, Int.reduceEq, Int.reduceNeg, AH.put_ne]
    repeat (first | refine am_seq ?_ | (refine am_reg ?_; simp -implicitDefEqProofs (disch := omega) only [go_sem, eq_self, decide_true, decide_false, Nat.reduceBEq, Nat.reduceAdd, Nat.reduceSub, Nat.reduceMul, Nat.reduceEqDiff, Nat.reduceLeDiff, Nat.reduceLT, Int.reduceLE, Int.reduceLT, Int.reduceToNat, Int.reduceAdd, Int.reduceEq, Int.reduceNeg, AH.put_ne]) | (refine am_drw ?_; simp -implicitDefEqProofs (disch := omega) only [go_sem, eq_self, decide_true, decide_false, Nat.reduceBEq, Nat.reduceAdd, Nat.reduceSub, Nat.reduceMul, Nat.reduceEqDiff, Nat.reduceLeDiff, Nat.reduceLT, Int.reduceLE, Int.reduceLT, Int.reduceToNat, Int.reduceAdd, Int.reduceEq, Int.reduceNeg, AH.put_ne]) | refine am_block ?_)
    refine am_ret ?_
    simp -implicitDefEqProofs (disch := omega) only [go_sem, eq_self, decide_true, decide_false, Nat.reduceBEq, Nat.reduceAdd, Nat.reduceSub, Nat.reduceMul, Nat.reduceEqDiff, Nat.reduceLeDiff, Nat.reduceLT, Int.reduceLE, Int.reduceLT, Int.reduceToNat, Int.reduceAdd, Int.reduceEq, Int.reduceNeg, AH.put_ne]
    rw [List.drop_eq_nil_of_le (by omega)] at hg
    rw [hg]; rfl
theorem containsf_calls (l : List (List UInt8)) (t : Tok) (hl : l.length < 4611686018427387904) (hs : ∀ s ∈ l, s.length < 4611686018427387904) (H : AH) : ACalls Tryz.prog 83 [.sl 1 (strsE l) t, .func (.func 84) [] []] H (fun o H' => o = .ret (.bool (l.any fun s => !named s)) ∧ H' = H) := by
  refine acalls Tryz.func83 c83 r83 (by simp [Tryz.ntmps83]) ?_
  repeat (first | refine am_seq ?_ | (refine am_reg ?_; simp -implicitDefEqProofs (disch := omega) only [go_sem, eq_self, decide_true, decide_false, Nat.reduceBEq, Nat.reduceAdd, Nat.reduceSub, Nat.reduceMul, Nat.reduceEqDiff, Nat.reduceLeDiff, Nat.reduceLT, Int.reduceLE, Int.reduceLT, Int.reduceToNat, Int.reduceAdd, Int.reduceEq, Int.reduceNeg, AH.put_ne]) | (refine am_drw ?_; simp -implicitDefEqProofs (disch := omega) only [go_sem, eq_self, decide_true, decide_false, Nat.reduceBEq, Nat.reduceAdd, Nat.reduceSub, Nat.reduceMul, Nat.reduceEqDiff, Nat.reduceLeDiff, Nat.reduceLT, Int.reduceLE, Int.reduceLT, Int.reduceToNat, Int.reduceAdd, Int.reduceEq, Int.reduceNeg, AH.put_ne]) | refine am_block ?_)
  refine call_of (indexf_calls l t hl hs) ?_
  simp -implicitDefEqProofs (disch := omega) only [go_sem, eq_self, decide_true, decide_false, Nat.reduceBEq, Nat.reduceAdd, Nat.reduceSub, Nat.reduceMul, Nat.reduceEqDiff, Nat.reduceLeDiff, Nat.reduceLT, Int.reduceLE, Int.reduceLT, Int.reduceToNat, Int.reduceAdd, Int.reduceEq, Int.reduceNeg, AH.put_ne, ge_iff_le, idxB_any, Bool.decide_eq_true]
  refine am_ret ?_
  simp -implicitDefEqProofs (disch := omega) only [go_sem, eq_self, decide_true, decide_false, Nat.reduceBEq, Nat.reduceAdd, Nat.reduceSub, Nat.reduceMul, Nat.reduceEqDiff, Nat.reduceLeDiff, Nat.reduceLT, Int.reduceLE, Int.reduceLT, Int.reduceToNat, Int.reduceAdd, Int.reduceEq, Int.reduceNeg, AH.put_ne]
end Go.Proofs.YtcfeafpjkcmdiaaGreatDoor.Hel
