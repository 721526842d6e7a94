/- Of the walks of this seat: contracts of functions of the given program, proved over the abstract values of the texts Vm. Conditions: as each theorem says. -/
import Derived.Test.YtjlphncecdlmcaaM1
import Derived.Test.YtjlphncecdlmcaaVmQ
import Derived.Test.YtjlphncecdlmcaaProg
import Derived.KernelRfl
import Derived.Test.YtjlphncecdlmcaaVm36
import Derived.Test.YtjlphncecdlmcaaM2
set_option linter.unusedVariables false
set_option linter.unusedSimpArgs false
namespace Go.Proofs.Ytjlphncecdlmcaa
open Go.Vm
attribute [local go_sem] eq_self decide_true decide_false AH.put_ne
attribute [local go_sem_proc] Nat.reduceBEq Nat.reduceAdd Nat.reduceSub Nat.reduceMul Nat.reduceEqDiff Nat.reduceLeDiff Nat.reduceLT Int.reduceLE Int.reduceLT Int.reduceToNat Int.reduceAdd Int.reduceEq Int.reduceNeg
attribute [local go_sem] byteCells_get byteCells_length Int.toNat_natCast Option.map_some Int.natCast_nonneg decide_eq_true_eq decide_eq_false_iff_not
/- flange/varint.Append -/
abbrev k140_0 : MC :=
 .cond (.t 6) (.skip) (.exit 0)
abbrev k140_1 : MC :=
 .reg [
 ⟨some 13, none, .val (.mv (.t 1))⟩,
 ⟨some 14, none, .val (.bin .shr .num (.t 13) (.c (.int .u64 7)))⟩,
 ⟨some 1, none, .val (.mv (.t 14))⟩] [0, 1]
abbrev k140_2 : MC :=
 .block 1 ((.seq (.reg [
 ⟨some 7, none, .val (.mv (.t 0))⟩,
 ⟨some 8, none, .val (.mv (.t 1))⟩,
 ⟨some 9, none, .val (.i2i .u8 (.t 8))⟩,
 ⟨some 10, none, .val (.bin .or .num (.t 9) (.c (.int .u8 128)))⟩,
 ⟨some 11, none, .bslice 1 1 [(.int .u8 0)] [(0, 1, (.t 10))]⟩,
 ⟨some 12, none, .app 1 1 (.t 7) (.t 11)⟩,
 ⟨some 0, none, .val (.mv (.t 12))⟩] [0, 1]) k140_1))
abbrev k140_3 : MC :=
 (.seq ((.seq (.reg [
 ⟨some 5, none, .val (.mv (.t 1))⟩,
 ⟨some 6, none, .val (.bin .geq .num (.t 5) (.c (.int .u64 128)))⟩] [0, 1, 6]) k140_0)) k140_2)
abbrev k140_4 : MC :=
 (.seq (.reg [
 ⟨some 15, none, .val (.mv (.t 0))⟩,
 ⟨some 16, none, .val (.mv (.t 1))⟩,
 ⟨some 17, none, .val (.i2i .u8 (.t 16))⟩,
 ⟨some 18, none, .bslice 1 1 [(.int .u8 0)] [(0, 1, (.t 17))]⟩,
 ⟨some 19, none, .app 1 1 (.t 15) (.t 18)⟩,
 ⟨some 4, none, .val (.mv (.t 19))⟩] [4]) (.ret))
abbrev k140_5 : MC :=
 (.seq (.block 0 (.loop k140_3)) k140_4)
abbrev k140 : MC :=
 (.seq (.reg [
 ⟨some 4, none, .val (.mv (.c .nilSl))⟩] [0, 1]) k140_5)
theorem c140 : Try.f140.body.bind (mcOf Try.prog (List.contains [] ·) (List.getD [([], [0, 1]), ([], [0, 1, 6]), ([], [0, 1]), ([], [0, 1]), ([], [4])] · ([], [])) 20) = some k140 := by kernel_rfl
theorem r140 : rvsOf Try.prog Try.f140.results.toList = some [.tmp 4] := by kernel_rfl
/- flange/varint.end -/
abbrev k170_0 : MC :=
 .cond (.t 12) ((.seq (.reg [
 ⟨some 4, none, .val (.mv (.c (.int .i64 4)))⟩] [4]) (.ret))) (.skip)
abbrev k170_1 : MC :=
 .cond (.t 5) ((.seq (.reg [
 ⟨some 4, none, .val (.mv (.c (.int .i64 4)))⟩] [4]) (.ret))) ((.seq (.reg [
 ⟨some 13, none, .val (.mv (.t 1))⟩,
 ⟨some 14, none, .val (.bin .eql .num (.t 13) (.c (.int .i64 9)))⟩,
 ⟨some 15, none, .val (.mv (.t 14))⟩,
 ⟨some 16, (some (15, true)), .val (.mv (.t 0))⟩,
 ⟨some 17, (some (15, true)), .val (.bin .neq .num (.t 16) (.c (.int .u8 1)))⟩,
 ⟨some 18, none, .val (.pick (.t 15) (.t 17) (.c (.bool false)))⟩,
 ⟨some 12, none, .val (.mv (.t 18))⟩] [12]) k170_0))
abbrev k170_2 : MC :=
 (.seq (.reg [
 ⟨some 4, none, .val (.mv (.c (.int .i64 0)))⟩] [4]) (.ret))
abbrev k170_3 : MC :=
 (.seq (.block 0 ((.seq (.reg [
 ⟨some 6, none, .val (.mv (.t 0))⟩,
 ⟨some 7, none, .val (.bin .eql .num (.t 6) (.c (.int .u8 0)))⟩,
 ⟨some 8, none, .val (.mv (.t 7))⟩,
 ⟨some 9, (some (8, true)), .val (.mv (.t 1))⟩,
 ⟨some 10, (some (8, true)), .val (.bin .gtr .num (.t 9) (.c (.int .i64 0)))⟩,
 ⟨some 11, none, .val (.pick (.t 8) (.t 10) (.c (.bool false)))⟩,
 ⟨some 5, none, .val (.mv (.t 11))⟩] [0, 1, 5]) k170_1))) k170_2)
abbrev k170 : MC :=
 (.seq (.reg [
 ⟨some 4, none, .val (.mv (.c (.int .i64 0)))⟩] [0, 1]) k170_3)
theorem c170 : Try.f170.body.bind (mcOf Try.prog (List.contains [] ·) (List.getD [([], [0, 1]), ([], [0, 1, 5]), ([], [4]), ([], [12]), ([], [4]), ([], [4])] · ([], [])) 19) = some k170 := by kernel_rfl
theorem r170 : rvsOf Try.prog Try.f170.results.toList = some [.tmp 4] := by kernel_rfl
/- flange/varint.Read -/
abbrev k155_0 : MC :=
 .cond (.t 22) ((.seq (.reg [
 ⟨some 23, none, .val (.mv (.t 8))⟩,
 ⟨some 2, none, .val (.mv (.c (.int .u64 0)))⟩,
 ⟨some 3, none, .val (.mv (.c (.int .i64 0)))⟩,
 ⟨some 4, none, .val (.mv (.t 23))⟩] [2, 3, 4]) (.ret))) (.skip)
abbrev k155_1 : MC :=
 (.seq (.reg [
 ⟨some 21, none, .val (.mv (.t 8))⟩,
 ⟨some 22, none, .val (.bin .neq .num (.t 21) (.c (.int .i64 0)))⟩] [5, 6, 7, 8, 22]) k155_0)
abbrev k155_2 : MC :=
 (.seq (.reg [
 ⟨some 24, none, .val (.mv (.t 5))⟩,
 ⟨some 25, none, .val (.mv (.t 7))⟩,
 ⟨some 26, none, .val (.i2i .u64 (.t 25))⟩,
 ⟨some 27, none, .val (.mv (.t 6))⟩,
 ⟨some 28, none, .val (.bin .mul .num (.c (.int .i64 7)) (.t 27))⟩,
 ⟨some 29, none, .val (.bin .shl .num (.t 26) (.t 28))⟩,
 ⟨some 30, none, .val (.bin .or .num (.t 24) (.t 29))⟩,
 ⟨some 31, none, .val (.mv (.t 6))⟩,
 ⟨some 32, none, .val (.bin .add .num (.t 31) (.c (.int .i64 1)))⟩,
 ⟨some 2, none, .val (.mv (.t 30))⟩,
 ⟨some 3, none, .val (.mv (.t 32))⟩,
 ⟨some 4, none, .val (.mv (.c (.int .i64 0)))⟩] [2, 3, 4]) (.ret))
abbrev k155_3 : MC :=
 .cond (.t 17) ((.seq ((.seq (.reg [
 ⟨some 18, none, .val (.mv (.t 7))⟩,
 ⟨some 19, none, .val (.mv (.t 6))⟩,
 ⟨some 20, none, .call 170 [(.t 18), (.t 19)]⟩,
 ⟨some 8, none, .val (.mv (.t 20))⟩] [5, 6, 7, 8]) k155_1)) k155_2)) (.skip)
abbrev k155_4 : MC :=
 .cond (.t 34) ((.seq (.reg [
 ⟨some 2, none, .val (.mv (.c (.int .u64 0)))⟩,
 ⟨some 3, none, .val (.mv (.c (.int .i64 0)))⟩,
 ⟨some 4, none, .val (.mv (.c (.int .i64 4)))⟩] [2, 3, 4]) (.ret))) (.skip)
abbrev k155_5 : MC :=
 .reg [
 ⟨some 35, none, .val (.mv (.t 5))⟩,
 ⟨some 36, none, .val (.mv (.t 7))⟩,
 ⟨some 37, none, .val (.bin .sub .num (.t 36) (.c (.int .u8 128)))⟩,
 ⟨some 38, none, .val (.i2i .u64 (.t 37))⟩,
 ⟨some 39, none, .val (.mv (.t 6))⟩,
 ⟨some 40, none, .val (.bin .mul .num (.c (.int .i64 7)) (.t 39))⟩,
 ⟨some 41, none, .val (.bin .shl .num (.t 38) (.t 40))⟩,
 ⟨some 42, none, .val (.bin .or .num (.t 35) (.t 41))⟩,
 ⟨some 5, none, .val (.mv (.t 42))⟩] [5, 9, 10, 11]
abbrev k155_6 : MC :=
 (.seq ((.seq (.reg [
 ⟨some 33, none, .val (.mv (.t 6))⟩,
 ⟨some 34, none, .val (.bin .eql .num (.t 33) (.c (.int .i64 9)))⟩] [5, 6, 7, 9, 10, 11, 34]) k155_4)) k155_5)
abbrev k155_7 : MC :=
 (.seq ((.seq (.reg [
 ⟨some 16, none, .val (.mv (.t 7))⟩,
 ⟨some 17, none, .val (.bin .lss .num (.t 16) (.c (.int .u8 128)))⟩] [5, 6, 7, 9, 10, 11, 17]) k155_3)) k155_6)
abbrev k155_8 : MC :=
 .reg [
 ⟨some 43, none, .val (.bin .add .num (.t 11) (.c (.int .i64 1)))⟩,
 ⟨some 11, none, .val (.mv (.t 43))⟩] [5, 9, 10, 11]
abbrev k155_9 : MC :=
 (.seq (.block 1 ((.seq (.reg [
 ⟨some 13, none, .val (.mv (.t 11))⟩,
 ⟨some 14, none, .val (.iaddr 1 (.t 9) (.t 11))⟩,
 ⟨some 15, none, .val (.load false 1 (.t 14))⟩,
 ⟨some 6, none, .val (.mv (.t 13))⟩,
 ⟨some 7, none, .val (.mv (.t 15))⟩] [5, 6, 7, 9, 10, 11]) k155_7))) k155_8)
abbrev k155_10 : MC :=
 (.seq (.cond (.t 12) (.skip) (.exit 0)) k155_9)
abbrev k155_11 : MC :=
 (.seq (.reg [
 ⟨some 12, none, .val (.bin .lss .num (.t 11) (.t 10))⟩] [5, 9, 10, 11, 12]) k155_10)
abbrev k155_12 : MC :=
 .block 0 (.loop k155_11)
abbrev k155_13 : MC :=
 (.seq (.reg [
 ⟨some 2, none, .val (.mv (.c (.int .u64 0)))⟩,
 ⟨some 3, none, .val (.mv (.c (.int .i64 0)))⟩,
 ⟨some 4, none, .val (.mv (.c (.int .i64 5)))⟩] [2, 3, 4]) (.ret))
abbrev k155_14 : MC :=
 (.seq ((.seq (.reg [
 ⟨some 9, none, .val (.mv (.t 0))⟩,
 ⟨some 10, none, .val (.len .sl (.t 9))⟩,
 ⟨some 11, none, .val (.mv (.c (.int .i64 0)))⟩] [5, 9, 10, 11]) k155_12)) k155_13)
abbrev k155_15 : MC :=
 (.seq (.reg [
 ⟨some 5, none, .val (.mv (.c (.int .u64 0)))⟩] [0, 5]) k155_14)
abbrev k155 : MC :=
 (.seq (.reg [
 ⟨some 2, none, .val (.mv (.c (.int .u64 0)))⟩,
 ⟨some 3, none, .val (.mv (.c (.int .i64 0)))⟩,
 ⟨some 4, none, .val (.mv (.c (.int .i64 0)))⟩] [0]) k155_15)
theorem c155 : Try.f155.body.bind (mcOf Try.prog (List.contains [] ·) (List.getD [([], [0]), ([], [0, 5]), ([], [5, 9, 10, 11]), ([], [5, 9, 10, 11, 12]), ([], [5, 6, 7, 9, 10, 11]), ([], [5, 6, 7, 9, 10, 11, 17]), ([], [5, 6, 7, 8]), ([], [5, 6, 7, 8, 22]), ([], [2, 3, 4]), ([], [2, 3, 4]), ([], [5, 6, 7, 9, 10, 11, 34]), ([], [2, 3, 4]), ([], [5, 9, 10, 11]), ([], [5, 9, 10, 11]), ([], [2, 3, 4])] · ([], [])) 44) = some k155 := by kernel_rfl
theorem r155 : rvsOf Try.prog Try.f155.results.toList = some [.tmp 2, .tmp 3, .tmp 4] := by kernel_rfl
/- flange/flangeref01.Bytes -/
abbrev k119_0 : MC :=
 .cond (.t 10) (.skip) (.exit 0)
abbrev k119_1 : MC :=
 .cond (.t 17) (.reg [
 ⟨some 18, none, .val (.mv (.t 5))⟩,
 ⟨some 19, none, .val (.bin .add .num (.t 18) (.c (.int .u8 128)))⟩,
 ⟨some 5, none, .val (.mv (.t 19))⟩] [0, 3, 5]) (.skip)
abbrev k119_2 : MC :=
 .reg [
 ⟨some 20, none, .val (.mv (.t 3))⟩,
 ⟨some 21, none, .val (.mv (.t 5))⟩,
 ⟨some 22, none, .bslice 1 1 [(.int .u8 0)] [(0, 1, (.t 21))]⟩,
 ⟨some 23, none, .app 1 1 (.t 20) (.t 22)⟩,
 ⟨some 3, none, .val (.mv (.t 23))⟩] [0, 3]
abbrev k119_3 : MC :=
 (.seq ((.seq (.reg [
 ⟨some 16, none, .val (.mv (.t 0))⟩,
 ⟨some 17, none, .val (.bin .gtr .num (.t 16) (.c (.int .u64 0)))⟩] [0, 3, 5, 17]) k119_1)) k119_2)
abbrev k119_4 : MC :=
 (.seq (.reg [
 ⟨some 14, none, .val (.mv (.t 0))⟩,
 ⟨some 15, none, .val (.bin .quo .num (.t 14) (.c (.int .u64 128)))⟩,
 ⟨some 0, none, .val (.mv (.t 15))⟩] [0, 3, 5]) k119_3)
abbrev k119_5 : MC :=
 .reg [
 ⟨some 4, none, .val (.mv (.c (.bool false)))⟩] [0, 3, 4]
abbrev k119_6 : MC :=
 (.seq (.block 1 ((.seq (.reg [
 ⟨some 11, none, .val (.mv (.t 0))⟩,
 ⟨some 12, none, .val (.bin .rem .num (.t 11) (.c (.int .u64 128)))⟩,
 ⟨some 13, none, .val (.i2i .u8 (.t 12))⟩,
 ⟨some 5, none, .val (.mv (.t 13))⟩] [0, 3, 5]) k119_4))) k119_5)
abbrev k119_7 : MC :=
 (.seq ((.seq (.reg [
 ⟨some 6, none, .val (.mv (.t 4))⟩,
 ⟨some 7, none, .val (.mv (.t 6))⟩,
 ⟨some 8, (some (7, false)), .val (.mv (.t 0))⟩,
 ⟨some 9, (some (7, false)), .val (.bin .gtr .num (.t 8) (.c (.int .u64 0)))⟩,
 ⟨some 10, none, .val (.pick (.t 7) (.c (.bool true)) (.t 9))⟩] [0, 3, 10]) k119_0)) k119_6)
abbrev k119_8 : MC :=
 .block 0 (.loop k119_7)
abbrev k119_9 : MC :=
 (.seq (.reg [
 ⟨some 24, none, .val (.mv (.t 3))⟩,
 ⟨some 2, none, .val (.mv (.t 24))⟩] [2]) (.ret))
abbrev k119_10 : MC :=
 (.seq ((.seq (.reg [
 ⟨some 4, none, .val (.mv (.c (.bool true)))⟩] [0, 3, 4]) k119_8)) k119_9)
abbrev k119_11 : MC :=
 (.seq (.reg [
 ⟨some 3, none, .val (.mv (.c .nilSl))⟩] [0, 3]) k119_10)
abbrev k119 : MC :=
 (.seq (.reg [
 ⟨some 2, none, .val (.mv (.c .nilSl))⟩] [0]) k119_11)
theorem c119 : Try.f119.body.bind (mcOf Try.prog (List.contains [] ·) (List.getD [([], [0]), ([], [0, 3]), ([], [0, 3, 4]), ([], [0, 3, 10]), ([], [0, 3, 4]), ([], [0, 3, 5]), ([], [0, 3, 5]), ([], [0, 3, 5, 17]), ([], [0, 3, 5]), ([], [0, 3]), ([], [2])] · ([], [])) 25) = some k119 := by kernel_rfl
theorem r119 : rvsOf Try.prog Try.f119.results.toList = some [.tmp 2] := by kernel_rfl
/- flange/flangeref01.Read -/
abbrev k93_0 : MC :=
 .cond (.t 15) (.skip) (.exit 0)
abbrev k93_1 : MC :=
 .cond (.t 26) ((.seq (.reg [
 ⟨some 2, none, .val (.mv (.c (.int .u64 0)))⟩,
 ⟨some 3, none, .val (.mv (.c (.int .i64 0)))⟩,
 ⟨some 4, none, .val (.mv (.c (.int .i64 4)))⟩] [2, 3, 4]) (.ret))) (.skip)
abbrev k93_2 : MC :=
 .cond (.t 52) ((.seq (.reg [
 ⟨some 2, none, .val (.mv (.c (.int .u64 0)))⟩,
 ⟨some 3, none, .val (.mv (.c (.int .i64 0)))⟩,
 ⟨some 4, none, .val (.mv (.c (.int .i64 4)))⟩] [2, 3, 4]) (.ret))) (.skip)
abbrev k93_3 : MC :=
 (.seq (.reg [
 ⟨some 53, none, .val (.mv (.t 5))⟩,
 ⟨some 54, none, .val (.mv (.t 7))⟩,
 ⟨some 55, none, .val (.bin .add .num (.t 54) (.c (.int .i64 1)))⟩,
 ⟨some 2, none, .val (.mv (.t 53))⟩,
 ⟨some 3, none, .val (.mv (.t 55))⟩,
 ⟨some 4, none, .val (.mv (.c (.int .i64 0)))⟩] [2, 3, 4]) (.ret))
abbrev k93_4 : MC :=
 .cond (.t 43) ((.seq ((.seq (.drw [
 ⟨some 44, none, .val (.mv (.t 5))⟩,
 ⟨some 47, none, .val (.mv (.t 0))⟩,
 ⟨some 48, none, .val (.mv (.t 7))⟩,
 ⟨some 49, none, .val (.bin .add .num (.t 48) (.c (.int .i64 1)))⟩,
 ⟨some 50, none, .val (.slc (some 1) (.t 47) none (some (.t 49)) none)⟩,
 ⟨some 51, none, .val (.b2s (.t 50))⟩] [
 ⟨some 45, none, .scall 119 [(.t 44)]⟩,
 ⟨some 46, none, .val (.b2s (.t 45))⟩,
 ⟨some 52, none, .val (.bin .neq .num (.t 46) (.t 51))⟩] [5, 7, 52]) k93_2)) k93_3)) (.skip)
abbrev k93_5 : MC :=
 (.seq (.reg [
 ⟨some 39, none, .val (.mv (.t 0))⟩,
 ⟨some 40, none, .val (.mv (.t 7))⟩,
 ⟨some 41, none, .val (.iaddr 1 (.t 39) (.t 40))⟩,
 ⟨some 42, none, .val (.load false 1 (.t 41))⟩,
 ⟨some 43, none, .val (.bin .lss .num (.t 42) (.c (.int .u8 128)))⟩] [0, 5, 6, 7, 43]) k93_4)
abbrev k93_6 : MC :=
 (.seq (.reg [
 ⟨some 37, none, .val (.mv (.t 6))⟩,
 ⟨some 38, none, .val (.bin .mul .num (.t 37) (.c (.int .u64 128)))⟩,
 ⟨some 6, none, .val (.mv (.t 38))⟩] [0, 5, 6, 7]) k93_5)
abbrev k93_7 : MC :=
 (.seq (.reg [
 ⟨some 27, none, .val (.mv (.t 5))⟩,
 ⟨some 28, none, .val (.mv (.t 0))⟩,
 ⟨some 29, none, .val (.mv (.t 7))⟩,
 ⟨some 30, none, .val (.iaddr 1 (.t 28) (.t 29))⟩,
 ⟨some 31, none, .val (.load false 1 (.t 30))⟩,
 ⟨some 32, none, .val (.bin .rem .num (.t 31) (.c (.int .u8 128)))⟩,
 ⟨some 33, none, .val (.i2i .u64 (.t 32))⟩,
 ⟨some 34, none, .val (.mv (.t 6))⟩,
 ⟨some 35, none, .val (.bin .mul .num (.t 33) (.t 34))⟩,
 ⟨some 36, none, .val (.bin .add .num (.t 27) (.t 35))⟩,
 ⟨some 5, none, .val (.mv (.t 36))⟩] [0, 5, 6, 7]) k93_6)
abbrev k93_8 : MC :=
 .reg [
 ⟨some 16, none, .val (.mv (.t 7))⟩,
 ⟨some 17, none, .val (.bin .add .num (.t 16) (.c (.int .i64 1)))⟩,
 ⟨some 7, none, .val (.mv (.t 17))⟩] [0, 5, 6, 7]
abbrev k93_9 : MC :=
 (.seq (.block 1 ((.seq ((.seq (.reg [
 ⟨some 18, none, .val (.mv (.t 7))⟩,
 ⟨some 19, none, .val (.bin .eql .num (.t 18) (.c (.int .i64 9)))⟩,
 ⟨some 20, none, .val (.mv (.t 19))⟩,
 ⟨some 21, (some (20, true)), .val (.mv (.t 0))⟩,
 ⟨some 22, (some (20, true)), .val (.mv (.t 7))⟩,
 ⟨some 23, (some (20, true)), .val (.iaddr 1 (.t 21) (.t 22))⟩,
 ⟨some 24, (some (20, true)), .val (.load false 1 (.t 23))⟩,
 ⟨some 25, (some (20, true)), .val (.bin .neq .num (.t 24) (.c (.int .u8 1)))⟩,
 ⟨some 26, none, .val (.pick (.t 20) (.t 25) (.c (.bool false)))⟩] [0, 5, 6, 7, 26]) k93_1)) k93_7))) k93_8)
abbrev k93_10 : MC :=
 (.seq ((.seq (.reg [
 ⟨some 8, none, .val (.mv (.t 7))⟩,
 ⟨some 9, none, .val (.mv (.t 0))⟩,
 ⟨some 10, none, .val (.len .sl (.t 9))⟩,
 ⟨some 11, none, .val (.bin .lss .num (.t 8) (.t 10))⟩,
 ⟨some 12, none, .val (.mv (.t 11))⟩,
 ⟨some 13, (some (12, true)), .val (.mv (.t 7))⟩,
 ⟨some 14, (some (12, true)), .val (.bin .lss .num (.t 13) (.c (.int .i64 10)))⟩,
 ⟨some 15, none, .val (.pick (.t 12) (.t 14) (.c (.bool false)))⟩] [0, 5, 6, 7, 15]) k93_0)) k93_9)
abbrev k93_11 : MC :=
 .block 0 (.loop k93_10)
abbrev k93_12 : MC :=
 (.seq (.reg [
 ⟨some 2, none, .val (.mv (.c (.int .u64 0)))⟩,
 ⟨some 3, none, .val (.mv (.c (.int .i64 0)))⟩,
 ⟨some 4, none, .val (.mv (.c (.int .i64 5)))⟩] [2, 3, 4]) (.ret))
abbrev k93_13 : MC :=
 (.seq ((.seq (.reg [
 ⟨some 7, none, .val (.mv (.c (.int .i64 0)))⟩] [0, 5, 6, 7]) k93_11)) k93_12)
abbrev k93_14 : MC :=
 (.seq (.reg [
 ⟨some 6, none, .val (.mv (.c (.int .u64 1)))⟩] [0, 5, 6]) k93_13)
abbrev k93_15 : MC :=
 (.seq (.reg [
 ⟨some 5, none, .val (.mv (.c (.int .u64 0)))⟩,
 ⟨some 6, none, .val (.mv (.c (.int .u64 0)))⟩] [0, 5]) k93_14)
abbrev k93 : MC :=
 (.seq (.reg [
 ⟨some 2, none, .val (.mv (.c (.int .u64 0)))⟩,
 ⟨some 3, none, .val (.mv (.c (.int .i64 0)))⟩,
 ⟨some 4, none, .val (.mv (.c (.int .i64 0)))⟩] [0]) k93_15)
theorem c93 : Try.f93.body.bind (mcOf Try.prog (List.contains [] ·) (List.getD [([], [0]), ([], [0, 5]), ([], [0, 5, 6]), ([], [0, 5, 6, 7]), ([], [0, 5, 6, 7, 15]), ([], [0, 5, 6, 7]), ([], [0, 5, 6, 7, 26]), ([], [2, 3, 4]), ([], [0, 5, 6, 7]), ([], [0, 5, 6, 7]), ([], [0, 5, 6, 7, 43]), ([0, 3, 2, 0, 0, 0, 0, 0, 2], [5, 7, 52]), ([], [2, 3, 4]), ([], [2, 3, 4]), ([], [2, 3, 4])] · ([], [])) 56) = some k93 := by kernel_rfl
theorem r93 : rvsOf Try.prog Try.f93.results.toList = some [.tmp 2, .tmp 3, .tmp 4] := by kernel_rfl
theorem vappend_calls {H0 H : AH} {v : V} {l : List UInt8} {n : Nat} (hacc : AccP H0 1 (byteCells l) v H) (hl : l.length < 100000000) (hn : n < 18446744073709551616) :
    ACalls Try.prog 140 [v, .int .u64 n] H (fun o H' => ∃ v', o = .ret v' ∧ AccP H0 1 (byteCells (l ++ vb n)) v' H' ∧ H.lec H') := by
  refine acalls Try.func140 c140 r140 (by simp [Try.ntmps140]) ?_
  repeat (first | refine am_seq ?_ | (refine am_reg ?_; simp -implicitDefEqProofs (disch := omega) only [go_sem]) | (refine am_drw ?_; simp -implicitDefEqProofs (disch := omega) only [go_sem]) | refine am_block ?_)
  refine am_loop (fun k a H' => ∃ (l' : List UInt8) (n' : Nat) (v' : V), k = n' ∧ a = [(0, v'), (1, .int .u64 n')] ∧ AccP H0 1 (byteCells l') v' H' ∧ l' ++ vb n' = l ++ vb n ∧ n' < 18446744073709551616 ∧ H.lec H') ?_ n ⟨l, n, v, rfl, rfl, hacc, rfl, hn, AH.lec_refl _⟩
  rintro k a H' ⟨l', n', v', rfl, rfl, hacc', he, hn', hl'⟩
  have hlen : l'.length < 100000010 := by
    have := congrArg List.length he
    have := vb_len10 hn
    have := vb_pos k
    simp only [List.length_append] at *
    omega
  repeat' (first | with_reducible (first | refine am_seq ?_ | refine am_block ?_) | ((with_reducible apply am_cond); (case hb => rfl); all_goals (intro hc; (try simp only [reduceCtorEq, bD, beq_iff_eq] at hc); (try (exfalso; omega)))) | ((first | with_reducible (first | refine am_reg ?_ | refine am_skip ?_ | refine am_exit ?_ | refine am_ret ?_ | refine vc_intro ?_ | refine need_elems (by assumption) ?_ | refine vlen_acc (by assumption) ?_ | refine need_bytes (by assumption) ?_ | refine need_lk ?_) | ((with_reducible refine alloc_intro (fun ko hko => ?_)) <;> (try have hne := fresh_ne (by assumption) hko) <;> (try have hnk := fresh_ne hk hko) <;> (try have hnk2 := fresh_ne hk2 hko) <;> (try simp only [AH.put_none] at hko)) | ((with_reducible (first | refine vapp_accL (by assumption) ?_ (fun v2 H2 hacc hlec => ?_) | refine vapp_accL (AccP.mono (by assumption) (AccP.le (by assumption))) ?_ (fun v2 H2 hacc hlec => ?_) | refine vapp_accL (AccP.new (by assumption) (by assumption) _) ?_ (fun v2 H2 hacc hlec => ?_))); · simp only [byteCells_length, List.length_cons, List.length_nil, List.length_map, List.length_append]; omega) | done) <;> (try simp -implicitDefEqProofs (disch := omega) only [go_sem])))
  · refine ⟨k / 128, by omega, l' ++ [UInt8.ofNat (k % 128 + 128)], k / 128, v2, rfl, ?_, ?_, ?_, by omega, AH.lec_trans hl' hlec⟩
    · rw [shr7]
    · rw [byteCells_append]
      rw [or128] at hacc
      exact hacc
    · rw [vb_ge (by omega)] at he
      rw [← he]; simp
  · refine ⟨v2, rfl, ?_, AH.lec_trans hl' hlec⟩
    rw [vb_lt (by omega)] at he
    rw [byte_cast (by omega)] at hacc
    rw [← he, byteCells_append]
    exact hacc
theorem rbytes_calls {H : AH} {n : Nat} (hn : n < 18446744073709551616) :
    ACalls Try.prog 119 [.int .u64 n] H (fun o H' => ∃ v', o = .ret v' ∧ AccP H 1 (byteCells (vb n)) v' H') := by
  refine acalls Try.func119 c119 r119 (by simp [Try.ntmps119]) ?_
  repeat (first | refine am_seq ?_ | (refine am_reg ?_; simp -implicitDefEqProofs (disch := omega) only [go_sem]) | (refine am_drw ?_; simp -implicitDefEqProofs (disch := omega) only [go_sem]) | refine am_block ?_)
  refine am_loop (fun k a H' => ∃ (l' : List UInt8) (n' : Nat) (v' : V) (first : Bool), k = n' + first.toNat ∧ a = [(0, .int .u64 n'), (3, v'), (4, .bool first)] ∧ AccP H 1 (byteCells l') v' H' ∧ (if first = true ∨ 0 < n' then l' ++ vb n' = vb n else l' = vb n) ∧ n' < 18446744073709551616) ?_ (n + 1) ⟨[], n, .nilSl, true, rfl, rfl, AccP.nil _ _, by simp, hn⟩
  rintro k a H' ⟨l', n', v', first, rfl, rfl, hacc', he, hn'⟩
  have hlen : l'.length < 100000010 := by
    have h1 := vb_len10 hn
    split at he
    · have := congrArg List.length he
      simp only [List.length_append] at *
      omega
    · rw [he]; omega
  have step : ∀ v2 H2, (first = true ∨ 0 < n') → 0 < n' / 128 → AccP H 1 (byteCells l' ++ [[V.int IntKind.u8 (((n' % 128 : Nat) : Int) + 128)]]) v2 H2 → AccP H 1 (byteCells (l' ++ [UInt8.ofNat (n' % 128 + 128)])) v2 H2 ∧ (l' ++ [UInt8.ofNat (n' % 128 + 128)]) ++ vb (n' / 128) = vb n := by
    intro v2 H2 hf h0 h
    refine ⟨?_, ?_⟩
    · rw [byteCells_append]
      show AccP H 1 (byteCells l' ++ [[V.int IntKind.u8 ((UInt8.ofNat (n' % 128 + 128)).toNat : Int)]]) v2 H2
      rw [ofNat_toNat (by omega)]; simpa using h
    · rw [if_pos hf, vb_ge (by omega)] at he
      rw [← he]; simp
  have last : ∀ v2 H2, (first = true ∨ 0 < n') → ¬ 0 < n' / 128 → AccP H 1 (byteCells l' ++ [[V.int IntKind.u8 ((n' % 128 : Nat) : Int)]]) v2 H2 → AccP H 1 (byteCells (l' ++ [UInt8.ofNat (n' % 128)])) v2 H2 ∧ l' ++ [UInt8.ofNat (n' % 128)] = vb n := by
    intro v2 H2 hf h0 h
    refine ⟨?_, ?_⟩
    · rw [byteCells_append]
      show AccP H 1 (byteCells l' ++ [[V.int IntKind.u8 ((UInt8.ofNat (n' % 128)).toNat : Int)]]) v2 H2
      rw [ofNat_toNat (by omega)]; simpa using h
    · rw [if_pos hf, vb_lt (by omega)] at he
      rw [← he, Nat.mod_eq_of_lt (by omega)]
  repeat' (first | with_reducible (first | refine am_seq ?_ | refine am_block ?_) | ((with_reducible apply am_cond); (case hb => rfl); all_goals (intro hc; (try simp only [reduceCtorEq, bD, beq_iff_eq] at hc); (try (exfalso; omega)))) | ((first | with_reducible (first | refine am_reg ?_ | refine am_skip ?_ | refine am_exit ?_ | refine am_ret ?_ | refine vc_intro ?_ | refine need_elems (by assumption) ?_ | refine vlen_acc (by assumption) ?_ | refine need_bytes (by assumption) ?_ | refine need_lk ?_) | ((with_reducible (first | apply gd_not | apply gd_of | apply gq_not | apply gq_of | apply pickB_of)) <;> intro hc <;> (try simp -implicitDefEqProofs (disch := omega) only [go_sem, hc, tdiv128, tmod128, u64_id, u8_id]) <;> (try simp only [reduceCtorEq, bD, beq_iff_eq] at hc) <;> (try (exfalso; omega))) | ((with_reducible refine alloc_intro (fun ko hko => ?_)) <;> (try have hne := fresh_ne (by assumption) hko) <;> (try have hnk := fresh_ne hk hko) <;> (try have hnk2 := fresh_ne hk2 hko) <;> (try simp only [AH.put_none] at hko)) | ((with_reducible (first | refine vapp_accL (by assumption) ?_ (fun v2 H2 hacc hlec => ?_) | refine vapp_accL (AccP.mono (by assumption) (AccP.le (by assumption))) ?_ (fun v2 H2 hacc hlec => ?_) | refine vapp_accL (AccP.new (by assumption) (by assumption) _) ?_ (fun v2 H2 hacc hlec => ?_))); · simp only [byteCells_length, List.length_cons, List.length_nil, List.length_map, List.length_append]; omega) | done) <;> (try simp -implicitDefEqProofs (disch := omega) only [go_sem, tdiv128, tmod128, u64_id, u8_id])))
  · subst first
    obtain ⟨g1, g2⟩ := step _ _ (.inr (by omega)) (by omega) hacc
    exact ⟨n' / 128, by simp; omega, _, n' / 128, _, false, by simp, rfl, g1, by rw [if_pos (.inr (by omega))]; exact g2, by omega⟩
  · subst first
    obtain ⟨g1, g2⟩ := last _ _ (.inr (by omega)) (by omega) hacc
    exact ⟨n' / 128, by simp; omega, _, n' / 128, _, false, by simp, rfl, g1, by rw [if_neg (by simp; omega)]; exact g2, by omega⟩
  · subst first
    rw [if_neg (by simp; omega)] at he
    exact ⟨_, rfl, he ▸ hacc'⟩
  · subst first
    obtain ⟨g1, g2⟩ := step _ _ (.inl rfl) (by omega) hacc
    exact ⟨n' / 128, by simp; omega, _, n' / 128, _, false, by simp, rfl, g1, by rw [if_pos (.inr (by omega))]; exact g2, by omega⟩
  · subst first
    obtain ⟨g1, g2⟩ := last _ _ (.inl rfl) (by omega) hacc
    exact ⟨n' / 128, by simp; omega, _, n' / 128, _, false, by simp, rfl, g1, by rw [if_neg (by simp; omega)]; exact g2, by omega⟩
theorem end_calls {c : UInt8} {i : Nat} (H : AH) :
    ACalls Try.prog 170 [.int .u8 c.toNat, .int .i64 i] H (fun o H' => o = .ret (.int .i64 (if (c.toNat = 0 ∧ 0 < i) ∨ (i = 9 ∧ c.toNat ≠ 1) then 4 else 0)) ∧ H' = H) := by
  refine acalls Try.func170 c170 r170 (by simp [Try.ntmps170]) ?_
  repeat' (first | with_reducible (first | refine am_seq ?_ | refine am_block ?_) | ((with_reducible apply am_cond); (case hb => rfl); all_goals (intro hc; (try simp only [reduceCtorEq, bD, beq_iff_eq] at hc); (try (exfalso; omega)))) | ((first | with_reducible (first | refine am_reg ?_ | refine am_skip ?_ | refine am_exit ?_ | refine am_ret ?_ | refine vc_intro ?_ | refine need_elems (by assumption) ?_ | refine vlen_acc (by assumption) ?_ | refine need_bytes (by assumption) ?_ | refine need_lk ?_) | ((with_reducible (first | apply gd_not | apply gd_of | apply gq_not | apply gq_of | apply pickB_of)) <;> intro hc <;> (try simp -implicitDefEqProofs (disch := omega) only [go_sem, hc]) <;> (try simp only [reduceCtorEq, bD, beq_iff_eq] at hc) <;> (try (exfalso; omega))) | done) <;> (try simp -implicitDefEqProofs (disch := omega) only [go_sem])))
  all_goals first | done | (simp_all; done) | (simp_all; omega) | (exfalso; omega) | skip
end Go.Proofs.Ytjlphncecdlmcaa
namespace Go.Proofs.Ytjlphncecdlmcaa
open Go.Vm
attribute [local go_sem] eq_self decide_true decide_false AH.put_ne
attribute [local go_sem_proc] Nat.reduceBEq Nat.reduceAdd Nat.reduceSub Nat.reduceMul Nat.reduceEqDiff Nat.reduceLeDiff Nat.reduceLT Int.reduceLE Int.reduceLT Int.reduceToNat Int.reduceAdd Int.reduceEq Int.reduceNeg
attribute [local go_sem] byteCells_get byteCells_length Int.toNat_natCast Option.map_some Int.natCast_nonneg decide_eq_true_eq decide_eq_false_iff_not
theorem read_calls {b : List UInt8} {t : Tok} (hl : b.length < 100000000) (H : AH) :
    ACalls Try.prog 155 [.sl 1 (byteCells b) t] H (fun o H' => o = .ret (.tuple [.int .u64 (readS b).1, .int .i64 (readS b).2.1, .int .i64 (readS b).2.2]) ∧ H' = H) := by
  refine acalls Try.func155 c155 r155 (by simp [Try.ntmps155]) ?_
  repeat (first | refine am_seq ?_ | (refine am_reg ?_; simp -implicitDefEqProofs (disch := omega) only [go_sem]) | (refine am_drw ?_; simp -implicitDefEqProofs (disch := omega) only [go_sem]) | refine am_block ?_)
  refine am_loop (fun k a H' => ∃ (i acc : Nat), i + k = b.length ∧ i ≤ 9 ∧ a = [(5, .int .u64 acc), (9, .sl 1 (byteCells b) t), (10, .int .i64 b.length), (11, .int .i64 i)] ∧ H' = H ∧ acc < 128 ^ i ∧ readS b = rl acc i (b.drop i)) ?_ b.length ⟨0, 0, by omega, by omega, by simp, rfl, by simp, by simp [readS]⟩
  rintro k a H' ⟨i, acc, hi, hi9, rfl, rfl, hacc, he⟩
  by_cases hlt : i < b.length
  · rw [List.drop_eq_getElem_cons hlt, rl] at he
    have hc256 := u8_lt b[i]
    repeat' (first | with_reducible (first | refine am_seq ?_ | refine am_block ?_) | ((with_reducible apply am_cond); (case hb => rfl); all_goals (intro hc; (try simp only [reduceCtorEq, bD, beq_iff_eq] at hc); (try (exfalso; omega)))) | ((first | with_reducible (first | refine am_reg ?_ | refine am_skip ?_ | refine am_exit ?_ | refine am_ret ?_ | refine vc_intro ?_ | refine need_elems (by assumption) ?_ | refine vlen_acc (by assumption) ?_ | refine need_bytes (by assumption) ?_ | refine call_of (end_calls) ?_ | refine qcall_of (end_calls) ?_ | refine need_lk ?_) | done) <;> (try simp -implicitDefEqProofs (disch := omega) only [go_sem, wrap_id, get_of_lt hlt, u64_id, u8_id])))
    · rename_i h2
      rw [if_pos (by omega)] at he
      split at hc
      · rename_i h3; rw [if_pos h3] at he ⊢; rw [he]; rfl
      · exact absurd rfl hc
    · rename_i h2
      rw [if_pos (by omega)] at he
      split at hc
      · cases hc
      · rename_i h3
        rw [if_neg h3] at he
        have hlt2 : b[i].toNat * 128 ^ i < 18446744073709551616 := by
          have h4 : 128 ^ i ≤ 128 ^ 9 := Nat.pow_le_pow_right (by omega) hi9
          by_cases h9 : i = 9
          · have : b[i].toNat = 1 := by
              apply Classical.byContradiction
              intro h5; exact h3 (.inr ⟨h9, h5⟩)
            rw [this]; omega
          · have h5 : 128 ^ i ≤ 128 ^ 8 := Nat.pow_le_pow_right (by omega) (by omega)
            have := Nat.mul_le_mul_right (128 ^ i) (show b[i].toNat ≤ 127 by omega)
            omega
        rw [he, orAdd hacc hi9 hlt2]
        simp
    · rename_i h2
      rw [if_neg (by omega), if_pos (by omega)] at he
      rw [he]; rfl
    · rename_i h2
      rw [if_neg (by omega), if_neg (by omega)] at he
      have h5 : 128 ^ i ≤ 128 ^ 8 := Nat.pow_le_pow_right (by omega) (by omega)
      have h6 := Nat.mul_le_mul_right (128 ^ i) (show b[i].toNat - 128 ≤ 127 by omega)
      have h7 : (b[i].toNat - 128) * 128 ^ i < 18446744073709551616 := by omega
      refine ⟨k - 1, by omega, i + 1, acc + (b[i].toNat - 128) * 128 ^ i, by omega, by omega, ?_, ?_, he⟩
      · rw [show ((b[i].toNat : Int) - 128) = ((b[i].toNat - 128 : Nat) : Int) by omega, orAdd hacc hi9 h7]
        simp
      · rw [Nat.pow_succ]; omega
  · repeat' (first | with_reducible (first | refine am_seq ?_ | refine am_block ?_) | ((with_reducible apply am_cond); (case hb => rfl); all_goals (intro hc; (try simp only [reduceCtorEq, bD, beq_iff_eq] at hc); (try (exfalso; omega)))) | ((first | with_reducible (first | refine am_reg ?_ | refine am_skip ?_ | refine am_exit ?_ | refine am_ret ?_ | refine vc_intro ?_ | refine need_elems (by assumption) ?_ | refine vlen_acc (by assumption) ?_ | refine need_bytes (by assumption) ?_ | refine need_lk ?_) | done) <;> (try simp -implicitDefEqProofs (disch := omega) only [go_sem, wrap_id])))
    · rw [List.drop_eq_nil_of_le (by omega), rl] at he
      rw [he]; rfl
end Go.Proofs.Ytjlphncecdlmcaa
namespace Go.Proofs.Ytjlphncecdlmcaa
open Go.Vm
attribute [local go_sem] eq_self decide_true decide_false AH.put_ne
attribute [local go_sem_proc] Nat.reduceBEq Nat.reduceAdd Nat.reduceSub Nat.reduceMul Nat.reduceEqDiff Nat.reduceLeDiff Nat.reduceLT Int.reduceLE Int.reduceLT Int.reduceToNat Int.reduceAdd Int.reduceEq Int.reduceNeg
attribute [local go_sem] byteCells_get byteCells_length byteCells_take byteCells_drop bytes_cells List.drop_zero bytesOf_cells toNat_succ Nat.sub_zero Int.toNat_natCast Option.map_some Int.natCast_nonneg decide_eq_true_eq decide_eq_false_iff_not
theorem rbytes_pure {n : Nat} (hn : n < 18446744073709551616) (H : AH) : ACalls Try.prog 119 [.int .u64 n] H (fun o H' => o = .ret (.sl 1 (byteCells (vb n)) .no) ∧ H' = H) :=
  acc_pure (rbytes_calls hn)
theorem rread_calls {b : List UInt8} {t : Tok} (hl : b.length < 100000000) (H : AH) :
    ACalls Try.prog 93 [.sl 1 (byteCells b) t] H (fun o H' => o = .ret (.tuple [.int .u64 (readS b).1, .int .i64 (readS b).2.1, .int .i64 (readS b).2.2]) ∧ H' = H) := by
  refine acalls Try.func93 c93 r93 (by simp [Try.ntmps93]) ?_
  repeat (first | refine am_seq ?_ | (refine am_reg ?_; simp -implicitDefEqProofs (disch := omega) only [go_sem]) | (refine am_drw ?_; simp -implicitDefEqProofs (disch := omega) only [go_sem]) | refine am_block ?_)
  refine am_loop (fun k a H' => ∃ (i acc : Nat), i + k = b.length ∧ i ≤ 9 ∧ a = [(0, .sl 1 (byteCells b) t), (5, .int .u64 acc), (6, .int .u64 (128 ^ i : Nat)), (7, .int .i64 i)] ∧ H' = H ∧ acc = valP (b.take i) ∧ big (b.take i) ∧ readS b = rl acc i (b.drop i)) ?_ b.length ⟨0, 0, by omega, by omega, by simp, rfl, by simp [valP], by simp [big], by simp [readS]⟩
  rintro k a H' ⟨i, acc, hi, hi9, rfl, rfl, hacc, hbig, he⟩
  by_cases hlt : i < b.length
  · rw [List.drop_eq_getElem_cons hlt, rl] at he
    have hc256 := u8_lt b[i]
    have hp : 128 ^ i ≤ 128 ^ 9 := Nat.pow_le_pow_right (by omega) hi9
    have hal : acc < 128 ^ i := by have := valP_lt (b.take i); rw [List.length_take, Nat.min_eq_left (by omega)] at this; omega
    have hln : (b.take i).length = i := by rw [List.length_take]; omega
    have htk : b.take (i + 1) = b.take i ++ [b[i]] := by rw [List.take_add_one, get_of_lt hlt]; rfl
    have hend : b[i].toNat < 128 → (vb (acc + b[i].toNat * 128 ^ i) = b.take (i + 1) ↔ ¬ (b[i].toNat = 0 ∧ 0 < i)) := by
      intro hc
      have := vb_end (b.take i) hbig b[i] hc
      rw [hln] at this
      rw [htk, hacc]; exact this
    have hmod : ∀ m : Nat, m ≤ 127 → m * 128 ^ i < 18446744073709551616 → IntKind.u64.wrap (((m : Nat) : Int) * ((128 ^ i : Nat) : Int)) = ((m * 128 ^ i : Nat) : Int) := by
      intro m _ h; rw [← Int.natCast_mul]; exact u64_id (by omega) (by omega)
    by_cases h9 : i = 9
    · by_cases h1 : b[i].toNat = 1
      · have e1 : (128 : Nat) ^ i = 128 ^ 9 := by rw [h9]
        have e2 := hmod (b[i].toNat % 128) (by omega) (by rw [h1, e1]; decide)
        have e3 : b[i].toNat % 128 * 128 ^ i = 128 ^ 9 := by rw [h1, e1]
        repeat' (first | with_reducible (first | refine am_seq ?_ | refine am_block ?_) | ((with_reducible apply am_cond); (case hb => rfl); all_goals (intro hc; (try simp only [reduceCtorEq, bD, beq_iff_eq] at hc); (try (exfalso; omega)))) | ((first | with_reducible (first | refine am_reg ?_ | refine am_drw ?_ | refine am_skip ?_ | refine am_exit ?_ | refine am_ret ?_ | refine vc_intro ?_ | refine need_elems (by assumption) ?_ | refine vlen_acc (by assumption) ?_ | refine need_bytes (by assumption) ?_ | refine call_of (rbytes_pure (by omega)) ?_ | refine qcall_of (rbytes_pure (by omega)) ?_ | refine need_lk ?_) | ((with_reducible (first | apply gd_not | apply gd_of | apply gq_not | apply gq_of | apply pickB_of)) <;> intro hc <;> (try simp -implicitDefEqProofs (disch := omega) only [go_sem, hc, wrap_id, get_of_lt hlt, tmod128, u8_id, u64_id, e2, e3]) <;> (try simp only [reduceCtorEq, bD, beq_iff_eq] at hc) <;> (try (exfalso; omega))) | done) <;> (try simp -implicitDefEqProofs (disch := omega) only [go_sem, wrap_id, get_of_lt hlt, tmod128, u8_id, u64_id, e2, e3])))
        · exfalso
          apply hc
          rw [← e3, Nat.mod_eq_of_lt (by omega)]
          exact (hend (by omega)).2 (by omega)
        · rw [if_pos (by omega), if_neg (by omega)] at he
          rw [he, h1, e1]; simp
      · repeat' (first | with_reducible (first | refine am_seq ?_ | refine am_block ?_) | ((with_reducible apply am_cond); (case hb => rfl); all_goals (intro hc; (try simp only [reduceCtorEq, bD, beq_iff_eq] at hc); (try (exfalso; omega)))) | ((first | with_reducible (first | refine am_reg ?_ | refine am_drw ?_ | refine am_skip ?_ | refine am_exit ?_ | refine am_ret ?_ | refine vc_intro ?_ | refine need_elems (by assumption) ?_ | refine vlen_acc (by assumption) ?_ | refine need_bytes (by assumption) ?_ | refine call_of (rbytes_pure (by omega)) ?_ | refine qcall_of (rbytes_pure (by omega)) ?_ | refine need_lk ?_) | ((with_reducible (first | apply gd_not | apply gd_of | apply gq_not | apply gq_of | apply pickB_of)) <;> intro hc <;> (try simp -implicitDefEqProofs (disch := omega) only [go_sem, hc, wrap_id, get_of_lt hlt, u64_id, u8_id, tmod128]) <;> (try simp only [reduceCtorEq, bD, beq_iff_eq] at hc) <;> (try (exfalso; omega))) | done) <;> (try simp -implicitDefEqProofs (disch := omega) only [go_sem, wrap_id, get_of_lt hlt, u64_id, u8_id, tmod128])))
        · rw [he]
          split
          · rw [if_pos (.inr ⟨h9, h1⟩)]; rfl
          · first | rfl | (rw [if_pos h9]; rfl)
    · have hp8 : 128 ^ i ≤ 128 ^ 8 := Nat.pow_le_pow_right (by omega) (by omega)
      have h127 : b[i].toNat % 128 * 128 ^ i ≤ 127 * 128 ^ i := Nat.mul_le_mul_right _ (by omega)
      have e2 := hmod (b[i].toNat % 128) (by omega) (by omega)
      repeat' (first | with_reducible (first | refine am_seq ?_ | refine am_block ?_) | ((with_reducible apply am_cond); (case hb => rfl); all_goals (intro hc; (try simp only [reduceCtorEq, bD, beq_iff_eq] at hc); (try (exfalso; omega)))) | ((first | with_reducible (first | refine am_reg ?_ | refine am_drw ?_ | refine am_skip ?_ | refine am_exit ?_ | refine am_ret ?_ | refine vc_intro ?_ | refine need_elems (by assumption) ?_ | refine vlen_acc (by assumption) ?_ | refine need_bytes (by assumption) ?_ | refine call_of (rbytes_pure (by omega)) ?_ | refine qcall_of (rbytes_pure (by omega)) ?_ | refine need_lk ?_) | ((with_reducible (first | apply gd_not | apply gd_of | apply gq_not | apply gq_of | apply pickB_of)) <;> intro hc <;> (try simp -implicitDefEqProofs (disch := omega) only [go_sem, hc, wrap_id, get_of_lt hlt, tmod128, u64_id, u8_id, e2]) <;> (try simp only [reduceCtorEq, bD, beq_iff_eq] at hc) <;> (try (exfalso; omega))) | done) <;> (try simp -implicitDefEqProofs (disch := omega) only [go_sem, wrap_id, get_of_lt hlt, tmod128, u64_id, u8_id, e2])))
      · have hc' : ¬ ¬ (b[i].toNat = 0 ∧ 0 < i) := by
          intro h; apply hc; rw [Nat.mod_eq_of_lt (by omega)]; exact (hend (by omega)).2 h
        rw [if_pos (by omega), if_pos (.inl (Classical.not_not.1 hc'))] at he
        rw [he]; rfl
      · rw [Nat.mod_eq_of_lt (by omega)] at hc
        have := (hend (by omega)).1 hc
        rw [if_pos (by omega), if_neg (by rintro (h | h); exact this h; exact h9 h.1)] at he
        rw [he, Nat.mod_eq_of_lt (by omega)]; simp
      · have hb : b[i].toNat % 128 = b[i].toNat - 128 := by omega
        rw [if_neg (by omega), if_neg h9] at he
        refine ⟨k - 1, by omega, i + 1, acc + (b[i].toNat - 128) * 128 ^ i, by omega, by omega, ?_, ?_, ?_, he⟩
        · rw [hb, Nat.pow_succ]; simp
        · rw [htk, valP_snoc, hln, hacc]
        · rw [htk]; intro c hc
          rcases List.mem_append.1 hc with hc | hc
          · exact hbig c hc
          · rw [List.mem_singleton] at hc; subst hc; omega
  · repeat' (first | with_reducible (first | refine am_seq ?_ | refine am_block ?_) | ((with_reducible apply am_cond); (case hb => rfl); all_goals (intro hc; (try simp only [reduceCtorEq, bD, beq_iff_eq] at hc); (try (exfalso; omega)))) | ((first | with_reducible (first | refine am_reg ?_ | refine am_drw ?_ | refine am_skip ?_ | refine am_exit ?_ | refine am_ret ?_ | refine vc_intro ?_ | refine need_elems (by assumption) ?_ | refine vlen_acc (by assumption) ?_ | refine need_bytes (by assumption) ?_ | refine need_lk ?_) | ((with_reducible (first | apply gd_not | apply gd_of | apply gq_not | apply gq_of | apply pickB_of)) <;> intro hc <;> (try simp -implicitDefEqProofs (disch := omega) only [go_sem, hc, wrap_id]) <;> (try simp only [reduceCtorEq, bD, beq_iff_eq] at hc) <;> (try (exfalso; omega))) | done) <;> (try simp -implicitDefEqProofs (disch := omega) only [go_sem, wrap_id])))
    · rw [List.drop_eq_nil_of_le (by omega), rl] at he
      rw [he]; rfl
end Go.Proofs.Ytjlphncecdlmcaa
namespace Go.Proofs.Ytjlphncecdlmcaa
open Go.Vm
attribute [local go_sem] eq_self decide_true decide_false AH.put_ne
attribute [local go_sem_proc] Nat.reduceBEq Nat.reduceAdd Nat.reduceSub Nat.reduceMul Nat.reduceEqDiff Nat.reduceLeDiff Nat.reduceLT Int.reduceLE Int.reduceLT Int.reduceToNat Int.reduceAdd Int.reduceEq Int.reduceNeg
attribute [local go_sem] byteCells_get byteCells_length byteCells_take byteCells_drop bytes_cells fldC fldsE_get fldsE_length List.drop_zero bytesOf_cells toNat_succ Nat.sub_zero Int.toNat_natCast Option.map_some Int.natCast_nonneg decide_eq_true_eq decide_eq_false_iff_not
/- (flange/message.Field).key -/
abbrev k141_0 : MC :=
 .cond (.t 9) (.reg [
 ⟨some 10, none, .val (.mv (.t 3))⟩,
 ⟨some 11, none, .val (.bin .add .num (.t 10) (.c (.int .u64 1)))⟩,
 ⟨some 3, none, .val (.mv (.t 11))⟩] [3]) (.skip)
abbrev k141_1 : MC :=
 (.seq (.reg [
 ⟨some 12, none, .val (.mv (.t 3))⟩,
 ⟨some 2, none, .val (.mv (.t 12))⟩] [2]) (.ret))
abbrev k141_2 : MC :=
 (.seq ((.seq (.reg [
 ⟨some 8, none, .val (.faddr 1 (.t 1))⟩,
 ⟨some 9, none, .val (.load false 1 (.t 8))⟩] [3, 9]) k141_0)) k141_1)
abbrev k141_3 : MC :=
 (.seq (.reg [
 ⟨some 4, none, .val (.faddr 0 (.t 1))⟩,
 ⟨some 5, none, .val (.load false 1 (.t 4))⟩,
 ⟨some 6, none, .val (.bin .mul .num (.c (.int .i64 2)) (.t 5))⟩,
 ⟨some 7, none, .val (.i2i .u64 (.t 6))⟩,
 ⟨some 3, none, .val (.mv (.t 7))⟩] [1, 3]) k141_2)
abbrev k141 : MC :=
 (.seq (.reg [
 ⟨some 1, none, .boxi (.t 0)⟩,
 ⟨some 2, none, .val (.mv (.c (.int .u64 0)))⟩] [1]) k141_3)
theorem c141 : Try.f141.body.bind (mcOf Try.prog (List.contains [1] ·) (List.getD [([], [1]), ([], [1, 3]), ([], [3, 9]), ([], [3]), ([], [2])] · ([], [])) 13) = some k141 := by kernel_rfl
theorem r141 : rvsOf Try.prog Try.f141.results.toList = some [.tmp 2] := by kernel_rfl
/- (flange/message.Field).right -/
abbrev k116_0 : MC :=
 (.seq (.reg [
 ⟨some 3, none, .val (.faddr 0 (.t 1))⟩,
 ⟨some 4, none, .val (.load false 1 (.t 3))⟩,
 ⟨some 5, none, .val (.bin .geq .num (.t 4) (.c (.int .i64 1)))⟩,
 ⟨some 6, none, .val (.mv (.t 5))⟩,
 ⟨some 7, (some (6, true)), .val (.faddr 0 (.t 1))⟩,
 ⟨some 8, (some (6, true)), .val (.load false 1 (.t 7))⟩,
 ⟨some 9, (some (6, true)), .val (.bin .leq .num (.t 8) (.c (.int .i64 1000)))⟩,
 ⟨some 10, none, .val (.pick (.t 6) (.t 9) (.c (.bool false)))⟩,
 ⟨some 11, none, .val (.mv (.t 10))⟩,
 ⟨some 12, (some (11, true)), .val (.faddr 1 (.t 1))⟩,
 ⟨some 13, (some (11, true)), .val (.load false 1 (.t 12))⟩,
 ⟨some 14, (some (11, true)), .val (.mv (.t 13))⟩,
 ⟨some 15, (some (14, true)), .val (.faddr 2 (.t 1))⟩,
 ⟨some 16, (some (14, true)), .val (.load false 1 (.t 15))⟩,
 ⟨some 17, (some (14, true)), .val (.bin .eql .num (.t 16) (.c (.int .u64 0)))⟩,
 ⟨some 18, (some (11, true)), .val (.pick (.t 14) (.t 17) (.c (.bool false)))⟩,
 ⟨some 19, (some (11, true)), .val (.mv (.t 18))⟩,
 ⟨some 20, (some (19, false)), .val (.faddr 1 (.t 1))⟩,
 ⟨some 21, (some (19, false)), .val (.load false 1 (.t 20))⟩,
 ⟨some 22, (some (19, false)), .val (.not (.t 21))⟩,
 ⟨some 23, (some (19, false)), .val (.mv (.t 22))⟩,
 ⟨some 24, (some (23, true)), .val (.faddr 3 (.t 1))⟩,
 ⟨some 25, (some (23, true)), .val (.load false 1 (.t 24))⟩,
 ⟨some 26, (some (23, true)), .val (.len .sl (.t 25))⟩,
 ⟨some 27, (some (23, true)), .val (.bin .eql .num (.t 26) (.c (.int .i64 0)))⟩,
 ⟨some 28, (some (19, false)), .val (.pick (.t 23) (.t 27) (.c (.bool false)))⟩,
 ⟨some 29, (some (11, true)), .val (.pick (.t 19) (.c (.bool true)) (.t 28))⟩,
 ⟨some 30, none, .val (.pick (.t 11) (.t 29) (.c (.bool false)))⟩,
 ⟨some 2, none, .val (.mv (.t 30))⟩] [2]) (.ret))
abbrev k116 : MC :=
 (.seq (.reg [
 ⟨some 1, none, .boxi (.t 0)⟩,
 ⟨some 2, none, .val (.mv (.c (.bool false)))⟩] [1]) k116_0)
theorem c116 : Try.f116.body.bind (mcOf Try.prog (List.contains [1] ·) (List.getD [([], [1]), ([], [2])] · ([], [])) 31) = some k116 := by kernel_rfl
theorem r116 : rvsOf Try.prog Try.f116.results.toList = some [.tmp 2] := by kernel_rfl
/- (flange/message.Field).behind -/
abbrev k117_0 : MC :=
 (.seq (.reg [
 ⟨some 5, none, .val (.faddr 0 (.t 2))⟩,
 ⟨some 6, none, .val (.load false 1 (.t 5))⟩,
 ⟨some 7, none, .val (.faddr 0 (.t 3))⟩,
 ⟨some 8, none, .val (.load false 1 (.t 7))⟩,
 ⟨some 9, none, .val (.bin .gtr .num (.t 6) (.t 8))⟩,
 ⟨some 10, none, .val (.mv (.t 9))⟩,
 ⟨some 11, (some (10, false)), .val (.faddr 0 (.t 2))⟩,
 ⟨some 12, (some (10, false)), .val (.load false 1 (.t 11))⟩,
 ⟨some 13, (some (10, false)), .val (.faddr 0 (.t 3))⟩,
 ⟨some 14, (some (10, false)), .val (.load false 1 (.t 13))⟩,
 ⟨some 15, (some (10, false)), .val (.bin .eql .num (.t 12) (.t 14))⟩,
 ⟨some 16, (some (10, false)), .val (.mv (.t 15))⟩,
 ⟨some 17, (some (16, true)), .val (.faddr 1 (.t 2))⟩,
 ⟨some 18, (some (16, true)), .val (.load false 1 (.t 17))⟩,
 ⟨some 19, (some (10, false)), .val (.pick (.t 16) (.t 18) (.c (.bool false)))⟩,
 ⟨some 20, (some (10, false)), .val (.mv (.t 19))⟩,
 ⟨some 21, (some (20, true)), .val (.faddr 1 (.t 3))⟩,
 ⟨some 22, (some (20, true)), .val (.load false 1 (.t 21))⟩,
 ⟨some 23, (some (10, false)), .val (.pick (.t 20) (.t 22) (.c (.bool false)))⟩,
 ⟨some 24, none, .val (.pick (.t 10) (.c (.bool true)) (.t 23))⟩,
 ⟨some 4, none, .val (.mv (.t 24))⟩] [4]) (.ret))
abbrev k117 : MC :=
 (.seq (.reg [
 ⟨some 2, none, .boxi (.t 0)⟩,
 ⟨some 3, none, .boxi (.t 1)⟩,
 ⟨some 4, none, .val (.mv (.c (.bool false)))⟩] [2, 3]) k117_0)
theorem c117 : Try.f117.body.bind (mcOf Try.prog (List.contains [2, 3] ·) (List.getD [([], [2, 3]), ([], [4])] · ([], [])) 25) = some k117 := by kernel_rfl
theorem r117 : rvsOf Try.prog Try.f117.results.toList = some [.tmp 4] := by kernel_rfl
/- (flange/message.Field).lay -/
abbrev k118_0 : MC :=
 .cond (.t 11) ((.seq (.reg [
 ⟨some 12, none, .val (.mv (.t 1))⟩,
 ⟨some 13, none, .val (.faddr 2 (.t 2))⟩,
 ⟨some 14, none, .val (.load false 1 (.t 13))⟩,
 ⟨some 15, none, .call 140 [(.t 12), (.t 14)]⟩,
 ⟨some 4, none, .val (.mv (.t 15))⟩] [4]) (.ret))) (.skip)
abbrev k118_1 : MC :=
 (.seq (.drw [
 ⟨some 16, none, .val (.mv (.t 1))⟩,
 ⟨some 17, none, .val (.faddr 3 (.t 2))⟩,
 ⟨some 18, none, .val (.load false 1 (.t 17))⟩,
 ⟨some 19, none, .val (.len .sl (.t 18))⟩,
 ⟨some 20, none, .val (.i2i .u64 (.t 19))⟩,
 ⟨some 22, none, .val (.faddr 3 (.t 2))⟩,
 ⟨some 23, none, .val (.load false 1 (.t 22))⟩] [
 ⟨some 21, none, .scall 140 [(.t 16), (.t 20)]⟩,
 ⟨some 24, none, .app 1 1 (.t 21) (.t 23)⟩,
 ⟨some 4, none, .val (.mv (.t 24))⟩] [4]) (.ret))
abbrev k118_2 : MC :=
 (.seq ((.seq (.reg [
 ⟨some 9, none, .val (.faddr 1 (.t 2))⟩,
 ⟨some 10, none, .val (.load false 1 (.t 9))⟩,
 ⟨some 11, none, .val (.not (.t 10))⟩] [1, 2, 11]) k118_0)) k118_1)
abbrev k118_3 : MC :=
 (.seq (.reg [
 ⟨some 5, none, .val (.mv (.t 1))⟩,
 ⟨some 6, none, .val (.load true 4 (.t 2))⟩,
 ⟨some 7, none, .call 141 [(.t 6)]⟩,
 ⟨some 8, none, .call 140 [(.t 5), (.t 7)]⟩,
 ⟨some 1, none, .val (.mv (.t 8))⟩] [1, 2]) k118_2)
abbrev k118 : MC :=
 (.seq (.reg [
 ⟨some 2, none, .boxi (.t 0)⟩,
 ⟨some 4, none, .val (.mv (.c .nilSl))⟩] [1, 2]) k118_3)
theorem c118 : Try.f118.body.bind (mcOf Try.prog (List.contains [2] ·) (List.getD [([], [1, 2]), ([], [1, 2]), ([], [1, 2, 11]), ([], [4]), ([0, 0, 0, 0, 0, 3, 0, 0, 2, 2], [4])] · ([], [])) 25) = some k118 := by kernel_rfl
theorem r118 : rvsOf Try.prog Try.f118.results.toList = some [.tmp 4] := by kernel_rfl
/- flange/flangeref02.Fits -/
abbrev k90_0 : MC :=
 .cond (.t 39) ((.seq (.reg [
 ⟨some 4, none, .val (.mv (.c (.bool false)))⟩] [4]) (.ret))) (.skip)
abbrev k90_1 : MC :=
 (.seq (.reg [
 ⟨some 40, none, .val (.faddr 0 (.t 2))⟩,
 ⟨some 41, none, .val (.load false 1 (.t 40))⟩,
 ⟨some 42, none, .val (.faddr 0 (.t 3))⟩,
 ⟨some 43, none, .val (.load false 1 (.t 42))⟩,
 ⟨some 44, none, .val (.bin .gtr .num (.t 41) (.t 43))⟩,
 ⟨some 45, none, .val (.mv (.t 44))⟩,
 ⟨some 46, (some (45, false)), .val (.faddr 1 (.t 2))⟩,
 ⟨some 47, (some (45, false)), .val (.load false 1 (.t 46))⟩,
 ⟨some 48, (some (45, false)), .val (.mv (.t 47))⟩,
 ⟨some 49, (some (48, true)), .val (.faddr 1 (.t 3))⟩,
 ⟨some 50, (some (48, true)), .val (.load false 1 (.t 49))⟩,
 ⟨some 51, (some (45, false)), .val (.pick (.t 48) (.t 50) (.c (.bool false)))⟩,
 ⟨some 52, none, .val (.pick (.t 45) (.c (.bool true)) (.t 51))⟩,
 ⟨some 4, none, .val (.mv (.t 52))⟩] [4]) (.ret))
abbrev k90_2 : MC :=
 (.seq ((.seq (.reg [
 ⟨some 5, none, .val (.faddr 0 (.t 2))⟩,
 ⟨some 6, none, .val (.load false 1 (.t 5))⟩,
 ⟨some 7, none, .val (.bin .lss .num (.t 6) (.c (.int .i64 1)))⟩,
 ⟨some 8, none, .val (.mv (.t 7))⟩,
 ⟨some 9, (some (8, false)), .val (.faddr 0 (.t 2))⟩,
 ⟨some 10, (some (8, false)), .val (.load false 1 (.t 9))⟩,
 ⟨some 11, (some (8, false)), .val (.bin .gtr .num (.t 10) (.c (.int .i64 1000)))⟩,
 ⟨some 12, none, .val (.pick (.t 8) (.c (.bool true)) (.t 11))⟩,
 ⟨some 13, none, .val (.mv (.t 12))⟩,
 ⟨some 14, (some (13, false)), .val (.faddr 1 (.t 2))⟩,
 ⟨some 15, (some (13, false)), .val (.load false 1 (.t 14))⟩,
 ⟨some 16, (some (13, false)), .val (.mv (.t 15))⟩,
 ⟨some 17, (some (16, true)), .val (.faddr 2 (.t 2))⟩,
 ⟨some 18, (some (16, true)), .val (.load false 1 (.t 17))⟩,
 ⟨some 19, (some (16, true)), .val (.bin .neq .num (.t 18) (.c (.int .u64 0)))⟩,
 ⟨some 20, (some (13, false)), .val (.pick (.t 16) (.t 19) (.c (.bool false)))⟩,
 ⟨some 21, none, .val (.pick (.t 13) (.c (.bool true)) (.t 20))⟩,
 ⟨some 22, none, .val (.mv (.t 21))⟩,
 ⟨some 23, (some (22, false)), .val (.faddr 1 (.t 2))⟩,
 ⟨some 24, (some (22, false)), .val (.load false 1 (.t 23))⟩,
 ⟨some 25, (some (22, false)), .val (.not (.t 24))⟩,
 ⟨some 26, (some (22, false)), .val (.mv (.t 25))⟩,
 ⟨some 27, (some (26, true)), .val (.faddr 3 (.t 2))⟩,
 ⟨some 28, (some (26, true)), .val (.load false 1 (.t 27))⟩,
 ⟨some 29, (some (26, true)), .val (.len .sl (.t 28))⟩,
 ⟨some 30, (some (26, true)), .val (.bin .gtr .num (.t 29) (.c (.int .i64 0)))⟩,
 ⟨some 31, (some (22, false)), .val (.pick (.t 26) (.t 30) (.c (.bool false)))⟩,
 ⟨some 32, none, .val (.pick (.t 22) (.c (.bool true)) (.t 31))⟩,
 ⟨some 33, none, .val (.mv (.t 32))⟩,
 ⟨some 34, (some (33, false)), .val (.faddr 0 (.t 2))⟩,
 ⟨some 35, (some (33, false)), .val (.load false 1 (.t 34))⟩,
 ⟨some 36, (some (33, false)), .val (.faddr 0 (.t 3))⟩,
 ⟨some 37, (some (33, false)), .val (.load false 1 (.t 36))⟩,
 ⟨some 38, (some (33, false)), .val (.bin .lss .num (.t 35) (.t 37))⟩,
 ⟨some 39, none, .val (.pick (.t 33) (.c (.bool true)) (.t 38))⟩] [2, 3, 39]) k90_0)) k90_1)
abbrev k90 : MC :=
 (.seq (.reg [
 ⟨some 2, none, .boxi (.t 0)⟩,
 ⟨some 3, none, .boxi (.t 1)⟩,
 ⟨some 4, none, .val (.mv (.c (.bool false)))⟩] [2, 3]) k90_2)
theorem c90 : Try.f90.body.bind (mcOf Try.prog (List.contains [2, 3] ·) (List.getD [([], [2, 3]), ([], [2, 3, 39]), ([], [4]), ([], [4])] · ([], [])) 53) = some k90 := by kernel_rfl
theorem r90 : rvsOf Try.prog Try.f90.results.toList = some [.tmp 4] := by kernel_rfl
/- flange/flangeref02.Lay -/
abbrev k91_0 : MC :=
 .cond (.t 6) ((.seq (.drw [
 ⟨some 7, none, .val (.faddr 0 (.t 1))⟩,
 ⟨some 8, none, .val (.load false 1 (.t 7))⟩,
 ⟨some 9, none, .val (.i2i .u64 (.t 8))⟩,
 ⟨some 10, none, .val (.bin .mul .num (.t 9) (.c (.int .u64 2)))⟩,
 ⟨some 12, none, .val (.faddr 2 (.t 1))⟩,
 ⟨some 13, none, .val (.load false 1 (.t 12))⟩] [
 ⟨some 11, none, .scall 119 [(.t 10)]⟩,
 ⟨some 14, none, .scall 119 [(.t 13)]⟩,
 ⟨some 15, none, .app 1 1 (.t 11) (.t 14)⟩,
 ⟨some 2, none, .val (.mv (.t 15))⟩] [2]) (.ret))) (.skip)
abbrev k91_1 : MC :=
 (.seq (.reg [
 ⟨some 28, none, .val (.mv (.t 3))⟩,
 ⟨some 29, none, .val (.faddr 3 (.t 1))⟩,
 ⟨some 30, none, .val (.load false 1 (.t 29))⟩,
 ⟨some 31, none, .app 1 1 (.t 28) (.t 30)⟩,
 ⟨some 2, none, .val (.mv (.t 31))⟩] [2]) (.ret))
abbrev k91_2 : MC :=
 (.seq (.drw [
 ⟨some 16, none, .val (.faddr 0 (.t 1))⟩,
 ⟨some 17, none, .val (.load false 1 (.t 16))⟩,
 ⟨some 18, none, .val (.i2i .u64 (.t 17))⟩,
 ⟨some 19, none, .val (.bin .mul .num (.t 18) (.c (.int .u64 2)))⟩,
 ⟨some 20, none, .val (.bin .add .num (.t 19) (.c (.int .u64 1)))⟩,
 ⟨some 22, none, .val (.faddr 3 (.t 1))⟩,
 ⟨some 23, none, .val (.load false 1 (.t 22))⟩,
 ⟨some 24, none, .val (.len .sl (.t 23))⟩,
 ⟨some 25, none, .val (.i2i .u64 (.t 24))⟩] [
 ⟨some 21, none, .scall 119 [(.t 20)]⟩,
 ⟨some 26, none, .scall 119 [(.t 25)]⟩,
 ⟨some 27, none, .app 1 1 (.t 21) (.t 26)⟩,
 ⟨some 3, none, .val (.mv (.t 27))⟩] [1, 3]) k91_1)
abbrev k91_3 : MC :=
 (.seq ((.seq (.reg [
 ⟨some 4, none, .val (.faddr 1 (.t 1))⟩,
 ⟨some 5, none, .val (.load false 1 (.t 4))⟩,
 ⟨some 6, none, .val (.not (.t 5))⟩] [1, 6]) k91_0)) k91_2)
abbrev k91 : MC :=
 (.seq (.reg [
 ⟨some 1, none, .boxi (.t 0)⟩,
 ⟨some 2, none, .val (.mv (.c .nilSl))⟩] [1]) k91_3)
theorem c91 : Try.f91.body.bind (mcOf Try.prog (List.contains [1] ·) (List.getD [([], [1]), ([], [1, 6]), ([0, 0, 0, 0, 3, 0, 0, 3, 2, 2], [2]), ([0, 0, 0, 0, 0, 3, 0, 0, 0, 0, 3, 2, 2], [1, 3]), ([], [2])] · ([], [])) 32) = some k91 := by kernel_rfl
theorem r91 : rvsOf Try.prog Try.f91.results.toList = some [.tmp 2] := by kernel_rfl
/- flange/message.Blob -/
abbrev k88_0 : MC :=
 (.seq (.reg [
 ⟨some 5, none, .val (.mv (.t 0))⟩,
 ⟨some 6, none, .val (.mv (.t 1))⟩,
 ⟨some 7, none, .call 115 [(.t 6)]⟩,
 ⟨some 8, none, .build [(.int .i64 0), (.bool false), (.int .u64 0), .nilSl] [(0, 1, (.t 5)), (1, 1, (.c (.bool true))), (3, 1, (.t 7))]⟩,
 ⟨none, none, .store 4 (.t 4) (.t 8)⟩] [4]) (.ret))
abbrev k88 : MC :=
 (.seq (.reg [
 ⟨some 4, none, .zalloc [(.int .i64 0), (.bool false), (.int .u64 0), .nilSl]⟩] [0, 1, 4]) k88_0)
theorem c88 : Try.f88.body.bind (mcOf Try.prog (List.contains [] ·) (List.getD [([], [0, 1, 4]), ([], [4])] · ([], [])) 9) = some k88 := by kernel_rfl
theorem r88 : rvsOf Try.prog Try.f88.results.toList = some [.cell 4 true 4] := by kernel_rfl
/- bytes.Clone -/
abbrev k115_0 : MC :=
 .cond (.t 4) ((.seq (.reg [
 ⟨some 2, none, .val (.mv (.c .nilSl))⟩] [2]) (.ret))) (.skip)
abbrev k115_1 : MC :=
 (.seq (.reg [
 ⟨some 5, none, .bslice 1 0 [] []⟩,
 ⟨some 6, none, .val (.mv (.t 0))⟩,
 ⟨some 7, none, .app 1 1 (.t 5) (.t 6)⟩,
 ⟨some 2, none, .val (.mv (.t 7))⟩] [2]) (.ret))
abbrev k115_2 : MC :=
 (.seq ((.seq (.reg [
 ⟨some 3, none, .val (.mv (.t 0))⟩,
 ⟨some 4, none, .isnil false (.t 3)⟩] [0, 4]) k115_0)) k115_1)
abbrev k115 : MC :=
 (.seq (.reg [
 ⟨some 2, none, .val (.mv (.c .nilSl))⟩] [0]) k115_2)
theorem c115 : Try.f115.body.bind (mcOf Try.prog (List.contains [] ·) (List.getD [([], [0]), ([], [0, 4]), ([], [2]), ([], [2])] · ([], [])) 8) = some k115 := by kernel_rfl
theorem r115 : rvsOf Try.prog Try.f115.results.toList = some [.tmp 2] := by kernel_rfl
theorem key_calls {f : Fld} (h : 1 ≤ f.tag ∧ f.tag ≤ 1000) (H : AH) : ACalls Try.prog 141 [.agg (fldC f)] H (fun o H' => o = .ret (.int .u64 (keyN f)) ∧ H' = H) := by
  refine acalls Try.func141 c141 r141 (by simp [Try.ntmps141]) ?_
  repeat' (first | with_reducible (first | refine am_seq ?_ | refine am_block ?_) | ((with_reducible apply am_cond); (case hb => rfl); all_goals (intro hc; (try simp only [reduceCtorEq, bD, beq_iff_eq] at hc); (try (exfalso; omega)))) | ((first | with_reducible (first | refine am_reg ?_ | refine am_skip ?_ | refine am_exit ?_ | refine am_ret ?_ | refine vc_intro ?_ | refine need_elems (by assumption) ?_ | refine vlen_acc (by assumption) ?_ | refine need_bytes (by assumption) ?_ | refine need_lk ?_) | ((with_reducible refine alloc_intro (fun ko hko => ?_)) <;> (try have hne := fresh_ne (by assumption) hko) <;> (try have hnk := fresh_ne hk hko) <;> (try have hnk2 := fresh_ne hk2 hko) <;> (try simp only [AH.put_none] at hko)) | done) <;> (try simp -implicitDefEqProofs (disch := omega) only [go_sem, wrap_id, u64_id])))
  all_goals (simp only [keyN]; simp_all; try omega)
theorem fright_calls {f : Fld} (H : AH) : ACalls Try.prog 116 [.agg (fldC f)] H (fun o H' => o = .ret (.bool (rightF f)) ∧ H' = H) := by
  refine acalls Try.func116 c116 r116 (by simp [Try.ntmps116]) ?_
  repeat' (first | with_reducible (first | refine am_seq ?_ | refine am_block ?_) | ((with_reducible apply am_cond); (case hb => rfl); all_goals (intro hc; (try simp only [reduceCtorEq, bD, beq_iff_eq] at hc); (try (exfalso; omega)))) | ((first | with_reducible (first | refine am_reg ?_ | refine am_skip ?_ | refine am_exit ?_ | refine am_ret ?_ | refine vc_intro ?_ | refine need_elems (by assumption) ?_ | refine vlen_acc (by assumption) ?_ | refine need_bytes (by assumption) ?_ | refine need_lk ?_) | ((with_reducible (first | apply gd_not | apply gd_of | apply gq_not | apply gq_of | apply pickB_of)) <;> intro hc <;> (try simp -implicitDefEqProofs (disch := omega) only [go_sem, hc]) <;> (try simp only [reduceCtorEq, bD, beq_iff_eq] at hc) <;> (try (exfalso; omega))) | ((with_reducible refine alloc_intro (fun ko hko => ?_)) <;> (try have hne := fresh_ne (by assumption) hko) <;> (try have hnk := fresh_ne hk hko) <;> (try have hnk2 := fresh_ne hk2 hko) <;> (try simp only [AH.put_none] at hko)) | done) <;> (try simp -implicitDefEqProofs (disch := omega) only [go_sem])))
  all_goals (simp_all [rightF]; try omega)
theorem behind_calls {f l : Fld} (H : AH) : ACalls Try.prog 117 [.agg (fldC f), .agg (fldC l)] H (fun o H' => o = .ret (.bool (behindF f l)) ∧ H' = H) := by
  refine acalls Try.func117 c117 r117 (by simp [Try.ntmps117]) ?_
  repeat' (first | with_reducible (first | refine am_seq ?_ | refine am_block ?_) | ((with_reducible apply am_cond); (case hb => rfl); all_goals (intro hc; (try simp only [reduceCtorEq, bD, beq_iff_eq] at hc); (try (exfalso; omega)))) | ((first | with_reducible (first | refine am_reg ?_ | refine am_skip ?_ | refine am_exit ?_ | refine am_ret ?_ | refine vc_intro ?_ | refine need_elems (by assumption) ?_ | refine vlen_acc (by assumption) ?_ | refine need_bytes (by assumption) ?_ | refine need_lk ?_) | ((with_reducible (first | apply gd_not | apply gd_of | apply gq_not | apply gq_of | apply pickB_of)) <;> intro hc <;> (try simp -implicitDefEqProofs (disch := omega) only [go_sem, hc]) <;> (try simp only [reduceCtorEq, bD, beq_iff_eq] at hc) <;> (try (exfalso; omega))) | ((with_reducible refine alloc_intro (fun ko hko => ?_)) <;> (try have hne := fresh_ne (by assumption) hko) <;> (try have hnk := fresh_ne hk hko) <;> (try have hnk2 := fresh_ne hk2 hko) <;> (try simp only [AH.put_none] at hko)) | done) <;> (try simp -implicitDefEqProofs (disch := omega) only [go_sem])))
  all_goals (simp_all [behindF]; try omega)
theorem fits_calls {f l : Fld} (H : AH) : ACalls Try.prog 90 [.agg (fldC f), .agg (fldC l)] H (fun o H' => o = .ret (.bool (fitsF f l)) ∧ H' = H) := by
  refine acalls Try.func90 c90 r90 (by simp [Try.ntmps90]) ?_
  repeat' (first | with_reducible (first | refine am_seq ?_ | refine am_block ?_) | ((with_reducible apply am_cond); (case hb => rfl); all_goals (intro hc; (try simp only [reduceCtorEq, bD, beq_iff_eq] at hc); (try (exfalso; omega)))) | ((first | with_reducible (first | refine am_reg ?_ | refine am_skip ?_ | refine am_exit ?_ | refine am_ret ?_ | refine vc_intro ?_ | refine need_elems (by assumption) ?_ | refine vlen_acc (by assumption) ?_ | refine need_bytes (by assumption) ?_ | refine need_lk ?_) | ((with_reducible (first | apply gd_not | apply gd_of | apply gq_not | apply gq_of | apply pickB_of)) <;> intro hc <;> (try simp -implicitDefEqProofs (disch := omega) only [go_sem, hc]) <;> (try simp only [reduceCtorEq, bD, beq_iff_eq] at hc) <;> (try (exfalso; omega))) | ((with_reducible refine alloc_intro (fun ko hko => ?_)) <;> (try have hne := fresh_ne (by assumption) hko) <;> (try have hnk := fresh_ne hk hko) <;> (try have hnk2 := fresh_ne hk2 hko) <;> (try simp only [AH.put_none] at hko)) | done) <;> (try simp -implicitDefEqProofs (disch := omega) only [go_sem])))
  all_goals first
    | (simp_all [fitsF, rightF, behindF]; done)
    | (simp_all [fitsF, rightF, behindF]; omega)
    | (have e : f.tag = l.tag := by omega
       simp_all [fitsF, rightF, behindF]; done)
    | (simp_all [fitsF, rightF, behindF]; intro e; simp_all; done)
    | skip
theorem clone_calls {l : List UInt8} {t : Tok} (hl : l.length < 100000000) (H : AH) : ACalls Try.prog 115 [.sl 1 (byteCells l) t] H (fun o H' => o = .ret (.sl 1 (byteCells l) .no) ∧ H' = H) := by
  refine ACalls.drop ?_
  refine acalls Try.func115 c115 r115 (by simp [Try.ntmps115]) ?_
  repeat' (first | with_reducible (first | refine am_seq ?_ | refine am_block ?_) | ((with_reducible apply am_cond); (case hb => rfl); all_goals (intro hc; (try simp only [reduceCtorEq, bD, beq_iff_eq] at hc); (try (exfalso; omega)))) | ((first | with_reducible (first | refine am_reg ?_ | refine am_skip ?_ | refine am_exit ?_ | refine am_ret ?_ | refine vc_intro ?_ | refine isnE_of (fun hc => ?_) (fun hc => ?_) (fun hc => ?_) | refine need_elems (by assumption) ?_ | refine vlen_acc (by assumption) ?_ | refine need_bytes (by assumption) ?_ | refine need_lk ?_) | ((with_reducible refine alloc_intro (fun ko hko => ?_)) <;> (try have hne := fresh_ne (by assumption) hko) <;> (try have hnk := fresh_ne hk hko) <;> (try have hnk2 := fresh_ne hk2 hko) <;> (try simp only [AH.put_none] at hko)) | ((with_reducible (first | refine vapp_accL (by assumption) ?_ (fun v2 H2 hacc hlec => ?_) | refine vapp_accL (AccP.mono (by assumption) (AccP.le (by assumption))) ?_ (fun v2 H2 hacc hlec => ?_) | refine vapp_accL (AccP.new (by assumption) (by assumption) _) ?_ (fun v2 H2 hacc hlec => ?_))); · simp only [byteCells_length, List.length_cons, List.length_nil, List.length_map, List.length_append]; omega) | done) <;> (try simp -implicitDefEqProofs (disch := omega) only [go_sem, true_and, List.nil_append])))
  · have h : l = [] := by simpa [byteCells] using ‹byteCells l = []›
    subst h
    (refine drop_end (by (first | exact fun _ _ h => h | (intro s x h; first | exact no_sub _ h | exact nil_no _ h | exact AccP.sub (by assumption) _ _ h | (refine agg_sub rfl ?_ x h; repeat (first | exact .nil | refine .cons (fun _ h => h) ?_ | refine .cons (fun _ h => nil_no _ h) ?_ | refine .cons (fun _ h => no_sub _ h) ?_ | refine .cons (fun _ h => AccP.sub (by assumption) _ _ h) ?_)) | (refine tuple_sub ?_ x h; repeat (first | exact .nil | refine .cons (fun _ h => h) ?_ | refine .cons (fun _ h => nil_no _ h) ?_ | refine .cons (fun _ h => no_sub _ h) ?_ | refine .cons (fun _ h => AccP.sub (by assumption) _ _ h) ?_ | refine .cons (fun _ h => agg_sub rfl (by repeat (first | exact .nil | refine .cons (fun _ h => h) ?_ | refine .cons (fun _ h => nil_no _ h) ?_ | refine .cons (fun _ h => no_sub _ h) ?_ | refine .cons (fun _ h => AccP.sub (by assumption) _ _ h) ?_)) _ h) ?_))))) (by (repeat (first | exact AH.le_refl _ | assumption | exact AccP.le (by assumption) | refine AH.le_put ?_ (by first | assumption | exact none_of_le (by assumption) (by assumption) | exact And.right (by assumption) | exact And.right (And.right (by assumption))) _ | refine AH.le_trans ?_ (AccP.le (by assumption))))))
  all_goals (refine drop_end (by (first | exact fun _ _ h => h | (intro s x h; first | exact no_sub _ h | exact nil_no _ h | exact AccP.sub (by assumption) _ _ h | (refine agg_sub rfl ?_ x h; repeat (first | exact .nil | refine .cons (fun _ h => h) ?_ | refine .cons (fun _ h => nil_no _ h) ?_ | refine .cons (fun _ h => no_sub _ h) ?_ | refine .cons (fun _ h => AccP.sub (by assumption) _ _ h) ?_)) | (refine tuple_sub ?_ x h; repeat (first | exact .nil | refine .cons (fun _ h => h) ?_ | refine .cons (fun _ h => nil_no _ h) ?_ | refine .cons (fun _ h => no_sub _ h) ?_ | refine .cons (fun _ h => AccP.sub (by assumption) _ _ h) ?_ | refine .cons (fun _ h => agg_sub rfl (by repeat (first | exact .nil | refine .cons (fun _ h => h) ?_ | refine .cons (fun _ h => nil_no _ h) ?_ | refine .cons (fun _ h => no_sub _ h) ?_ | refine .cons (fun _ h => AccP.sub (by assumption) _ _ h) ?_)) _ h) ?_))))) (by (repeat (first | exact AH.le_refl _ | assumption | exact AccP.le (by assumption) | refine AH.le_put ?_ (by first | assumption | exact none_of_le (by assumption) (by assumption) | exact And.right (by assumption) | exact And.right (And.right (by assumption))) _ | refine AH.le_trans ?_ (AccP.le (by assumption))))))
theorem blob_calls {t : Int} {l : List UInt8} {k : Tok} (hl : l.length < 100000000) (H : AH) : ACalls Try.prog 88 [.int .i64 t, .sl 1 (byteCells l) k] H (fun o H' => o = .ret (.agg (fldC ⟨t, true, 0, l⟩)) ∧ H' = H) := by
  refine ACalls.drop ?_
  refine acalls Try.func88 c88 r88 (by simp [Try.ntmps88]) ?_
  repeat' (first | with_reducible (first | refine am_seq ?_ | refine am_block ?_) | ((with_reducible apply am_cond); (case hb => rfl); all_goals (intro hc; (try simp only [reduceCtorEq, bD, beq_iff_eq] at hc); (try (exfalso; omega)))) | ((first | with_reducible (first | refine am_reg ?_ | refine am_skip ?_ | refine am_exit ?_ | refine am_ret ?_ | refine vc_intro ?_ | refine need_elems (by assumption) ?_ | refine vlen_acc (by assumption) ?_ | refine need_bytes (by assumption) ?_ | refine call_of (clone_calls (by omega)) ?_ | refine qcall_of (clone_calls (by omega)) ?_ | refine need_lk ?_) | ((with_reducible refine alloc_intro (fun ko hko => ?_)) <;> (try have hne := fresh_ne (by assumption) hko) <;> (try have hnk := fresh_ne hk hko) <;> (try have hnk2 := fresh_ne hk2 hko) <;> (try simp only [AH.put_none] at hko)) | done) <;> (try simp -implicitDefEqProofs (disch := omega) only [go_sem])))
  (refine drop_end (by (first | exact fun _ _ h => h | (intro s x h; first | exact no_sub _ h | exact nil_no _ h | exact AccP.sub (by assumption) _ _ h | (refine agg_sub rfl ?_ x h; repeat (first | exact .nil | refine .cons (fun _ h => h) ?_ | refine .cons (fun _ h => nil_no _ h) ?_ | refine .cons (fun _ h => no_sub _ h) ?_ | refine .cons (fun _ h => AccP.sub (by assumption) _ _ h) ?_)) | (refine tuple_sub ?_ x h; repeat (first | exact .nil | refine .cons (fun _ h => h) ?_ | refine .cons (fun _ h => nil_no _ h) ?_ | refine .cons (fun _ h => no_sub _ h) ?_ | refine .cons (fun _ h => AccP.sub (by assumption) _ _ h) ?_ | refine .cons (fun _ h => agg_sub rfl (by repeat (first | exact .nil | refine .cons (fun _ h => h) ?_ | refine .cons (fun _ h => nil_no _ h) ?_ | refine .cons (fun _ h => no_sub _ h) ?_ | refine .cons (fun _ h => AccP.sub (by assumption) _ _ h) ?_)) _ h) ?_))))) (by (repeat (first | exact AH.le_refl _ | assumption | exact AccP.le (by assumption) | refine AH.le_put ?_ (by first | assumption | exact none_of_le (by assumption) (by assumption) | exact And.right (by assumption) | exact And.right (And.right (by assumption))) _ | refine AH.le_trans ?_ (AccP.le (by assumption))))))
theorem lay_calls {H0 H : AH} {v : V} {l : List UInt8} {f : Fld} (hacc : AccP H0 1 (byteCells l) v H) (hl : l.length < 50000000) (hf : f.n < 18446744073709551616 ∧ f.b.length < 10000000) (h : 1 ≤ f.tag ∧ f.tag ≤ 1000) :
    ACalls Try.prog 118 [.agg (fldC f), v] H (fun o H' => ∃ v', o = .ret v' ∧ AccP H0 1 (byteCells (l ++ layF f)) v' H' ∧ H.lec H') := by
  refine acalls Try.func118 c118 r118 (by simp [Try.ntmps118]) ?_
  have hk : keyN f < 18446744073709551616 := by simp only [keyN]; cases f.by_ <;> simp <;> omega
  have h1 := vb_len10 hk
  have h2 := vb_len10 (show f.b.length < 18446744073709551616 by omega)
  repeat' (first | with_reducible (first | refine am_seq ?_ | refine am_block ?_) | ((with_reducible apply am_cond); (case hb => rfl); all_goals (intro hc; (try simp only [reduceCtorEq, bD, beq_iff_eq] at hc); (try (exfalso; omega)))) | ((first | with_reducible (first | refine am_reg ?_ | refine am_drw ?_ | refine am_skip ?_ | refine am_exit ?_ | refine am_ret ?_ | refine vc_intro ?_ | refine need_elems (by assumption) ?_ | refine vlen_acc (by assumption) ?_ | refine need_bytes (by assumption) ?_ | refine call_of (key_calls h) ?_ | refine qcall_of (key_calls h) ?_ | refine need_lk ?_) | ((with_reducible refine alloc_intro (fun ko hko => ?_)) <;> (try have hne := fresh_ne (by assumption) hko) <;> (try have hnk := fresh_ne hk hko) <;> (try have hnk2 := fresh_ne hk2 hko) <;> (try simp only [AH.put_none] at hko)) | ((with_reducible (first | refine vapp_accL (by assumption) ?_ (fun v2 H2 hacc hlec => ?_) | refine vapp_accL (AccP.mono (by assumption) (AccP.le (by assumption))) ?_ (fun v2 H2 hacc hlec => ?_) | refine vapp_accL (AccP.new (by assumption) (by assumption) _) ?_ (fun v2 H2 hacc hlec => ?_))); · simp only [byteCells_length, List.length_cons, List.length_nil, List.length_map, List.length_append]; omega) | ((with_reducible refine call_ex (vappend_calls (by assumption) (by first | omega | (simp only [List.length_append]; omega)) (by omega)) (fun v H2 hr => ?_)); obtain ⟨hacc, hlec⟩ := hr) | done) <;> (try simp -implicitDefEqProofs (disch := omega) only [go_sem, u64_id])))
  · refine ⟨_, rfl, ?_, by (repeat (first | assumption | exact AH.lec_refl _ | refine AH.lec_trans ?_ (by assumption)))⟩
    simpa [layF, hc] using hacc
  · refine ⟨_, rfl, ?_, by (repeat (first | assumption | exact AH.lec_refl _ | refine AH.lec_trans ?_ (by assumption)))⟩
    simpa [layF, hc, byteCells_append] using hacc
theorem rlay_calls {f : Fld} (hf : f.n < 18446744073709551616 ∧ f.b.length < 10000000) (h : 1 ≤ f.tag ∧ f.tag ≤ 1000) (H : AH) :
    ACalls Try.prog 91 [.agg (fldC f)] H (fun o H' => o = .ret (.sl 1 (byteCells (layF f)) .no) ∧ H' = H) := by
  refine acc_pure ?_
  refine acalls Try.func91 c91 r91 (by simp [Try.ntmps91]) ?_
  have hk : keyN f < 18446744073709551616 := by simp only [keyN]; cases f.by_ <;> simp <;> omega
  have h1 := vb_len10 hk
  have h2 := vb_len10 (show f.b.length < 18446744073709551616 by omega)
  have h3 := vb_len10 hf.1
  have e1 : f.by_ = false → f.tag * 2 = ((keyN f : Nat) : Int) := by intro h; simp [keyN, h]; omega
  have e2 : f.by_ = true → f.tag * 2 + 1 = ((keyN f : Nat) : Int) := by intro h; simp [keyN, h]; omega
  cases hby : f.by_
  · repeat' (first | with_reducible (first | refine am_seq ?_ | refine am_block ?_) | ((with_reducible apply am_cond); (case hb => rfl); all_goals (intro hc; (try simp only [reduceCtorEq, bD, beq_iff_eq] at hc); (try (exfalso; omega)))) | ((first | with_reducible (first | refine am_reg ?_ | refine am_drw ?_ | refine am_skip ?_ | refine am_exit ?_ | refine am_ret ?_ | refine vc_intro ?_ | refine need_elems (by assumption) ?_ | refine vlen_acc (by assumption) ?_ | refine need_bytes (by assumption) ?_ | refine call_ex (rbytes_calls (by omega)) (fun v H2 hr => ?_) | refine need_lk ?_) | ((with_reducible refine alloc_intro (fun ko hko => ?_)) <;> (try have hne := fresh_ne (by assumption) hko) <;> (try have hnk := fresh_ne hk hko) <;> (try have hnk2 := fresh_ne hk2 hko) <;> (try simp only [AH.put_none] at hko)) | ((with_reducible (first | refine vapp_accL (by assumption) ?_ (fun v2 H2 hacc hlec => ?_) | refine vapp_accL (AccP.mono (by assumption) (AccP.le (by assumption))) ?_ (fun v2 H2 hacc hlec => ?_) | refine vapp_accL (AccP.new (by assumption) (by assumption) _) ?_ (fun v2 H2 hacc hlec => ?_))); · simp only [byteCells_length, List.length_cons, List.length_nil, List.length_map, List.length_append]; omega) | done) <;> (try simp -implicitDefEqProofs (disch := omega) only [go_sem, u64_id, hby, e1 hby])))
    refine ⟨_, rfl, ?_⟩
    simpa [layF, hby, byteCells_append] using hacc
  · repeat' (first | with_reducible (first | refine am_seq ?_ | refine am_block ?_) | ((with_reducible apply am_cond); (case hb => rfl); all_goals (intro hc; (try simp only [reduceCtorEq, bD, beq_iff_eq] at hc); (try (exfalso; omega)))) | ((first | with_reducible (first | refine am_reg ?_ | refine am_drw ?_ | refine am_skip ?_ | refine am_exit ?_ | refine am_ret ?_ | refine vc_intro ?_ | refine need_elems (by assumption) ?_ | refine vlen_acc (by assumption) ?_ | refine need_bytes (by assumption) ?_ | refine call_ex (rbytes_calls (by omega)) (fun v H2 hr => ?_) | refine need_lk ?_) | ((with_reducible refine alloc_intro (fun ko hko => ?_)) <;> (try have hne := fresh_ne (by assumption) hko) <;> (try have hnk := fresh_ne hk hko) <;> (try have hnk2 := fresh_ne hk2 hko) <;> (try simp only [AH.put_none] at hko)) | ((with_reducible (first | refine vapp_accL (by assumption) ?_ (fun v2 H2 hacc hlec => ?_) | refine vapp_accL (AccP.mono (by assumption) (AccP.le (by assumption))) ?_ (fun v2 H2 hacc hlec => ?_) | refine vapp_accL (AccP.new (by assumption) (by assumption) _) ?_ (fun v2 H2 hacc hlec => ?_))); · simp only [byteCells_length, List.length_cons, List.length_nil, List.length_map, List.length_append]; omega) | done) <;> (try simp -implicitDefEqProofs (disch := omega) only [go_sem, u64_id, hby, e2 hby])))
    refine ⟨_, rfl, ?_⟩
    simpa [layF, hby, byteCells_append] using hacc
end Go.Proofs.Ytjlphncecdlmcaa
