/- Of the walks of this seat: contracts of functions of the given program, proved over the abstract values of the texts Vm. Conditions: as each theorem says. -/
import Derived.Test.YtmomncmddejcoaaM1
import Derived.Test.YtmomncmddejcoaaVm22
import Derived.Test.YtmomncmddejcoaaProg
import Derived.KernelRfl
set_option linter.unusedVariables false
set_option linter.unusedSimpArgs false
namespace Go.Proofs.Ytmomncmddejcoaa
open Go.Vm
attribute [local go_sem] byteCells_get byteCells_length Int.toNat_natCast Option.map_some Int.natCast_nonneg decide_eq_true_eq decide_eq_false_iff_not
/- flange/varint.Append -/
abbrev k55_0 : MC :=
  .cond (.t 6) (.skip) (.exit 0)

abbrev k55_1 : MC :=
  .reg [
    ⟨(some 13), none, .val (.mv (.t 1))⟩,
    ⟨(some 14), none, .val (.bin .shr .num (.t 13) (.c (.int .u64 7)))⟩,
    ⟨(some 1), none, .val (.mv (.t 14))⟩] [0, 1]

abbrev k55_2 : MC :=
  .block 1 ((.seq (.reg [
     ⟨(some 7), none, .val (.mv (.t 0))⟩,
     ⟨(some 8), none, .val (.mv (.t 1))⟩,
     ⟨(some 9), none, .val (.i2i .u8 (.t 8))⟩,
     ⟨(some 10), none, .val (.bin .or .num (.t 9) (.c (.int .u8 128)))⟩,
     ⟨(some 11), none, .bslice 1 1 [(.int .u8 0)] [(0, 1, (.t 10))]⟩,
     ⟨(some 12), none, .app 1 1 (.t 7) (.t 11)⟩,
     ⟨(some 0), none, .val (.mv (.t 12))⟩] [0, 1]) k55_1))

abbrev k55_3 : MC :=
  (.seq ((.seq (.reg [
    ⟨(some 5), none, .val (.mv (.t 1))⟩,
    ⟨(some 6), none, .val (.bin .geq .num (.t 5) (.c (.int .u64 128)))⟩] [0, 1, 6]) k55_0)) k55_2)

abbrev k55_4 : MC :=
  (.seq (.reg [
    ⟨(some 15), none, .val (.mv (.t 0))⟩,
    ⟨(some 16), none, .val (.mv (.t 1))⟩,
    ⟨(some 17), none, .val (.i2i .u8 (.t 16))⟩,
    ⟨(some 18), none, .bslice 1 1 [(.int .u8 0)] [(0, 1, (.t 17))]⟩,
    ⟨(some 19), none, .app 1 1 (.t 15) (.t 18)⟩,
    ⟨(some 4), none, .val (.mv (.t 19))⟩] [4]) .ret)

abbrev k55_5 : MC :=
  (.seq (.block 0 (.loop k55_3)) k55_4)
abbrev k55 : MC :=
  (.seq (.reg [
    ⟨(some 4), none, .val (.mv (.c .nilSl))⟩] [0, 1]) k55_5)
theorem c55 : Try.f55.body.bind (mcOf Try.prog (List.contains [] ·) (List.getD [([], [0, 1]), ([], [0, 1, 6]), ([], [0, 1]), ([], [0, 1]), ([], [4])] · ([], [])) 20) = some k55 := by kernel_rfl
theorem r55 : rvsOf Try.prog Try.f55.results.toList = some [.tmp 4] := by kernel_rfl

/- flange/varint.end -/
abbrev k70_0 : MC :=
  .cond (.t 12) ((.seq (.reg [
     ⟨(some 4), none, .val (.mv (.c (.int .i64 4)))⟩] [4]) .ret)) (.skip)

abbrev k70_1 : MC :=
  .cond (.t 5) ((.seq (.reg [
     ⟨(some 4), none, .val (.mv (.c (.int .i64 4)))⟩] [4]) .ret)) ((.seq (.reg [
     ⟨(some 13), none, .val (.mv (.t 1))⟩,
     ⟨(some 14), none, .val (.bin .eql .num (.t 13) (.c (.int .i64 9)))⟩,
     ⟨(some 15), none, .val (.mv (.t 14))⟩,
     ⟨(some 16), (some (15, true)), .val (.mv (.t 0))⟩,
     ⟨(some 17), (some (15, true)), .val (.bin .neq .num (.t 16) (.c (.int .u8 1)))⟩,
     ⟨(some 18), none, .val (.pick (.t 15) (.t 17) (.c (.bool false)))⟩,
     ⟨(some 12), none, .val (.mv (.t 18))⟩] [12]) k70_0))

abbrev k70_2 : MC :=
  (.seq (.reg [
    ⟨(some 4), none, .val (.mv (.c (.int .i64 0)))⟩] [4]) .ret)

abbrev k70_3 : MC :=
  (.seq (.block 0 ((.seq (.reg [
     ⟨(some 6), none, .val (.mv (.t 0))⟩,
     ⟨(some 7), none, .val (.bin .eql .num (.t 6) (.c (.int .u8 0)))⟩,
     ⟨(some 8), none, .val (.mv (.t 7))⟩,
     ⟨(some 9), (some (8, true)), .val (.mv (.t 1))⟩,
     ⟨(some 10), (some (8, true)), .val (.bin .gtr .num (.t 9) (.c (.int .i64 0)))⟩,
     ⟨(some 11), none, .val (.pick (.t 8) (.t 10) (.c (.bool false)))⟩,
     ⟨(some 5), none, .val (.mv (.t 11))⟩] [0, 1, 5]) k70_1))) k70_2)
abbrev k70 : MC :=
  (.seq (.reg [
    ⟨(some 4), none, .val (.mv (.c (.int .i64 0)))⟩] [0, 1]) k70_3)
theorem c70 : Try.f70.body.bind (mcOf Try.prog (List.contains [] ·) (List.getD [([], [0, 1]), ([], [0, 1, 5]), ([], [4]), ([], [12]), ([], [4]), ([], [4])] · ([], [])) 19) = some k70 := by kernel_rfl
theorem r70 : rvsOf Try.prog Try.f70.results.toList = some [.tmp 4] := by kernel_rfl

/- flange/varint.Read -/
abbrev k69_0 : MC :=
  .cond (.t 22) ((.seq (.reg [
     ⟨(some 23), none, .val (.mv (.t 8))⟩,
     ⟨(some 2), none, .val (.mv (.c (.int .u64 0)))⟩,
     ⟨(some 3), none, .val (.mv (.c (.int .i64 0)))⟩,
     ⟨(some 4), none, .val (.mv (.t 23))⟩] [2, 3, 4]) .ret)) (.skip)

abbrev k69_1 : MC :=
  (.seq (.reg [
    ⟨(some 21), none, .val (.mv (.t 8))⟩,
    ⟨(some 22), none, .val (.bin .neq .num (.t 21) (.c (.int .i64 0)))⟩] [5, 6, 7, 8, 22]) k69_0)

abbrev k69_2 : MC :=
  (.seq (.reg [
    ⟨(some 24), none, .val (.mv (.t 5))⟩,
    ⟨(some 25), none, .val (.mv (.t 7))⟩,
    ⟨(some 26), none, .val (.i2i .u64 (.t 25))⟩,
    ⟨(some 27), none, .val (.mv (.t 6))⟩,
    ⟨(some 28), none, .val (.bin .mul .num (.c (.int .i64 7)) (.t 27))⟩,
    ⟨(some 29), none, .val (.bin .shl .num (.t 26) (.t 28))⟩,
    ⟨(some 30), none, .val (.bin .or .num (.t 24) (.t 29))⟩,
    ⟨(some 31), none, .val (.mv (.t 6))⟩,
    ⟨(some 32), none, .val (.bin .add .num (.t 31) (.c (.int .i64 1)))⟩,
    ⟨(some 2), none, .val (.mv (.t 30))⟩,
    ⟨(some 3), none, .val (.mv (.t 32))⟩,
    ⟨(some 4), none, .val (.mv (.c (.int .i64 0)))⟩] [2, 3, 4]) .ret)

abbrev k69_3 : MC :=
  .cond (.t 17) ((.seq ((.seq (.reg [
     ⟨(some 18), none, .val (.mv (.t 7))⟩,
     ⟨(some 19), none, .val (.mv (.t 6))⟩,
     ⟨(some 20), none, .call 70 [(.t 18), (.t 19)]⟩,
     ⟨(some 8), none, .val (.mv (.t 20))⟩] [5, 6, 7, 8]) k69_1)) k69_2)) (.skip)

abbrev k69_4 : MC :=
  .cond (.t 34) ((.seq (.reg [
     ⟨(some 2), none, .val (.mv (.c (.int .u64 0)))⟩,
     ⟨(some 3), none, .val (.mv (.c (.int .i64 0)))⟩,
     ⟨(some 4), none, .val (.mv (.c (.int .i64 4)))⟩] [2, 3, 4]) .ret)) (.skip)

abbrev k69_5 : MC :=
  .reg [
    ⟨(some 35), none, .val (.mv (.t 5))⟩,
    ⟨(some 36), none, .val (.mv (.t 7))⟩,
    ⟨(some 37), none, .val (.bin .sub .num (.t 36) (.c (.int .u8 128)))⟩,
    ⟨(some 38), none, .val (.i2i .u64 (.t 37))⟩,
    ⟨(some 39), none, .val (.mv (.t 6))⟩,
    ⟨(some 40), none, .val (.bin .mul .num (.c (.int .i64 7)) (.t 39))⟩,
    ⟨(some 41), none, .val (.bin .shl .num (.t 38) (.t 40))⟩,
    ⟨(some 42), none, .val (.bin .or .num (.t 35) (.t 41))⟩,
    ⟨(some 5), none, .val (.mv (.t 42))⟩] [5, 9, 10, 11]

abbrev k69_6 : MC :=
  (.seq ((.seq (.reg [
    ⟨(some 33), none, .val (.mv (.t 6))⟩,
    ⟨(some 34), none, .val (.bin .eql .num (.t 33) (.c (.int .i64 9)))⟩] [5, 6, 7, 9, 10, 11, 34]) k69_4)) k69_5)

abbrev k69_7 : MC :=
  (.seq ((.seq (.reg [
    ⟨(some 16), none, .val (.mv (.t 7))⟩,
    ⟨(some 17), none, .val (.bin .lss .num (.t 16) (.c (.int .u8 128)))⟩] [5, 6, 7, 9, 10, 11, 17]) k69_3)) k69_6)

abbrev k69_8 : MC :=
  .reg [
    ⟨(some 43), none, .val (.bin .add .num (.t 11) (.c (.int .i64 1)))⟩,
    ⟨(some 11), none, .val (.mv (.t 43))⟩] [5, 9, 10, 11]

abbrev k69_9 : MC :=
  (.seq (.block 1 ((.seq (.reg [
     ⟨(some 13), none, .val (.mv (.t 11))⟩,
     ⟨(some 14), none, .val (.iaddr 1 (.t 9) (.t 11))⟩,
     ⟨(some 15), none, .val (.load false 1 (.t 14))⟩,
     ⟨(some 6), none, .val (.mv (.t 13))⟩,
     ⟨(some 7), none, .val (.mv (.t 15))⟩] [5, 6, 7, 9, 10, 11]) k69_7))) k69_8)

abbrev k69_10 : MC :=
  (.seq (.cond (.t 12) (.skip) (.exit 0)) k69_9)

abbrev k69_11 : MC :=
  (.seq (.reg [
    ⟨(some 12), none, .val (.bin .lss .num (.t 11) (.t 10))⟩] [5, 9, 10, 11, 12]) k69_10)

abbrev k69_12 : MC :=
  .block 0 (.loop k69_11)

abbrev k69_13 : MC :=
  (.seq (.reg [
    ⟨(some 2), none, .val (.mv (.c (.int .u64 0)))⟩,
    ⟨(some 3), none, .val (.mv (.c (.int .i64 0)))⟩,
    ⟨(some 4), none, .val (.mv (.c (.int .i64 5)))⟩] [2, 3, 4]) .ret)

abbrev k69_14 : MC :=
  (.seq ((.seq (.reg [
    ⟨(some 9), none, .val (.mv (.t 0))⟩,
    ⟨(some 10), none, .val (.len .sl (.t 9))⟩,
    ⟨(some 11), none, .val (.mv (.c (.int .i64 0)))⟩] [5, 9, 10, 11]) k69_12)) k69_13)

abbrev k69_15 : MC :=
  (.seq (.reg [
    ⟨(some 5), none, .val (.mv (.c (.int .u64 0)))⟩] [0, 5]) k69_14)
abbrev k69 : MC :=
  (.seq (.reg [
    ⟨(some 2), none, .val (.mv (.c (.int .u64 0)))⟩,
    ⟨(some 3), none, .val (.mv (.c (.int .i64 0)))⟩,
    ⟨(some 4), none, .val (.mv (.c (.int .i64 0)))⟩] [0]) k69_15)
theorem c69 : Try.f69.body.bind (mcOf Try.prog (List.contains [] ·) (List.getD [([], [0]), ([], [0, 5]), ([], [5, 9, 10, 11]), ([], [5, 9, 10, 11, 12]), ([], [5, 6, 7, 9, 10, 11]), ([], [5, 6, 7, 9, 10, 11, 17]), ([], [5, 6, 7, 8]), ([], [5, 6, 7, 8, 22]), ([], [2, 3, 4]), ([], [2, 3, 4]), ([], [5, 6, 7, 9, 10, 11, 34]), ([], [2, 3, 4]), ([], [5, 9, 10, 11]), ([], [5, 9, 10, 11]), ([], [2, 3, 4])] · ([], [])) 44) = some k69 := by kernel_rfl
theorem r69 : rvsOf Try.prog Try.f69.results.toList = some [.tmp 2, .tmp 3, .tmp 4] := by kernel_rfl

/- flange/flangeref01.Bytes -/
abbrev k62_0 : MC :=
  .cond (.t 10) (.skip) (.exit 0)

abbrev k62_1 : MC :=
  .cond (.t 17) (.reg [
     ⟨(some 18), none, .val (.mv (.t 5))⟩,
     ⟨(some 19), none, .val (.bin .add .num (.t 18) (.c (.int .u8 128)))⟩,
     ⟨(some 5), none, .val (.mv (.t 19))⟩] [0, 3, 5]) (.skip)

abbrev k62_2 : MC :=
  .reg [
    ⟨(some 20), none, .val (.mv (.t 3))⟩,
    ⟨(some 21), none, .val (.mv (.t 5))⟩,
    ⟨(some 22), none, .bslice 1 1 [(.int .u8 0)] [(0, 1, (.t 21))]⟩,
    ⟨(some 23), none, .app 1 1 (.t 20) (.t 22)⟩,
    ⟨(some 3), none, .val (.mv (.t 23))⟩] [0, 3]

abbrev k62_3 : MC :=
  (.seq ((.seq (.reg [
    ⟨(some 16), none, .val (.mv (.t 0))⟩,
    ⟨(some 17), none, .val (.bin .gtr .num (.t 16) (.c (.int .u64 0)))⟩] [0, 3, 5, 17]) k62_1)) k62_2)

abbrev k62_4 : MC :=
  (.seq (.reg [
    ⟨(some 14), none, .val (.mv (.t 0))⟩,
    ⟨(some 15), none, .val (.bin .quo .num (.t 14) (.c (.int .u64 128)))⟩,
    ⟨(some 0), none, .val (.mv (.t 15))⟩] [0, 3, 5]) k62_3)

abbrev k62_5 : MC :=
  .reg [
    ⟨(some 4), none, .val (.mv (.c (.bool false)))⟩] [0, 3, 4]

abbrev k62_6 : MC :=
  (.seq (.block 1 ((.seq (.reg [
     ⟨(some 11), none, .val (.mv (.t 0))⟩,
     ⟨(some 12), none, .val (.bin .rem .num (.t 11) (.c (.int .u64 128)))⟩,
     ⟨(some 13), none, .val (.i2i .u8 (.t 12))⟩,
     ⟨(some 5), none, .val (.mv (.t 13))⟩] [0, 3, 5]) k62_4))) k62_5)

abbrev k62_7 : MC :=
  (.seq ((.seq (.reg [
    ⟨(some 6), none, .val (.mv (.t 4))⟩,
    ⟨(some 7), none, .val (.mv (.t 6))⟩,
    ⟨(some 8), (some (7, false)), .val (.mv (.t 0))⟩,
    ⟨(some 9), (some (7, false)), .val (.bin .gtr .num (.t 8) (.c (.int .u64 0)))⟩,
    ⟨(some 10), none, .val (.pick (.t 7) (.c (.bool true)) (.t 9))⟩] [0, 3, 10]) k62_0)) k62_6)

abbrev k62_8 : MC :=
  .block 0 (.loop k62_7)

abbrev k62_9 : MC :=
  (.seq (.reg [
    ⟨(some 24), none, .val (.mv (.t 3))⟩,
    ⟨(some 2), none, .val (.mv (.t 24))⟩] [2]) .ret)

abbrev k62_10 : MC :=
  (.seq ((.seq (.reg [
    ⟨(some 4), none, .val (.mv (.c (.bool true)))⟩] [0, 3, 4]) k62_8)) k62_9)

abbrev k62_11 : MC :=
  (.seq (.reg [
    ⟨(some 3), none, .val (.mv (.c .nilSl))⟩] [0, 3]) k62_10)
abbrev k62 : MC :=
  (.seq (.reg [
    ⟨(some 2), none, .val (.mv (.c .nilSl))⟩] [0]) k62_11)
theorem c62 : Try.f62.body.bind (mcOf Try.prog (List.contains [] ·) (List.getD [([], [0]), ([], [0, 3]), ([], [0, 3, 4]), ([], [0, 3, 10]), ([], [0, 3, 4]), ([], [0, 3, 5]), ([], [0, 3, 5]), ([], [0, 3, 5, 17]), ([], [0, 3, 5]), ([], [0, 3]), ([], [2])] · ([], [])) 25) = some k62 := by kernel_rfl
theorem r62 : rvsOf Try.prog Try.f62.results.toList = some [.tmp 2] := by kernel_rfl

/- flange/flangeref01.Read -/
abbrev k48_0 : MC :=
  .cond (.t 15) (.skip) (.exit 0)

abbrev k48_1 : MC :=
  .cond (.t 26) ((.seq (.reg [
     ⟨(some 2), none, .val (.mv (.c (.int .u64 0)))⟩,
     ⟨(some 3), none, .val (.mv (.c (.int .i64 0)))⟩,
     ⟨(some 4), none, .val (.mv (.c (.int .i64 4)))⟩] [2, 3, 4]) .ret)) (.skip)

abbrev k48_2 : MC :=
  .cond (.t 52) ((.seq (.reg [
     ⟨(some 2), none, .val (.mv (.c (.int .u64 0)))⟩,
     ⟨(some 3), none, .val (.mv (.c (.int .i64 0)))⟩,
     ⟨(some 4), none, .val (.mv (.c (.int .i64 4)))⟩] [2, 3, 4]) .ret)) (.skip)

abbrev k48_3 : MC :=
  (.seq (.reg [
    ⟨(some 53), none, .val (.mv (.t 5))⟩,
    ⟨(some 54), none, .val (.mv (.t 7))⟩,
    ⟨(some 55), none, .val (.bin .add .num (.t 54) (.c (.int .i64 1)))⟩,
    ⟨(some 2), none, .val (.mv (.t 53))⟩,
    ⟨(some 3), none, .val (.mv (.t 55))⟩,
    ⟨(some 4), none, .val (.mv (.c (.int .i64 0)))⟩] [2, 3, 4]) .ret)

abbrev k48_4 : MC :=
  .cond (.t 43) ((.seq ((.seq (.drw [
     ⟨(some 44), none, .val (.mv (.t 5))⟩,
     ⟨(some 47), none, .val (.mv (.t 0))⟩,
     ⟨(some 48), none, .val (.mv (.t 7))⟩,
     ⟨(some 49), none, .val (.bin .add .num (.t 48) (.c (.int .i64 1)))⟩,
     ⟨(some 50), none, .val (.slc (some 1) (.t 47) none (some (.t 49)) none)⟩,
     ⟨(some 51), none, .val (.b2s (.t 50))⟩] [
     ⟨(some 45), none, .scall 62 [(.t 44)]⟩,
     ⟨(some 46), none, .val (.b2s (.t 45))⟩,
     ⟨(some 52), none, .val (.bin .neq .num (.t 46) (.t 51))⟩] [5, 7, 52]) k48_2)) k48_3)) (.skip)

abbrev k48_5 : MC :=
  (.seq (.reg [
    ⟨(some 39), none, .val (.mv (.t 0))⟩,
    ⟨(some 40), none, .val (.mv (.t 7))⟩,
    ⟨(some 41), none, .val (.iaddr 1 (.t 39) (.t 40))⟩,
    ⟨(some 42), none, .val (.load false 1 (.t 41))⟩,
    ⟨(some 43), none, .val (.bin .lss .num (.t 42) (.c (.int .u8 128)))⟩] [0, 5, 6, 7, 43]) k48_4)

abbrev k48_6 : MC :=
  (.seq (.reg [
    ⟨(some 37), none, .val (.mv (.t 6))⟩,
    ⟨(some 38), none, .val (.bin .mul .num (.t 37) (.c (.int .u64 128)))⟩,
    ⟨(some 6), none, .val (.mv (.t 38))⟩] [0, 5, 6, 7]) k48_5)

abbrev k48_7 : MC :=
  (.seq (.reg [
    ⟨(some 27), none, .val (.mv (.t 5))⟩,
    ⟨(some 28), none, .val (.mv (.t 0))⟩,
    ⟨(some 29), none, .val (.mv (.t 7))⟩,
    ⟨(some 30), none, .val (.iaddr 1 (.t 28) (.t 29))⟩,
    ⟨(some 31), none, .val (.load false 1 (.t 30))⟩,
    ⟨(some 32), none, .val (.bin .rem .num (.t 31) (.c (.int .u8 128)))⟩,
    ⟨(some 33), none, .val (.i2i .u64 (.t 32))⟩,
    ⟨(some 34), none, .val (.mv (.t 6))⟩,
    ⟨(some 35), none, .val (.bin .mul .num (.t 33) (.t 34))⟩,
    ⟨(some 36), none, .val (.bin .add .num (.t 27) (.t 35))⟩,
    ⟨(some 5), none, .val (.mv (.t 36))⟩] [0, 5, 6, 7]) k48_6)

abbrev k48_8 : MC :=
  .reg [
    ⟨(some 16), none, .val (.mv (.t 7))⟩,
    ⟨(some 17), none, .val (.bin .add .num (.t 16) (.c (.int .i64 1)))⟩,
    ⟨(some 7), none, .val (.mv (.t 17))⟩] [0, 5, 6, 7]

abbrev k48_9 : MC :=
  (.seq (.block 1 ((.seq ((.seq (.reg [
     ⟨(some 18), none, .val (.mv (.t 7))⟩,
     ⟨(some 19), none, .val (.bin .eql .num (.t 18) (.c (.int .i64 9)))⟩,
     ⟨(some 20), none, .val (.mv (.t 19))⟩,
     ⟨(some 21), (some (20, true)), .val (.mv (.t 0))⟩,
     ⟨(some 22), (some (20, true)), .val (.mv (.t 7))⟩,
     ⟨(some 23), (some (20, true)), .val (.iaddr 1 (.t 21) (.t 22))⟩,
     ⟨(some 24), (some (20, true)), .val (.load false 1 (.t 23))⟩,
     ⟨(some 25), (some (20, true)), .val (.bin .neq .num (.t 24) (.c (.int .u8 1)))⟩,
     ⟨(some 26), none, .val (.pick (.t 20) (.t 25) (.c (.bool false)))⟩] [0, 5, 6, 7, 26]) k48_1)) k48_7))) k48_8)

abbrev k48_10 : MC :=
  (.seq ((.seq (.reg [
    ⟨(some 8), none, .val (.mv (.t 7))⟩,
    ⟨(some 9), none, .val (.mv (.t 0))⟩,
    ⟨(some 10), none, .val (.len .sl (.t 9))⟩,
    ⟨(some 11), none, .val (.bin .lss .num (.t 8) (.t 10))⟩,
    ⟨(some 12), none, .val (.mv (.t 11))⟩,
    ⟨(some 13), (some (12, true)), .val (.mv (.t 7))⟩,
    ⟨(some 14), (some (12, true)), .val (.bin .lss .num (.t 13) (.c (.int .i64 10)))⟩,
    ⟨(some 15), none, .val (.pick (.t 12) (.t 14) (.c (.bool false)))⟩] [0, 5, 6, 7, 15]) k48_0)) k48_9)

abbrev k48_11 : MC :=
  .block 0 (.loop k48_10)

abbrev k48_12 : MC :=
  (.seq (.reg [
    ⟨(some 2), none, .val (.mv (.c (.int .u64 0)))⟩,
    ⟨(some 3), none, .val (.mv (.c (.int .i64 0)))⟩,
    ⟨(some 4), none, .val (.mv (.c (.int .i64 5)))⟩] [2, 3, 4]) .ret)

abbrev k48_13 : MC :=
  (.seq ((.seq (.reg [
    ⟨(some 7), none, .val (.mv (.c (.int .i64 0)))⟩] [0, 5, 6, 7]) k48_11)) k48_12)

abbrev k48_14 : MC :=
  (.seq (.reg [
    ⟨(some 6), none, .val (.mv (.c (.int .u64 1)))⟩] [0, 5, 6]) k48_13)

abbrev k48_15 : MC :=
  (.seq (.reg [
    ⟨(some 5), none, .val (.mv (.c (.int .u64 0)))⟩,
    ⟨(some 6), none, .val (.mv (.c (.int .u64 0)))⟩] [0, 5]) k48_14)
abbrev k48 : MC :=
  (.seq (.reg [
    ⟨(some 2), none, .val (.mv (.c (.int .u64 0)))⟩,
    ⟨(some 3), none, .val (.mv (.c (.int .i64 0)))⟩,
    ⟨(some 4), none, .val (.mv (.c (.int .i64 0)))⟩] [0]) k48_15)
theorem c48 : Try.f48.body.bind (mcOf Try.prog (List.contains [] ·) (List.getD [([], [0]), ([], [0, 5]), ([], [0, 5, 6]), ([], [0, 5, 6, 7]), ([], [0, 5, 6, 7, 15]), ([], [0, 5, 6, 7]), ([], [0, 5, 6, 7, 26]), ([], [2, 3, 4]), ([], [0, 5, 6, 7]), ([], [0, 5, 6, 7]), ([], [0, 5, 6, 7, 43]), ([0, 3, 2, 0, 0, 0, 0, 0, 2], [5, 7, 52]), ([], [2, 3, 4]), ([], [2, 3, 4]), ([], [2, 3, 4])] · ([], [])) 56) = some k48 := by kernel_rfl
theorem r48 : rvsOf Try.prog Try.f48.results.toList = some [.tmp 2, .tmp 3, .tmp 4] := by kernel_rfl

theorem vappend_calls {H0 H : AH} {v : V} {l : List UInt8} {n : Nat} (hacc : AccP H0 1 (byteCells l) v H) (hl : l.length < 100000000) (hn : n < 18446744073709551616) :
    ACalls Try.prog 55 [v, .int .u64 n] H (fun o H' => ∃ v', o = .ret v' ∧ AccP H0 1 (byteCells (l ++ vb n)) v' H' ∧ H.lec H') := by
  refine acalls Try.func55 c55 r55 (by simp [Try.ntmps55]) ?_
  repeat (first | refine am_seq ?_ | (refine am_reg ?_; simp -implicitDefEqProofs (disch := omega) only [go_sem, eq_self, decide_true, decide_false, Nat.reduceBEq, Nat.reduceAdd, Nat.reduceSub, Nat.reduceMul, Nat.reduceEqDiff, Nat.reduceLeDiff, Nat.reduceLT, Int.reduceLE, Int.reduceLT, Int.reduceToNat, Int.reduceAdd, Int.reduceEq, Int.reduceNeg, AH.put_ne]) | (refine am_drw ?_; simp -implicitDefEqProofs (disch := omega) only [go_sem, eq_self, decide_true, decide_false, Nat.reduceBEq, Nat.reduceAdd, Nat.reduceSub, Nat.reduceMul, Nat.reduceEqDiff, Nat.reduceLeDiff, Nat.reduceLT, Int.reduceLE, Int.reduceLT, Int.reduceToNat, Int.reduceAdd, Int.reduceEq, Int.reduceNeg, AH.put_ne]) | refine am_block ?_)
  refine am_loop (fun k a H' => ∃ (l' : List UInt8) (n' : Nat) (v' : V), k = n' ∧ a = [(0, v'), (1, .int .u64 n')] ∧ AccP H0 1 (byteCells l') v' H' ∧ l' ++ vb n' = l ++ vb n ∧ n' < 18446744073709551616 ∧ H.lec H') ?_ n ⟨l, n, v, rfl, rfl, hacc, rfl, hn, AH.lec_refl _⟩
  rintro k a H' ⟨l', n', v', rfl, rfl, hacc', he, hn', hl'⟩
  have hlen : l'.length < 100000010 := by
    have := congrArg List.length he
    have := vb_len10 hn
    have := vb_pos k
    simp only [List.length_append] at *
    omega
  repeat' (first | with_reducible refine am_seq ?_ | with_reducible refine am_block ?_ | ((with_reducible apply am_cond); (case hb => rfl); all_goals (intro hc; (try simp only [reduceCtorEq, decide_eq_true_eq, decide_eq_false_iff_not, Bool.or_eq_true, Bool.and_eq_true, Bool.or_eq_false_iff, Bool.not_eq_true', Bool.not_eq_false', beq_iff_eq] at hc); (try (exfalso; omega)))) | ((first | with_reducible refine am_reg ?_ | with_reducible refine am_drw ?_ | with_reducible refine am_skip ?_ | with_reducible refine am_exit ?_ | with_reducible refine am_ret ?_ | with_reducible refine And.intro (by first | exact AH.lec_refl _ | assumption | exact AccP.lec (by assumption) | omega) ?_ | with_reducible refine isnE_of (fun hc => ?_) (fun hc => ?_) (fun hc => ?_) | ((first | with_reducible refine gd_not (fun hc => ?_) (fun hc => ?_) | with_reducible refine gd_of (fun hc => ?_) (fun hc => ?_) | with_reducible refine gq_not (fun hc => ?_) (fun hc => ?_) | with_reducible refine gq_of (fun hc => ?_) (fun hc => ?_) | with_reducible refine pickB_of (fun hc => ?_) (fun hc => ?_)) <;> (try simp -implicitDefEqProofs (disch := omega) only [go_sem, eq_self, decide_true, decide_false, Nat.reduceBEq, Nat.reduceAdd, Nat.reduceSub, Nat.reduceMul, Nat.reduceEqDiff, Nat.reduceLeDiff, Nat.reduceLT, Int.reduceLE, Int.reduceLT, Int.reduceToNat, Int.reduceAdd, Int.reduceEq, Int.reduceNeg, AH.put_ne, hc]) <;> (try simp only [reduceCtorEq, decide_eq_true_eq, decide_eq_false_iff_not, Bool.or_eq_true, Bool.and_eq_true, Bool.or_eq_false_iff, Bool.not_eq_true', Bool.not_eq_false', beq_iff_eq] at hc) <;> (try (exfalso; omega))) | ((with_reducible refine alloc_intro (fun ko hko => ?_)) <;> (try have hne := fresh_ne (by assumption) hko) <;> (try simp only [AH.put_none] at hko)) | ((first | (with_reducible refine vapp_accL (by assumption) ?_ (fun v2 H2 hacc hlec => ?_)) | (with_reducible refine vapp_accL (AccP.mono (by assumption) (AccP.le (by assumption))) ?_ (fun v2 H2 hacc hlec => ?_)) | (with_reducible refine vapp_accL (AccP.new (by assumption) (by assumption) _) ?_ (fun v2 H2 hacc hlec => ?_))); · simp only [byteCells_length, List.length_cons, List.length_nil, List.length_map, List.length_append]; omega) | with_reducible refine need_elems (by assumption) ?_ | with_reducible refine vlen_acc (by assumption) ?_ | with_reducible refine need_bytes (by assumption) ?_ | with_reducible refine need_look (by assumption) ?_ | with_reducible refine need_look (look_put (by assumption) (by assumption)) ?_ | with_reducible refine need_look (look_lec (by assumption) (by assumption)) ?_ | with_reducible refine need_look (look_put (AH.put_same _ _ _) (by assumption)) ?_ | with_reducible refine need_look (look_lec (AH.put_same _ _ _) (by assumption)) ?_ | with_reducible refine need_look (look_put (look_put (by assumption) (by assumption)) (by assumption)) ?_ | with_reducible refine need_look (look_lec (look_put (by assumption) (by assumption)) (by assumption)) ?_ | with_reducible refine need_look (look_put (look_lec (by assumption) (by assumption)) (by assumption)) ?_ | with_reducible refine need_look (look_lec (look_lec (by assumption) (by assumption)) (by assumption)) ?_ | with_reducible refine need_look (look_put (look_put (AH.put_same _ _ _) (by assumption)) (by assumption)) ?_ | with_reducible refine need_look (look_lec (look_put (AH.put_same _ _ _) (by assumption)) (by assumption)) ?_ | with_reducible refine need_look (look_put (look_lec (AH.put_same _ _ _) (by assumption)) (by assumption)) ?_ | with_reducible refine need_look (look_lec (look_lec (AH.put_same _ _ _) (by assumption)) (by assumption)) ?_) <;> (try simp -implicitDefEqProofs (disch := omega) only [go_sem, eq_self, decide_true, decide_false, Nat.reduceBEq, Nat.reduceAdd, Nat.reduceSub, Nat.reduceMul, Nat.reduceEqDiff, Nat.reduceLeDiff, Nat.reduceLT, Int.reduceLE, Int.reduceLT, Int.reduceToNat, Int.reduceAdd, Int.reduceEq, Int.reduceNeg, AH.put_ne])))
  · refine ⟨k / 128, by omega, l' ++ [UInt8.ofNat (k % 128 + 128)], k / 128, v2, rfl, ?_, ?_, ?_, by omega, AH.lec_trans hl' hlec⟩
    · rw [shr7]
    · rw [byteCells_append]
      rw [or128] at hacc
      exact hacc
    · rw [vb_ge (by omega)] at he
      rw [← he]; simp
  · refine ⟨v2, rfl, ?_, AH.lec_trans hl' hlec⟩
    rw [vb_lt (by omega)] at he
    rw [byte_cast (by omega)] at hacc
    rw [← he, byteCells_append]
    exact hacc
theorem rbytes_calls {H : AH} {n : Nat} (hn : n < 18446744073709551616) :
    ACalls Try.prog 62 [.int .u64 n] H (fun o H' => ∃ v', o = .ret v' ∧ AccP H 1 (byteCells (vb n)) v' H') := by
  refine acalls Try.func62 c62 r62 (by simp [Try.ntmps62]) ?_
  repeat (first | refine am_seq ?_ | (refine am_reg ?_; simp -implicitDefEqProofs (disch := omega) only [go_sem, eq_self, decide_true, decide_false, Nat.reduceBEq, Nat.reduceAdd, Nat.reduceSub, Nat.reduceMul, Nat.reduceEqDiff, Nat.reduceLeDiff, Nat.reduceLT, Int.reduceLE, Int.reduceLT, Int.reduceToNat, Int.reduceAdd, Int.reduceEq, Int.reduceNeg, AH.put_ne]) | (refine am_drw ?_; simp -implicitDefEqProofs (disch := omega) only [go_sem, eq_self, decide_true, decide_false, Nat.reduceBEq, Nat.reduceAdd, Nat.reduceSub, Nat.reduceMul, Nat.reduceEqDiff, Nat.reduceLeDiff, Nat.reduceLT, Int.reduceLE, Int.reduceLT, Int.reduceToNat, Int.reduceAdd, Int.reduceEq, Int.reduceNeg, AH.put_ne]) | refine am_block ?_)
  refine am_loop (fun k a H' => ∃ (l' : List UInt8) (n' : Nat) (v' : V) (first : Bool), k = n' + first.toNat ∧ a = [(0, .int .u64 n'), (3, v'), (4, .bool first)] ∧ AccP H 1 (byteCells l') v' H' ∧ (if first = true ∨ 0 < n' then l' ++ vb n' = vb n else l' = vb n) ∧ n' < 18446744073709551616) ?_ (n + 1) ⟨[], n, .nilSl, true, rfl, rfl, AccP.nil _ _, by simp, hn⟩
  rintro k a H' ⟨l', n', v', first, rfl, rfl, hacc', he, hn'⟩
  have hlen : l'.length < 100000010 := by
    have h1 := vb_len10 hn
    split at he
    · have := congrArg List.length he
      simp only [List.length_append] at *
      omega
    · rw [he]; omega
  have step : ∀ v2 H2, (first = true ∨ 0 < n') → 0 < n' / 128 → AccP H 1 (byteCells l' ++ [[V.int IntKind.u8 (((n' % 128 : Nat) : Int) + 128)]]) v2 H2 → AccP H 1 (byteCells (l' ++ [UInt8.ofNat (n' % 128 + 128)])) v2 H2 ∧ (l' ++ [UInt8.ofNat (n' % 128 + 128)]) ++ vb (n' / 128) = vb n := by
    intro v2 H2 hf h0 h
    refine ⟨?_, ?_⟩
    · rw [byteCells_append]
      show AccP H 1 (byteCells l' ++ [[V.int IntKind.u8 ((UInt8.ofNat (n' % 128 + 128)).toNat : Int)]]) v2 H2
      rw [ofNat_toNat (by omega)]; simpa using h
    · rw [if_pos hf, vb_ge (by omega)] at he
      rw [← he]; simp
  have last : ∀ v2 H2, (first = true ∨ 0 < n') → ¬ 0 < n' / 128 → AccP H 1 (byteCells l' ++ [[V.int IntKind.u8 ((n' % 128 : Nat) : Int)]]) v2 H2 → AccP H 1 (byteCells (l' ++ [UInt8.ofNat (n' % 128)])) v2 H2 ∧ l' ++ [UInt8.ofNat (n' % 128)] = vb n := by
    intro v2 H2 hf h0 h
    refine ⟨?_, ?_⟩
    · rw [byteCells_append]
      show AccP H 1 (byteCells l' ++ [[V.int IntKind.u8 ((UInt8.ofNat (n' % 128)).toNat : Int)]]) v2 H2
      rw [ofNat_toNat (by omega)]; simpa using h
    · rw [if_pos hf, vb_lt (by omega)] at he
      rw [← he, Nat.mod_eq_of_lt (by omega)]
  repeat' (first | with_reducible refine am_seq ?_ | with_reducible refine am_block ?_ | ((with_reducible apply am_cond); (case hb => rfl); all_goals (intro hc; (try simp only [reduceCtorEq, decide_eq_true_eq, decide_eq_false_iff_not, Bool.or_eq_true, Bool.and_eq_true, Bool.or_eq_false_iff, Bool.not_eq_true', Bool.not_eq_false', beq_iff_eq] at hc); (try (exfalso; omega)))) | ((first | with_reducible refine am_reg ?_ | with_reducible refine am_drw ?_ | with_reducible refine am_skip ?_ | with_reducible refine am_exit ?_ | with_reducible refine am_ret ?_ | with_reducible refine And.intro (by first | exact AH.lec_refl _ | assumption | exact AccP.lec (by assumption) | omega) ?_ | with_reducible refine isnE_of (fun hc => ?_) (fun hc => ?_) (fun hc => ?_) | ((first | with_reducible refine gd_not (fun hc => ?_) (fun hc => ?_) | with_reducible refine gd_of (fun hc => ?_) (fun hc => ?_) | with_reducible refine gq_not (fun hc => ?_) (fun hc => ?_) | with_reducible refine gq_of (fun hc => ?_) (fun hc => ?_) | with_reducible refine pickB_of (fun hc => ?_) (fun hc => ?_)) <;> (try simp -implicitDefEqProofs (disch := omega) only [go_sem, eq_self, decide_true, decide_false, Nat.reduceBEq, Nat.reduceAdd, Nat.reduceSub, Nat.reduceMul, Nat.reduceEqDiff, Nat.reduceLeDiff, Nat.reduceLT, Int.reduceLE, Int.reduceLT, Int.reduceToNat, Int.reduceAdd, Int.reduceEq, Int.reduceNeg, AH.put_ne, hc, tdiv128, tmod128, u64_id, u8_id]) <;> (try simp only [reduceCtorEq, decide_eq_true_eq, decide_eq_false_iff_not, Bool.or_eq_true, Bool.and_eq_true, Bool.or_eq_false_iff, Bool.not_eq_true', Bool.not_eq_false', beq_iff_eq] at hc) <;> (try (exfalso; omega))) | ((with_reducible refine alloc_intro (fun ko hko => ?_)) <;> (try have hne := fresh_ne (by assumption) hko) <;> (try simp only [AH.put_none] at hko)) | ((first | (with_reducible refine vapp_accL (by assumption) ?_ (fun v2 H2 hacc hlec => ?_)) | (with_reducible refine vapp_accL (AccP.mono (by assumption) (AccP.le (by assumption))) ?_ (fun v2 H2 hacc hlec => ?_)) | (with_reducible refine vapp_accL (AccP.new (by assumption) (by assumption) _) ?_ (fun v2 H2 hacc hlec => ?_))); · simp only [byteCells_length, List.length_cons, List.length_nil, List.length_map, List.length_append]; omega) | with_reducible refine need_elems (by assumption) ?_ | with_reducible refine vlen_acc (by assumption) ?_ | with_reducible refine need_bytes (by assumption) ?_ | with_reducible refine need_look (by assumption) ?_ | with_reducible refine need_look (look_put (by assumption) (by assumption)) ?_ | with_reducible refine need_look (look_lec (by assumption) (by assumption)) ?_ | with_reducible refine need_look (look_put (AH.put_same _ _ _) (by assumption)) ?_ | with_reducible refine need_look (look_lec (AH.put_same _ _ _) (by assumption)) ?_ | with_reducible refine need_look (look_put (look_put (by assumption) (by assumption)) (by assumption)) ?_ | with_reducible refine need_look (look_lec (look_put (by assumption) (by assumption)) (by assumption)) ?_ | with_reducible refine need_look (look_put (look_lec (by assumption) (by assumption)) (by assumption)) ?_ | with_reducible refine need_look (look_lec (look_lec (by assumption) (by assumption)) (by assumption)) ?_ | with_reducible refine need_look (look_put (look_put (AH.put_same _ _ _) (by assumption)) (by assumption)) ?_ | with_reducible refine need_look (look_lec (look_put (AH.put_same _ _ _) (by assumption)) (by assumption)) ?_ | with_reducible refine need_look (look_put (look_lec (AH.put_same _ _ _) (by assumption)) (by assumption)) ?_ | with_reducible refine need_look (look_lec (look_lec (AH.put_same _ _ _) (by assumption)) (by assumption)) ?_) <;> (try simp -implicitDefEqProofs (disch := omega) only [go_sem, eq_self, decide_true, decide_false, Nat.reduceBEq, Nat.reduceAdd, Nat.reduceSub, Nat.reduceMul, Nat.reduceEqDiff, Nat.reduceLeDiff, Nat.reduceLT, Int.reduceLE, Int.reduceLT, Int.reduceToNat, Int.reduceAdd, Int.reduceEq, Int.reduceNeg, AH.put_ne, tdiv128, tmod128, u64_id, u8_id])))
  · subst first
    obtain ⟨g1, g2⟩ := step _ _ (.inr (by omega)) (by omega) hacc
    exact ⟨n' / 128, by simp; omega, _, n' / 128, _, false, by simp, rfl, g1, by rw [if_pos (.inr (by omega))]; exact g2, by omega⟩
  · subst first
    obtain ⟨g1, g2⟩ := last _ _ (.inr (by omega)) (by omega) hacc
    exact ⟨n' / 128, by simp; omega, _, n' / 128, _, false, by simp, rfl, g1, by rw [if_neg (by simp; omega)]; exact g2, by omega⟩
  · subst first
    rw [if_neg (by simp; omega)] at he
    exact ⟨_, rfl, he ▸ hacc'⟩
  · subst first
    obtain ⟨g1, g2⟩ := step _ _ (.inl rfl) (by omega) hacc
    exact ⟨n' / 128, by simp; omega, _, n' / 128, _, false, by simp, rfl, g1, by rw [if_pos (.inr (by omega))]; exact g2, by omega⟩
  · subst first
    obtain ⟨g1, g2⟩ := last _ _ (.inl rfl) (by omega) hacc
    exact ⟨n' / 128, by simp; omega, _, n' / 128, _, false, by simp, rfl, g1, by rw [if_neg (by simp; omega)]; exact g2, by omega⟩
theorem end_calls {c : UInt8} {i : Nat} (H : AH) :
    ACalls Try.prog 70 [.int .u8 c.toNat, .int .i64 i] H (fun o H' => o = .ret (.int .i64 (if (c.toNat = 0 ∧ 0 < i) ∨ (i = 9 ∧ c.toNat ≠ 1) then 4 else 0)) ∧ H' = H) := by
  refine acalls Try.func70 c70 r70 (by simp [Try.ntmps70]) ?_
  repeat' (first | with_reducible refine am_seq ?_ | with_reducible refine am_block ?_ | ((with_reducible apply am_cond); (case hb => rfl); all_goals (intro hc; (try simp only [reduceCtorEq, decide_eq_true_eq, decide_eq_false_iff_not, Bool.or_eq_true, Bool.and_eq_true, Bool.or_eq_false_iff, Bool.not_eq_true', Bool.not_eq_false', beq_iff_eq] at hc); (try (exfalso; omega)))) | ((first | with_reducible refine am_reg ?_ | with_reducible refine am_drw ?_ | with_reducible refine am_skip ?_ | with_reducible refine am_exit ?_ | with_reducible refine am_ret ?_ | with_reducible refine And.intro (by first | exact AH.lec_refl _ | assumption | exact AccP.lec (by assumption) | omega) ?_ | with_reducible refine isnE_of (fun hc => ?_) (fun hc => ?_) (fun hc => ?_) | ((first | with_reducible refine gd_not (fun hc => ?_) (fun hc => ?_) | with_reducible refine gd_of (fun hc => ?_) (fun hc => ?_) | with_reducible refine gq_not (fun hc => ?_) (fun hc => ?_) | with_reducible refine gq_of (fun hc => ?_) (fun hc => ?_) | with_reducible refine pickB_of (fun hc => ?_) (fun hc => ?_)) <;> (try simp -implicitDefEqProofs (disch := omega) only [go_sem, eq_self, decide_true, decide_false, Nat.reduceBEq, Nat.reduceAdd, Nat.reduceSub, Nat.reduceMul, Nat.reduceEqDiff, Nat.reduceLeDiff, Nat.reduceLT, Int.reduceLE, Int.reduceLT, Int.reduceToNat, Int.reduceAdd, Int.reduceEq, Int.reduceNeg, AH.put_ne, hc]) <;> (try simp only [reduceCtorEq, decide_eq_true_eq, decide_eq_false_iff_not, Bool.or_eq_true, Bool.and_eq_true, Bool.or_eq_false_iff, Bool.not_eq_true', Bool.not_eq_false', beq_iff_eq] at hc) <;> (try (exfalso; omega))) | ((with_reducible refine alloc_intro (fun ko hko => ?_)) <;> (try have hne := fresh_ne (by assumption) hko) <;> (try simp only [AH.put_none] at hko)) | ((first | (with_reducible refine vapp_accL (by assumption) ?_ (fun v2 H2 hacc hlec => ?_)) | (with_reducible refine vapp_accL (AccP.mono (by assumption) (AccP.le (by assumption))) ?_ (fun v2 H2 hacc hlec => ?_)) | (with_reducible refine vapp_accL (AccP.new (by assumption) (by assumption) _) ?_ (fun v2 H2 hacc hlec => ?_))); · simp only [byteCells_length, List.length_cons, List.length_nil, List.length_map, List.length_append]; omega) | with_reducible refine need_elems (by assumption) ?_ | with_reducible refine vlen_acc (by assumption) ?_ | with_reducible refine need_bytes (by assumption) ?_ | with_reducible refine need_look (by assumption) ?_ | with_reducible refine need_look (look_put (by assumption) (by assumption)) ?_ | with_reducible refine need_look (look_lec (by assumption) (by assumption)) ?_ | with_reducible refine need_look (look_put (AH.put_same _ _ _) (by assumption)) ?_ | with_reducible refine need_look (look_lec (AH.put_same _ _ _) (by assumption)) ?_ | with_reducible refine need_look (look_put (look_put (by assumption) (by assumption)) (by assumption)) ?_ | with_reducible refine need_look (look_lec (look_put (by assumption) (by assumption)) (by assumption)) ?_ | with_reducible refine need_look (look_put (look_lec (by assumption) (by assumption)) (by assumption)) ?_ | with_reducible refine need_look (look_lec (look_lec (by assumption) (by assumption)) (by assumption)) ?_ | with_reducible refine need_look (look_put (look_put (AH.put_same _ _ _) (by assumption)) (by assumption)) ?_ | with_reducible refine need_look (look_lec (look_put (AH.put_same _ _ _) (by assumption)) (by assumption)) ?_ | with_reducible refine need_look (look_put (look_lec (AH.put_same _ _ _) (by assumption)) (by assumption)) ?_ | with_reducible refine need_look (look_lec (look_lec (AH.put_same _ _ _) (by assumption)) (by assumption)) ?_) <;> (try simp -implicitDefEqProofs (disch := omega) only [go_sem, eq_self, decide_true, decide_false, Nat.reduceBEq, Nat.reduceAdd, Nat.reduceSub, Nat.reduceMul, Nat.reduceEqDiff, Nat.reduceLeDiff, Nat.reduceLT, Int.reduceLE, Int.reduceLT, Int.reduceToNat, Int.reduceAdd, Int.reduceEq, Int.reduceNeg, AH.put_ne])))
  all_goals first | done | (simp_all; done) | (simp_all; omega) | (exfalso; omega) | skip
end Go.Proofs.Ytmomncmddejcoaa
