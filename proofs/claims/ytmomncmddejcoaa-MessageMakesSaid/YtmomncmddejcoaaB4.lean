/- Of the walks of this seat: contracts of functions of the given program, proved over the abstract values of the texts Vm. Conditions: as each theorem says. -/
import Derived.Test.YtmomncmddejcoaaB3
import Derived.Test.YtmomncmddejcoaaM2
set_option linter.unusedVariables false
set_option linter.unusedSimpArgs false
namespace Go.Proofs.Ytmomncmddejcoaa
open Go.Vm
attribute [local go_sem] byteCells_get byteCells_length byteCells_take byteCells_drop bytes_cells fldC fldsE_get fldsE_length List.drop_zero bytesOf_cells toNat_succ Nat.sub_zero Int.toNat_natCast Option.map_some Int.natCast_nonneg decide_eq_true_eq decide_eq_false_iff_not
/- (flange/message.Field).key -/
abbrev k65_0 : MC :=
  .cond (.t 9) (.reg [
     ⟨(some 10), none, .val (.mv (.t 3))⟩,
     ⟨(some 11), none, .val (.bin .add .num (.t 10) (.c (.int .u64 1)))⟩,
     ⟨(some 3), none, .val (.mv (.t 11))⟩] [3]) (.skip)

abbrev k65_1 : MC :=
  (.seq (.reg [
    ⟨(some 12), none, .val (.mv (.t 3))⟩,
    ⟨(some 2), none, .val (.mv (.t 12))⟩] [2]) .ret)

abbrev k65_2 : MC :=
  (.seq ((.seq (.reg [
    ⟨(some 8), none, .val (.faddr 1 (.t 1))⟩,
    ⟨(some 9), none, .val (.load false 1 (.t 8))⟩] [3, 9]) k65_0)) k65_1)

abbrev k65_3 : MC :=
  (.seq (.reg [
    ⟨(some 4), none, .val (.faddr 0 (.t 1))⟩,
    ⟨(some 5), none, .val (.load false 1 (.t 4))⟩,
    ⟨(some 6), none, .val (.bin .mul .num (.c (.int .i64 2)) (.t 5))⟩,
    ⟨(some 7), none, .val (.i2i .u64 (.t 6))⟩,
    ⟨(some 3), none, .val (.mv (.t 7))⟩] [1, 3]) k65_2)
abbrev k65 : MC :=
  (.seq (.reg [
    ⟨(some 1), none, .boxi (.t 0)⟩,
    ⟨(some 2), none, .val (.mv (.c (.int .u64 0)))⟩] [1]) k65_3)
theorem c65 : Try.f65.body.bind (mcOf Try.prog (List.contains [1] ·) (List.getD [([], [1]), ([], [1, 3]), ([], [3, 9]), ([], [3]), ([], [2])] · ([], [])) 13) = some k65 := by kernel_rfl
theorem r65 : rvsOf Try.prog Try.f65.results.toList = some [.tmp 2] := by kernel_rfl

/- (flange/message.Field).right -/
abbrev k41_0 : MC :=
  (.seq (.reg [
    ⟨(some 3), none, .val (.faddr 0 (.t 1))⟩,
    ⟨(some 4), none, .val (.load false 1 (.t 3))⟩,
    ⟨(some 5), none, .val (.bin .geq .num (.t 4) (.c (.int .i64 1)))⟩,
    ⟨(some 6), none, .val (.mv (.t 5))⟩,
    ⟨(some 7), (some (6, true)), .val (.faddr 0 (.t 1))⟩,
    ⟨(some 8), (some (6, true)), .val (.load false 1 (.t 7))⟩,
    ⟨(some 9), (some (6, true)), .val (.bin .leq .num (.t 8) (.c (.int .i64 1000)))⟩,
    ⟨(some 10), none, .val (.pick (.t 6) (.t 9) (.c (.bool false)))⟩,
    ⟨(some 11), none, .val (.mv (.t 10))⟩,
    ⟨(some 12), (some (11, true)), .val (.faddr 1 (.t 1))⟩,
    ⟨(some 13), (some (11, true)), .val (.load false 1 (.t 12))⟩,
    ⟨(some 14), (some (11, true)), .val (.mv (.t 13))⟩,
    ⟨(some 15), (some (14, true)), .val (.faddr 2 (.t 1))⟩,
    ⟨(some 16), (some (14, true)), .val (.load false 1 (.t 15))⟩,
    ⟨(some 17), (some (14, true)), .val (.bin .eql .num (.t 16) (.c (.int .u64 0)))⟩,
    ⟨(some 18), (some (11, true)), .val (.pick (.t 14) (.t 17) (.c (.bool false)))⟩,
    ⟨(some 19), (some (11, true)), .val (.mv (.t 18))⟩,
    ⟨(some 20), (some (19, false)), .val (.faddr 1 (.t 1))⟩,
    ⟨(some 21), (some (19, false)), .val (.load false 1 (.t 20))⟩,
    ⟨(some 22), (some (19, false)), .val (.not (.t 21))⟩,
    ⟨(some 23), (some (19, false)), .val (.mv (.t 22))⟩,
    ⟨(some 24), (some (23, true)), .val (.faddr 3 (.t 1))⟩,
    ⟨(some 25), (some (23, true)), .val (.load false 1 (.t 24))⟩,
    ⟨(some 26), (some (23, true)), .val (.len .sl (.t 25))⟩,
    ⟨(some 27), (some (23, true)), .val (.bin .eql .num (.t 26) (.c (.int .i64 0)))⟩,
    ⟨(some 28), (some (19, false)), .val (.pick (.t 23) (.t 27) (.c (.bool false)))⟩,
    ⟨(some 29), (some (11, true)), .val (.pick (.t 19) (.c (.bool true)) (.t 28))⟩,
    ⟨(some 30), none, .val (.pick (.t 11) (.t 29) (.c (.bool false)))⟩,
    ⟨(some 2), none, .val (.mv (.t 30))⟩] [2]) .ret)
abbrev k41 : MC :=
  (.seq (.reg [
    ⟨(some 1), none, .boxi (.t 0)⟩,
    ⟨(some 2), none, .val (.mv (.c (.bool false)))⟩] [1]) k41_0)
theorem c41 : Try.f41.body.bind (mcOf Try.prog (List.contains [1] ·) (List.getD [([], [1]), ([], [2])] · ([], [])) 31) = some k41 := by kernel_rfl
theorem r41 : rvsOf Try.prog Try.f41.results.toList = some [.tmp 2] := by kernel_rfl

/- (flange/message.Field).behind -/
abbrev k42_0 : MC :=
  (.seq (.reg [
    ⟨(some 5), none, .val (.faddr 0 (.t 2))⟩,
    ⟨(some 6), none, .val (.load false 1 (.t 5))⟩,
    ⟨(some 7), none, .val (.faddr 0 (.t 3))⟩,
    ⟨(some 8), none, .val (.load false 1 (.t 7))⟩,
    ⟨(some 9), none, .val (.bin .gtr .num (.t 6) (.t 8))⟩,
    ⟨(some 10), none, .val (.mv (.t 9))⟩,
    ⟨(some 11), (some (10, false)), .val (.faddr 0 (.t 2))⟩,
    ⟨(some 12), (some (10, false)), .val (.load false 1 (.t 11))⟩,
    ⟨(some 13), (some (10, false)), .val (.faddr 0 (.t 3))⟩,
    ⟨(some 14), (some (10, false)), .val (.load false 1 (.t 13))⟩,
    ⟨(some 15), (some (10, false)), .val (.bin .eql .num (.t 12) (.t 14))⟩,
    ⟨(some 16), (some (10, false)), .val (.mv (.t 15))⟩,
    ⟨(some 17), (some (16, true)), .val (.faddr 1 (.t 2))⟩,
    ⟨(some 18), (some (16, true)), .val (.load false 1 (.t 17))⟩,
    ⟨(some 19), (some (10, false)), .val (.pick (.t 16) (.t 18) (.c (.bool false)))⟩,
    ⟨(some 20), (some (10, false)), .val (.mv (.t 19))⟩,
    ⟨(some 21), (some (20, true)), .val (.faddr 1 (.t 3))⟩,
    ⟨(some 22), (some (20, true)), .val (.load false 1 (.t 21))⟩,
    ⟨(some 23), (some (10, false)), .val (.pick (.t 20) (.t 22) (.c (.bool false)))⟩,
    ⟨(some 24), none, .val (.pick (.t 10) (.c (.bool true)) (.t 23))⟩,
    ⟨(some 4), none, .val (.mv (.t 24))⟩] [4]) .ret)
abbrev k42 : MC :=
  (.seq (.reg [
    ⟨(some 2), none, .boxi (.t 0)⟩,
    ⟨(some 3), none, .boxi (.t 1)⟩,
    ⟨(some 4), none, .val (.mv (.c (.bool false)))⟩] [2, 3]) k42_0)
theorem c42 : Try.f42.body.bind (mcOf Try.prog (List.contains [2, 3] ·) (List.getD [([], [2, 3]), ([], [4])] · ([], [])) 25) = some k42 := by kernel_rfl
theorem r42 : rvsOf Try.prog Try.f42.results.toList = some [.tmp 4] := by kernel_rfl

/- (flange/message.Field).lay -/
abbrev k43_0 : MC :=
  .cond (.t 11) ((.seq (.reg [
     ⟨(some 12), none, .val (.mv (.t 1))⟩,
     ⟨(some 13), none, .val (.faddr 2 (.t 2))⟩,
     ⟨(some 14), none, .val (.load false 1 (.t 13))⟩,
     ⟨(some 15), none, .call 55 [(.t 12), (.t 14)]⟩,
     ⟨(some 4), none, .val (.mv (.t 15))⟩] [4]) .ret)) (.skip)

abbrev k43_1 : MC :=
  (.seq (.drw [
    ⟨(some 16), none, .val (.mv (.t 1))⟩,
    ⟨(some 17), none, .val (.faddr 3 (.t 2))⟩,
    ⟨(some 18), none, .val (.load false 1 (.t 17))⟩,
    ⟨(some 19), none, .val (.len .sl (.t 18))⟩,
    ⟨(some 20), none, .val (.i2i .u64 (.t 19))⟩,
    ⟨(some 22), none, .val (.faddr 3 (.t 2))⟩,
    ⟨(some 23), none, .val (.load false 1 (.t 22))⟩] [
    ⟨(some 21), none, .scall 55 [(.t 16), (.t 20)]⟩,
    ⟨(some 24), none, .app 1 1 (.t 21) (.t 23)⟩,
    ⟨(some 4), none, .val (.mv (.t 24))⟩] [4]) .ret)

abbrev k43_2 : MC :=
  (.seq ((.seq (.reg [
    ⟨(some 9), none, .val (.faddr 1 (.t 2))⟩,
    ⟨(some 10), none, .val (.load false 1 (.t 9))⟩,
    ⟨(some 11), none, .val (.not (.t 10))⟩] [1, 2, 11]) k43_0)) k43_1)

abbrev k43_3 : MC :=
  (.seq (.reg [
    ⟨(some 5), none, .val (.mv (.t 1))⟩,
    ⟨(some 6), none, .val (.load true 4 (.t 2))⟩,
    ⟨(some 7), none, .call 65 [(.t 6)]⟩,
    ⟨(some 8), none, .call 55 [(.t 5), (.t 7)]⟩,
    ⟨(some 1), none, .val (.mv (.t 8))⟩] [1, 2]) k43_2)
abbrev k43 : MC :=
  (.seq (.reg [
    ⟨(some 2), none, .boxi (.t 0)⟩,
    ⟨(some 4), none, .val (.mv (.c .nilSl))⟩] [1, 2]) k43_3)
theorem c43 : Try.f43.body.bind (mcOf Try.prog (List.contains [2] ·) (List.getD [([], [1, 2]), ([], [1, 2]), ([], [1, 2, 11]), ([], [4]), ([0, 0, 0, 0, 0, 3, 0, 0, 2, 2], [4])] · ([], [])) 25) = some k43 := by kernel_rfl
theorem r43 : rvsOf Try.prog Try.f43.results.toList = some [.tmp 4] := by kernel_rfl

/- flange/flangeref02.Fits -/
abbrev k44_0 : MC :=
  .cond (.t 39) ((.seq (.reg [
     ⟨(some 4), none, .val (.mv (.c (.bool false)))⟩] [4]) .ret)) (.skip)

abbrev k44_1 : MC :=
  (.seq (.reg [
    ⟨(some 40), none, .val (.faddr 0 (.t 2))⟩,
    ⟨(some 41), none, .val (.load false 1 (.t 40))⟩,
    ⟨(some 42), none, .val (.faddr 0 (.t 3))⟩,
    ⟨(some 43), none, .val (.load false 1 (.t 42))⟩,
    ⟨(some 44), none, .val (.bin .gtr .num (.t 41) (.t 43))⟩,
    ⟨(some 45), none, .val (.mv (.t 44))⟩,
    ⟨(some 46), (some (45, false)), .val (.faddr 1 (.t 2))⟩,
    ⟨(some 47), (some (45, false)), .val (.load false 1 (.t 46))⟩,
    ⟨(some 48), (some (45, false)), .val (.mv (.t 47))⟩,
    ⟨(some 49), (some (48, true)), .val (.faddr 1 (.t 3))⟩,
    ⟨(some 50), (some (48, true)), .val (.load false 1 (.t 49))⟩,
    ⟨(some 51), (some (45, false)), .val (.pick (.t 48) (.t 50) (.c (.bool false)))⟩,
    ⟨(some 52), none, .val (.pick (.t 45) (.c (.bool true)) (.t 51))⟩,
    ⟨(some 4), none, .val (.mv (.t 52))⟩] [4]) .ret)

abbrev k44_2 : MC :=
  (.seq ((.seq (.reg [
    ⟨(some 5), none, .val (.faddr 0 (.t 2))⟩,
    ⟨(some 6), none, .val (.load false 1 (.t 5))⟩,
    ⟨(some 7), none, .val (.bin .lss .num (.t 6) (.c (.int .i64 1)))⟩,
    ⟨(some 8), none, .val (.mv (.t 7))⟩,
    ⟨(some 9), (some (8, false)), .val (.faddr 0 (.t 2))⟩,
    ⟨(some 10), (some (8, false)), .val (.load false 1 (.t 9))⟩,
    ⟨(some 11), (some (8, false)), .val (.bin .gtr .num (.t 10) (.c (.int .i64 1000)))⟩,
    ⟨(some 12), none, .val (.pick (.t 8) (.c (.bool true)) (.t 11))⟩,
    ⟨(some 13), none, .val (.mv (.t 12))⟩,
    ⟨(some 14), (some (13, false)), .val (.faddr 1 (.t 2))⟩,
    ⟨(some 15), (some (13, false)), .val (.load false 1 (.t 14))⟩,
    ⟨(some 16), (some (13, false)), .val (.mv (.t 15))⟩,
    ⟨(some 17), (some (16, true)), .val (.faddr 2 (.t 2))⟩,
    ⟨(some 18), (some (16, true)), .val (.load false 1 (.t 17))⟩,
    ⟨(some 19), (some (16, true)), .val (.bin .neq .num (.t 18) (.c (.int .u64 0)))⟩,
    ⟨(some 20), (some (13, false)), .val (.pick (.t 16) (.t 19) (.c (.bool false)))⟩,
    ⟨(some 21), none, .val (.pick (.t 13) (.c (.bool true)) (.t 20))⟩,
    ⟨(some 22), none, .val (.mv (.t 21))⟩,
    ⟨(some 23), (some (22, false)), .val (.faddr 1 (.t 2))⟩,
    ⟨(some 24), (some (22, false)), .val (.load false 1 (.t 23))⟩,
    ⟨(some 25), (some (22, false)), .val (.not (.t 24))⟩,
    ⟨(some 26), (some (22, false)), .val (.mv (.t 25))⟩,
    ⟨(some 27), (some (26, true)), .val (.faddr 3 (.t 2))⟩,
    ⟨(some 28), (some (26, true)), .val (.load false 1 (.t 27))⟩,
    ⟨(some 29), (some (26, true)), .val (.len .sl (.t 28))⟩,
    ⟨(some 30), (some (26, true)), .val (.bin .gtr .num (.t 29) (.c (.int .i64 0)))⟩,
    ⟨(some 31), (some (22, false)), .val (.pick (.t 26) (.t 30) (.c (.bool false)))⟩,
    ⟨(some 32), none, .val (.pick (.t 22) (.c (.bool true)) (.t 31))⟩,
    ⟨(some 33), none, .val (.mv (.t 32))⟩,
    ⟨(some 34), (some (33, false)), .val (.faddr 0 (.t 2))⟩,
    ⟨(some 35), (some (33, false)), .val (.load false 1 (.t 34))⟩,
    ⟨(some 36), (some (33, false)), .val (.faddr 0 (.t 3))⟩,
    ⟨(some 37), (some (33, false)), .val (.load false 1 (.t 36))⟩,
    ⟨(some 38), (some (33, false)), .val (.bin .lss .num (.t 35) (.t 37))⟩,
    ⟨(some 39), none, .val (.pick (.t 33) (.c (.bool true)) (.t 38))⟩] [2, 3, 39]) k44_0)) k44_1)
abbrev k44 : MC :=
  (.seq (.reg [
    ⟨(some 2), none, .boxi (.t 0)⟩,
    ⟨(some 3), none, .boxi (.t 1)⟩,
    ⟨(some 4), none, .val (.mv (.c (.bool false)))⟩] [2, 3]) k44_2)
theorem c44 : Try.f44.body.bind (mcOf Try.prog (List.contains [2, 3] ·) (List.getD [([], [2, 3]), ([], [2, 3, 39]), ([], [4]), ([], [4])] · ([], [])) 53) = some k44 := by kernel_rfl
theorem r44 : rvsOf Try.prog Try.f44.results.toList = some [.tmp 4] := by kernel_rfl

/- flange/flangeref02.Lay -/
abbrev k45_0 : MC :=
  .cond (.t 6) ((.seq (.drw [
     ⟨(some 7), none, .val (.faddr 0 (.t 1))⟩,
     ⟨(some 8), none, .val (.load false 1 (.t 7))⟩,
     ⟨(some 9), none, .val (.i2i .u64 (.t 8))⟩,
     ⟨(some 10), none, .val (.bin .mul .num (.t 9) (.c (.int .u64 2)))⟩,
     ⟨(some 12), none, .val (.faddr 2 (.t 1))⟩,
     ⟨(some 13), none, .val (.load false 1 (.t 12))⟩] [
     ⟨(some 11), none, .scall 62 [(.t 10)]⟩,
     ⟨(some 14), none, .scall 62 [(.t 13)]⟩,
     ⟨(some 15), none, .app 1 1 (.t 11) (.t 14)⟩,
     ⟨(some 2), none, .val (.mv (.t 15))⟩] [2]) .ret)) (.skip)

abbrev k45_1 : MC :=
  (.seq (.reg [
    ⟨(some 28), none, .val (.mv (.t 3))⟩,
    ⟨(some 29), none, .val (.faddr 3 (.t 1))⟩,
    ⟨(some 30), none, .val (.load false 1 (.t 29))⟩,
    ⟨(some 31), none, .app 1 1 (.t 28) (.t 30)⟩,
    ⟨(some 2), none, .val (.mv (.t 31))⟩] [2]) .ret)

abbrev k45_2 : MC :=
  (.seq (.drw [
    ⟨(some 16), none, .val (.faddr 0 (.t 1))⟩,
    ⟨(some 17), none, .val (.load false 1 (.t 16))⟩,
    ⟨(some 18), none, .val (.i2i .u64 (.t 17))⟩,
    ⟨(some 19), none, .val (.bin .mul .num (.t 18) (.c (.int .u64 2)))⟩,
    ⟨(some 20), none, .val (.bin .add .num (.t 19) (.c (.int .u64 1)))⟩,
    ⟨(some 22), none, .val (.faddr 3 (.t 1))⟩,
    ⟨(some 23), none, .val (.load false 1 (.t 22))⟩,
    ⟨(some 24), none, .val (.len .sl (.t 23))⟩,
    ⟨(some 25), none, .val (.i2i .u64 (.t 24))⟩] [
    ⟨(some 21), none, .scall 62 [(.t 20)]⟩,
    ⟨(some 26), none, .scall 62 [(.t 25)]⟩,
    ⟨(some 27), none, .app 1 1 (.t 21) (.t 26)⟩,
    ⟨(some 3), none, .val (.mv (.t 27))⟩] [1, 3]) k45_1)

abbrev k45_3 : MC :=
  (.seq ((.seq (.reg [
    ⟨(some 4), none, .val (.faddr 1 (.t 1))⟩,
    ⟨(some 5), none, .val (.load false 1 (.t 4))⟩,
    ⟨(some 6), none, .val (.not (.t 5))⟩] [1, 6]) k45_0)) k45_2)
abbrev k45 : MC :=
  (.seq (.reg [
    ⟨(some 1), none, .boxi (.t 0)⟩,
    ⟨(some 2), none, .val (.mv (.c .nilSl))⟩] [1]) k45_3)
theorem c45 : Try.f45.body.bind (mcOf Try.prog (List.contains [1] ·) (List.getD [([], [1]), ([], [1, 6]), ([0, 0, 0, 0, 3, 0, 0, 3, 2, 2], [2]), ([0, 0, 0, 0, 0, 3, 0, 0, 0, 0, 3, 2, 2], [1, 3]), ([], [2])] · ([], [])) 32) = some k45 := by kernel_rfl
theorem r45 : rvsOf Try.prog Try.f45.results.toList = some [.tmp 2] := by kernel_rfl

/- flange/flangeref02.Same -/
abbrev k47_0 : MC :=
  (.seq (.reg [
    ⟨(some 5), none, .val (.faddr 0 (.t 2))⟩,
    ⟨(some 6), none, .val (.load false 1 (.t 5))⟩,
    ⟨(some 7), none, .val (.faddr 0 (.t 3))⟩,
    ⟨(some 8), none, .val (.load false 1 (.t 7))⟩,
    ⟨(some 9), none, .val (.bin .eql .num (.t 6) (.t 8))⟩,
    ⟨(some 10), none, .val (.mv (.t 9))⟩,
    ⟨(some 11), (some (10, true)), .val (.faddr 1 (.t 2))⟩,
    ⟨(some 12), (some (10, true)), .val (.load false 1 (.t 11))⟩,
    ⟨(some 13), (some (10, true)), .val (.faddr 1 (.t 3))⟩,
    ⟨(some 14), (some (10, true)), .val (.load false 1 (.t 13))⟩,
    ⟨(some 15), (some (10, true)), .val (.bin .eql .bool (.t 12) (.t 14))⟩,
    ⟨(some 16), none, .val (.pick (.t 10) (.t 15) (.c (.bool false)))⟩,
    ⟨(some 17), none, .val (.mv (.t 16))⟩,
    ⟨(some 18), (some (17, true)), .val (.faddr 2 (.t 2))⟩,
    ⟨(some 19), (some (17, true)), .val (.load false 1 (.t 18))⟩,
    ⟨(some 20), (some (17, true)), .val (.faddr 2 (.t 3))⟩,
    ⟨(some 21), (some (17, true)), .val (.load false 1 (.t 20))⟩,
    ⟨(some 22), (some (17, true)), .val (.bin .eql .num (.t 19) (.t 21))⟩,
    ⟨(some 23), none, .val (.pick (.t 17) (.t 22) (.c (.bool false)))⟩,
    ⟨(some 24), none, .val (.mv (.t 23))⟩,
    ⟨(some 25), (some (24, true)), .val (.faddr 3 (.t 2))⟩,
    ⟨(some 26), (some (24, true)), .val (.load false 1 (.t 25))⟩,
    ⟨(some 27), (some (24, true)), .val (.b2s (.t 26))⟩,
    ⟨(some 28), (some (24, true)), .val (.faddr 3 (.t 3))⟩,
    ⟨(some 29), (some (24, true)), .val (.load false 1 (.t 28))⟩,
    ⟨(some 30), (some (24, true)), .val (.b2s (.t 29))⟩,
    ⟨(some 31), (some (24, true)), .val (.bin .eql .num (.t 27) (.t 30))⟩,
    ⟨(some 32), none, .val (.pick (.t 24) (.t 31) (.c (.bool false)))⟩,
    ⟨(some 4), none, .val (.mv (.t 32))⟩] [4]) .ret)
abbrev k47 : MC :=
  (.seq (.reg [
    ⟨(some 2), none, .boxi (.t 0)⟩,
    ⟨(some 3), none, .boxi (.t 1)⟩,
    ⟨(some 4), none, .val (.mv (.c (.bool false)))⟩] [2, 3]) k47_0)
theorem c47 : Try.f47.body.bind (mcOf Try.prog (List.contains [2, 3] ·) (List.getD [([], [2, 3]), ([], [4])] · ([], [])) 33) = some k47 := by kernel_rfl
theorem r47 : rvsOf Try.prog Try.f47.results.toList = some [.tmp 4] := by kernel_rfl

/- flange/message.Num -/
abbrev k27_0 : MC :=
  (.seq (.reg [
    ⟨(some 5), none, .val (.mv (.t 0))⟩,
    ⟨(some 6), none, .val (.mv (.t 1))⟩,
    ⟨(some 7), none, .build [(.int .i64 0), (.bool false), (.int .u64 0), .nilSl] [(0, 1, (.t 5)), (2, 1, (.t 6))]⟩,
    ⟨none, none, .store 4 (.t 4) (.t 7)⟩] [4]) .ret)
abbrev k27 : MC :=
  (.seq (.reg [
    ⟨(some 4), none, .zalloc [(.int .i64 0), (.bool false), (.int .u64 0), .nilSl]⟩] [0, 1, 4]) k27_0)
theorem c27 : Try.f27.body.bind (mcOf Try.prog (List.contains [] ·) (List.getD [([], [0, 1, 4]), ([], [4])] · ([], [])) 8) = some k27 := by kernel_rfl
theorem r27 : rvsOf Try.prog Try.f27.results.toList = some [.cell 4 true 4] := by kernel_rfl

/- flange/message.Blob -/
abbrev k28_0 : MC :=
  (.seq (.reg [
    ⟨(some 5), none, .val (.mv (.t 0))⟩,
    ⟨(some 6), none, .val (.mv (.t 1))⟩,
    ⟨(some 7), none, .call 49 [(.t 6)]⟩,
    ⟨(some 8), none, .build [(.int .i64 0), (.bool false), (.int .u64 0), .nilSl] [(0, 1, (.t 5)), (1, 1, (.c (.bool true))), (3, 1, (.t 7))]⟩,
    ⟨none, none, .store 4 (.t 4) (.t 8)⟩] [4]) .ret)
abbrev k28 : MC :=
  (.seq (.reg [
    ⟨(some 4), none, .zalloc [(.int .i64 0), (.bool false), (.int .u64 0), .nilSl]⟩] [0, 1, 4]) k28_0)
theorem c28 : Try.f28.body.bind (mcOf Try.prog (List.contains [] ·) (List.getD [([], [0, 1, 4]), ([], [4])] · ([], [])) 9) = some k28 := by kernel_rfl
theorem r28 : rvsOf Try.prog Try.f28.results.toList = some [.cell 4 true 4] := by kernel_rfl

/- bytes.Clone -/
abbrev k49_0 : MC :=
  .cond (.t 4) ((.seq (.reg [
     ⟨(some 2), none, .val (.mv (.c .nilSl))⟩] [2]) .ret)) (.skip)

abbrev k49_1 : MC :=
  (.seq (.reg [
    ⟨(some 5), none, .bslice 1 0 [] []⟩,
    ⟨(some 6), none, .val (.mv (.t 0))⟩,
    ⟨(some 7), none, .app 1 1 (.t 5) (.t 6)⟩,
    ⟨(some 2), none, .val (.mv (.t 7))⟩] [2]) .ret)

abbrev k49_2 : MC :=
  (.seq ((.seq (.reg [
    ⟨(some 3), none, .val (.mv (.t 0))⟩,
    ⟨(some 4), none, .isnil false (.t 3)⟩] [0, 4]) k49_0)) k49_1)
abbrev k49 : MC :=
  (.seq (.reg [
    ⟨(some 2), none, .val (.mv (.c .nilSl))⟩] [0]) k49_2)
theorem c49 : Try.f49.body.bind (mcOf Try.prog (List.contains [] ·) (List.getD [([], [0]), ([], [0, 4]), ([], [2]), ([], [2])] · ([], [])) 8) = some k49 := by kernel_rfl
theorem r49 : rvsOf Try.prog Try.f49.results.toList = some [.tmp 2] := by kernel_rfl

theorem key_calls {f : Fld} (h : 1 ≤ f.tag ∧ f.tag ≤ 1000) (H : AH) : ACalls Try.prog 65 [.agg (fldC f)] H (fun o H' => o = .ret (.int .u64 (keyN f)) ∧ H' = H) := by
  refine acalls Try.func65 c65 r65 (by simp [Try.ntmps65]) ?_
  repeat' (first | with_reducible refine am_seq ?_ | with_reducible refine am_block ?_ | ((with_reducible apply am_cond); (case hb => rfl); all_goals (intro hc; (try simp only [reduceCtorEq, decide_eq_true_eq, decide_eq_false_iff_not, Bool.or_eq_true, Bool.and_eq_true, Bool.or_eq_false_iff, Bool.not_eq_true', Bool.not_eq_false', beq_iff_eq] at hc); (try (exfalso; omega)))) | ((first | with_reducible refine am_reg ?_ | with_reducible refine am_drw ?_ | with_reducible refine am_skip ?_ | with_reducible refine am_exit ?_ | with_reducible refine am_ret ?_ | with_reducible refine And.intro (by first | exact AH.lec_refl _ | assumption | exact AccP.lec (by assumption) | omega) ?_ | with_reducible refine isnE_of (fun hc => ?_) (fun hc => ?_) (fun hc => ?_) | ((first | with_reducible refine gd_not (fun hc => ?_) (fun hc => ?_) | with_reducible refine gd_of (fun hc => ?_) (fun hc => ?_) | with_reducible refine gq_not (fun hc => ?_) (fun hc => ?_) | with_reducible refine gq_of (fun hc => ?_) (fun hc => ?_) | with_reducible refine pickB_of (fun hc => ?_) (fun hc => ?_)) <;> (try simp -implicitDefEqProofs (disch := omega) only [go_sem, eq_self, decide_true, decide_false, Nat.reduceBEq, Nat.reduceAdd, Nat.reduceSub, Nat.reduceMul, Nat.reduceEqDiff, Nat.reduceLeDiff, Nat.reduceLT, Int.reduceLE, Int.reduceLT, Int.reduceToNat, Int.reduceAdd, Int.reduceEq, Int.reduceNeg, AH.put_ne, hc, wrap_id, u64_id]) <;> (try simp only [reduceCtorEq, decide_eq_true_eq, decide_eq_false_iff_not, Bool.or_eq_true, Bool.and_eq_true, Bool.or_eq_false_iff, Bool.not_eq_true', Bool.not_eq_false', beq_iff_eq] at hc) <;> (try (exfalso; omega))) | ((with_reducible refine alloc_intro (fun ko hko => ?_)) <;> (try have hne := fresh_ne (by assumption) hko) <;> (try simp only [AH.put_none] at hko)) | ((first | (with_reducible refine vapp_accL (by assumption) ?_ (fun v2 H2 hacc hlec => ?_)) | (with_reducible refine vapp_accL (AccP.mono (by assumption) (AccP.le (by assumption))) ?_ (fun v2 H2 hacc hlec => ?_)) | (with_reducible refine vapp_accL (AccP.new (by assumption) (by assumption) _) ?_ (fun v2 H2 hacc hlec => ?_))); · simp only [byteCells_length, List.length_cons, List.length_nil, List.length_map, List.length_append]; omega) | with_reducible refine need_elems (by assumption) ?_ | with_reducible refine vlen_acc (by assumption) ?_ | with_reducible refine need_bytes (by assumption) ?_ | with_reducible refine need_look (by assumption) ?_ | with_reducible refine need_look (look_put (by assumption) (by assumption)) ?_ | with_reducible refine need_look (look_lec (by assumption) (by assumption)) ?_ | with_reducible refine need_look (look_put (AH.put_same _ _ _) (by assumption)) ?_ | with_reducible refine need_look (look_lec (AH.put_same _ _ _) (by assumption)) ?_ | with_reducible refine need_look (look_put (look_put (by assumption) (by assumption)) (by assumption)) ?_ | with_reducible refine need_look (look_lec (look_put (by assumption) (by assumption)) (by assumption)) ?_ | with_reducible refine need_look (look_put (look_lec (by assumption) (by assumption)) (by assumption)) ?_ | with_reducible refine need_look (look_lec (look_lec (by assumption) (by assumption)) (by assumption)) ?_ | with_reducible refine need_look (look_put (look_put (AH.put_same _ _ _) (by assumption)) (by assumption)) ?_ | with_reducible refine need_look (look_lec (look_put (AH.put_same _ _ _) (by assumption)) (by assumption)) ?_ | with_reducible refine need_look (look_put (look_lec (AH.put_same _ _ _) (by assumption)) (by assumption)) ?_ | with_reducible refine need_look (look_lec (look_lec (AH.put_same _ _ _) (by assumption)) (by assumption)) ?_) <;> (try simp -implicitDefEqProofs (disch := omega) only [go_sem, eq_self, decide_true, decide_false, Nat.reduceBEq, Nat.reduceAdd, Nat.reduceSub, Nat.reduceMul, Nat.reduceEqDiff, Nat.reduceLeDiff, Nat.reduceLT, Int.reduceLE, Int.reduceLT, Int.reduceToNat, Int.reduceAdd, Int.reduceEq, Int.reduceNeg, AH.put_ne, wrap_id, u64_id])))
  all_goals (simp only [keyN]; simp_all; try omega)
theorem fright_calls {f : Fld} (H : AH) : ACalls Try.prog 41 [.agg (fldC f)] H (fun o H' => o = .ret (.bool (rightF f)) ∧ H' = H) := by
  refine acalls Try.func41 c41 r41 (by simp [Try.ntmps41]) ?_
  repeat' (first | with_reducible refine am_seq ?_ | with_reducible refine am_block ?_ | ((with_reducible apply am_cond); (case hb => rfl); all_goals (intro hc; (try simp only [reduceCtorEq, decide_eq_true_eq, decide_eq_false_iff_not, Bool.or_eq_true, Bool.and_eq_true, Bool.or_eq_false_iff, Bool.not_eq_true', Bool.not_eq_false', beq_iff_eq] at hc); (try (exfalso; omega)))) | ((first | with_reducible refine am_reg ?_ | with_reducible refine am_drw ?_ | with_reducible refine am_skip ?_ | with_reducible refine am_exit ?_ | with_reducible refine am_ret ?_ | with_reducible refine And.intro (by first | exact AH.lec_refl _ | assumption | exact AccP.lec (by assumption) | omega) ?_ | with_reducible refine isnE_of (fun hc => ?_) (fun hc => ?_) (fun hc => ?_) | ((first | with_reducible refine gd_not (fun hc => ?_) (fun hc => ?_) | with_reducible refine gd_of (fun hc => ?_) (fun hc => ?_) | with_reducible refine gq_not (fun hc => ?_) (fun hc => ?_) | with_reducible refine gq_of (fun hc => ?_) (fun hc => ?_) | with_reducible refine pickB_of (fun hc => ?_) (fun hc => ?_)) <;> (try simp -implicitDefEqProofs (disch := omega) only [go_sem, eq_self, decide_true, decide_false, Nat.reduceBEq, Nat.reduceAdd, Nat.reduceSub, Nat.reduceMul, Nat.reduceEqDiff, Nat.reduceLeDiff, Nat.reduceLT, Int.reduceLE, Int.reduceLT, Int.reduceToNat, Int.reduceAdd, Int.reduceEq, Int.reduceNeg, AH.put_ne, hc]) <;> (try simp only [reduceCtorEq, decide_eq_true_eq, decide_eq_false_iff_not, Bool.or_eq_true, Bool.and_eq_true, Bool.or_eq_false_iff, Bool.not_eq_true', Bool.not_eq_false', beq_iff_eq] at hc) <;> (try (exfalso; omega))) | ((with_reducible refine alloc_intro (fun ko hko => ?_)) <;> (try have hne := fresh_ne (by assumption) hko) <;> (try simp only [AH.put_none] at hko)) | ((first | (with_reducible refine vapp_accL (by assumption) ?_ (fun v2 H2 hacc hlec => ?_)) | (with_reducible refine vapp_accL (AccP.mono (by assumption) (AccP.le (by assumption))) ?_ (fun v2 H2 hacc hlec => ?_)) | (with_reducible refine vapp_accL (AccP.new (by assumption) (by assumption) _) ?_ (fun v2 H2 hacc hlec => ?_))); · simp only [byteCells_length, List.length_cons, List.length_nil, List.length_map, List.length_append]; omega) | with_reducible refine need_elems (by assumption) ?_ | with_reducible refine vlen_acc (by assumption) ?_ | with_reducible refine need_bytes (by assumption) ?_ | with_reducible refine need_look (by assumption) ?_ | with_reducible refine need_look (look_put (by assumption) (by assumption)) ?_ | with_reducible refine need_look (look_lec (by assumption) (by assumption)) ?_ | with_reducible refine need_look (look_put (AH.put_same _ _ _) (by assumption)) ?_ | with_reducible refine need_look (look_lec (AH.put_same _ _ _) (by assumption)) ?_ | with_reducible refine need_look (look_put (look_put (by assumption) (by assumption)) (by assumption)) ?_ | with_reducible refine need_look (look_lec (look_put (by assumption) (by assumption)) (by assumption)) ?_ | with_reducible refine need_look (look_put (look_lec (by assumption) (by assumption)) (by assumption)) ?_ | with_reducible refine need_look (look_lec (look_lec (by assumption) (by assumption)) (by assumption)) ?_ | with_reducible refine need_look (look_put (look_put (AH.put_same _ _ _) (by assumption)) (by assumption)) ?_ | with_reducible refine need_look (look_lec (look_put (AH.put_same _ _ _) (by assumption)) (by assumption)) ?_ | with_reducible refine need_look (look_put (look_lec (AH.put_same _ _ _) (by assumption)) (by assumption)) ?_ | with_reducible refine need_look (look_lec (look_lec (AH.put_same _ _ _) (by assumption)) (by assumption)) ?_) <;> (try simp -implicitDefEqProofs (disch := omega) only [go_sem, eq_self, decide_true, decide_false, Nat.reduceBEq, Nat.reduceAdd, Nat.reduceSub, Nat.reduceMul, Nat.reduceEqDiff, Nat.reduceLeDiff, Nat.reduceLT, Int.reduceLE, Int.reduceLT, Int.reduceToNat, Int.reduceAdd, Int.reduceEq, Int.reduceNeg, AH.put_ne])))
  all_goals (simp_all [rightF]; try omega)
theorem behind_calls {f l : Fld} (H : AH) : ACalls Try.prog 42 [.agg (fldC f), .agg (fldC l)] H (fun o H' => o = .ret (.bool (behindF f l)) ∧ H' = H) := by
  refine acalls Try.func42 c42 r42 (by simp [Try.ntmps42]) ?_
  repeat' (first | with_reducible refine am_seq ?_ | with_reducible refine am_block ?_ | ((with_reducible apply am_cond); (case hb => rfl); all_goals (intro hc; (try simp only [reduceCtorEq, decide_eq_true_eq, decide_eq_false_iff_not, Bool.or_eq_true, Bool.and_eq_true, Bool.or_eq_false_iff, Bool.not_eq_true', Bool.not_eq_false', beq_iff_eq] at hc); (try (exfalso; omega)))) | ((first | with_reducible refine am_reg ?_ | with_reducible refine am_drw ?_ | with_reducible refine am_skip ?_ | with_reducible refine am_exit ?_ | with_reducible refine am_ret ?_ | with_reducible refine And.intro (by first | exact AH.lec_refl _ | assumption | exact AccP.lec (by assumption) | omega) ?_ | with_reducible refine isnE_of (fun hc => ?_) (fun hc => ?_) (fun hc => ?_) | ((first | with_reducible refine gd_not (fun hc => ?_) (fun hc => ?_) | with_reducible refine gd_of (fun hc => ?_) (fun hc => ?_) | with_reducible refine gq_not (fun hc => ?_) (fun hc => ?_) | with_reducible refine gq_of (fun hc => ?_) (fun hc => ?_) | with_reducible refine pickB_of (fun hc => ?_) (fun hc => ?_)) <;> (try simp -implicitDefEqProofs (disch := omega) only [go_sem, eq_self, decide_true, decide_false, Nat.reduceBEq, Nat.reduceAdd, Nat.reduceSub, Nat.reduceMul, Nat.reduceEqDiff, Nat.reduceLeDiff, Nat.reduceLT, Int.reduceLE, Int.reduceLT, Int.reduceToNat, Int.reduceAdd, Int.reduceEq, Int.reduceNeg, AH.put_ne, hc]) <;> (try simp only [reduceCtorEq, decide_eq_true_eq, decide_eq_false_iff_not, Bool.or_eq_true, Bool.and_eq_true, Bool.or_eq_false_iff, Bool.not_eq_true', Bool.not_eq_false', beq_iff_eq] at hc) <;> (try (exfalso; omega))) | ((with_reducible refine alloc_intro (fun ko hko => ?_)) <;> (try have hne := fresh_ne (by assumption) hko) <;> (try simp only [AH.put_none] at hko)) | ((first | (with_reducible refine vapp_accL (by assumption) ?_ (fun v2 H2 hacc hlec => ?_)) | (with_reducible refine vapp_accL (AccP.mono (by assumption) (AccP.le (by assumption))) ?_ (fun v2 H2 hacc hlec => ?_)) | (with_reducible refine vapp_accL (AccP.new (by assumption) (by assumption) _) ?_ (fun v2 H2 hacc hlec => ?_))); · simp only [byteCells_length, List.length_cons, List.length_nil, List.length_map, List.length_append]; omega) | with_reducible refine need_elems (by assumption) ?_ | with_reducible refine vlen_acc (by assumption) ?_ | with_reducible refine need_bytes (by assumption) ?_ | with_reducible refine need_look (by assumption) ?_ | with_reducible refine need_look (look_put (by assumption) (by assumption)) ?_ | with_reducible refine need_look (look_lec (by assumption) (by assumption)) ?_ | with_reducible refine need_look (look_put (AH.put_same _ _ _) (by assumption)) ?_ | with_reducible refine need_look (look_lec (AH.put_same _ _ _) (by assumption)) ?_ | with_reducible refine need_look (look_put (look_put (by assumption) (by assumption)) (by assumption)) ?_ | with_reducible refine need_look (look_lec (look_put (by assumption) (by assumption)) (by assumption)) ?_ | with_reducible refine need_look (look_put (look_lec (by assumption) (by assumption)) (by assumption)) ?_ | with_reducible refine need_look (look_lec (look_lec (by assumption) (by assumption)) (by assumption)) ?_ | with_reducible refine need_look (look_put (look_put (AH.put_same _ _ _) (by assumption)) (by assumption)) ?_ | with_reducible refine need_look (look_lec (look_put (AH.put_same _ _ _) (by assumption)) (by assumption)) ?_ | with_reducible refine need_look (look_put (look_lec (AH.put_same _ _ _) (by assumption)) (by assumption)) ?_ | with_reducible refine need_look (look_lec (look_lec (AH.put_same _ _ _) (by assumption)) (by assumption)) ?_) <;> (try simp -implicitDefEqProofs (disch := omega) only [go_sem, eq_self, decide_true, decide_false, Nat.reduceBEq, Nat.reduceAdd, Nat.reduceSub, Nat.reduceMul, Nat.reduceEqDiff, Nat.reduceLeDiff, Nat.reduceLT, Int.reduceLE, Int.reduceLT, Int.reduceToNat, Int.reduceAdd, Int.reduceEq, Int.reduceNeg, AH.put_ne])))
  all_goals (simp_all [behindF]; try omega)
theorem fits_calls {f l : Fld} (H : AH) : ACalls Try.prog 44 [.agg (fldC f), .agg (fldC l)] H (fun o H' => o = .ret (.bool (fitsF f l)) ∧ H' = H) := by
  refine acalls Try.func44 c44 r44 (by simp [Try.ntmps44]) ?_
  repeat' (first | with_reducible refine am_seq ?_ | with_reducible refine am_block ?_ | ((with_reducible apply am_cond); (case hb => rfl); all_goals (intro hc; (try simp only [reduceCtorEq, decide_eq_true_eq, decide_eq_false_iff_not, Bool.or_eq_true, Bool.and_eq_true, Bool.or_eq_false_iff, Bool.not_eq_true', Bool.not_eq_false', beq_iff_eq] at hc); (try (exfalso; omega)))) | ((first | with_reducible refine am_reg ?_ | with_reducible refine am_drw ?_ | with_reducible refine am_skip ?_ | with_reducible refine am_exit ?_ | with_reducible refine am_ret ?_ | with_reducible refine And.intro (by first | exact AH.lec_refl _ | assumption | exact AccP.lec (by assumption) | omega) ?_ | with_reducible refine isnE_of (fun hc => ?_) (fun hc => ?_) (fun hc => ?_) | ((first | with_reducible refine gd_not (fun hc => ?_) (fun hc => ?_) | with_reducible refine gd_of (fun hc => ?_) (fun hc => ?_) | with_reducible refine gq_not (fun hc => ?_) (fun hc => ?_) | with_reducible refine gq_of (fun hc => ?_) (fun hc => ?_) | with_reducible refine pickB_of (fun hc => ?_) (fun hc => ?_)) <;> (try simp -implicitDefEqProofs (disch := omega) only [go_sem, eq_self, decide_true, decide_false, Nat.reduceBEq, Nat.reduceAdd, Nat.reduceSub, Nat.reduceMul, Nat.reduceEqDiff, Nat.reduceLeDiff, Nat.reduceLT, Int.reduceLE, Int.reduceLT, Int.reduceToNat, Int.reduceAdd, Int.reduceEq, Int.reduceNeg, AH.put_ne, hc]) <;> (try simp only [reduceCtorEq, decide_eq_true_eq, decide_eq_false_iff_not, Bool.or_eq_true, Bool.and_eq_true, Bool.or_eq_false_iff, Bool.not_eq_true', Bool.not_eq_false', beq_iff_eq] at hc) <;> (try (exfalso; omega))) | ((with_reducible refine alloc_intro (fun ko hko => ?_)) <;> (try have hne := fresh_ne (by assumption) hko) <;> (try simp only [AH.put_none] at hko)) | ((first | (with_reducible refine vapp_accL (by assumption) ?_ (fun v2 H2 hacc hlec => ?_)) | (with_reducible refine vapp_accL (AccP.mono (by assumption) (AccP.le (by assumption))) ?_ (fun v2 H2 hacc hlec => ?_)) | (with_reducible refine vapp_accL (AccP.new (by assumption) (by assumption) _) ?_ (fun v2 H2 hacc hlec => ?_))); · simp only [byteCells_length, List.length_cons, List.length_nil, List.length_map, List.length_append]; omega) | with_reducible refine need_elems (by assumption) ?_ | with_reducible refine vlen_acc (by assumption) ?_ | with_reducible refine need_bytes (by assumption) ?_ | with_reducible refine need_look (by assumption) ?_ | with_reducible refine need_look (look_put (by assumption) (by assumption)) ?_ | with_reducible refine need_look (look_lec (by assumption) (by assumption)) ?_ | with_reducible refine need_look (look_put (AH.put_same _ _ _) (by assumption)) ?_ | with_reducible refine need_look (look_lec (AH.put_same _ _ _) (by assumption)) ?_ | with_reducible refine need_look (look_put (look_put (by assumption) (by assumption)) (by assumption)) ?_ | with_reducible refine need_look (look_lec (look_put (by assumption) (by assumption)) (by assumption)) ?_ | with_reducible refine need_look (look_put (look_lec (by assumption) (by assumption)) (by assumption)) ?_ | with_reducible refine need_look (look_lec (look_lec (by assumption) (by assumption)) (by assumption)) ?_ | with_reducible refine need_look (look_put (look_put (AH.put_same _ _ _) (by assumption)) (by assumption)) ?_ | with_reducible refine need_look (look_lec (look_put (AH.put_same _ _ _) (by assumption)) (by assumption)) ?_ | with_reducible refine need_look (look_put (look_lec (AH.put_same _ _ _) (by assumption)) (by assumption)) ?_ | with_reducible refine need_look (look_lec (look_lec (AH.put_same _ _ _) (by assumption)) (by assumption)) ?_) <;> (try simp -implicitDefEqProofs (disch := omega) only [go_sem, eq_self, decide_true, decide_false, Nat.reduceBEq, Nat.reduceAdd, Nat.reduceSub, Nat.reduceMul, Nat.reduceEqDiff, Nat.reduceLeDiff, Nat.reduceLT, Int.reduceLE, Int.reduceLT, Int.reduceToNat, Int.reduceAdd, Int.reduceEq, Int.reduceNeg, AH.put_ne])))
  all_goals first
    | (simp_all [fitsF, rightF, behindF]; done)
    | (simp_all [fitsF, rightF, behindF]; omega)
    | (have e : f.tag = l.tag := by omega
       simp_all [fitsF, rightF, behindF]; done)
    | (simp_all [fitsF, rightF, behindF]; intro e; simp_all; done)
    | skip
theorem fsame_calls {f l : Fld} (H : AH) : ACalls Try.prog 47 [.agg (fldC f), .agg (fldC l)] H (fun o H' => o = .ret (.bool (decide (f = l))) ∧ H' = H) := by
  refine acalls Try.func47 c47 r47 (by simp [Try.ntmps47]) ?_
  repeat' (first | with_reducible refine am_seq ?_ | with_reducible refine am_block ?_ | ((with_reducible apply am_cond); (case hb => rfl); all_goals (intro hc; (try simp only [reduceCtorEq, decide_eq_true_eq, decide_eq_false_iff_not, Bool.or_eq_true, Bool.and_eq_true, Bool.or_eq_false_iff, Bool.not_eq_true', Bool.not_eq_false', beq_iff_eq] at hc); (try (exfalso; omega)))) | ((first | with_reducible refine am_reg ?_ | with_reducible refine am_drw ?_ | with_reducible refine am_skip ?_ | with_reducible refine am_exit ?_ | with_reducible refine am_ret ?_ | with_reducible refine And.intro (by first | exact AH.lec_refl _ | assumption | exact AccP.lec (by assumption) | omega) ?_ | with_reducible refine isnE_of (fun hc => ?_) (fun hc => ?_) (fun hc => ?_) | ((first | with_reducible refine gd_not (fun hc => ?_) (fun hc => ?_) | with_reducible refine gd_of (fun hc => ?_) (fun hc => ?_) | with_reducible refine gq_not (fun hc => ?_) (fun hc => ?_) | with_reducible refine gq_of (fun hc => ?_) (fun hc => ?_) | with_reducible refine pickB_of (fun hc => ?_) (fun hc => ?_)) <;> (try simp -implicitDefEqProofs (disch := omega) only [go_sem, eq_self, decide_true, decide_false, Nat.reduceBEq, Nat.reduceAdd, Nat.reduceSub, Nat.reduceMul, Nat.reduceEqDiff, Nat.reduceLeDiff, Nat.reduceLT, Int.reduceLE, Int.reduceLT, Int.reduceToNat, Int.reduceAdd, Int.reduceEq, Int.reduceNeg, AH.put_ne, hc]) <;> (try simp only [reduceCtorEq, decide_eq_true_eq, decide_eq_false_iff_not, Bool.or_eq_true, Bool.and_eq_true, Bool.or_eq_false_iff, Bool.not_eq_true', Bool.not_eq_false', beq_iff_eq] at hc) <;> (try (exfalso; omega))) | ((with_reducible refine alloc_intro (fun ko hko => ?_)) <;> (try have hne := fresh_ne (by assumption) hko) <;> (try simp only [AH.put_none] at hko)) | ((first | (with_reducible refine vapp_accL (by assumption) ?_ (fun v2 H2 hacc hlec => ?_)) | (with_reducible refine vapp_accL (AccP.mono (by assumption) (AccP.le (by assumption))) ?_ (fun v2 H2 hacc hlec => ?_)) | (with_reducible refine vapp_accL (AccP.new (by assumption) (by assumption) _) ?_ (fun v2 H2 hacc hlec => ?_))); · simp only [byteCells_length, List.length_cons, List.length_nil, List.length_map, List.length_append]; omega) | with_reducible refine need_elems (by assumption) ?_ | with_reducible refine vlen_acc (by assumption) ?_ | with_reducible refine need_bytes (by assumption) ?_ | with_reducible refine need_look (by assumption) ?_ | with_reducible refine need_look (look_put (by assumption) (by assumption)) ?_ | with_reducible refine need_look (look_lec (by assumption) (by assumption)) ?_ | with_reducible refine need_look (look_put (AH.put_same _ _ _) (by assumption)) ?_ | with_reducible refine need_look (look_lec (AH.put_same _ _ _) (by assumption)) ?_ | with_reducible refine need_look (look_put (look_put (by assumption) (by assumption)) (by assumption)) ?_ | with_reducible refine need_look (look_lec (look_put (by assumption) (by assumption)) (by assumption)) ?_ | with_reducible refine need_look (look_put (look_lec (by assumption) (by assumption)) (by assumption)) ?_ | with_reducible refine need_look (look_lec (look_lec (by assumption) (by assumption)) (by assumption)) ?_ | with_reducible refine need_look (look_put (look_put (AH.put_same _ _ _) (by assumption)) (by assumption)) ?_ | with_reducible refine need_look (look_lec (look_put (AH.put_same _ _ _) (by assumption)) (by assumption)) ?_ | with_reducible refine need_look (look_put (look_lec (AH.put_same _ _ _) (by assumption)) (by assumption)) ?_ | with_reducible refine need_look (look_lec (look_lec (AH.put_same _ _ _) (by assumption)) (by assumption)) ?_) <;> (try simp -implicitDefEqProofs (disch := omega) only [go_sem, eq_self, decide_true, decide_false, Nat.reduceBEq, Nat.reduceAdd, Nat.reduceSub, Nat.reduceMul, Nat.reduceEqDiff, Nat.reduceLeDiff, Nat.reduceLT, Int.reduceLE, Int.reduceLT, Int.reduceToNat, Int.reduceAdd, Int.reduceEq, Int.reduceNeg, AH.put_ne])))
  all_goals (obtain ⟨a1, a2, a3, a4⟩ := f; obtain ⟨b1, b2, b3, b4⟩ := l; simp_all; try omega)
theorem num_calls {t : Int} {n : Nat} (H : AH) : ACalls Try.prog 27 [.int .i64 t, .int .u64 n] H (fun o H' => o = .ret (.agg (fldC ⟨t, false, n, []⟩)) ∧ H' = H) := by
  refine ACalls.drop ?_
  refine acalls Try.func27 c27 r27 (by simp [Try.ntmps27]) ?_
  repeat' (first | with_reducible refine am_seq ?_ | with_reducible refine am_block ?_ | ((with_reducible apply am_cond); (case hb => rfl); all_goals (intro hc; (try simp only [reduceCtorEq, decide_eq_true_eq, decide_eq_false_iff_not, Bool.or_eq_true, Bool.and_eq_true, Bool.or_eq_false_iff, Bool.not_eq_true', Bool.not_eq_false', beq_iff_eq] at hc); (try (exfalso; omega)))) | ((first | with_reducible refine am_reg ?_ | with_reducible refine am_drw ?_ | with_reducible refine am_skip ?_ | with_reducible refine am_exit ?_ | with_reducible refine am_ret ?_ | with_reducible refine And.intro (by first | exact AH.lec_refl _ | assumption | exact AccP.lec (by assumption) | omega) ?_ | with_reducible refine isnE_of (fun hc => ?_) (fun hc => ?_) (fun hc => ?_) | ((first | with_reducible refine gd_not (fun hc => ?_) (fun hc => ?_) | with_reducible refine gd_of (fun hc => ?_) (fun hc => ?_) | with_reducible refine gq_not (fun hc => ?_) (fun hc => ?_) | with_reducible refine gq_of (fun hc => ?_) (fun hc => ?_) | with_reducible refine pickB_of (fun hc => ?_) (fun hc => ?_)) <;> (try simp -implicitDefEqProofs (disch := omega) only [go_sem, eq_self, decide_true, decide_false, Nat.reduceBEq, Nat.reduceAdd, Nat.reduceSub, Nat.reduceMul, Nat.reduceEqDiff, Nat.reduceLeDiff, Nat.reduceLT, Int.reduceLE, Int.reduceLT, Int.reduceToNat, Int.reduceAdd, Int.reduceEq, Int.reduceNeg, AH.put_ne, hc]) <;> (try simp only [reduceCtorEq, decide_eq_true_eq, decide_eq_false_iff_not, Bool.or_eq_true, Bool.and_eq_true, Bool.or_eq_false_iff, Bool.not_eq_true', Bool.not_eq_false', beq_iff_eq] at hc) <;> (try (exfalso; omega))) | ((with_reducible refine alloc_intro (fun ko hko => ?_)) <;> (try have hne := fresh_ne (by assumption) hko) <;> (try simp only [AH.put_none] at hko)) | ((first | (with_reducible refine vapp_accL (by assumption) ?_ (fun v2 H2 hacc hlec => ?_)) | (with_reducible refine vapp_accL (AccP.mono (by assumption) (AccP.le (by assumption))) ?_ (fun v2 H2 hacc hlec => ?_)) | (with_reducible refine vapp_accL (AccP.new (by assumption) (by assumption) _) ?_ (fun v2 H2 hacc hlec => ?_))); · simp only [byteCells_length, List.length_cons, List.length_nil, List.length_map, List.length_append]; omega) | with_reducible refine need_elems (by assumption) ?_ | with_reducible refine vlen_acc (by assumption) ?_ | with_reducible refine need_bytes (by assumption) ?_ | with_reducible refine need_look (by assumption) ?_ | with_reducible refine need_look (look_put (by assumption) (by assumption)) ?_ | with_reducible refine need_look (look_lec (by assumption) (by assumption)) ?_ | with_reducible refine need_look (look_put (AH.put_same _ _ _) (by assumption)) ?_ | with_reducible refine need_look (look_lec (AH.put_same _ _ _) (by assumption)) ?_ | with_reducible refine need_look (look_put (look_put (by assumption) (by assumption)) (by assumption)) ?_ | with_reducible refine need_look (look_lec (look_put (by assumption) (by assumption)) (by assumption)) ?_ | with_reducible refine need_look (look_put (look_lec (by assumption) (by assumption)) (by assumption)) ?_ | with_reducible refine need_look (look_lec (look_lec (by assumption) (by assumption)) (by assumption)) ?_ | with_reducible refine need_look (look_put (look_put (AH.put_same _ _ _) (by assumption)) (by assumption)) ?_ | with_reducible refine need_look (look_lec (look_put (AH.put_same _ _ _) (by assumption)) (by assumption)) ?_ | with_reducible refine need_look (look_put (look_lec (AH.put_same _ _ _) (by assumption)) (by assumption)) ?_ | with_reducible refine need_look (look_lec (look_lec (AH.put_same _ _ _) (by assumption)) (by assumption)) ?_) <;> (try simp -implicitDefEqProofs (disch := omega) only [go_sem, eq_self, decide_true, decide_false, Nat.reduceBEq, Nat.reduceAdd, Nat.reduceSub, Nat.reduceMul, Nat.reduceEqDiff, Nat.reduceLeDiff, Nat.reduceLT, Int.reduceLE, Int.reduceLT, Int.reduceToNat, Int.reduceAdd, Int.reduceEq, Int.reduceNeg, AH.put_ne])))
  (refine drop_end (by (first | exact fun _ _ h => h | (intro s x h; first | exact no_sub _ h | exact nil_no _ h | exact AccP.sub (by assumption) _ _ h | (refine agg_sub rfl ?_ x h; repeat (first | exact .nil | refine .cons (fun _ h => h) ?_ | refine .cons (fun _ h => nil_no _ h) ?_ | refine .cons (fun _ h => no_sub _ h) ?_ | refine .cons (fun _ h => AccP.sub (by assumption) _ _ h) ?_)) | (refine tuple_sub ?_ x h; repeat (first | exact .nil | refine .cons (fun _ h => h) ?_ | refine .cons (fun _ h => nil_no _ h) ?_ | refine .cons (fun _ h => no_sub _ h) ?_ | refine .cons (fun _ h => AccP.sub (by assumption) _ _ h) ?_ | refine .cons (fun _ h => agg_sub rfl (by repeat (first | exact .nil | refine .cons (fun _ h => h) ?_ | refine .cons (fun _ h => nil_no _ h) ?_ | refine .cons (fun _ h => no_sub _ h) ?_ | refine .cons (fun _ h => AccP.sub (by assumption) _ _ h) ?_)) _ h) ?_))))) (by (repeat (first | exact AH.le_refl _ | assumption | exact AccP.le (by assumption) | refine AH.le_put ?_ (by first | assumption | exact none_of_le (by assumption) (by assumption)) _ | refine AH.le_trans ?_ (AccP.le (by assumption))))))
theorem clone_calls {l : List UInt8} {t : Tok} (hl : l.length < 100000000) (H : AH) : ACalls Try.prog 49 [.sl 1 (byteCells l) t] H (fun o H' => o = .ret (.sl 1 (byteCells l) .no) ∧ H' = H) := by
  refine ACalls.drop ?_
  refine acalls Try.func49 c49 r49 (by simp [Try.ntmps49]) ?_
  repeat' (first | with_reducible refine am_seq ?_ | with_reducible refine am_block ?_ | ((with_reducible apply am_cond); (case hb => rfl); all_goals (intro hc; (try simp only [reduceCtorEq, decide_eq_true_eq, decide_eq_false_iff_not, Bool.or_eq_true, Bool.and_eq_true, Bool.or_eq_false_iff, Bool.not_eq_true', Bool.not_eq_false', beq_iff_eq] at hc); (try (exfalso; omega)))) | ((first | with_reducible refine am_reg ?_ | with_reducible refine am_drw ?_ | with_reducible refine am_skip ?_ | with_reducible refine am_exit ?_ | with_reducible refine am_ret ?_ | with_reducible refine And.intro (by first | exact AH.lec_refl _ | assumption | exact AccP.lec (by assumption) | omega) ?_ | with_reducible refine isnE_of (fun hc => ?_) (fun hc => ?_) (fun hc => ?_) | ((first | with_reducible refine gd_not (fun hc => ?_) (fun hc => ?_) | with_reducible refine gd_of (fun hc => ?_) (fun hc => ?_) | with_reducible refine gq_not (fun hc => ?_) (fun hc => ?_) | with_reducible refine gq_of (fun hc => ?_) (fun hc => ?_) | with_reducible refine pickB_of (fun hc => ?_) (fun hc => ?_)) <;> (try simp -implicitDefEqProofs (disch := omega) only [go_sem, eq_self, decide_true, decide_false, Nat.reduceBEq, Nat.reduceAdd, Nat.reduceSub, Nat.reduceMul, Nat.reduceEqDiff, Nat.reduceLeDiff, Nat.reduceLT, Int.reduceLE, Int.reduceLT, Int.reduceToNat, Int.reduceAdd, Int.reduceEq, Int.reduceNeg, AH.put_ne, hc, true_and, List.nil_append]) <;> (try simp only [reduceCtorEq, decide_eq_true_eq, decide_eq_false_iff_not, Bool.or_eq_true, Bool.and_eq_true, Bool.or_eq_false_iff, Bool.not_eq_true', Bool.not_eq_false', beq_iff_eq] at hc) <;> (try (exfalso; omega))) | ((with_reducible refine alloc_intro (fun ko hko => ?_)) <;> (try have hne := fresh_ne (by assumption) hko) <;> (try simp only [AH.put_none] at hko)) | ((first | (with_reducible refine vapp_accL (by assumption) ?_ (fun v2 H2 hacc hlec => ?_)) | (with_reducible refine vapp_accL (AccP.mono (by assumption) (AccP.le (by assumption))) ?_ (fun v2 H2 hacc hlec => ?_)) | (with_reducible refine vapp_accL (AccP.new (by assumption) (by assumption) _) ?_ (fun v2 H2 hacc hlec => ?_))); · simp only [byteCells_length, List.length_cons, List.length_nil, List.length_map, List.length_append]; omega) | with_reducible refine need_elems (by assumption) ?_ | with_reducible refine vlen_acc (by assumption) ?_ | with_reducible refine need_bytes (by assumption) ?_ | with_reducible refine need_look (by assumption) ?_ | with_reducible refine need_look (look_put (by assumption) (by assumption)) ?_ | with_reducible refine need_look (look_lec (by assumption) (by assumption)) ?_ | with_reducible refine need_look (look_put (AH.put_same _ _ _) (by assumption)) ?_ | with_reducible refine need_look (look_lec (AH.put_same _ _ _) (by assumption)) ?_ | with_reducible refine need_look (look_put (look_put (by assumption) (by assumption)) (by assumption)) ?_ | with_reducible refine need_look (look_lec (look_put (by assumption) (by assumption)) (by assumption)) ?_ | with_reducible refine need_look (look_put (look_lec (by assumption) (by assumption)) (by assumption)) ?_ | with_reducible refine need_look (look_lec (look_lec (by assumption) (by assumption)) (by assumption)) ?_ | with_reducible refine need_look (look_put (look_put (AH.put_same _ _ _) (by assumption)) (by assumption)) ?_ | with_reducible refine need_look (look_lec (look_put (AH.put_same _ _ _) (by assumption)) (by assumption)) ?_ | with_reducible refine need_look (look_put (look_lec (AH.put_same _ _ _) (by assumption)) (by assumption)) ?_ | with_reducible refine need_look (look_lec (look_lec (AH.put_same _ _ _) (by assumption)) (by assumption)) ?_) <;> (try simp -implicitDefEqProofs (disch := omega) only [go_sem, eq_self, decide_true, decide_false, Nat.reduceBEq, Nat.reduceAdd, Nat.reduceSub, Nat.reduceMul, Nat.reduceEqDiff, Nat.reduceLeDiff, Nat.reduceLT, Int.reduceLE, Int.reduceLT, Int.reduceToNat, Int.reduceAdd, Int.reduceEq, Int.reduceNeg, AH.put_ne, true_and, List.nil_append])))
  · have h : l = [] := by simpa [byteCells] using ‹byteCells l = []›
    subst h
    (refine drop_end (by (first | exact fun _ _ h => h | (intro s x h; first | exact no_sub _ h | exact nil_no _ h | exact AccP.sub (by assumption) _ _ h | (refine agg_sub rfl ?_ x h; repeat (first | exact .nil | refine .cons (fun _ h => h) ?_ | refine .cons (fun _ h => nil_no _ h) ?_ | refine .cons (fun _ h => no_sub _ h) ?_ | refine .cons (fun _ h => AccP.sub (by assumption) _ _ h) ?_)) | (refine tuple_sub ?_ x h; repeat (first | exact .nil | refine .cons (fun _ h => h) ?_ | refine .cons (fun _ h => nil_no _ h) ?_ | refine .cons (fun _ h => no_sub _ h) ?_ | refine .cons (fun _ h => AccP.sub (by assumption) _ _ h) ?_ | refine .cons (fun _ h => agg_sub rfl (by repeat (first | exact .nil | refine .cons (fun _ h => h) ?_ | refine .cons (fun _ h => nil_no _ h) ?_ | refine .cons (fun _ h => no_sub _ h) ?_ | refine .cons (fun _ h => AccP.sub (by assumption) _ _ h) ?_)) _ h) ?_))))) (by (repeat (first | exact AH.le_refl _ | assumption | exact AccP.le (by assumption) | refine AH.le_put ?_ (by first | assumption | exact none_of_le (by assumption) (by assumption)) _ | refine AH.le_trans ?_ (AccP.le (by assumption))))))
  all_goals (refine drop_end (by (first | exact fun _ _ h => h | (intro s x h; first | exact no_sub _ h | exact nil_no _ h | exact AccP.sub (by assumption) _ _ h | (refine agg_sub rfl ?_ x h; repeat (first | exact .nil | refine .cons (fun _ h => h) ?_ | refine .cons (fun _ h => nil_no _ h) ?_ | refine .cons (fun _ h => no_sub _ h) ?_ | refine .cons (fun _ h => AccP.sub (by assumption) _ _ h) ?_)) | (refine tuple_sub ?_ x h; repeat (first | exact .nil | refine .cons (fun _ h => h) ?_ | refine .cons (fun _ h => nil_no _ h) ?_ | refine .cons (fun _ h => no_sub _ h) ?_ | refine .cons (fun _ h => AccP.sub (by assumption) _ _ h) ?_ | refine .cons (fun _ h => agg_sub rfl (by repeat (first | exact .nil | refine .cons (fun _ h => h) ?_ | refine .cons (fun _ h => nil_no _ h) ?_ | refine .cons (fun _ h => no_sub _ h) ?_ | refine .cons (fun _ h => AccP.sub (by assumption) _ _ h) ?_)) _ h) ?_))))) (by (repeat (first | exact AH.le_refl _ | assumption | exact AccP.le (by assumption) | refine AH.le_put ?_ (by first | assumption | exact none_of_le (by assumption) (by assumption)) _ | refine AH.le_trans ?_ (AccP.le (by assumption))))))
theorem blob_calls {t : Int} {l : List UInt8} {k : Tok} (hl : l.length < 100000000) (H : AH) : ACalls Try.prog 28 [.int .i64 t, .sl 1 (byteCells l) k] H (fun o H' => o = .ret (.agg (fldC ⟨t, true, 0, l⟩)) ∧ H' = H) := by
  refine ACalls.drop ?_
  refine acalls Try.func28 c28 r28 (by simp [Try.ntmps28]) ?_
  repeat' (first | with_reducible refine am_seq ?_ | with_reducible refine am_block ?_ | ((with_reducible apply am_cond); (case hb => rfl); all_goals (intro hc; (try simp only [reduceCtorEq, decide_eq_true_eq, decide_eq_false_iff_not, Bool.or_eq_true, Bool.and_eq_true, Bool.or_eq_false_iff, Bool.not_eq_true', Bool.not_eq_false', beq_iff_eq] at hc); (try (exfalso; omega)))) | ((first | with_reducible refine am_reg ?_ | with_reducible refine am_drw ?_ | with_reducible refine am_skip ?_ | with_reducible refine am_exit ?_ | with_reducible refine am_ret ?_ | with_reducible refine And.intro (by first | exact AH.lec_refl _ | assumption | exact AccP.lec (by assumption) | omega) ?_ | with_reducible refine isnE_of (fun hc => ?_) (fun hc => ?_) (fun hc => ?_) | ((first | with_reducible refine gd_not (fun hc => ?_) (fun hc => ?_) | with_reducible refine gd_of (fun hc => ?_) (fun hc => ?_) | with_reducible refine gq_not (fun hc => ?_) (fun hc => ?_) | with_reducible refine gq_of (fun hc => ?_) (fun hc => ?_) | with_reducible refine pickB_of (fun hc => ?_) (fun hc => ?_)) <;> (try simp -implicitDefEqProofs (disch := omega) only [go_sem, eq_self, decide_true, decide_false, Nat.reduceBEq, Nat.reduceAdd, Nat.reduceSub, Nat.reduceMul, Nat.reduceEqDiff, Nat.reduceLeDiff, Nat.reduceLT, Int.reduceLE, Int.reduceLT, Int.reduceToNat, Int.reduceAdd, Int.reduceEq, Int.reduceNeg, AH.put_ne, hc]) <;> (try simp only [reduceCtorEq, decide_eq_true_eq, decide_eq_false_iff_not, Bool.or_eq_true, Bool.and_eq_true, Bool.or_eq_false_iff, Bool.not_eq_true', Bool.not_eq_false', beq_iff_eq] at hc) <;> (try (exfalso; omega))) | ((with_reducible refine alloc_intro (fun ko hko => ?_)) <;> (try have hne := fresh_ne (by assumption) hko) <;> (try simp only [AH.put_none] at hko)) | ((first | (with_reducible refine vapp_accL (by assumption) ?_ (fun v2 H2 hacc hlec => ?_)) | (with_reducible refine vapp_accL (AccP.mono (by assumption) (AccP.le (by assumption))) ?_ (fun v2 H2 hacc hlec => ?_)) | (with_reducible refine vapp_accL (AccP.new (by assumption) (by assumption) _) ?_ (fun v2 H2 hacc hlec => ?_))); · simp only [byteCells_length, List.length_cons, List.length_nil, List.length_map, List.length_append]; omega) | with_reducible refine need_elems (by assumption) ?_ | with_reducible refine vlen_acc (by assumption) ?_ | with_reducible refine need_bytes (by assumption) ?_ | (first | with_reducible refine call_of (clone_calls (by omega)) ?_ | with_reducible refine qcall_of (clone_calls (by omega)) ?_) | with_reducible refine need_look (by assumption) ?_ | with_reducible refine need_look (look_put (by assumption) (by assumption)) ?_ | with_reducible refine need_look (look_lec (by assumption) (by assumption)) ?_ | with_reducible refine need_look (look_put (AH.put_same _ _ _) (by assumption)) ?_ | with_reducible refine need_look (look_lec (AH.put_same _ _ _) (by assumption)) ?_ | with_reducible refine need_look (look_put (look_put (by assumption) (by assumption)) (by assumption)) ?_ | with_reducible refine need_look (look_lec (look_put (by assumption) (by assumption)) (by assumption)) ?_ | with_reducible refine need_look (look_put (look_lec (by assumption) (by assumption)) (by assumption)) ?_ | with_reducible refine need_look (look_lec (look_lec (by assumption) (by assumption)) (by assumption)) ?_ | with_reducible refine need_look (look_put (look_put (AH.put_same _ _ _) (by assumption)) (by assumption)) ?_ | with_reducible refine need_look (look_lec (look_put (AH.put_same _ _ _) (by assumption)) (by assumption)) ?_ | with_reducible refine need_look (look_put (look_lec (AH.put_same _ _ _) (by assumption)) (by assumption)) ?_ | with_reducible refine need_look (look_lec (look_lec (AH.put_same _ _ _) (by assumption)) (by assumption)) ?_) <;> (try simp -implicitDefEqProofs (disch := omega) only [go_sem, eq_self, decide_true, decide_false, Nat.reduceBEq, Nat.reduceAdd, Nat.reduceSub, Nat.reduceMul, Nat.reduceEqDiff, Nat.reduceLeDiff, Nat.reduceLT, Int.reduceLE, Int.reduceLT, Int.reduceToNat, Int.reduceAdd, Int.reduceEq, Int.reduceNeg, AH.put_ne])))
  (refine drop_end (by (first | exact fun _ _ h => h | (intro s x h; first | exact no_sub _ h | exact nil_no _ h | exact AccP.sub (by assumption) _ _ h | (refine agg_sub rfl ?_ x h; repeat (first | exact .nil | refine .cons (fun _ h => h) ?_ | refine .cons (fun _ h => nil_no _ h) ?_ | refine .cons (fun _ h => no_sub _ h) ?_ | refine .cons (fun _ h => AccP.sub (by assumption) _ _ h) ?_)) | (refine tuple_sub ?_ x h; repeat (first | exact .nil | refine .cons (fun _ h => h) ?_ | refine .cons (fun _ h => nil_no _ h) ?_ | refine .cons (fun _ h => no_sub _ h) ?_ | refine .cons (fun _ h => AccP.sub (by assumption) _ _ h) ?_ | refine .cons (fun _ h => agg_sub rfl (by repeat (first | exact .nil | refine .cons (fun _ h => h) ?_ | refine .cons (fun _ h => nil_no _ h) ?_ | refine .cons (fun _ h => no_sub _ h) ?_ | refine .cons (fun _ h => AccP.sub (by assumption) _ _ h) ?_)) _ h) ?_))))) (by (repeat (first | exact AH.le_refl _ | assumption | exact AccP.le (by assumption) | refine AH.le_put ?_ (by first | assumption | exact none_of_le (by assumption) (by assumption)) _ | refine AH.le_trans ?_ (AccP.le (by assumption))))))
theorem lay_calls {H0 H : AH} {v : V} {l : List UInt8} {f : Fld} (hacc : AccP H0 1 (byteCells l) v H) (hl : l.length < 50000000) (hf : f.n < 18446744073709551616 ∧ f.b.length < 10000000) (h : 1 ≤ f.tag ∧ f.tag ≤ 1000) :
    ACalls Try.prog 43 [.agg (fldC f), v] H (fun o H' => ∃ v', o = .ret v' ∧ AccP H0 1 (byteCells (l ++ layF f)) v' H' ∧ H.lec H') := by
  refine acalls Try.func43 c43 r43 (by simp [Try.ntmps43]) ?_
  have hk : keyN f < 18446744073709551616 := by simp only [keyN]; cases f.by_ <;> simp <;> omega
  have h1 := vb_len10 hk
  have h2 := vb_len10 (show f.b.length < 18446744073709551616 by omega)
  repeat' (first | with_reducible refine am_seq ?_ | with_reducible refine am_block ?_ | ((with_reducible apply am_cond); (case hb => rfl); all_goals (intro hc; (try simp only [reduceCtorEq, decide_eq_true_eq, decide_eq_false_iff_not, Bool.or_eq_true, Bool.and_eq_true, Bool.or_eq_false_iff, Bool.not_eq_true', Bool.not_eq_false', beq_iff_eq] at hc); (try (exfalso; omega)))) | ((first | with_reducible refine am_reg ?_ | with_reducible refine am_drw ?_ | with_reducible refine am_skip ?_ | with_reducible refine am_exit ?_ | with_reducible refine am_ret ?_ | with_reducible refine And.intro (by first | exact AH.lec_refl _ | assumption | exact AccP.lec (by assumption) | omega) ?_ | with_reducible refine isnE_of (fun hc => ?_) (fun hc => ?_) (fun hc => ?_) | ((first | with_reducible refine gd_not (fun hc => ?_) (fun hc => ?_) | with_reducible refine gd_of (fun hc => ?_) (fun hc => ?_) | with_reducible refine gq_not (fun hc => ?_) (fun hc => ?_) | with_reducible refine gq_of (fun hc => ?_) (fun hc => ?_) | with_reducible refine pickB_of (fun hc => ?_) (fun hc => ?_)) <;> (try simp -implicitDefEqProofs (disch := omega) only [go_sem, eq_self, decide_true, decide_false, Nat.reduceBEq, Nat.reduceAdd, Nat.reduceSub, Nat.reduceMul, Nat.reduceEqDiff, Nat.reduceLeDiff, Nat.reduceLT, Int.reduceLE, Int.reduceLT, Int.reduceToNat, Int.reduceAdd, Int.reduceEq, Int.reduceNeg, AH.put_ne, hc, u64_id]) <;> (try simp only [reduceCtorEq, decide_eq_true_eq, decide_eq_false_iff_not, Bool.or_eq_true, Bool.and_eq_true, Bool.or_eq_false_iff, Bool.not_eq_true', Bool.not_eq_false', beq_iff_eq] at hc) <;> (try (exfalso; omega))) | ((with_reducible refine alloc_intro (fun ko hko => ?_)) <;> (try have hne := fresh_ne (by assumption) hko) <;> (try simp only [AH.put_none] at hko)) | ((first | (with_reducible refine vapp_accL (by assumption) ?_ (fun v2 H2 hacc hlec => ?_)) | (with_reducible refine vapp_accL (AccP.mono (by assumption) (AccP.le (by assumption))) ?_ (fun v2 H2 hacc hlec => ?_)) | (with_reducible refine vapp_accL (AccP.new (by assumption) (by assumption) _) ?_ (fun v2 H2 hacc hlec => ?_))); · simp only [byteCells_length, List.length_cons, List.length_nil, List.length_map, List.length_append]; omega) | with_reducible refine need_elems (by assumption) ?_ | with_reducible refine vlen_acc (by assumption) ?_ | with_reducible refine need_bytes (by assumption) ?_ | (first | with_reducible refine call_of (key_calls h) ?_ | with_reducible refine qcall_of (key_calls h) ?_) | ((with_reducible refine call_ex (vappend_calls (by assumption) (by first | omega | (simp only [List.length_append]; omega)) (by omega)) (fun v H2 hr => ?_)); obtain ⟨hacc, hlec⟩ := hr) | with_reducible refine need_look (by assumption) ?_ | with_reducible refine need_look (look_put (by assumption) (by assumption)) ?_ | with_reducible refine need_look (look_lec (by assumption) (by assumption)) ?_ | with_reducible refine need_look (look_put (AH.put_same _ _ _) (by assumption)) ?_ | with_reducible refine need_look (look_lec (AH.put_same _ _ _) (by assumption)) ?_ | with_reducible refine need_look (look_put (look_put (by assumption) (by assumption)) (by assumption)) ?_ | with_reducible refine need_look (look_lec (look_put (by assumption) (by assumption)) (by assumption)) ?_ | with_reducible refine need_look (look_put (look_lec (by assumption) (by assumption)) (by assumption)) ?_ | with_reducible refine need_look (look_lec (look_lec (by assumption) (by assumption)) (by assumption)) ?_ | with_reducible refine need_look (look_put (look_put (AH.put_same _ _ _) (by assumption)) (by assumption)) ?_ | with_reducible refine need_look (look_lec (look_put (AH.put_same _ _ _) (by assumption)) (by assumption)) ?_ | with_reducible refine need_look (look_put (look_lec (AH.put_same _ _ _) (by assumption)) (by assumption)) ?_ | with_reducible refine need_look (look_lec (look_lec (AH.put_same _ _ _) (by assumption)) (by assumption)) ?_) <;> (try simp -implicitDefEqProofs (disch := omega) only [go_sem, eq_self, decide_true, decide_false, Nat.reduceBEq, Nat.reduceAdd, Nat.reduceSub, Nat.reduceMul, Nat.reduceEqDiff, Nat.reduceLeDiff, Nat.reduceLT, Int.reduceLE, Int.reduceLT, Int.reduceToNat, Int.reduceAdd, Int.reduceEq, Int.reduceNeg, AH.put_ne, u64_id])))
  · refine ⟨_, rfl, ?_, by (repeat (first | assumption | exact AH.lec_refl _ | refine AH.lec_trans ?_ (by assumption)))⟩
    simpa [layF, hc] using hacc
  · refine ⟨_, rfl, ?_, by (repeat (first | assumption | exact AH.lec_refl _ | refine AH.lec_trans ?_ (by assumption)))⟩
    simpa [layF, hc, byteCells_append] using hacc
theorem rlay_calls {f : Fld} (hf : f.n < 18446744073709551616 ∧ f.b.length < 10000000) (h : 1 ≤ f.tag ∧ f.tag ≤ 1000) (H : AH) :
    ACalls Try.prog 45 [.agg (fldC f)] H (fun o H' => o = .ret (.sl 1 (byteCells (layF f)) .no) ∧ H' = H) := by
  refine acc_pure ?_
  refine acalls Try.func45 c45 r45 (by simp [Try.ntmps45]) ?_
  have hk : keyN f < 18446744073709551616 := by simp only [keyN]; cases f.by_ <;> simp <;> omega
  have h1 := vb_len10 hk
  have h2 := vb_len10 (show f.b.length < 18446744073709551616 by omega)
  have h3 := vb_len10 hf.1
  have e1 : f.by_ = false → f.tag * 2 = ((keyN f : Nat) : Int) := by intro h; simp [keyN, h]; omega
  have e2 : f.by_ = true → f.tag * 2 + 1 = ((keyN f : Nat) : Int) := by intro h; simp [keyN, h]; omega
  cases hby : f.by_
  · repeat' (first | with_reducible refine am_seq ?_ | with_reducible refine am_block ?_ | ((with_reducible apply am_cond); (case hb => rfl); all_goals (intro hc; (try simp only [reduceCtorEq, decide_eq_true_eq, decide_eq_false_iff_not, Bool.or_eq_true, Bool.and_eq_true, Bool.or_eq_false_iff, Bool.not_eq_true', Bool.not_eq_false', beq_iff_eq] at hc); (try (exfalso; omega)))) | ((first | with_reducible refine am_reg ?_ | with_reducible refine am_drw ?_ | with_reducible refine am_skip ?_ | with_reducible refine am_exit ?_ | with_reducible refine am_ret ?_ | with_reducible refine And.intro (by first | exact AH.lec_refl _ | assumption | exact AccP.lec (by assumption) | omega) ?_ | with_reducible refine isnE_of (fun hc => ?_) (fun hc => ?_) (fun hc => ?_) | ((first | with_reducible refine gd_not (fun hc => ?_) (fun hc => ?_) | with_reducible refine gd_of (fun hc => ?_) (fun hc => ?_) | with_reducible refine gq_not (fun hc => ?_) (fun hc => ?_) | with_reducible refine gq_of (fun hc => ?_) (fun hc => ?_) | with_reducible refine pickB_of (fun hc => ?_) (fun hc => ?_)) <;> (try simp -implicitDefEqProofs (disch := omega) only [go_sem, eq_self, decide_true, decide_false, Nat.reduceBEq, Nat.reduceAdd, Nat.reduceSub, Nat.reduceMul, Nat.reduceEqDiff, Nat.reduceLeDiff, Nat.reduceLT, Int.reduceLE, Int.reduceLT, Int.reduceToNat, Int.reduceAdd, Int.reduceEq, Int.reduceNeg, AH.put_ne, hc, u64_id, hby, e1 hby]) <;> (try simp only [reduceCtorEq, decide_eq_true_eq, decide_eq_false_iff_not, Bool.or_eq_true, Bool.and_eq_true, Bool.or_eq_false_iff, Bool.not_eq_true', Bool.not_eq_false', beq_iff_eq] at hc) <;> (try (exfalso; omega))) | ((with_reducible refine alloc_intro (fun ko hko => ?_)) <;> (try have hne := fresh_ne (by assumption) hko) <;> (try simp only [AH.put_none] at hko)) | ((first | (with_reducible refine vapp_accL (by assumption) ?_ (fun v2 H2 hacc hlec => ?_)) | (with_reducible refine vapp_accL (AccP.mono (by assumption) (AccP.le (by assumption))) ?_ (fun v2 H2 hacc hlec => ?_)) | (with_reducible refine vapp_accL (AccP.new (by assumption) (by assumption) _) ?_ (fun v2 H2 hacc hlec => ?_))); · simp only [byteCells_length, List.length_cons, List.length_nil, List.length_map, List.length_append]; omega) | with_reducible refine need_elems (by assumption) ?_ | with_reducible refine vlen_acc (by assumption) ?_ | with_reducible refine need_bytes (by assumption) ?_ | with_reducible refine call_ex (rbytes_calls (by omega)) (fun v H2 hr => ?_) | with_reducible refine need_look (by assumption) ?_ | with_reducible refine need_look (look_put (by assumption) (by assumption)) ?_ | with_reducible refine need_look (look_lec (by assumption) (by assumption)) ?_ | with_reducible refine need_look (look_put (AH.put_same _ _ _) (by assumption)) ?_ | with_reducible refine need_look (look_lec (AH.put_same _ _ _) (by assumption)) ?_ | with_reducible refine need_look (look_put (look_put (by assumption) (by assumption)) (by assumption)) ?_ | with_reducible refine need_look (look_lec (look_put (by assumption) (by assumption)) (by assumption)) ?_ | with_reducible refine need_look (look_put (look_lec (by assumption) (by assumption)) (by assumption)) ?_ | with_reducible refine need_look (look_lec (look_lec (by assumption) (by assumption)) (by assumption)) ?_ | with_reducible refine need_look (look_put (look_put (AH.put_same _ _ _) (by assumption)) (by assumption)) ?_ | with_reducible refine need_look (look_lec (look_put (AH.put_same _ _ _) (by assumption)) (by assumption)) ?_ | with_reducible refine need_look (look_put (look_lec (AH.put_same _ _ _) (by assumption)) (by assumption)) ?_ | with_reducible refine need_look (look_lec (look_lec (AH.put_same _ _ _) (by assumption)) (by assumption)) ?_) <;> (try simp -implicitDefEqProofs (disch := omega) only [go_sem, eq_self, decide_true, decide_false, Nat.reduceBEq, Nat.reduceAdd, Nat.reduceSub, Nat.reduceMul, Nat.reduceEqDiff, Nat.reduceLeDiff, Nat.reduceLT, Int.reduceLE, Int.reduceLT, Int.reduceToNat, Int.reduceAdd, Int.reduceEq, Int.reduceNeg, AH.put_ne, u64_id, hby, e1 hby])))
    refine ⟨_, rfl, ?_⟩
    simpa [layF, hby, byteCells_append] using hacc
  · repeat' (first | with_reducible refine am_seq ?_ | with_reducible refine am_block ?_ | ((with_reducible apply am_cond); (case hb => rfl); all_goals (intro hc; (try simp only [reduceCtorEq, decide_eq_true_eq, decide_eq_false_iff_not, Bool.or_eq_true, Bool.and_eq_true, Bool.or_eq_false_iff, Bool.not_eq_true', Bool.not_eq_false', beq_iff_eq] at hc); (try (exfalso; omega)))) | ((first | with_reducible refine am_reg ?_ | with_reducible refine am_drw ?_ | with_reducible refine am_skip ?_ | with_reducible refine am_exit ?_ | with_reducible refine am_ret ?_ | with_reducible refine And.intro (by first | exact AH.lec_refl _ | assumption | exact AccP.lec (by assumption) | omega) ?_ | with_reducible refine isnE_of (fun hc => ?_) (fun hc => ?_) (fun hc => ?_) | ((first | with_reducible refine gd_not (fun hc => ?_) (fun hc => ?_) | with_reducible refine gd_of (fun hc => ?_) (fun hc => ?_) | with_reducible refine gq_not (fun hc => ?_) (fun hc => ?_) | with_reducible refine gq_of (fun hc => ?_) (fun hc => ?_) | with_reducible refine pickB_of (fun hc => ?_) (fun hc => ?_)) <;> (try simp -implicitDefEqProofs (disch := omega) only [go_sem, eq_self, decide_true, decide_false, Nat.reduceBEq, Nat.reduceAdd, Nat.reduceSub, Nat.reduceMul, Nat.reduceEqDiff, Nat.reduceLeDiff, Nat.reduceLT, Int.reduceLE, Int.reduceLT, Int.reduceToNat, Int.reduceAdd, Int.reduceEq, Int.reduceNeg, AH.put_ne, hc, u64_id, hby, e2 hby]) <;> (try simp only [reduceCtorEq, decide_eq_true_eq, decide_eq_false_iff_not, Bool.or_eq_true, Bool.and_eq_true, Bool.or_eq_false_iff, Bool.not_eq_true', Bool.not_eq_false', beq_iff_eq] at hc) <;> (try (exfalso; omega))) | ((with_reducible refine alloc_intro (fun ko hko => ?_)) <;> (try have hne := fresh_ne (by assumption) hko) <;> (try simp only [AH.put_none] at hko)) | ((first | (with_reducible refine vapp_accL (by assumption) ?_ (fun v2 H2 hacc hlec => ?_)) | (with_reducible refine vapp_accL (AccP.mono (by assumption) (AccP.le (by assumption))) ?_ (fun v2 H2 hacc hlec => ?_)) | (with_reducible refine vapp_accL (AccP.new (by assumption) (by assumption) _) ?_ (fun v2 H2 hacc hlec => ?_))); · simp only [byteCells_length, List.length_cons, List.length_nil, List.length_map, List.length_append]; omega) | with_reducible refine need_elems (by assumption) ?_ | with_reducible refine vlen_acc (by assumption) ?_ | with_reducible refine need_bytes (by assumption) ?_ | with_reducible refine call_ex (rbytes_calls (by omega)) (fun v H2 hr => ?_) | with_reducible refine need_look (by assumption) ?_ | with_reducible refine need_look (look_put (by assumption) (by assumption)) ?_ | with_reducible refine need_look (look_lec (by assumption) (by assumption)) ?_ | with_reducible refine need_look (look_put (AH.put_same _ _ _) (by assumption)) ?_ | with_reducible refine need_look (look_lec (AH.put_same _ _ _) (by assumption)) ?_ | with_reducible refine need_look (look_put (look_put (by assumption) (by assumption)) (by assumption)) ?_ | with_reducible refine need_look (look_lec (look_put (by assumption) (by assumption)) (by assumption)) ?_ | with_reducible refine need_look (look_put (look_lec (by assumption) (by assumption)) (by assumption)) ?_ | with_reducible refine need_look (look_lec (look_lec (by assumption) (by assumption)) (by assumption)) ?_ | with_reducible refine need_look (look_put (look_put (AH.put_same _ _ _) (by assumption)) (by assumption)) ?_ | with_reducible refine need_look (look_lec (look_put (AH.put_same _ _ _) (by assumption)) (by assumption)) ?_ | with_reducible refine need_look (look_put (look_lec (AH.put_same _ _ _) (by assumption)) (by assumption)) ?_ | with_reducible refine need_look (look_lec (look_lec (AH.put_same _ _ _) (by assumption)) (by assumption)) ?_) <;> (try simp -implicitDefEqProofs (disch := omega) only [go_sem, eq_self, decide_true, decide_false, Nat.reduceBEq, Nat.reduceAdd, Nat.reduceSub, Nat.reduceMul, Nat.reduceEqDiff, Nat.reduceLeDiff, Nat.reduceLT, Int.reduceLE, Int.reduceLT, Int.reduceToNat, Int.reduceAdd, Int.reduceEq, Int.reduceNeg, AH.put_ne, u64_id, hby, e2 hby])))
    refine ⟨_, rfl, ?_⟩
    simpa [layF, hby, byteCells_append] using hacc
end Go.Proofs.Ytmomncmddejcoaa
