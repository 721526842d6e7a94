/- Of the walks of this seat: contracts of functions of the given program, proved over the abstract values of the texts Vm. Conditions: as each theorem says. -/
import Derived.Test.YtcfeafpjkcmdiaaGreatDoorPE1
set_option linter.unusedVariables false
set_option linter.unusedSimpArgs false
namespace Go.Proofs.YtcfeafpjkcmdiaaGreatDoor
open Go.Vm
/- flange/backoff.New -/
abbrev k78_0 : MC :=
  .cond (.t 6) ((.seq (.reg [
     ⟨(some 2), none, .val (.mv (.c .nilPtr))⟩,
     ⟨(some 3), none, .val (.mv (.c (.int .i64 1)))⟩] [2, 3]) (.ret))) (.skip)

abbrev k78_1 : MC :=
  (.seq (.reg [
    ⟨(some 7), none, .val (.load true 4 (.t 1))⟩,
    ⟨(some 8), none, .build [(.int .i64 0), (.int .i64 0), (.int .i64 0), (.int .i64 0), (.int .i64 0), (.int .i64 0), (.bool false)] [(0, 4, (.t 7))]⟩,
    ⟨(some 9), none, .box (.t 8)⟩,
    ⟨(some 2), none, .val (.mv (.t 9))⟩,
    ⟨(some 3), none, .val (.mv (.c (.int .i64 0)))⟩] [2, 3]) (.ret))

abbrev k78_2 : MC :=
  (.seq ((.seq (.reg [
    ⟨(some 4), none, .val (.load true 4 (.t 1))⟩,
    ⟨(some 5), none, .call 108 [(.t 4)]⟩,
    ⟨(some 6), none, .val (.not (.t 5))⟩] [1, 6]) k78_0)) k78_1)
abbrev k78 : MC :=
  (.seq (.reg [
    ⟨(some 1), none, .boxi (.t 0)⟩,
    ⟨(some 2), none, .val (.mv (.c .nilPtr))⟩,
    ⟨(some 3), none, .val (.mv (.c (.int .i64 0)))⟩] [1]) k78_2)
theorem c78 : Tryz.f78.body.bind (mcOf Tryz.prog (List.contains [1] ·) (List.getD [([], [1]), ([], [1, 6]), ([], [2, 3]), ([], [2, 3])] · ([], [])) 10) = some k78 := by kernel_rfl
theorem r78 : rvsOf Tryz.prog Tryz.f78.results.toList = some [.tmp 2, .tmp 3] := by kernel_rfl

/- (*flange/backoff.State).Fail -/
abbrev k109_0 : MC :=
  .cond (.t 13) ((.seq (.reg [
     ⟨(some 4), none, .val (.mv (.c (.int .i64 0)))⟩,
     ⟨(some 5), none, .val (.mv (.c (.bool false)))⟩] [4, 5]) (.ret))) (.skip)

abbrev k109_1 : MC :=
  .cond (.t 26) (.reg [
     ⟨(some 27), none, .val (.mv (.t 0))⟩,
     ⟨(some 28), none, .val (.nilc (.t 27))⟩,
     ⟨(some 29), none, .val (.faddr 5 (.t 28))⟩,
     ⟨none, none, .store 1 (.t 29) (.c (.int .i64 0))⟩] [0]) (.skip)

abbrev k109_2 : MC :=
  (.seq (.reg [
    ⟨(some 4), none, .val (.mv (.c (.int .i64 0)))⟩,
    ⟨(some 5), none, .val (.mv (.c (.bool false)))⟩] [4, 5]) (.ret))

abbrev k109_3 : MC :=
  .cond (.t 46) ((.seq (.reg [
     ⟨(some 47), none, .val (.mv (.t 0))⟩,
     ⟨(some 48), none, .val (.nilc (.t 47))⟩,
     ⟨(some 49), none, .val (.faddr 6 (.t 48))⟩,
     ⟨none, none, .store 1 (.t 49) (.c (.bool true))⟩] []) k109_2)) (.skip)

abbrev k109_4 : MC :=
  (.seq (.drw [
    ⟨(some 50), none, .val (.mv (.t 0))⟩,
    ⟨(some 51), none, .val (.nilc (.t 50))⟩,
    ⟨(some 52), none, .val (.faddr 0 (.t 51))⟩,
    ⟨(some 53), none, .val (.load true 4 (.t 52))⟩,
    ⟨(some 54), none, .val (.mv (.t 0))⟩,
    ⟨(some 55), none, .val (.nilc (.t 54))⟩,
    ⟨(some 56), none, .val (.faddr 5 (.t 55))⟩,
    ⟨(some 57), none, .val (.load false 1 (.t 56))⟩,
    ⟨(some 58), none, .call 139 [(.t 53), (.t 57)]⟩,
    ⟨(some 4), none, .val (.mv (.t 58))⟩,
    ⟨(some 5), none, .val (.mv (.c (.bool true)))⟩] [
] [4, 5]) (.ret))

abbrev k109_5 : MC :=
  (.seq ((.seq (.drw [
    ⟨(some 37), none, .val (.mv (.t 0))⟩,
    ⟨(some 38), none, .val (.nilc (.t 37))⟩,
    ⟨(some 39), none, .val (.faddr 5 (.t 38))⟩,
    ⟨(some 40), none, .val (.load false 1 (.t 39))⟩,
    ⟨(some 41), none, .val (.mv (.t 0))⟩,
    ⟨(some 42), none, .val (.nilc (.t 41))⟩,
    ⟨(some 43), none, .val (.faddr 0 (.t 42))⟩,
    ⟨(some 44), none, .val (.faddr 2 (.t 43))⟩,
    ⟨(some 45), none, .val (.load false 1 (.t 44))⟩,
    ⟨(some 46), none, .val (.bin .geq .num (.t 40) (.t 45))⟩] [
] [0, 46]) k109_3)) k109_4)

abbrev k109_6 : MC :=
  (.seq (.reg [
    ⟨(some 30), none, .val (.mv (.t 0))⟩,
    ⟨(some 31), none, .val (.nilc (.t 30))⟩,
    ⟨(some 32), none, .val (.faddr 5 (.t 31))⟩,
    ⟨(some 33), none, .val (.load false 1 (.t 32))⟩,
    ⟨(some 34), none, .val (.bin .add .num (.t 33) (.c (.int .i64 1)))⟩,
    ⟨(some 35), none, .val (.nilc (.t 30))⟩,
    ⟨(some 36), none, .val (.faddr 5 (.t 35))⟩,
    ⟨none, none, .store 1 (.t 36) (.t 34)⟩] [0]) k109_5)

abbrev k109_7 : MC :=
  (.seq ((.seq (.drw [
    ⟨(some 14), none, .val (.mv (.t 1))⟩,
    ⟨(some 15), none, .call 43 [(.t 14)]⟩,
    ⟨(some 16), none, .val (.mv (.t 0))⟩,
    ⟨(some 17), none, .val (.nilc (.t 16))⟩,
    ⟨(some 18), none, .val (.faddr 4 (.t 17))⟩,
    ⟨(some 19), none, .val (.load false 1 (.t 18))⟩,
    ⟨(some 20), none, .val (.bin .sub .num (.t 15) (.t 19))⟩,
    ⟨(some 21), none, .val (.mv (.t 0))⟩,
    ⟨(some 22), none, .val (.nilc (.t 21))⟩,
    ⟨(some 23), none, .val (.faddr 0 (.t 22))⟩,
    ⟨(some 24), none, .val (.faddr 3 (.t 23))⟩,
    ⟨(some 25), none, .val (.load false 1 (.t 24))⟩,
    ⟨(some 26), none, .val (.bin .gtr .num (.t 20) (.t 25))⟩] [
] [0, 26]) k109_1)) k109_6)

abbrev k109_8 : MC :=
  (.seq ((.seq (.reg [
    ⟨(some 6), none, .val (.mv (.t 0))⟩,
    ⟨(some 7), none, .val (.bin .eql .ptr (.t 6) (.c .nilPtr))⟩,
    ⟨(some 8), none, .val (.mv (.t 7))⟩,
    ⟨(some 9), (some (8, false)), .val (.mv (.t 0))⟩,
    ⟨(some 10), (some (8, false)), .val (.nilc (.t 9))⟩,
    ⟨(some 11), (some (8, false)), .val (.faddr 6 (.t 10))⟩,
    ⟨(some 12), (some (8, false)), .val (.load false 1 (.t 11))⟩,
    ⟨(some 13), none, .val (.pick (.t 8) (.c (.bool true)) (.t 12))⟩] [0, 1, 13]) k109_0)) k109_7)
abbrev k109 : MC :=
  (.seq (.reg [
    ⟨(some 4), none, .val (.mv (.c (.int .i64 0)))⟩,
    ⟨(some 5), none, .val (.mv (.c (.bool false)))⟩] [0, 1]) k109_8)
theorem c109 : Tryz.f109.body.bind (mcOf Tryz.prog (List.contains [] ·) (List.getD [([], [0, 1]), ([], [0, 1, 13]), ([], [4, 5]), ([0, 0, 0, 0, 0, 0, 0, 0, 0, 0, 0, 0, 0], [0, 26]), ([], [0]), ([], [0]), ([0, 0, 0, 0, 0, 0, 0, 0, 0, 0], [0, 46]), ([], []), ([], [4, 5]), ([0, 0, 0, 0, 0, 0, 0, 0, 0, 0, 0], [4, 5])] · ([], [])) 59) = some k109 := by kernel_rfl
theorem r109 : rvsOf Tryz.prog Tryz.f109.results.toList = some [.tmp 4, .tmp 5] := by kernel_rfl

/- (*flange/backoff.State).Count -/
abbrev k54_0 : MC :=
  .cond (.t 4) ((.seq (.reg [
     ⟨(some 2), none, .val (.mv (.c (.int .i64 0)))⟩] [2]) (.ret))) (.skip)

abbrev k54_1 : MC :=
  (.seq (.reg [
    ⟨(some 5), none, .val (.mv (.t 0))⟩,
    ⟨(some 6), none, .val (.nilc (.t 5))⟩,
    ⟨(some 7), none, .val (.faddr 5 (.t 6))⟩,
    ⟨(some 8), none, .val (.load false 1 (.t 7))⟩,
    ⟨(some 2), none, .val (.mv (.t 8))⟩] [2]) (.ret))

abbrev k54_2 : MC :=
  (.seq ((.seq (.reg [
    ⟨(some 3), none, .val (.mv (.t 0))⟩,
    ⟨(some 4), none, .val (.bin .eql .ptr (.t 3) (.c .nilPtr))⟩] [0, 4]) k54_0)) k54_1)
abbrev k54 : MC :=
  (.seq (.reg [
    ⟨(some 2), none, .val (.mv (.c (.int .i64 0)))⟩] [0]) k54_2)
theorem c54 : Tryz.f54.body.bind (mcOf Tryz.prog (List.contains [] ·) (List.getD [([], [0]), ([], [0, 4]), ([], [2]), ([], [2])] · ([], [])) 9) = some k54 := by kernel_rfl
theorem r54 : rvsOf Tryz.prog Tryz.f54.results.toList = some [.tmp 2] := by kernel_rfl

/- (*flange/backoff.State).Reset -/
abbrev k53_0 : MC :=
  .cond (.t 5) ((.seq (.reg [
     ⟨(some 2), none, .val (.mv (.c (.bool false)))⟩] [2]) (.ret))) (.skip)

abbrev k53_1 : MC :=
  (.seq (.reg [
    ⟨(some 17), none, .val (.mv (.t 3))⟩,
    ⟨(some 2), none, .val (.mv (.t 17))⟩] [2]) (.ret))

abbrev k53_2 : MC :=
  (.seq (.reg [
    ⟨(some 11), none, .val (.mv (.t 0))⟩,
    ⟨(some 12), none, .val (.mv (.t 0))⟩,
    ⟨(some 13), none, .val (.nilc (.t 11))⟩,
    ⟨(some 14), none, .val (.faddr 5 (.t 13))⟩,
    ⟨none, none, .store 1 (.t 14) (.c (.int .i64 0))⟩,
    ⟨(some 15), none, .val (.nilc (.t 12))⟩,
    ⟨(some 16), none, .val (.faddr 6 (.t 15))⟩,
    ⟨none, none, .store 1 (.t 16) (.c (.bool false))⟩] [3]) k53_1)

abbrev k53_3 : MC :=
  (.seq (.reg [
    ⟨(some 6), none, .val (.mv (.t 0))⟩,
    ⟨(some 7), none, .val (.nilc (.t 6))⟩,
    ⟨(some 8), none, .val (.faddr 5 (.t 7))⟩,
    ⟨(some 9), none, .val (.load false 1 (.t 8))⟩,
    ⟨(some 10), none, .val (.bin .gtr .num (.t 9) (.c (.int .i64 0)))⟩,
    ⟨(some 3), none, .val (.mv (.t 10))⟩] [0, 3]) k53_2)

abbrev k53_4 : MC :=
  (.seq ((.seq (.reg [
    ⟨(some 4), none, .val (.mv (.t 0))⟩,
    ⟨(some 5), none, .val (.bin .eql .ptr (.t 4) (.c .nilPtr))⟩] [0, 5]) k53_0)) k53_3)
abbrev k53 : MC :=
  (.seq (.reg [
    ⟨(some 2), none, .val (.mv (.c (.bool false)))⟩] [0]) k53_4)
theorem c53 : Tryz.f53.body.bind (mcOf Tryz.prog (List.contains [] ·) (List.getD [([], [0]), ([], [0, 5]), ([], [2]), ([], [0, 3]), ([], [3]), ([], [2])] · ([], [])) 18) = some k53 := by kernel_rfl
theorem r53 : rvsOf Tryz.prog Tryz.f53.results.toList = some [.tmp 2] := by kernel_rfl

/- flange/session.New -/
abbrev k28_0 : MC :=
  .cond (.t 19) ((.seq (.reg [
     ⟨(some 4), none, .val (.mv (.c .nilPtr))⟩,
     ⟨(some 5), none, .val (.mv (.c (.int .i64 1)))⟩] [4, 5]) (.ret))) (.skip)

abbrev k28_1 : MC :=
  (.seq (.reg [
    ⟨(some 20), none, .val (.mv (.t 0))⟩,
    ⟨(some 21), none, .val (.mv (.t 1))⟩,
    ⟨(some 22), none, .build [(.int .i64 0), .nilSl, .nilMap, (.int .i64 0), (.int .i64 0), (.int .i64 0), (.int .i64 0), (.int .i64 0), (.int .i64 0), .nilPtr, .nilSl] [(3, 1, (.t 20)), (4, 1, (.t 21))]⟩,
    ⟨(some 23), none, .box (.t 22)⟩,
    ⟨(some 4), none, .val (.mv (.t 23))⟩,
    ⟨(some 5), none, .val (.mv (.c (.int .i64 0)))⟩] [4, 5]) (.ret))

abbrev k28_2 : MC :=
  (.seq ((.seq (.reg [
    ⟨(some 6), none, .val (.mv (.t 0))⟩,
    ⟨(some 7), none, .val (.bin .lss .num (.t 6) (.c (.int .i64 64)))⟩,
    ⟨(some 8), none, .val (.mv (.t 7))⟩,
    ⟨(some 9), (some (8, false)), .val (.mv (.t 0))⟩,
    ⟨(some 10), (some (8, false)), .val (.bin .gtr .num (.t 9) (.c (.int .i64 4096)))⟩,
    ⟨(some 11), none, .val (.pick (.t 8) (.c (.bool true)) (.t 10))⟩,
    ⟨(some 12), none, .val (.mv (.t 11))⟩,
    ⟨(some 13), (some (12, false)), .val (.mv (.t 1))⟩,
    ⟨(some 14), (some (12, false)), .val (.bin .lss .num (.t 13) (.c (.int .i64 1)))⟩,
    ⟨(some 15), none, .val (.pick (.t 12) (.c (.bool true)) (.t 14))⟩,
    ⟨(some 16), none, .val (.mv (.t 15))⟩,
    ⟨(some 17), (some (16, false)), .val (.mv (.t 1))⟩,
    ⟨(some 18), (some (16, false)), .val (.bin .gtr .num (.t 17) (.c (.int .i64 1000000)))⟩,
    ⟨(some 19), none, .val (.pick (.t 16) (.c (.bool true)) (.t 18))⟩] [0, 1, 19]) k28_0)) k28_1)
abbrev k28 : MC :=
  (.seq (.reg [
    ⟨(some 4), none, .val (.mv (.c .nilPtr))⟩,
    ⟨(some 5), none, .val (.mv (.c (.int .i64 0)))⟩] [0, 1]) k28_2)
theorem c28 : Tryz.f28.body.bind (mcOf Tryz.prog (List.contains [] ·) (List.getD [([], [0, 1]), ([], [0, 1, 19]), ([], [4, 5]), ([], [4, 5])] · ([], [])) 24) = some k28 := by kernel_rfl
theorem r28 : rvsOf Tryz.prog Tryz.f28.results.toList = some [.tmp 4, .tmp 5] := by kernel_rfl

/- (flange/supervise.fails).fail -/
abbrev k79_0 : MC :=
  (.seq (.reg [
    ⟨(some 6), none, .val (.faddr 0 (.t 2))⟩,
    ⟨(some 7), none, .val (.load false 1 (.t 6))⟩,
    ⟨(some 8), none, .val (.mv (.t 1))⟩,
    ⟨(some 9), none, .call 109 [(.t 7), (.t 8)]⟩,
    ⟨(some 10), none, .val (.ext (.t 9) 0)⟩,
    ⟨(some 11), none, .val (.ext (.t 9) 1)⟩,
    ⟨(some 4), none, .val (.mv (.t 10))⟩,
    ⟨(some 5), none, .val (.mv (.t 11))⟩] [4, 5]) (.ret))
abbrev k79 : MC :=
  (.seq (.reg [
    ⟨(some 2), none, .boxi (.t 0)⟩,
    ⟨(some 4), none, .val (.mv (.c (.int .i64 0)))⟩,
    ⟨(some 5), none, .val (.mv (.c (.bool false)))⟩] [1, 2]) k79_0)
theorem c79 : Tryz.f79.body.bind (mcOf Tryz.prog (List.contains [2] ·) (List.getD [([], [1, 2]), ([], [4, 5])] · ([], [])) 12) = some k79 := by kernel_rfl
theorem r79 : rvsOf Tryz.prog Tryz.f79.results.toList = some [.tmp 4, .tmp 5] := by kernel_rfl

/- (*flange/supervise.Keeper).is -/
abbrev k48_0 : MC :=
  .cond (.t 22) ((.seq (.reg [
     ⟨(some 4), none, .val (.mv (.c (.bool true)))⟩] [4]) (.ret))) (.skip)

abbrev k48_1 : MC :=
  (.seq (.reg [
    ⟨(some 13), none, .val (.mv (.t 0))⟩,
    ⟨(some 14), none, .val (.bin .neq .ptr (.t 13) (.c .nilPtr))⟩,
    ⟨(some 15), none, .val (.mv (.t 14))⟩,
    ⟨(some 16), (some (15, true)), .val (.mv (.t 0))⟩,
    ⟨(some 17), (some (15, true)), .val (.nilc (.t 16))⟩,
    ⟨(some 18), (some (15, true)), .val (.faddr 3 (.t 17))⟩,
    ⟨(some 19), (some (15, true)), .val (.load false 1 (.t 18))⟩,
    ⟨(some 20), (some (15, true)), .val (.mv (.t 6))⟩,
    ⟨(some 21), (some (15, true)), .val (.bin .eql .num (.t 19) (.t 20))⟩,
    ⟨(some 22), none, .val (.pick (.t 15) (.t 21) (.c (.bool false)))⟩] [0, 7, 8, 9, 22]) k48_0)

abbrev k48_2 : MC :=
  .reg [
    ⟨(some 23), none, .val (.bin .add .num (.t 9) (.c (.int .i64 1)))⟩,
    ⟨(some 9), none, .val (.mv (.t 23))⟩] [0, 7, 8, 9]

abbrev k48_3 : MC :=
  (.seq (.block 1 ((.seq (.reg [
     ⟨(some 11), none, .val (.iaddr 1 (.t 7) (.t 9))⟩,
     ⟨(some 12), none, .val (.load false 1 (.t 11))⟩,
     ⟨(some 6), none, .val (.mv (.t 12))⟩] [0, 6, 7, 8, 9]) k48_1))) k48_2)

abbrev k48_4 : MC :=
  (.seq (.cond (.t 10) (.skip) (.exit 0)) k48_3)

abbrev k48_5 : MC :=
  (.seq (.reg [
    ⟨(some 10), none, .val (.bin .lss .num (.t 9) (.t 8))⟩] [0, 7, 8, 9, 10]) k48_4)

abbrev k48_6 : MC :=
  .block 0 (.loop k48_5)

abbrev k48_7 : MC :=
  (.seq (.reg [
    ⟨(some 4), none, .val (.mv (.c (.bool false)))⟩] [4]) (.ret))

abbrev k48_8 : MC :=
  (.seq ((.seq (.reg [
    ⟨(some 7), none, .val (.mv (.t 1))⟩,
    ⟨(some 8), none, .val (.len .sl (.t 7))⟩,
    ⟨(some 9), none, .val (.mv (.c (.int .i64 0)))⟩] [0, 7, 8, 9]) k48_6)) k48_7)
abbrev k48 : MC :=
  (.seq (.reg [
    ⟨(some 4), none, .val (.mv (.c (.bool false)))⟩] [0, 1]) k48_8)
theorem c48 : Tryz.f48.body.bind (mcOf Tryz.prog (List.contains [] ·) (List.getD [([], [0, 1]), ([], [0, 7, 8, 9]), ([], [0, 7, 8, 9, 10]), ([], [0, 6, 7, 8, 9]), ([], [0, 7, 8, 9, 22]), ([], [4]), ([], [0, 7, 8, 9]), ([], [4])] · ([], [])) 24) = some k48 := by kernel_rfl
theorem r48 : rvsOf Tryz.prog Tryz.f48.results.toList = some [.tmp 4] := by kernel_rfl

/- (*flange/supervise.Keeper).begin -/
abbrev k49_0 : MC :=
  (.seq (.reg [
    ⟨(some 7), none, .build [(.int .i64 0), .nilSl, (.int .i64 0), .nilSl, .nilIface, .nilSl, .nilSl, .nilSl, (.int .i64 0), (.int .i64 0)] [(0, 1, (.c (.int .i64 0)))]⟩,
    ⟨(some 8), none, .bslice 10 1 [(.int .i64 0), .nilSl, (.int .i64 0), .nilSl, .nilIface, .nilSl, .nilSl, .nilSl, (.int .i64 0), (.int .i64 0)] [(0, 10, (.t 7))]⟩,
    ⟨(some 2), none, .val (.mv (.t 8))⟩,
    ⟨(some 3), none, .val (.mv (.c (.int .i64 0)))⟩] [2, 3]) (.ret))

abbrev k49_1 : MC :=
  (.seq (.reg [
    ⟨(some 4), none, .val (.mv (.t 0))⟩,
    ⟨(some 5), none, .val (.nilc (.t 4))⟩,
    ⟨(some 6), none, .val (.faddr 3 (.t 5))⟩,
    ⟨none, none, .store 1 (.t 6) (.c (.int .i64 1))⟩] []) k49_0)
abbrev k49 : MC :=
  (.seq (.reg [
    ⟨(some 2), none, .val (.mv (.c .nilSl))⟩,
    ⟨(some 3), none, .val (.mv (.c (.int .i64 0)))⟩] [0]) k49_1)
theorem c49 : Tryz.f49.body.bind (mcOf Tryz.prog (List.contains [] ·) (List.getD [([], [0]), ([], []), ([], [2, 3])] · ([], [])) 9) = some k49 := by kernel_rfl
theorem r49 : rvsOf Tryz.prog Tryz.f49.results.toList = some [.tmp 2, .tmp 3] := by kernel_rfl

/- (*flange/supervise.Keeper).broke -/
abbrev k50_0 : MC :=
  (.seq (.reg [
    ⟨(some 23), none, .val (.mv (.t 2))⟩,
    ⟨(some 24), none, .build [(.int .i64 0), .nilSl, (.int .i64 0), .nilSl, .nilIface, .nilSl, .nilSl, .nilSl, (.int .i64 0), (.int .i64 0)] [(0, 1, (.c (.int .i64 5))), (8, 1, (.t 23))]⟩,
    ⟨none, none, .store 10 (.t 6) (.t 24)⟩] [6]) (.ret))

abbrev k50_1 : MC :=
  .cond (.t 19) ((.seq (.reg [
     ⟨(some 20), none, .val (.mv (.t 0))⟩,
     ⟨(some 21), none, .val (.nilc (.t 20))⟩,
     ⟨(some 22), none, .val (.faddr 3 (.t 21))⟩,
     ⟨none, none, .store 1 (.t 22) (.c (.int .i64 5))⟩] [2, 6]) k50_0)) (.skip)

abbrev k50_2 : MC :=
  (.seq (.reg [
    ⟨(some 34), none, .val (.mv (.t 2))⟩,
    ⟨(some 35), none, .val (.mv (.t 7))⟩,
    ⟨(some 36), none, .build [(.int .i64 0), .nilSl, (.int .i64 0), .nilSl, .nilIface, .nilSl, .nilSl, .nilSl, (.int .i64 0), (.int .i64 0)] [(0, 1, (.c (.int .i64 4))), (8, 1, (.t 34)), (9, 1, (.t 35))]⟩,
    ⟨none, none, .store 10 (.t 6) (.t 36)⟩] [6]) (.ret))

abbrev k50_3 : MC :=
  (.seq (.reg [
    ⟨(some 25), none, .val (.mv (.t 0))⟩,
    ⟨(some 26), none, .val (.mv (.t 0))⟩,
    ⟨(some 27), none, .val (.mv (.t 1))⟩,
    ⟨(some 28), none, .val (.mv (.t 7))⟩,
    ⟨(some 29), none, .call 62 [(.t 27), (.t 28)]⟩,
    ⟨(some 30), none, .val (.nilc (.t 25))⟩,
    ⟨(some 31), none, .val (.faddr 3 (.t 30))⟩,
    ⟨none, none, .store 1 (.t 31) (.c (.int .i64 4))⟩,
    ⟨(some 32), none, .val (.nilc (.t 26))⟩,
    ⟨(some 33), none, .val (.faddr 4 (.t 32))⟩,
    ⟨none, none, .store 1 (.t 33) (.t 29)⟩] [2, 6, 7]) k50_2)

abbrev k50_4 : MC :=
  (.seq ((.seq (.reg [
    ⟨(some 18), none, .val (.mv (.t 8))⟩,
    ⟨(some 19), none, .val (.not (.t 18))⟩] [0, 1, 2, 6, 7, 19]) k50_1)) k50_3)

abbrev k50_5 : MC :=
  (.seq (.reg [
    ⟨(some 10), none, .val (.mv (.t 0))⟩,
    ⟨(some 11), none, .val (.nilc (.t 10))⟩,
    ⟨(some 12), none, .val (.faddr 0 (.t 11))⟩,
    ⟨(some 13), none, .val (.load true 1 (.t 12))⟩,
    ⟨(some 14), none, .val (.mv (.t 1))⟩,
    ⟨(some 15), none, .call 79 [(.t 13), (.t 14)]⟩,
    ⟨(some 9), none, .val (.mv (.t 15))⟩,
    ⟨(some 16), none, .val (.ext (.t 9) 0)⟩,
    ⟨(some 17), none, .val (.ext (.t 9) 1)⟩,
    ⟨(some 7), none, .val (.mv (.t 16))⟩,
    ⟨(some 8), none, .val (.mv (.t 17))⟩] [0, 1, 2, 6, 7, 8]) k50_4)
abbrev k50 : MC :=
  (.seq (.reg [
    ⟨(some 6), none, .zalloc [(.int .i64 0), .nilSl, (.int .i64 0), .nilSl, .nilIface, .nilSl, .nilSl, .nilSl, (.int .i64 0), (.int .i64 0)]⟩] [0, 1, 2, 6]) k50_5)
theorem c50 : Tryz.f50.body.bind (mcOf Tryz.prog (List.contains [] ·) (List.getD [([], [0, 1, 2, 6]), ([], [0, 1, 2, 6, 7, 8]), ([], [0, 1, 2, 6, 7, 19]), ([], [2, 6]), ([], [6]), ([], [2, 6, 7]), ([], [6])] · ([], [])) 37) = some k50 := by kernel_rfl
theorem r50 : rvsOf Tryz.prog Tryz.f50.results.toList = some [.cell 6 true 10] := by kernel_rfl

attribute [local go_sem] Rl.cells intsE_get intsE_length List.drop_zero toNat_succ Nat.sub_zero Int.toNat_natCast Option.map_some Int.natCast_nonneg decide_eq_true_eq decide_eq_false_iff_not
/-- What a counter of failures holds. -/
abbrev stO (r : Rl) (s n : Int) (l : Bool) : AObj := .cells [.int .i64 r.b, .int .i64 r.c, .int .i64 r.t, .int .i64 r.m, .int .i64 s, .int .i64 n, .bool l]
/-- What a keeper holds. -/
abbrev kpO (kb : Nat) (lim wt st un : Int) (s : V) : AObj := .cells [.ptr kb 0, .int .i64 lim, .int .i64 wt, .int .i64 st, .int .i64 un, s]
def evC (k e w : Int) : List V := [.int .i64 k, .nilSl, .int .i64 0, .nilSl, .nilIface, .nilSl, .nilSl, .nilSl, .int .i64 e, .int .i64 w]
theorem delayI_calls {r : Rl} {n : Int} (hr : r.ok) (h1 : 1 ≤ n) (h2 : n ≤ 1000) (H : AH) : ACalls Tryz.prog 139 [.agg [.int .i64 r.b, .int .i64 r.c, .int .i64 r.t, .int .i64 r.m], .int .i64 n] H (fun o H' => o = .ret (.int .i64 (r.delay n.toNat)) ∧ H' = H) := by
  have := delay_calls (n := n.toNat) hr (by omega) (by omega) H
  rwa [show ((n.toNat : Nat) : Int) = n by omega] at this
theorem dl_bd {c : Int} : ∀ (k : Nat) (d : Int), 1 ≤ d → 1 ≤ dl c k d
  | 0, d, h => h
  | k + 1, d, h => by
    rw [dl]; split
    · exact dl_bd k _ (by omega)
    · exact h
theorem Rl.delay_nonneg (r : Rl) (hr : r.ok) (n : Nat) : 1 ≤ r.delay n ∧ r.delay n ≤ 1000000 := by
  have h1 := hr.1; have h2 := hr.2.1; have h3 := hr.2.2.1
  have := dl_bd (c := r.c) (n - 1) r.b (by omega)
  unfold Rl.delay
  omega
theorem bfail_calls {r : Rl} {k : Nat} {s n now : Int} {H : AH} (hr : r.ok) (hs : 0 ≤ s) (hs2 : s ≤ 1152921504606846976) (hn : 0 ≤ n) (hn2 : n < 1000) (h0 : 0 ≤ now) (h1 : now ≤ 1152921504606846976) (hk : H k = some (.cells [.int .i64 r.b, .int .i64 r.c, .int .i64 r.t, .int .i64 r.m, .int .i64 s, .int .i64 n, .bool false])) :
    ACalls Tryz.prog 109 [.ptr k 0, .int .i64 now] H (fun o H' =>
      o = .ret (if r.t ≤ (if r.m < now - s then 0 else n) + 1 then .tuple [.int .i64 0, .bool false] else .tuple [.int .i64 (r.delay ((if r.m < now - s then 0 else n) + 1).toNat), .bool true]) ∧
      H' = H.put k (stO r s ((if r.m < now - s then 0 else n) + 1) (decide (r.t ≤ (if r.m < now - s then 0 else n) + 1)))) := by
  refine ACalls.dropG ?_
  refine acalls Tryz.func109 c109 r109 (by simp [Tryz.ntmps109]) ?_
  have cl : min (max now 0) 1152921504606846976 = now := by omega
  have cc := fun H => clip_calls (x := now) H
  rw [cl] at cc
  have hr4 := hr.2.2.2.1
  have one : r.delay ((0 : Int) + 1).toNat = r.delay (1 : Int).toNat := rfl
  by_cases hm : r.m < now - s
  · simp only [hm, if_true]
    by_cases ht : r.t ≤ 0 + 1
    · have ht' : r.t ≤ 1 := ht
      simp only [ht, if_true]
      repeat' (first | with_reducible refine am_seq ?_ | with_reducible refine am_block ?_ | ((with_reducible apply am_cond); (case hb => rfl); all_goals (intro hc; (try simp only [reduceCtorEq, decide_eq_true_eq, decide_eq_false_iff_not, Bool.or_eq_true, Bool.and_eq_true, Bool.or_eq_false_iff, Bool.not_eq_true', Bool.not_eq_false', beq_iff_eq] at hc); (try (exfalso; omega)))) | ((first | with_reducible refine am_reg ?_ | with_reducible refine am_drw ?_ | with_reducible refine am_skip ?_ | with_reducible refine am_exit ?_ | with_reducible refine am_ret ?_ | with_reducible refine And.intro (by first | exact AH.lec_refl _ | assumption | exact AccP.lec (by assumption) | omega) ?_ | with_reducible refine isnE_of (fun hc => ?_) (fun hc => ?_) (fun hc => ?_) | ((first | with_reducible refine gd_not (fun hc => ?_) (fun hc => ?_) | with_reducible refine gd_of (fun hc => ?_) (fun hc => ?_) | with_reducible refine gq_not (fun hc => ?_) (fun hc => ?_) | with_reducible refine gq_of (fun hc => ?_) (fun hc => ?_) | with_reducible refine pickB_of (fun hc => ?_) (fun hc => ?_)) <;> (try simp -implicitDefEqProofs (disch := omega) only [go_sem, eq_self, decide_true, decide_false, Nat.reduceBEq, Nat.reduceAdd, Nat.reduceSub, Nat.reduceMul, Nat.reduceEqDiff, Nat.reduceLeDiff, Nat.reduceLT, Int.reduceLE, Int.reduceLT, Int.reduceToNat, Int.reduceAdd, Int.reduceEq, Int.reduceNeg, AH.put_ne, hc, wrap_id, hm, ht', hk]) <;> (try simp only [reduceCtorEq, decide_eq_true_eq, decide_eq_false_iff_not, Bool.or_eq_true, Bool.and_eq_true, Bool.or_eq_false_iff, Bool.not_eq_true', Bool.not_eq_false', beq_iff_eq] at hc) <;> (try (exfalso; omega))) | ((with_reducible refine alloc_intro (fun ko hko => ?_)) <;> (try have hne := fresh_ne (by assumption) hko) <;> (try have hnk := fresh_ne hk hko) <;> (try have hnk2 := fresh_ne hk2 hko) <;> (try simp only [AH.put_none] at hko)) | ((first | (with_reducible refine vapp_accL (by assumption) ?_ (fun v2 H2 hacc hlec => ?_)) | (with_reducible refine vapp_accL (AccP.mono (by assumption) (AccP.le (by assumption))) ?_ (fun v2 H2 hacc hlec => ?_)) | (with_reducible refine vapp_accL (AccP.new (by assumption) (by assumption) _) ?_ (fun v2 H2 hacc hlec => ?_))); · simp only [byteCells_length, List.length_cons, List.length_nil, List.length_map, List.length_append, intsE_length]; omega) | with_reducible refine need_elems (by assumption) ?_ | with_reducible refine vlen_acc (by assumption) ?_ | with_reducible refine need_bytes (by assumption) ?_ | (first | with_reducible refine call_of (cc) ?_ | with_reducible refine qcall_of (cc) ?_) | with_reducible refine need_look (by assumption) ?_ | with_reducible refine need_look (look_put (by assumption) (by assumption)) ?_ | with_reducible refine need_look (look_lec (by assumption) (by assumption)) ?_ | with_reducible refine need_look (look_put (AH.put_same _ _ _) (by assumption)) ?_ | with_reducible refine need_look (look_lec (AH.put_same _ _ _) (by assumption)) ?_ | with_reducible refine need_look (look_put (look_put (by assumption) (by assumption)) (by assumption)) ?_ | with_reducible refine need_look (look_lec (look_put (by assumption) (by assumption)) (by assumption)) ?_ | with_reducible refine need_look (look_put (look_lec (by assumption) (by assumption)) (by assumption)) ?_ | with_reducible refine need_look (look_lec (look_lec (by assumption) (by assumption)) (by assumption)) ?_ | with_reducible refine need_look (look_put (look_put (AH.put_same _ _ _) (by assumption)) (by assumption)) ?_ | with_reducible refine need_look (look_lec (look_put (AH.put_same _ _ _) (by assumption)) (by assumption)) ?_ | with_reducible refine need_look (look_put (look_lec (AH.put_same _ _ _) (by assumption)) (by assumption)) ?_ | with_reducible refine need_look (look_lec (look_lec (AH.put_same _ _ _) (by assumption)) (by assumption)) ?_) <;> (try simp -implicitDefEqProofs (disch := omega) only [go_sem, eq_self, decide_true, decide_false, Nat.reduceBEq, Nat.reduceAdd, Nat.reduceSub, Nat.reduceMul, Nat.reduceEqDiff, Nat.reduceLeDiff, Nat.reduceLT, Int.reduceLE, Int.reduceLT, Int.reduceToNat, Int.reduceAdd, Int.reduceEq, Int.reduceNeg, AH.put_ne, wrap_id, hm, ht', hk])))
      all_goals exact end_eq rfl (AH.le_refl _)
    · have ht' : ¬ r.t ≤ 1 := ht
      simp only [ht, if_false]
      repeat' (first | with_reducible refine am_seq ?_ | with_reducible refine am_block ?_ | ((with_reducible apply am_cond); (case hb => rfl); all_goals (intro hc; (try simp only [reduceCtorEq, decide_eq_true_eq, decide_eq_false_iff_not, Bool.or_eq_true, Bool.and_eq_true, Bool.or_eq_false_iff, Bool.not_eq_true', Bool.not_eq_false', beq_iff_eq] at hc); (try (exfalso; omega)))) | ((first | with_reducible refine am_reg ?_ | with_reducible refine am_drw ?_ | with_reducible refine am_skip ?_ | with_reducible refine am_exit ?_ | with_reducible refine am_ret ?_ | with_reducible refine And.intro (by first | exact AH.lec_refl _ | assumption | exact AccP.lec (by assumption) | omega) ?_ | with_reducible refine isnE_of (fun hc => ?_) (fun hc => ?_) (fun hc => ?_) | ((first | with_reducible refine gd_not (fun hc => ?_) (fun hc => ?_) | with_reducible refine gd_of (fun hc => ?_) (fun hc => ?_) | with_reducible refine gq_not (fun hc => ?_) (fun hc => ?_) | with_reducible refine gq_of (fun hc => ?_) (fun hc => ?_) | with_reducible refine pickB_of (fun hc => ?_) (fun hc => ?_)) <;> (try simp -implicitDefEqProofs (disch := omega) only [go_sem, eq_self, decide_true, decide_false, Nat.reduceBEq, Nat.reduceAdd, Nat.reduceSub, Nat.reduceMul, Nat.reduceEqDiff, Nat.reduceLeDiff, Nat.reduceLT, Int.reduceLE, Int.reduceLT, Int.reduceToNat, Int.reduceAdd, Int.reduceEq, Int.reduceNeg, AH.put_ne, hc, wrap_id, hm, ht', hk]) <;> (try simp only [reduceCtorEq, decide_eq_true_eq, decide_eq_false_iff_not, Bool.or_eq_true, Bool.and_eq_true, Bool.or_eq_false_iff, Bool.not_eq_true', Bool.not_eq_false', beq_iff_eq] at hc) <;> (try (exfalso; omega))) | ((with_reducible refine alloc_intro (fun ko hko => ?_)) <;> (try have hne := fresh_ne (by assumption) hko) <;> (try have hnk := fresh_ne hk hko) <;> (try have hnk2 := fresh_ne hk2 hko) <;> (try simp only [AH.put_none] at hko)) | ((first | (with_reducible refine vapp_accL (by assumption) ?_ (fun v2 H2 hacc hlec => ?_)) | (with_reducible refine vapp_accL (AccP.mono (by assumption) (AccP.le (by assumption))) ?_ (fun v2 H2 hacc hlec => ?_)) | (with_reducible refine vapp_accL (AccP.new (by assumption) (by assumption) _) ?_ (fun v2 H2 hacc hlec => ?_))); · simp only [byteCells_length, List.length_cons, List.length_nil, List.length_map, List.length_append, intsE_length]; omega) | with_reducible refine need_elems (by assumption) ?_ | with_reducible refine vlen_acc (by assumption) ?_ | with_reducible refine need_bytes (by assumption) ?_ | (first | with_reducible refine call_of (cc) ?_ | with_reducible refine qcall_of (cc) ?_) | (first | with_reducible refine call_of (delayI_calls hr (by omega) (by omega)) ?_ | with_reducible refine qcall_of (delayI_calls hr (by omega) (by omega)) ?_) | with_reducible refine need_look (by assumption) ?_ | with_reducible refine need_look (look_put (by assumption) (by assumption)) ?_ | with_reducible refine need_look (look_lec (by assumption) (by assumption)) ?_ | with_reducible refine need_look (look_put (AH.put_same _ _ _) (by assumption)) ?_ | with_reducible refine need_look (look_lec (AH.put_same _ _ _) (by assumption)) ?_ | with_reducible refine need_look (look_put (look_put (by assumption) (by assumption)) (by assumption)) ?_ | with_reducible refine need_look (look_lec (look_put (by assumption) (by assumption)) (by assumption)) ?_ | with_reducible refine need_look (look_put (look_lec (by assumption) (by assumption)) (by assumption)) ?_ | with_reducible refine need_look (look_lec (look_lec (by assumption) (by assumption)) (by assumption)) ?_ | with_reducible refine need_look (look_put (look_put (AH.put_same _ _ _) (by assumption)) (by assumption)) ?_ | with_reducible refine need_look (look_lec (look_put (AH.put_same _ _ _) (by assumption)) (by assumption)) ?_ | with_reducible refine need_look (look_put (look_lec (AH.put_same _ _ _) (by assumption)) (by assumption)) ?_ | with_reducible refine need_look (look_lec (look_lec (AH.put_same _ _ _) (by assumption)) (by assumption)) ?_) <;> (try simp -implicitDefEqProofs (disch := omega) only [go_sem, eq_self, decide_true, decide_false, Nat.reduceBEq, Nat.reduceAdd, Nat.reduceSub, Nat.reduceMul, Nat.reduceEqDiff, Nat.reduceLeDiff, Nat.reduceLT, Int.reduceLE, Int.reduceLT, Int.reduceToNat, Int.reduceAdd, Int.reduceEq, Int.reduceNeg, AH.put_ne, wrap_id, hm, ht', hk])))
      all_goals exact end_eq rfl (AH.le_refl _)
  · simp only [hm, if_false]
    by_cases ht : r.t ≤ n + 1
    · simp only [ht, if_true]
      repeat' (first | with_reducible refine am_seq ?_ | with_reducible refine am_block ?_ | ((with_reducible apply am_cond); (case hb => rfl); all_goals (intro hc; (try simp only [reduceCtorEq, decide_eq_true_eq, decide_eq_false_iff_not, Bool.or_eq_true, Bool.and_eq_true, Bool.or_eq_false_iff, Bool.not_eq_true', Bool.not_eq_false', beq_iff_eq] at hc); (try (exfalso; omega)))) | ((first | with_reducible refine am_reg ?_ | with_reducible refine am_drw ?_ | with_reducible refine am_skip ?_ | with_reducible refine am_exit ?_ | with_reducible refine am_ret ?_ | with_reducible refine And.intro (by first | exact AH.lec_refl _ | assumption | exact AccP.lec (by assumption) | omega) ?_ | with_reducible refine isnE_of (fun hc => ?_) (fun hc => ?_) (fun hc => ?_) | ((first | with_reducible refine gd_not (fun hc => ?_) (fun hc => ?_) | with_reducible refine gd_of (fun hc => ?_) (fun hc => ?_) | with_reducible refine gq_not (fun hc => ?_) (fun hc => ?_) | with_reducible refine gq_of (fun hc => ?_) (fun hc => ?_) | with_reducible refine pickB_of (fun hc => ?_) (fun hc => ?_)) <;> (try simp -implicitDefEqProofs (disch := omega) only [go_sem, eq_self, decide_true, decide_false, Nat.reduceBEq, Nat.reduceAdd, Nat.reduceSub, Nat.reduceMul, Nat.reduceEqDiff, Nat.reduceLeDiff, Nat.reduceLT, Int.reduceLE, Int.reduceLT, Int.reduceToNat, Int.reduceAdd, Int.reduceEq, Int.reduceNeg, AH.put_ne, hc, wrap_id, hm, ht, hk]) <;> (try simp only [reduceCtorEq, decide_eq_true_eq, decide_eq_false_iff_not, Bool.or_eq_true, Bool.and_eq_true, Bool.or_eq_false_iff, Bool.not_eq_true', Bool.not_eq_false', beq_iff_eq] at hc) <;> (try (exfalso; omega))) | ((with_reducible refine alloc_intro (fun ko hko => ?_)) <;> (try have hne := fresh_ne (by assumption) hko) <;> (try have hnk := fresh_ne hk hko) <;> (try have hnk2 := fresh_ne hk2 hko) <;> (try simp only [AH.put_none] at hko)) | ((first | (with_reducible refine vapp_accL (by assumption) ?_ (fun v2 H2 hacc hlec => ?_)) | (with_reducible refine vapp_accL (AccP.mono (by assumption) (AccP.le (by assumption))) ?_ (fun v2 H2 hacc hlec => ?_)) | (with_reducible refine vapp_accL (AccP.new (by assumption) (by assumption) _) ?_ (fun v2 H2 hacc hlec => ?_))); · simp only [byteCells_length, List.length_cons, List.length_nil, List.length_map, List.length_append, intsE_length]; omega) | with_reducible refine need_elems (by assumption) ?_ | with_reducible refine vlen_acc (by assumption) ?_ | with_reducible refine need_bytes (by assumption) ?_ | (first | with_reducible refine call_of (cc) ?_ | with_reducible refine qcall_of (cc) ?_) | with_reducible refine need_look (by assumption) ?_ | with_reducible refine need_look (look_put (by assumption) (by assumption)) ?_ | with_reducible refine need_look (look_lec (by assumption) (by assumption)) ?_ | with_reducible refine need_look (look_put (AH.put_same _ _ _) (by assumption)) ?_ | with_reducible refine need_look (look_lec (AH.put_same _ _ _) (by assumption)) ?_ | with_reducible refine need_look (look_put (look_put (by assumption) (by assumption)) (by assumption)) ?_ | with_reducible refine need_look (look_lec (look_put (by assumption) (by assumption)) (by assumption)) ?_ | with_reducible refine need_look (look_put (look_lec (by assumption) (by assumption)) (by assumption)) ?_ | with_reducible refine need_look (look_lec (look_lec (by assumption) (by assumption)) (by assumption)) ?_ | with_reducible refine need_look (look_put (look_put (AH.put_same _ _ _) (by assumption)) (by assumption)) ?_ | with_reducible refine need_look (look_lec (look_put (AH.put_same _ _ _) (by assumption)) (by assumption)) ?_ | with_reducible refine need_look (look_put (look_lec (AH.put_same _ _ _) (by assumption)) (by assumption)) ?_ | with_reducible refine need_look (look_lec (look_lec (AH.put_same _ _ _) (by assumption)) (by assumption)) ?_) <;> (try simp -implicitDefEqProofs (disch := omega) only [go_sem, eq_self, decide_true, decide_false, Nat.reduceBEq, Nat.reduceAdd, Nat.reduceSub, Nat.reduceMul, Nat.reduceEqDiff, Nat.reduceLeDiff, Nat.reduceLT, Int.reduceLE, Int.reduceLT, Int.reduceToNat, Int.reduceAdd, Int.reduceEq, Int.reduceNeg, AH.put_ne, wrap_id, hm, ht, hk])))
      all_goals exact end_eq rfl (AH.le_refl _)
    · simp only [ht, if_false]
      repeat' (first | with_reducible refine am_seq ?_ | with_reducible refine am_block ?_ | ((with_reducible apply am_cond); (case hb => rfl); all_goals (intro hc; (try simp only [reduceCtorEq, decide_eq_true_eq, decide_eq_false_iff_not, Bool.or_eq_true, Bool.and_eq_true, Bool.or_eq_false_iff, Bool.not_eq_true', Bool.not_eq_false', beq_iff_eq] at hc); (try (exfalso; omega)))) | ((first | with_reducible refine am_reg ?_ | with_reducible refine am_drw ?_ | with_reducible refine am_skip ?_ | with_reducible refine am_exit ?_ | with_reducible refine am_ret ?_ | with_reducible refine And.intro (by first | exact AH.lec_refl _ | assumption | exact AccP.lec (by assumption) | omega) ?_ | with_reducible refine isnE_of (fun hc => ?_) (fun hc => ?_) (fun hc => ?_) | ((first | with_reducible refine gd_not (fun hc => ?_) (fun hc => ?_) | with_reducible refine gd_of (fun hc => ?_) (fun hc => ?_) | with_reducible refine gq_not (fun hc => ?_) (fun hc => ?_) | with_reducible refine gq_of (fun hc => ?_) (fun hc => ?_) | with_reducible refine pickB_of (fun hc => ?_) (fun hc => ?_)) <;> (try simp -implicitDefEqProofs (disch := omega) only [go_sem, eq_self, decide_true, decide_false, Nat.reduceBEq, Nat.reduceAdd, Nat.reduceSub, Nat.reduceMul, Nat.reduceEqDiff, Nat.reduceLeDiff, Nat.reduceLT, Int.reduceLE, Int.reduceLT, Int.reduceToNat, Int.reduceAdd, Int.reduceEq, Int.reduceNeg, AH.put_ne, hc, wrap_id, hm, ht, hk]) <;> (try simp only [reduceCtorEq, decide_eq_true_eq, decide_eq_false_iff_not, Bool.or_eq_true, Bool.and_eq_true, Bool.or_eq_false_iff, Bool.not_eq_true', Bool.not_eq_false', beq_iff_eq] at hc) <;> (try (exfalso; omega))) | ((with_reducible refine alloc_intro (fun ko hko => ?_)) <;> (try have hne := fresh_ne (by assumption) hko) <;> (try have hnk := fresh_ne hk hko) <;> (try have hnk2 := fresh_ne hk2 hko) <;> (try simp only [AH.put_none] at hko)) | ((first | (with_reducible refine vapp_accL (by assumption) ?_ (fun v2 H2 hacc hlec => ?_)) | (with_reducible refine vapp_accL (AccP.mono (by assumption) (AccP.le (by assumption))) ?_ (fun v2 H2 hacc hlec => ?_)) | (with_reducible refine vapp_accL (AccP.new (by assumption) (by assumption) _) ?_ (fun v2 H2 hacc hlec => ?_))); · simp only [byteCells_length, List.length_cons, List.length_nil, List.length_map, List.length_append, intsE_length]; omega) | with_reducible refine need_elems (by assumption) ?_ | with_reducible refine vlen_acc (by assumption) ?_ | with_reducible refine need_bytes (by assumption) ?_ | (first | with_reducible refine call_of (cc) ?_ | with_reducible refine qcall_of (cc) ?_) | (first | with_reducible refine call_of (delayI_calls hr (by omega) (by omega)) ?_ | with_reducible refine qcall_of (delayI_calls hr (by omega) (by omega)) ?_) | with_reducible refine need_look (by assumption) ?_ | with_reducible refine need_look (look_put (by assumption) (by assumption)) ?_ | with_reducible refine need_look (look_lec (by assumption) (by assumption)) ?_ | with_reducible refine need_look (look_put (AH.put_same _ _ _) (by assumption)) ?_ | with_reducible refine need_look (look_lec (AH.put_same _ _ _) (by assumption)) ?_ | with_reducible refine need_look (look_put (look_put (by assumption) (by assumption)) (by assumption)) ?_ | with_reducible refine need_look (look_lec (look_put (by assumption) (by assumption)) (by assumption)) ?_ | with_reducible refine need_look (look_put (look_lec (by assumption) (by assumption)) (by assumption)) ?_ | with_reducible refine need_look (look_lec (look_lec (by assumption) (by assumption)) (by assumption)) ?_ | with_reducible refine need_look (look_put (look_put (AH.put_same _ _ _) (by assumption)) (by assumption)) ?_ | with_reducible refine need_look (look_lec (look_put (AH.put_same _ _ _) (by assumption)) (by assumption)) ?_ | with_reducible refine need_look (look_put (look_lec (AH.put_same _ _ _) (by assumption)) (by assumption)) ?_ | with_reducible refine need_look (look_lec (look_lec (AH.put_same _ _ _) (by assumption)) (by assumption)) ?_) <;> (try simp -implicitDefEqProofs (disch := omega) only [go_sem, eq_self, decide_true, decide_false, Nat.reduceBEq, Nat.reduceAdd, Nat.reduceSub, Nat.reduceMul, Nat.reduceEqDiff, Nat.reduceLeDiff, Nat.reduceLT, Int.reduceLE, Int.reduceLT, Int.reduceToNat, Int.reduceAdd, Int.reduceEq, Int.reduceNeg, AH.put_ne, wrap_id, hm, ht, hk])))
      all_goals exact end_eq rfl (AH.le_refl _)
theorem bcount_calls {r : Rl} {k : Nat} {s n : Int} {l : Bool} {H : AH} (hk : H k = some (.cells [.int .i64 r.b, .int .i64 r.c, .int .i64 r.t, .int .i64 r.m, .int .i64 s, .int .i64 n, .bool l])) :
    ACalls Tryz.prog 54 [.ptr k 0] H (fun o H' => o = .ret (.int .i64 n) ∧ H' = H) := by
  refine ACalls.drop ?_
  refine acalls Tryz.func54 c54 r54 (by simp [Tryz.ntmps54]) ?_
  repeat' (first | with_reducible refine am_seq ?_ | with_reducible refine am_block ?_ | ((with_reducible apply am_cond); (case hb => rfl); all_goals (intro hc; (try simp only [reduceCtorEq, decide_eq_true_eq, decide_eq_false_iff_not, Bool.or_eq_true, Bool.and_eq_true, Bool.or_eq_false_iff, Bool.not_eq_true', Bool.not_eq_false', beq_iff_eq] at hc); (try (exfalso; omega)))) | ((first | with_reducible refine am_reg ?_ | with_reducible refine am_drw ?_ | with_reducible refine am_skip ?_ | with_reducible refine am_exit ?_ | with_reducible refine am_ret ?_ | with_reducible refine And.intro (by first | exact AH.lec_refl _ | assumption | exact AccP.lec (by assumption) | omega) ?_ | with_reducible refine isnE_of (fun hc => ?_) (fun hc => ?_) (fun hc => ?_) | ((first | with_reducible refine gd_not (fun hc => ?_) (fun hc => ?_) | with_reducible refine gd_of (fun hc => ?_) (fun hc => ?_) | with_reducible refine gq_not (fun hc => ?_) (fun hc => ?_) | with_reducible refine gq_of (fun hc => ?_) (fun hc => ?_) | with_reducible refine pickB_of (fun hc => ?_) (fun hc => ?_)) <;> (try simp -implicitDefEqProofs (disch := omega) only [go_sem, eq_self, decide_true, decide_false, Nat.reduceBEq, Nat.reduceAdd, Nat.reduceSub, Nat.reduceMul, Nat.reduceEqDiff, Nat.reduceLeDiff, Nat.reduceLT, Int.reduceLE, Int.reduceLT, Int.reduceToNat, Int.reduceAdd, Int.reduceEq, Int.reduceNeg, AH.put_ne, hc, hk]) <;> (try simp only [reduceCtorEq, decide_eq_true_eq, decide_eq_false_iff_not, Bool.or_eq_true, Bool.and_eq_true, Bool.or_eq_false_iff, Bool.not_eq_true', Bool.not_eq_false', beq_iff_eq] at hc) <;> (try (exfalso; omega))) | ((with_reducible refine alloc_intro (fun ko hko => ?_)) <;> (try have hne := fresh_ne (by assumption) hko) <;> (try have hnk := fresh_ne hk hko) <;> (try have hnk2 := fresh_ne hk2 hko) <;> (try simp only [AH.put_none] at hko)) | ((first | (with_reducible refine vapp_accL (by assumption) ?_ (fun v2 H2 hacc hlec => ?_)) | (with_reducible refine vapp_accL (AccP.mono (by assumption) (AccP.le (by assumption))) ?_ (fun v2 H2 hacc hlec => ?_)) | (with_reducible refine vapp_accL (AccP.new (by assumption) (by assumption) _) ?_ (fun v2 H2 hacc hlec => ?_))); · simp only [byteCells_length, List.length_cons, List.length_nil, List.length_map, List.length_append, intsE_length]; omega) | with_reducible refine need_elems (by assumption) ?_ | with_reducible refine vlen_acc (by assumption) ?_ | with_reducible refine need_bytes (by assumption) ?_ | with_reducible refine need_look (by assumption) ?_ | with_reducible refine need_look (look_put (by assumption) (by assumption)) ?_ | with_reducible refine need_look (look_lec (by assumption) (by assumption)) ?_ | with_reducible refine need_look (look_put (AH.put_same _ _ _) (by assumption)) ?_ | with_reducible refine need_look (look_lec (AH.put_same _ _ _) (by assumption)) ?_ | with_reducible refine need_look (look_put (look_put (by assumption) (by assumption)) (by assumption)) ?_ | with_reducible refine need_look (look_lec (look_put (by assumption) (by assumption)) (by assumption)) ?_ | with_reducible refine need_look (look_put (look_lec (by assumption) (by assumption)) (by assumption)) ?_ | with_reducible refine need_look (look_lec (look_lec (by assumption) (by assumption)) (by assumption)) ?_ | with_reducible refine need_look (look_put (look_put (AH.put_same _ _ _) (by assumption)) (by assumption)) ?_ | with_reducible refine need_look (look_lec (look_put (AH.put_same _ _ _) (by assumption)) (by assumption)) ?_ | with_reducible refine need_look (look_put (look_lec (AH.put_same _ _ _) (by assumption)) (by assumption)) ?_ | with_reducible refine need_look (look_lec (look_lec (AH.put_same _ _ _) (by assumption)) (by assumption)) ?_) <;> (try simp -implicitDefEqProofs (disch := omega) only [go_sem, eq_self, decide_true, decide_false, Nat.reduceBEq, Nat.reduceAdd, Nat.reduceSub, Nat.reduceMul, Nat.reduceEqDiff, Nat.reduceLeDiff, Nat.reduceLT, Int.reduceLE, Int.reduceLT, Int.reduceToNat, Int.reduceAdd, Int.reduceEq, Int.reduceNeg, AH.put_ne, hk])))
  all_goals exact end_same
theorem breset_calls {r : Rl} {k : Nat} {s n : Int} {l : Bool} {H : AH} (hk : H k = some (.cells [.int .i64 r.b, .int .i64 r.c, .int .i64 r.t, .int .i64 r.m, .int .i64 s, .int .i64 n, .bool l])) :
    ACalls Tryz.prog 53 [.ptr k 0] H (fun o H' => o = .ret (.bool (decide (0 < n))) ∧ H' = H.put k (stO r s 0 false)) := by
  refine ACalls.dropG ?_
  refine acalls Tryz.func53 c53 r53 (by simp [Tryz.ntmps53]) ?_
  repeat' (first | with_reducible refine am_seq ?_ | with_reducible refine am_block ?_ | ((with_reducible apply am_cond); (case hb => rfl); all_goals (intro hc; (try simp only [reduceCtorEq, decide_eq_true_eq, decide_eq_false_iff_not, Bool.or_eq_true, Bool.and_eq_true, Bool.or_eq_false_iff, Bool.not_eq_true', Bool.not_eq_false', beq_iff_eq] at hc); (try (exfalso; omega)))) | ((first | with_reducible refine am_reg ?_ | with_reducible refine am_drw ?_ | with_reducible refine am_skip ?_ | with_reducible refine am_exit ?_ | with_reducible refine am_ret ?_ | with_reducible refine And.intro (by first | exact AH.lec_refl _ | assumption | exact AccP.lec (by assumption) | omega) ?_ | with_reducible refine isnE_of (fun hc => ?_) (fun hc => ?_) (fun hc => ?_) | ((first | with_reducible refine gd_not (fun hc => ?_) (fun hc => ?_) | with_reducible refine gd_of (fun hc => ?_) (fun hc => ?_) | with_reducible refine gq_not (fun hc => ?_) (fun hc => ?_) | with_reducible refine gq_of (fun hc => ?_) (fun hc => ?_) | with_reducible refine pickB_of (fun hc => ?_) (fun hc => ?_)) <;> (try simp -implicitDefEqProofs (disch := omega) only [go_sem, eq_self, decide_true, decide_false, Nat.reduceBEq, Nat.reduceAdd, Nat.reduceSub, Nat.reduceMul, Nat.reduceEqDiff, Nat.reduceLeDiff, Nat.reduceLT, Int.reduceLE, Int.reduceLT, Int.reduceToNat, Int.reduceAdd, Int.reduceEq, Int.reduceNeg, AH.put_ne, hc, hk]) <;> (try simp only [reduceCtorEq, decide_eq_true_eq, decide_eq_false_iff_not, Bool.or_eq_true, Bool.and_eq_true, Bool.or_eq_false_iff, Bool.not_eq_true', Bool.not_eq_false', beq_iff_eq] at hc) <;> (try (exfalso; omega))) | ((with_reducible refine alloc_intro (fun ko hko => ?_)) <;> (try have hne := fresh_ne (by assumption) hko) <;> (try have hnk := fresh_ne hk hko) <;> (try have hnk2 := fresh_ne hk2 hko) <;> (try simp only [AH.put_none] at hko)) | ((first | (with_reducible refine vapp_accL (by assumption) ?_ (fun v2 H2 hacc hlec => ?_)) | (with_reducible refine vapp_accL (AccP.mono (by assumption) (AccP.le (by assumption))) ?_ (fun v2 H2 hacc hlec => ?_)) | (with_reducible refine vapp_accL (AccP.new (by assumption) (by assumption) _) ?_ (fun v2 H2 hacc hlec => ?_))); · simp only [byteCells_length, List.length_cons, List.length_nil, List.length_map, List.length_append, intsE_length]; omega) | with_reducible refine need_elems (by assumption) ?_ | with_reducible refine vlen_acc (by assumption) ?_ | with_reducible refine need_bytes (by assumption) ?_ | with_reducible refine need_look (by assumption) ?_ | with_reducible refine need_look (look_put (by assumption) (by assumption)) ?_ | with_reducible refine need_look (look_lec (by assumption) (by assumption)) ?_ | with_reducible refine need_look (look_put (AH.put_same _ _ _) (by assumption)) ?_ | with_reducible refine need_look (look_lec (AH.put_same _ _ _) (by assumption)) ?_ | with_reducible refine need_look (look_put (look_put (by assumption) (by assumption)) (by assumption)) ?_ | with_reducible refine need_look (look_lec (look_put (by assumption) (by assumption)) (by assumption)) ?_ | with_reducible refine need_look (look_put (look_lec (by assumption) (by assumption)) (by assumption)) ?_ | with_reducible refine need_look (look_lec (look_lec (by assumption) (by assumption)) (by assumption)) ?_ | with_reducible refine need_look (look_put (look_put (AH.put_same _ _ _) (by assumption)) (by assumption)) ?_ | with_reducible refine need_look (look_lec (look_put (AH.put_same _ _ _) (by assumption)) (by assumption)) ?_ | with_reducible refine need_look (look_put (look_lec (AH.put_same _ _ _) (by assumption)) (by assumption)) ?_ | with_reducible refine need_look (look_lec (look_lec (AH.put_same _ _ _) (by assumption)) (by assumption)) ?_) <;> (try simp -implicitDefEqProofs (disch := omega) only [go_sem, eq_self, decide_true, decide_false, Nat.reduceBEq, Nat.reduceAdd, Nat.reduceSub, Nat.reduceMul, Nat.reduceEqDiff, Nat.reduceLeDiff, Nat.reduceLT, Int.reduceLE, Int.reduceLT, Int.reduceToNat, Int.reduceAdd, Int.reduceEq, Int.reduceNeg, AH.put_ne, hk])))
  all_goals exact end_eq rfl (AH.le_refl _)
theorem bnew_calls {r : Rl} (hr : r.ok) (H : AH) : ACalls Tryz.prog 78 [.agg [.int .i64 r.b, .int .i64 r.c, .int .i64 r.t, .int .i64 r.m]] H (fun o H' => ∃ v, o = .ret v ∧ ∃ k, v = .tuple [.ptr k 0, .int .i64 0] ∧ H k = none ∧ H' = H.put k (stO r 0 0 false)) := by
  refine acalls Tryz.func78 c78 r78 (by simp [Tryz.ntmps78]) ?_
  repeat' (first | with_reducible refine am_seq ?_ | with_reducible refine am_block ?_ | ((with_reducible apply am_cond); (case hb => rfl); all_goals (intro hc; (try simp only [reduceCtorEq, decide_eq_true_eq, decide_eq_false_iff_not, Bool.or_eq_true, Bool.and_eq_true, Bool.or_eq_false_iff, Bool.not_eq_true', Bool.not_eq_false', beq_iff_eq] at hc); (try (exfalso; omega)))) | ((first | with_reducible refine am_reg ?_ | with_reducible refine am_drw ?_ | with_reducible refine am_skip ?_ | with_reducible refine am_exit ?_ | with_reducible refine am_ret ?_ | with_reducible refine And.intro (by first | exact AH.lec_refl _ | assumption | exact AccP.lec (by assumption) | omega) ?_ | with_reducible refine isnE_of (fun hc => ?_) (fun hc => ?_) (fun hc => ?_) | ((first | with_reducible refine gd_not (fun hc => ?_) (fun hc => ?_) | with_reducible refine gd_of (fun hc => ?_) (fun hc => ?_) | with_reducible refine gq_not (fun hc => ?_) (fun hc => ?_) | with_reducible refine gq_of (fun hc => ?_) (fun hc => ?_) | with_reducible refine pickB_of (fun hc => ?_) (fun hc => ?_)) <;> (try simp -implicitDefEqProofs (disch := omega) only [go_sem, eq_self, decide_true, decide_false, Nat.reduceBEq, Nat.reduceAdd, Nat.reduceSub, Nat.reduceMul, Nat.reduceEqDiff, Nat.reduceLeDiff, Nat.reduceLT, Int.reduceLE, Int.reduceLT, Int.reduceToNat, Int.reduceAdd, Int.reduceEq, Int.reduceNeg, AH.put_ne, hc, hr]) <;> (try simp only [reduceCtorEq, decide_eq_true_eq, decide_eq_false_iff_not, Bool.or_eq_true, Bool.and_eq_true, Bool.or_eq_false_iff, Bool.not_eq_true', Bool.not_eq_false', beq_iff_eq] at hc) <;> (try (exfalso; omega))) | ((with_reducible refine alloc_intro (fun ko hko => ?_)) <;> (try have hne := fresh_ne (by assumption) hko) <;> (try have hnk := fresh_ne hk hko) <;> (try have hnk2 := fresh_ne hk2 hko) <;> (try simp only [AH.put_none] at hko)) | ((first | (with_reducible refine vapp_accL (by assumption) ?_ (fun v2 H2 hacc hlec => ?_)) | (with_reducible refine vapp_accL (AccP.mono (by assumption) (AccP.le (by assumption))) ?_ (fun v2 H2 hacc hlec => ?_)) | (with_reducible refine vapp_accL (AccP.new (by assumption) (by assumption) _) ?_ (fun v2 H2 hacc hlec => ?_))); · simp only [byteCells_length, List.length_cons, List.length_nil, List.length_map, List.length_append, intsE_length]; omega) | with_reducible refine need_elems (by assumption) ?_ | with_reducible refine vlen_acc (by assumption) ?_ | with_reducible refine need_bytes (by assumption) ?_ | (first | with_reducible refine call_of (rightC_calls hr) ?_ | with_reducible refine qcall_of (rightC_calls hr) ?_) | with_reducible refine need_look (by assumption) ?_ | with_reducible refine need_look (look_put (by assumption) (by assumption)) ?_ | with_reducible refine need_look (look_lec (by assumption) (by assumption)) ?_ | with_reducible refine need_look (look_put (AH.put_same _ _ _) (by assumption)) ?_ | with_reducible refine need_look (look_lec (AH.put_same _ _ _) (by assumption)) ?_ | with_reducible refine need_look (look_put (look_put (by assumption) (by assumption)) (by assumption)) ?_ | with_reducible refine need_look (look_lec (look_put (by assumption) (by assumption)) (by assumption)) ?_ | with_reducible refine need_look (look_put (look_lec (by assumption) (by assumption)) (by assumption)) ?_ | with_reducible refine need_look (look_lec (look_lec (by assumption) (by assumption)) (by assumption)) ?_ | with_reducible refine need_look (look_put (look_put (AH.put_same _ _ _) (by assumption)) (by assumption)) ?_ | with_reducible refine need_look (look_lec (look_put (AH.put_same _ _ _) (by assumption)) (by assumption)) ?_ | with_reducible refine need_look (look_put (look_lec (AH.put_same _ _ _) (by assumption)) (by assumption)) ?_ | with_reducible refine need_look (look_lec (look_lec (AH.put_same _ _ _) (by assumption)) (by assumption)) ?_) <;> (try simp -implicitDefEqProofs (disch := omega) only [go_sem, eq_self, decide_true, decide_false, Nat.reduceBEq, Nat.reduceAdd, Nat.reduceSub, Nat.reduceMul, Nat.reduceEqDiff, Nat.reduceLeDiff, Nat.reduceLT, Int.reduceLE, Int.reduceLT, Int.reduceToNat, Int.reduceAdd, Int.reduceEq, Int.reduceNeg, AH.put_ne, hr])))
  exact ⟨_, rfl, ko, rfl, hko, rfl⟩
theorem snew_calls {a b : Int} (h1 : 64 ≤ a) (h2 : a ≤ 4096) (h3 : 1 ≤ b) (h4 : b ≤ 1000000) (H : AH) : ACalls Tryz.prog 28 [.int .i64 a, .int .i64 b] H (fun o H' => ∃ v, o = .ret v ∧ ∃ k, v = .tuple [.ptr k 0, .int .i64 0] ∧ H k = none ∧ H' = H.put k (.cells [.int .i64 0, .nilSl, .nilMap, .int .i64 a, .int .i64 b, .int .i64 0, .int .i64 0, .int .i64 0, .int .i64 0, .nilPtr, .nilSl])) := by
  refine acalls Tryz.func28 c28 r28 (by simp [Tryz.ntmps28]) ?_
  have e1 : ¬ a < 64 := by omega
  have e2 : ¬ 4096 < a := by omega
  have e3 : ¬ b < 1 := by omega
  have e4 : ¬ 1000000 < b := by omega
  repeat' (first | with_reducible refine am_seq ?_ | with_reducible refine am_block ?_ | ((with_reducible apply am_cond); (case hb => rfl); all_goals (intro hc; (try simp only [reduceCtorEq, decide_eq_true_eq, decide_eq_false_iff_not, Bool.or_eq_true, Bool.and_eq_true, Bool.or_eq_false_iff, Bool.not_eq_true', Bool.not_eq_false', beq_iff_eq] at hc); (try (exfalso; omega)))) | ((first | with_reducible refine am_reg ?_ | with_reducible refine am_drw ?_ | with_reducible refine am_skip ?_ | with_reducible refine am_exit ?_ | with_reducible refine am_ret ?_ | with_reducible refine And.intro (by first | exact AH.lec_refl _ | assumption | exact AccP.lec (by assumption) | omega) ?_ | with_reducible refine isnE_of (fun hc => ?_) (fun hc => ?_) (fun hc => ?_) | ((first | with_reducible refine gd_not (fun hc => ?_) (fun hc => ?_) | with_reducible refine gd_of (fun hc => ?_) (fun hc => ?_) | with_reducible refine gq_not (fun hc => ?_) (fun hc => ?_) | with_reducible refine gq_of (fun hc => ?_) (fun hc => ?_) | with_reducible refine pickB_of (fun hc => ?_) (fun hc => ?_)) <;> (try simp -implicitDefEqProofs (disch := omega) only [go_sem, eq_self, decide_true, decide_false, Nat.reduceBEq, Nat.reduceAdd, Nat.reduceSub, Nat.reduceMul, Nat.reduceEqDiff, Nat.reduceLeDiff, Nat.reduceLT, Int.reduceLE, Int.reduceLT, Int.reduceToNat, Int.reduceAdd, Int.reduceEq, Int.reduceNeg, AH.put_ne, hc, e1, e2, e3, e4]) <;> (try simp only [reduceCtorEq, decide_eq_true_eq, decide_eq_false_iff_not, Bool.or_eq_true, Bool.and_eq_true, Bool.or_eq_false_iff, Bool.not_eq_true', Bool.not_eq_false', beq_iff_eq] at hc) <;> (try (exfalso; omega))) | ((with_reducible refine alloc_intro (fun ko hko => ?_)) <;> (try have hne := fresh_ne (by assumption) hko) <;> (try have hnk := fresh_ne hk hko) <;> (try have hnk2 := fresh_ne hk2 hko) <;> (try simp only [AH.put_none] at hko)) | ((first | (with_reducible refine vapp_accL (by assumption) ?_ (fun v2 H2 hacc hlec => ?_)) | (with_reducible refine vapp_accL (AccP.mono (by assumption) (AccP.le (by assumption))) ?_ (fun v2 H2 hacc hlec => ?_)) | (with_reducible refine vapp_accL (AccP.new (by assumption) (by assumption) _) ?_ (fun v2 H2 hacc hlec => ?_))); · simp only [byteCells_length, List.length_cons, List.length_nil, List.length_map, List.length_append, intsE_length]; omega) | with_reducible refine need_elems (by assumption) ?_ | with_reducible refine vlen_acc (by assumption) ?_ | with_reducible refine need_bytes (by assumption) ?_ | with_reducible refine need_look (by assumption) ?_ | with_reducible refine need_look (look_put (by assumption) (by assumption)) ?_ | with_reducible refine need_look (look_lec (by assumption) (by assumption)) ?_ | with_reducible refine need_look (look_put (AH.put_same _ _ _) (by assumption)) ?_ | with_reducible refine need_look (look_lec (AH.put_same _ _ _) (by assumption)) ?_ | with_reducible refine need_look (look_put (look_put (by assumption) (by assumption)) (by assumption)) ?_ | with_reducible refine need_look (look_lec (look_put (by assumption) (by assumption)) (by assumption)) ?_ | with_reducible refine need_look (look_put (look_lec (by assumption) (by assumption)) (by assumption)) ?_ | with_reducible refine need_look (look_lec (look_lec (by assumption) (by assumption)) (by assumption)) ?_ | with_reducible refine need_look (look_put (look_put (AH.put_same _ _ _) (by assumption)) (by assumption)) ?_ | with_reducible refine need_look (look_lec (look_put (AH.put_same _ _ _) (by assumption)) (by assumption)) ?_ | with_reducible refine need_look (look_put (look_lec (AH.put_same _ _ _) (by assumption)) (by assumption)) ?_ | with_reducible refine need_look (look_lec (look_lec (AH.put_same _ _ _) (by assumption)) (by assumption)) ?_) <;> (try simp -implicitDefEqProofs (disch := omega) only [go_sem, eq_self, decide_true, decide_false, Nat.reduceBEq, Nat.reduceAdd, Nat.reduceSub, Nat.reduceMul, Nat.reduceEqDiff, Nat.reduceLeDiff, Nat.reduceLT, Int.reduceLE, Int.reduceLT, Int.reduceToNat, Int.reduceAdd, Int.reduceEq, Int.reduceNeg, AH.put_ne, e1, e2, e3, e4])))
  exact ⟨_, rfl, ko, rfl, hko, rfl⟩
theorem is_calls {kb k : Nat} {lim wt st un : Int} {s : V} {l : List Int} {t : Tok} {H : AH} (hl : l.length < 1000) (hk : H k = some (.cells [.ptr kb 0, .int .i64 lim, .int .i64 wt, .int .i64 st, .int .i64 un, s])) :
    ACalls Tryz.prog 48 [.ptr k 0, .sl 1 (intsE l) t] H (fun o H' => o = .ret (.bool (l.any (fun n => decide (st = n)))) ∧ H' = H) := by
  refine ACalls.drop ?_
  refine acalls Tryz.func48 c48 r48 (by simp [Tryz.ntmps48]) ?_
  repeat' (first | with_reducible refine am_seq ?_ | with_reducible refine am_block ?_ | ((with_reducible apply am_cond); (case hb => rfl); all_goals (intro hc; (try simp only [reduceCtorEq, decide_eq_true_eq, decide_eq_false_iff_not, Bool.or_eq_true, Bool.and_eq_true, Bool.or_eq_false_iff, Bool.not_eq_true', Bool.not_eq_false', beq_iff_eq] at hc); (try (exfalso; omega)))) | ((first | with_reducible refine am_reg ?_ | with_reducible refine am_drw ?_ | with_reducible refine am_skip ?_ | with_reducible refine am_exit ?_ | with_reducible refine am_ret ?_ | with_reducible refine And.intro (by first | exact AH.lec_refl _ | assumption | exact AccP.lec (by assumption) | omega) ?_ | with_reducible refine isnE_of (fun hc => ?_) (fun hc => ?_) (fun hc => ?_) | ((first | with_reducible refine gd_not (fun hc => ?_) (fun hc => ?_) | with_reducible refine gd_of (fun hc => ?_) (fun hc => ?_) | with_reducible refine gq_not (fun hc => ?_) (fun hc => ?_) | with_reducible refine gq_of (fun hc => ?_) (fun hc => ?_) | with_reducible refine pickB_of (fun hc => ?_) (fun hc => ?_)) <;> (try simp -implicitDefEqProofs (disch := omega) only [go_sem, eq_self, decide_true, decide_false, Nat.reduceBEq, Nat.reduceAdd, Nat.reduceSub, Nat.reduceMul, Nat.reduceEqDiff, Nat.reduceLeDiff, Nat.reduceLT, Int.reduceLE, Int.reduceLT, Int.reduceToNat, Int.reduceAdd, Int.reduceEq, Int.reduceNeg, AH.put_ne, hc, wrap_id, hk]) <;> (try simp only [reduceCtorEq, decide_eq_true_eq, decide_eq_false_iff_not, Bool.or_eq_true, Bool.and_eq_true, Bool.or_eq_false_iff, Bool.not_eq_true', Bool.not_eq_false', beq_iff_eq] at hc) <;> (try (exfalso; omega))) | ((with_reducible refine alloc_intro (fun ko hko => ?_)) <;> (try have hne := fresh_ne (by assumption) hko) <;> (try have hnk := fresh_ne hk hko) <;> (try have hnk2 := fresh_ne hk2 hko) <;> (try simp only [AH.put_none] at hko)) | ((first | (with_reducible refine vapp_accL (by assumption) ?_ (fun v2 H2 hacc hlec => ?_)) | (with_reducible refine vapp_accL (AccP.mono (by assumption) (AccP.le (by assumption))) ?_ (fun v2 H2 hacc hlec => ?_)) | (with_reducible refine vapp_accL (AccP.new (by assumption) (by assumption) _) ?_ (fun v2 H2 hacc hlec => ?_))); · simp only [byteCells_length, List.length_cons, List.length_nil, List.length_map, List.length_append, intsE_length]; omega) | with_reducible refine need_elems (by assumption) ?_ | with_reducible refine vlen_acc (by assumption) ?_ | with_reducible refine need_bytes (by assumption) ?_ | with_reducible refine need_look (by assumption) ?_ | with_reducible refine need_look (look_put (by assumption) (by assumption)) ?_ | with_reducible refine need_look (look_lec (by assumption) (by assumption)) ?_ | with_reducible refine need_look (look_put (AH.put_same _ _ _) (by assumption)) ?_ | with_reducible refine need_look (look_lec (AH.put_same _ _ _) (by assumption)) ?_ | with_reducible refine need_look (look_put (look_put (by assumption) (by assumption)) (by assumption)) ?_ | with_reducible refine need_look (look_lec (look_put (by assumption) (by assumption)) (by assumption)) ?_ | with_reducible refine need_look (look_put (look_lec (by assumption) (by assumption)) (by assumption)) ?_ | with_reducible refine need_look (look_lec (look_lec (by assumption) (by assumption)) (by assumption)) ?_ | with_reducible refine need_look (look_put (look_put (AH.put_same _ _ _) (by assumption)) (by assumption)) ?_ | with_reducible refine need_look (look_lec (look_put (AH.put_same _ _ _) (by assumption)) (by assumption)) ?_ | with_reducible refine need_look (look_put (look_lec (AH.put_same _ _ _) (by assumption)) (by assumption)) ?_ | with_reducible refine need_look (look_lec (look_lec (AH.put_same _ _ _) (by assumption)) (by assumption)) ?_) <;> (try simp -implicitDefEqProofs (disch := omega) only [go_sem, eq_self, decide_true, decide_false, Nat.reduceBEq, Nat.reduceAdd, Nat.reduceSub, Nat.reduceMul, Nat.reduceEqDiff, Nat.reduceLeDiff, Nat.reduceLT, Int.reduceLE, Int.reduceLT, Int.reduceToNat, Int.reduceAdd, Int.reduceEq, Int.reduceNeg, AH.put_ne, wrap_id, hk])))
  refine am_loop (fun n a H' => ∃ i : Nat, i + n = l.length ∧ a = [(0, .ptr k 0), (7, .sl 1 (intsE l) t), (8, .int .i64 l.length), (9, .int .i64 i)] ∧ H' = H ∧ (l.any (fun n => decide (st = n))) = ((l.drop i).any (fun n => decide (st = n)))) ?_ l.length ⟨0, by omega, rfl, rfl, rfl⟩
  rintro n a H' ⟨i, hi, rfl, rfl, hb⟩
  by_cases hlt : i < l.length
  · rw [List.drop_eq_getElem_cons hlt, List.any_cons] at hb
    by_cases h : st = l[i]
    · rw [decide_eq_true h, Bool.true_or] at hb
      repeat' (first | with_reducible refine am_seq ?_ | with_reducible refine am_block ?_ | ((with_reducible apply am_cond); (case hb => rfl); all_goals (intro hc; (try simp only [reduceCtorEq, decide_eq_true_eq, decide_eq_false_iff_not, Bool.or_eq_true, Bool.and_eq_true, Bool.or_eq_false_iff, Bool.not_eq_true', Bool.not_eq_false', beq_iff_eq] at hc); (try (exfalso; omega)))) | ((first | with_reducible refine am_reg ?_ | with_reducible refine am_drw ?_ | with_reducible refine am_skip ?_ | with_reducible refine am_exit ?_ | with_reducible refine am_ret ?_ | with_reducible refine And.intro (by first | exact AH.lec_refl _ | assumption | exact AccP.lec (by assumption) | omega) ?_ | with_reducible refine isnE_of (fun hc => ?_) (fun hc => ?_) (fun hc => ?_) | ((first | with_reducible refine gd_not (fun hc => ?_) (fun hc => ?_) | with_reducible refine gd_of (fun hc => ?_) (fun hc => ?_) | with_reducible refine gq_not (fun hc => ?_) (fun hc => ?_) | with_reducible refine gq_of (fun hc => ?_) (fun hc => ?_) | with_reducible refine pickB_of (fun hc => ?_) (fun hc => ?_)) <;> (try simp -implicitDefEqProofs (disch := omega) only [go_sem, eq_self, decide_true, decide_false, Nat.reduceBEq, Nat.reduceAdd, Nat.reduceSub, Nat.reduceMul, Nat.reduceEqDiff, Nat.reduceLeDiff, Nat.reduceLT, Int.reduceLE, Int.reduceLT, Int.reduceToNat, Int.reduceAdd, Int.reduceEq, Int.reduceNeg, AH.put_ne, hc, wrap_id, hk, get_of_lt hlt, h]) <;> (try simp only [reduceCtorEq, decide_eq_true_eq, decide_eq_false_iff_not, Bool.or_eq_true, Bool.and_eq_true, Bool.or_eq_false_iff, Bool.not_eq_true', Bool.not_eq_false', beq_iff_eq] at hc) <;> (try (exfalso; omega))) | ((with_reducible refine alloc_intro (fun ko hko => ?_)) <;> (try have hne := fresh_ne (by assumption) hko) <;> (try have hnk := fresh_ne hk hko) <;> (try have hnk2 := fresh_ne hk2 hko) <;> (try simp only [AH.put_none] at hko)) | ((first | (with_reducible refine vapp_accL (by assumption) ?_ (fun v2 H2 hacc hlec => ?_)) | (with_reducible refine vapp_accL (AccP.mono (by assumption) (AccP.le (by assumption))) ?_ (fun v2 H2 hacc hlec => ?_)) | (with_reducible refine vapp_accL (AccP.new (by assumption) (by assumption) _) ?_ (fun v2 H2 hacc hlec => ?_))); · simp only [byteCells_length, List.length_cons, List.length_nil, List.length_map, List.length_append, intsE_length]; omega) | with_reducible refine need_elems (by assumption) ?_ | with_reducible refine vlen_acc (by assumption) ?_ | with_reducible refine need_bytes (by assumption) ?_ | with_reducible refine need_look (by assumption) ?_ | with_reducible refine need_look (look_put (by assumption) (by assumption)) ?_ | with_reducible refine need_look (look_lec (by assumption) (by assumption)) ?_ | with_reducible refine need_look (look_put (AH.put_same _ _ _) (by assumption)) ?_ | with_reducible refine need_look (look_lec (AH.put_same _ _ _) (by assumption)) ?_ | with_reducible refine need_look (look_put (look_put (by assumption) (by assumption)) (by assumption)) ?_ | with_reducible refine need_look (look_lec (look_put (by assumption) (by assumption)) (by assumption)) ?_ | with_reducible refine need_look (look_put (look_lec (by assumption) (by assumption)) (by assumption)) ?_ | with_reducible refine need_look (look_lec (look_lec (by assumption) (by assumption)) (by assumption)) ?_ | with_reducible refine need_look (look_put (look_put (AH.put_same _ _ _) (by assumption)) (by assumption)) ?_ | with_reducible refine need_look (look_lec (look_put (AH.put_same _ _ _) (by assumption)) (by assumption)) ?_ | with_reducible refine need_look (look_put (look_lec (AH.put_same _ _ _) (by assumption)) (by assumption)) ?_ | with_reducible refine need_look (look_lec (look_lec (AH.put_same _ _ _) (by assumption)) (by assumption)) ?_) <;> (try simp -implicitDefEqProofs (disch := omega) only [go_sem, eq_self, decide_true, decide_false, Nat.reduceBEq, Nat.reduceAdd, Nat.reduceSub, Nat.reduceMul, Nat.reduceEqDiff, Nat.reduceLeDiff, Nat.reduceLT, Int.reduceLE, Int.reduceLT, Int.reduceToNat, Int.reduceAdd, Int.reduceEq, Int.reduceNeg, AH.put_ne, wrap_id, hk, get_of_lt hlt, h])))
      all_goals exact end_eq (by rw [← h, hb]) (AH.le_refl _)
    · rw [decide_eq_false h, Bool.false_or] at hb
      repeat' (first | with_reducible refine am_seq ?_ | with_reducible refine am_block ?_ | ((with_reducible apply am_cond); (case hb => rfl); all_goals (intro hc; (try simp only [reduceCtorEq, decide_eq_true_eq, decide_eq_false_iff_not, Bool.or_eq_true, Bool.and_eq_true, Bool.or_eq_false_iff, Bool.not_eq_true', Bool.not_eq_false', beq_iff_eq] at hc); (try (exfalso; omega)))) | ((first | with_reducible refine am_reg ?_ | with_reducible refine am_drw ?_ | with_reducible refine am_skip ?_ | with_reducible refine am_exit ?_ | with_reducible refine am_ret ?_ | with_reducible refine And.intro (by first | exact AH.lec_refl _ | assumption | exact AccP.lec (by assumption) | omega) ?_ | with_reducible refine isnE_of (fun hc => ?_) (fun hc => ?_) (fun hc => ?_) | ((first | with_reducible refine gd_not (fun hc => ?_) (fun hc => ?_) | with_reducible refine gd_of (fun hc => ?_) (fun hc => ?_) | with_reducible refine gq_not (fun hc => ?_) (fun hc => ?_) | with_reducible refine gq_of (fun hc => ?_) (fun hc => ?_) | with_reducible refine pickB_of (fun hc => ?_) (fun hc => ?_)) <;> (try simp -implicitDefEqProofs (disch := omega) only [go_sem, eq_self, decide_true, decide_false, Nat.reduceBEq, Nat.reduceAdd, Nat.reduceSub, Nat.reduceMul, Nat.reduceEqDiff, Nat.reduceLeDiff, Nat.reduceLT, Int.reduceLE, Int.reduceLT, Int.reduceToNat, Int.reduceAdd, Int.reduceEq, Int.reduceNeg, AH.put_ne, hc, wrap_id, hk, get_of_lt hlt, h]) <;> (try simp only [reduceCtorEq, decide_eq_true_eq, decide_eq_false_iff_not, Bool.or_eq_true, Bool.and_eq_true, Bool.or_eq_false_iff, Bool.not_eq_true', Bool.not_eq_false', beq_iff_eq] at hc) <;> (try (exfalso; omega))) | ((with_reducible refine alloc_intro (fun ko hko => ?_)) <;> (try have hne := fresh_ne (by assumption) hko) <;> (try have hnk := fresh_ne hk hko) <;> (try have hnk2 := fresh_ne hk2 hko) <;> (try simp only [AH.put_none] at hko)) | ((first | (with_reducible refine vapp_accL (by assumption) ?_ (fun v2 H2 hacc hlec => ?_)) | (with_reducible refine vapp_accL (AccP.mono (by assumption) (AccP.le (by assumption))) ?_ (fun v2 H2 hacc hlec => ?_)) | (with_reducible refine vapp_accL (AccP.new (by assumption) (by assumption) _) ?_ (fun v2 H2 hacc hlec => ?_))); · simp only [byteCells_length, List.length_cons, List.length_nil, List.length_map, List.length_append, intsE_length]; omega) | with_reducible refine need_elems (by assumption) ?_ | with_reducible refine vlen_acc (by assumption) ?_ | with_reducible refine need_bytes (by assumption) ?_ | with_reducible refine need_look (by assumption) ?_ | with_reducible refine need_look (look_put (by assumption) (by assumption)) ?_ | with_reducible refine need_look (look_lec (by assumption) (by assumption)) ?_ | with_reducible refine need_look (look_put (AH.put_same _ _ _) (by assumption)) ?_ | with_reducible refine need_look (look_lec (AH.put_same _ _ _) (by assumption)) ?_ | with_reducible refine need_look (look_put (look_put (by assumption) (by assumption)) (by assumption)) ?_ | with_reducible refine need_look (look_lec (look_put (by assumption) (by assumption)) (by assumption)) ?_ | with_reducible refine need_look (look_put (look_lec (by assumption) (by assumption)) (by assumption)) ?_ | with_reducible refine need_look (look_lec (look_lec (by assumption) (by assumption)) (by assumption)) ?_ | with_reducible refine need_look (look_put (look_put (AH.put_same _ _ _) (by assumption)) (by assumption)) ?_ | with_reducible refine need_look (look_lec (look_put (AH.put_same _ _ _) (by assumption)) (by assumption)) ?_ | with_reducible refine need_look (look_put (look_lec (AH.put_same _ _ _) (by assumption)) (by assumption)) ?_ | with_reducible refine need_look (look_lec (look_lec (AH.put_same _ _ _) (by assumption)) (by assumption)) ?_) <;> (try simp -implicitDefEqProofs (disch := omega) only [go_sem, eq_self, decide_true, decide_false, Nat.reduceBEq, Nat.reduceAdd, Nat.reduceSub, Nat.reduceMul, Nat.reduceEqDiff, Nat.reduceLeDiff, Nat.reduceLT, Int.reduceLE, Int.reduceLT, Int.reduceToNat, Int.reduceAdd, Int.reduceEq, Int.reduceNeg, AH.put_ne, wrap_id, hk, get_of_lt hlt, h])))
      all_goals exact ⟨n - 1, by omega, i + 1, by omega, rfl, hb⟩
  · rw [List.drop_eq_nil_of_le (by omega), List.any_nil] at hb
    repeat' (first | with_reducible refine am_seq ?_ | with_reducible refine am_block ?_ | ((with_reducible apply am_cond); (case hb => rfl); all_goals (intro hc; (try simp only [reduceCtorEq, decide_eq_true_eq, decide_eq_false_iff_not, Bool.or_eq_true, Bool.and_eq_true, Bool.or_eq_false_iff, Bool.not_eq_true', Bool.not_eq_false', beq_iff_eq] at hc); (try (exfalso; omega)))) | ((first | with_reducible refine am_reg ?_ | with_reducible refine am_drw ?_ | with_reducible refine am_skip ?_ | with_reducible refine am_exit ?_ | with_reducible refine am_ret ?_ | with_reducible refine And.intro (by first | exact AH.lec_refl _ | assumption | exact AccP.lec (by assumption) | omega) ?_ | with_reducible refine isnE_of (fun hc => ?_) (fun hc => ?_) (fun hc => ?_) | ((first | with_reducible refine gd_not (fun hc => ?_) (fun hc => ?_) | with_reducible refine gd_of (fun hc => ?_) (fun hc => ?_) | with_reducible refine gq_not (fun hc => ?_) (fun hc => ?_) | with_reducible refine gq_of (fun hc => ?_) (fun hc => ?_) | with_reducible refine pickB_of (fun hc => ?_) (fun hc => ?_)) <;> (try simp -implicitDefEqProofs (disch := omega) only [go_sem, eq_self, decide_true, decide_false, Nat.reduceBEq, Nat.reduceAdd, Nat.reduceSub, Nat.reduceMul, Nat.reduceEqDiff, Nat.reduceLeDiff, Nat.reduceLT, Int.reduceLE, Int.reduceLT, Int.reduceToNat, Int.reduceAdd, Int.reduceEq, Int.reduceNeg, AH.put_ne, hc, wrap_id, hk]) <;> (try simp only [reduceCtorEq, decide_eq_true_eq, decide_eq_false_iff_not, Bool.or_eq_true, Bool.and_eq_true, Bool.or_eq_false_iff, Bool.not_eq_true', Bool.not_eq_false', beq_iff_eq] at hc) <;> (try (exfalso; omega))) | ((with_reducible refine alloc_intro (fun ko hko => ?_)) <;> (try have hne := fresh_ne (by assumption) hko) <;> (try have hnk := fresh_ne hk hko) <;> (try have hnk2 := fresh_ne hk2 hko) <;> (try simp only [AH.put_none] at hko)) | ((first | (with_reducible refine vapp_accL (by assumption) ?_ (fun v2 H2 hacc hlec => ?_)) | (with_reducible refine vapp_accL (AccP.mono (by assumption) (AccP.le (by assumption))) ?_ (fun v2 H2 hacc hlec => ?_)) | (with_reducible refine vapp_accL (AccP.new (by assumption) (by assumption) _) ?_ (fun v2 H2 hacc hlec => ?_))); · simp only [byteCells_length, List.length_cons, List.length_nil, List.length_map, List.length_append, intsE_length]; omega) | with_reducible refine need_elems (by assumption) ?_ | with_reducible refine vlen_acc (by assumption) ?_ | with_reducible refine need_bytes (by assumption) ?_ | with_reducible refine need_look (by assumption) ?_ | with_reducible refine need_look (look_put (by assumption) (by assumption)) ?_ | with_reducible refine need_look (look_lec (by assumption) (by assumption)) ?_ | with_reducible refine need_look (look_put (AH.put_same _ _ _) (by assumption)) ?_ | with_reducible refine need_look (look_lec (AH.put_same _ _ _) (by assumption)) ?_ | with_reducible refine need_look (look_put (look_put (by assumption) (by assumption)) (by assumption)) ?_ | with_reducible refine need_look (look_lec (look_put (by assumption) (by assumption)) (by assumption)) ?_ | with_reducible refine need_look (look_put (look_lec (by assumption) (by assumption)) (by assumption)) ?_ | with_reducible refine need_look (look_lec (look_lec (by assumption) (by assumption)) (by assumption)) ?_ | with_reducible refine need_look (look_put (look_put (AH.put_same _ _ _) (by assumption)) (by assumption)) ?_ | with_reducible refine need_look (look_lec (look_put (AH.put_same _ _ _) (by assumption)) (by assumption)) ?_ | with_reducible refine need_look (look_put (look_lec (AH.put_same _ _ _) (by assumption)) (by assumption)) ?_ | with_reducible refine need_look (look_lec (look_lec (AH.put_same _ _ _) (by assumption)) (by assumption)) ?_) <;> (try simp -implicitDefEqProofs (disch := omega) only [go_sem, eq_self, decide_true, decide_false, Nat.reduceBEq, Nat.reduceAdd, Nat.reduceSub, Nat.reduceMul, Nat.reduceEqDiff, Nat.reduceLeDiff, Nat.reduceLT, Int.reduceLE, Int.reduceLT, Int.reduceToNat, Int.reduceAdd, Int.reduceEq, Int.reduceNeg, AH.put_ne, wrap_id, hk])))
    all_goals exact end_eq (by rw [hb]) (AH.le_refl _)
theorem is1_calls {kb k : Nat} {lim wt st un x : Int} {s : V} {H : AH} (hk : H k = some (.cells [.ptr kb 0, .int .i64 lim, .int .i64 wt, .int .i64 st, .int .i64 un, s])) :
    ACalls Tryz.prog 48 [.ptr k 0, .sl 1 [[.int .i64 x]] .tight] H (fun o H' => o = .ret (.bool (decide (st = x))) ∧ H' = H) := by
  simpa [intsE] using is_calls (l := [x]) (t := .tight) (by simp) hk
theorem is2_calls {kb k : Nat} {lim wt st un x y : Int} {s : V} {H : AH} (hk : H k = some (.cells [.ptr kb 0, .int .i64 lim, .int .i64 wt, .int .i64 st, .int .i64 un, s])) :
    ACalls Tryz.prog 48 [.ptr k 0, .sl 1 [[.int .i64 x], [.int .i64 y]] .tight] H (fun o H' => o = .ret (.bool (decide (st = x) || decide (st = y))) ∧ H' = H) := by
  simpa [intsE] using is_calls (l := [x, y]) (t := .tight) (by simp) hk
theorem begin_calls {kb k : Nat} {lim wt st un : Int} {s : V} {H : AH} (hk : H k = some (.cells [.ptr kb 0, .int .i64 lim, .int .i64 wt, .int .i64 st, .int .i64 un, s])) :
    ACalls Tryz.prog 49 [.ptr k 0] H (fun o H' => o = .ret (.tuple [.sl 10 [evC 0 0 0] .tight, .int .i64 0]) ∧ H' = H.put k (kpO kb lim wt 1 un s)) := by
  refine ACalls.dropG ?_
  refine acalls Tryz.func49 c49 r49 (by simp [Tryz.ntmps49]) ?_
  repeat' (first | with_reducible refine am_seq ?_ | with_reducible refine am_block ?_ | ((with_reducible apply am_cond); (case hb => rfl); all_goals (intro hc; (try simp only [reduceCtorEq, decide_eq_true_eq, decide_eq_false_iff_not, Bool.or_eq_true, Bool.and_eq_true, Bool.or_eq_false_iff, Bool.not_eq_true', Bool.not_eq_false', beq_iff_eq] at hc); (try (exfalso; omega)))) | ((first | with_reducible refine am_reg ?_ | with_reducible refine am_drw ?_ | with_reducible refine am_skip ?_ | with_reducible refine am_exit ?_ | with_reducible refine am_ret ?_ | with_reducible refine And.intro (by first | exact AH.lec_refl _ | assumption | exact AccP.lec (by assumption) | omega) ?_ | with_reducible refine isnE_of (fun hc => ?_) (fun hc => ?_) (fun hc => ?_) | ((first | with_reducible refine gd_not (fun hc => ?_) (fun hc => ?_) | with_reducible refine gd_of (fun hc => ?_) (fun hc => ?_) | with_reducible refine gq_not (fun hc => ?_) (fun hc => ?_) | with_reducible refine gq_of (fun hc => ?_) (fun hc => ?_) | with_reducible refine pickB_of (fun hc => ?_) (fun hc => ?_)) <;> (try simp -implicitDefEqProofs (disch := omega) only [go_sem, eq_self, decide_true, decide_false, Nat.reduceBEq, Nat.reduceAdd, Nat.reduceSub, Nat.reduceMul, Nat.reduceEqDiff, Nat.reduceLeDiff, Nat.reduceLT, Int.reduceLE, Int.reduceLT, Int.reduceToNat, Int.reduceAdd, Int.reduceEq, Int.reduceNeg, AH.put_ne, hc, hk]) <;> (try simp only [reduceCtorEq, decide_eq_true_eq, decide_eq_false_iff_not, Bool.or_eq_true, Bool.and_eq_true, Bool.or_eq_false_iff, Bool.not_eq_true', Bool.not_eq_false', beq_iff_eq] at hc) <;> (try (exfalso; omega))) | ((with_reducible refine alloc_intro (fun ko hko => ?_)) <;> (try have hne := fresh_ne (by assumption) hko) <;> (try have hnk := fresh_ne hk hko) <;> (try have hnk2 := fresh_ne hk2 hko) <;> (try simp only [AH.put_none] at hko)) | ((first | (with_reducible refine vapp_accL (by assumption) ?_ (fun v2 H2 hacc hlec => ?_)) | (with_reducible refine vapp_accL (AccP.mono (by assumption) (AccP.le (by assumption))) ?_ (fun v2 H2 hacc hlec => ?_)) | (with_reducible refine vapp_accL (AccP.new (by assumption) (by assumption) _) ?_ (fun v2 H2 hacc hlec => ?_))); · simp only [byteCells_length, List.length_cons, List.length_nil, List.length_map, List.length_append, intsE_length]; omega) | with_reducible refine need_elems (by assumption) ?_ | with_reducible refine vlen_acc (by assumption) ?_ | with_reducible refine need_bytes (by assumption) ?_ | with_reducible refine need_look (by assumption) ?_ | with_reducible refine need_look (look_put (by assumption) (by assumption)) ?_ | with_reducible refine need_look (look_lec (by assumption) (by assumption)) ?_ | with_reducible refine need_look (look_put (AH.put_same _ _ _) (by assumption)) ?_ | with_reducible refine need_look (look_lec (AH.put_same _ _ _) (by assumption)) ?_ | with_reducible refine need_look (look_put (look_put (by assumption) (by assumption)) (by assumption)) ?_ | with_reducible refine need_look (look_lec (look_put (by assumption) (by assumption)) (by assumption)) ?_ | with_reducible refine need_look (look_put (look_lec (by assumption) (by assumption)) (by assumption)) ?_ | with_reducible refine need_look (look_lec (look_lec (by assumption) (by assumption)) (by assumption)) ?_ | with_reducible refine need_look (look_put (look_put (AH.put_same _ _ _) (by assumption)) (by assumption)) ?_ | with_reducible refine need_look (look_lec (look_put (AH.put_same _ _ _) (by assumption)) (by assumption)) ?_ | with_reducible refine need_look (look_put (look_lec (AH.put_same _ _ _) (by assumption)) (by assumption)) ?_ | with_reducible refine need_look (look_lec (look_lec (AH.put_same _ _ _) (by assumption)) (by assumption)) ?_) <;> (try simp -implicitDefEqProofs (disch := omega) only [go_sem, eq_self, decide_true, decide_false, Nat.reduceBEq, Nat.reduceAdd, Nat.reduceSub, Nat.reduceMul, Nat.reduceEqDiff, Nat.reduceLeDiff, Nat.reduceLT, Int.reduceLE, Int.reduceLT, Int.reduceToNat, Int.reduceAdd, Int.reduceEq, Int.reduceNeg, AH.put_ne, hk])))
  all_goals exact end_eq rfl (AH.le_refl _)
theorem fail_calls {r : Rl} {k : Nat} {s n now : Int} {H : AH} (hr : r.ok) (hs : 0 ≤ s) (hs2 : s ≤ 1152921504606846976) (hn : 0 ≤ n) (hn2 : n < 1000) (h0 : 0 ≤ now) (h1 : now ≤ 1152921504606846976) (hk : H k = some (.cells [.int .i64 r.b, .int .i64 r.c, .int .i64 r.t, .int .i64 r.m, .int .i64 s, .int .i64 n, .bool false])) :
    ACalls Tryz.prog 79 [.agg [.ptr k 0], .int .i64 now] H (fun o H' =>
      o = .ret (if r.t ≤ (if r.m < now - s then 0 else n) + 1 then .tuple [.int .i64 0, .bool false] else .tuple [.int .i64 (r.delay ((if r.m < now - s then 0 else n) + 1).toNat), .bool true]) ∧
      H' = H.put k (stO r s ((if r.m < now - s then 0 else n) + 1) (decide (r.t ≤ (if r.m < now - s then 0 else n) + 1)))) := by
  refine ACalls.dropG ?_
  refine acalls Tryz.func79 c79 r79 (by simp [Tryz.ntmps79]) ?_
  have bf := fun (H : AH) hk => bfail_calls (k := k) (H := H) hr hs hs2 hn hn2 h0 h1 hk
  generalize (if r.m < now - s then (0 : Int) else n) + 1 = q at bf ⊢
  by_cases h : r.t ≤ q
  · simp only [h, if_true] at bf ⊢
    repeat' (first | with_reducible refine am_seq ?_ | with_reducible refine am_block ?_ | ((with_reducible apply am_cond); (case hb => rfl); all_goals (intro hc; (try simp only [reduceCtorEq, decide_eq_true_eq, decide_eq_false_iff_not, Bool.or_eq_true, Bool.and_eq_true, Bool.or_eq_false_iff, Bool.not_eq_true', Bool.not_eq_false', beq_iff_eq] at hc); (try (exfalso; omega)))) | ((first | with_reducible refine am_reg ?_ | with_reducible refine am_drw ?_ | with_reducible refine am_skip ?_ | with_reducible refine am_exit ?_ | with_reducible refine am_ret ?_ | with_reducible refine And.intro (by first | exact AH.lec_refl _ | assumption | exact AccP.lec (by assumption) | omega) ?_ | with_reducible refine isnE_of (fun hc => ?_) (fun hc => ?_) (fun hc => ?_) | ((first | with_reducible refine gd_not (fun hc => ?_) (fun hc => ?_) | with_reducible refine gd_of (fun hc => ?_) (fun hc => ?_) | with_reducible refine gq_not (fun hc => ?_) (fun hc => ?_) | with_reducible refine gq_of (fun hc => ?_) (fun hc => ?_) | with_reducible refine pickB_of (fun hc => ?_) (fun hc => ?_)) <;> (try simp -implicitDefEqProofs (disch := omega) only [go_sem, eq_self, decide_true, decide_false, Nat.reduceBEq, Nat.reduceAdd, Nat.reduceSub, Nat.reduceMul, Nat.reduceEqDiff, Nat.reduceLeDiff, Nat.reduceLT, Int.reduceLE, Int.reduceLT, Int.reduceToNat, Int.reduceAdd, Int.reduceEq, Int.reduceNeg, AH.put_ne, hc, hk]) <;> (try simp only [reduceCtorEq, decide_eq_true_eq, decide_eq_false_iff_not, Bool.or_eq_true, Bool.and_eq_true, Bool.or_eq_false_iff, Bool.not_eq_true', Bool.not_eq_false', beq_iff_eq] at hc) <;> (try (exfalso; omega))) | ((with_reducible refine alloc_intro (fun ko hko => ?_)) <;> (try have hne := fresh_ne (by assumption) hko) <;> (try have hnk := fresh_ne hk hko) <;> (try have hnk2 := fresh_ne hk2 hko) <;> (try simp only [AH.put_none] at hko)) | ((first | (with_reducible refine vapp_accL (by assumption) ?_ (fun v2 H2 hacc hlec => ?_)) | (with_reducible refine vapp_accL (AccP.mono (by assumption) (AccP.le (by assumption))) ?_ (fun v2 H2 hacc hlec => ?_)) | (with_reducible refine vapp_accL (AccP.new (by assumption) (by assumption) _) ?_ (fun v2 H2 hacc hlec => ?_))); · simp only [byteCells_length, List.length_cons, List.length_nil, List.length_map, List.length_append, intsE_length]; omega) | with_reducible refine need_elems (by assumption) ?_ | with_reducible refine vlen_acc (by assumption) ?_ | with_reducible refine need_bytes (by assumption) ?_ | with_reducible refine call_turn (bf _ (by assumption)) ?_ | with_reducible refine need_look (by assumption) ?_ | with_reducible refine need_look (look_put (by assumption) (by assumption)) ?_ | with_reducible refine need_look (look_lec (by assumption) (by assumption)) ?_ | with_reducible refine need_look (look_put (AH.put_same _ _ _) (by assumption)) ?_ | with_reducible refine need_look (look_lec (AH.put_same _ _ _) (by assumption)) ?_ | with_reducible refine need_look (look_put (look_put (by assumption) (by assumption)) (by assumption)) ?_ | with_reducible refine need_look (look_lec (look_put (by assumption) (by assumption)) (by assumption)) ?_ | with_reducible refine need_look (look_put (look_lec (by assumption) (by assumption)) (by assumption)) ?_ | with_reducible refine need_look (look_lec (look_lec (by assumption) (by assumption)) (by assumption)) ?_ | with_reducible refine need_look (look_put (look_put (AH.put_same _ _ _) (by assumption)) (by assumption)) ?_ | with_reducible refine need_look (look_lec (look_put (AH.put_same _ _ _) (by assumption)) (by assumption)) ?_ | with_reducible refine need_look (look_put (look_lec (AH.put_same _ _ _) (by assumption)) (by assumption)) ?_ | with_reducible refine need_look (look_lec (look_lec (AH.put_same _ _ _) (by assumption)) (by assumption)) ?_) <;> (try simp -implicitDefEqProofs (disch := omega) only [go_sem, eq_self, decide_true, decide_false, Nat.reduceBEq, Nat.reduceAdd, Nat.reduceSub, Nat.reduceMul, Nat.reduceEqDiff, Nat.reduceLeDiff, Nat.reduceLT, Int.reduceLE, Int.reduceLT, Int.reduceToNat, Int.reduceAdd, Int.reduceEq, Int.reduceNeg, AH.put_ne, hk])))
    all_goals exact end_eq rfl (AH.le_refl _)
  · simp only [h, if_false] at bf ⊢
    repeat' (first | with_reducible refine am_seq ?_ | with_reducible refine am_block ?_ | ((with_reducible apply am_cond); (case hb => rfl); all_goals (intro hc; (try simp only [reduceCtorEq, decide_eq_true_eq, decide_eq_false_iff_not, Bool.or_eq_true, Bool.and_eq_true, Bool.or_eq_false_iff, Bool.not_eq_true', Bool.not_eq_false', beq_iff_eq] at hc); (try (exfalso; omega)))) | ((first | with_reducible refine am_reg ?_ | with_reducible refine am_drw ?_ | with_reducible refine am_skip ?_ | with_reducible refine am_exit ?_ | with_reducible refine am_ret ?_ | with_reducible refine And.intro (by first | exact AH.lec_refl _ | assumption | exact AccP.lec (by assumption) | omega) ?_ | with_reducible refine isnE_of (fun hc => ?_) (fun hc => ?_) (fun hc => ?_) | ((first | with_reducible refine gd_not (fun hc => ?_) (fun hc => ?_) | with_reducible refine gd_of (fun hc => ?_) (fun hc => ?_) | with_reducible refine gq_not (fun hc => ?_) (fun hc => ?_) | with_reducible refine gq_of (fun hc => ?_) (fun hc => ?_) | with_reducible refine pickB_of (fun hc => ?_) (fun hc => ?_)) <;> (try simp -implicitDefEqProofs (disch := omega) only [go_sem, eq_self, decide_true, decide_false, Nat.reduceBEq, Nat.reduceAdd, Nat.reduceSub, Nat.reduceMul, Nat.reduceEqDiff, Nat.reduceLeDiff, Nat.reduceLT, Int.reduceLE, Int.reduceLT, Int.reduceToNat, Int.reduceAdd, Int.reduceEq, Int.reduceNeg, AH.put_ne, hc, hk]) <;> (try simp only [reduceCtorEq, decide_eq_true_eq, decide_eq_false_iff_not, Bool.or_eq_true, Bool.and_eq_true, Bool.or_eq_false_iff, Bool.not_eq_true', Bool.not_eq_false', beq_iff_eq] at hc) <;> (try (exfalso; omega))) | ((with_reducible refine alloc_intro (fun ko hko => ?_)) <;> (try have hne := fresh_ne (by assumption) hko) <;> (try have hnk := fresh_ne hk hko) <;> (try have hnk2 := fresh_ne hk2 hko) <;> (try simp only [AH.put_none] at hko)) | ((first | (with_reducible refine vapp_accL (by assumption) ?_ (fun v2 H2 hacc hlec => ?_)) | (with_reducible refine vapp_accL (AccP.mono (by assumption) (AccP.le (by assumption))) ?_ (fun v2 H2 hacc hlec => ?_)) | (with_reducible refine vapp_accL (AccP.new (by assumption) (by assumption) _) ?_ (fun v2 H2 hacc hlec => ?_))); · simp only [byteCells_length, List.length_cons, List.length_nil, List.length_map, List.length_append, intsE_length]; omega) | with_reducible refine need_elems (by assumption) ?_ | with_reducible refine vlen_acc (by assumption) ?_ | with_reducible refine need_bytes (by assumption) ?_ | with_reducible refine call_turn (bf _ (by assumption)) ?_ | with_reducible refine need_look (by assumption) ?_ | with_reducible refine need_look (look_put (by assumption) (by assumption)) ?_ | with_reducible refine need_look (look_lec (by assumption) (by assumption)) ?_ | with_reducible refine need_look (look_put (AH.put_same _ _ _) (by assumption)) ?_ | with_reducible refine need_look (look_lec (AH.put_same _ _ _) (by assumption)) ?_ | with_reducible refine need_look (look_put (look_put (by assumption) (by assumption)) (by assumption)) ?_ | with_reducible refine need_look (look_lec (look_put (by assumption) (by assumption)) (by assumption)) ?_ | with_reducible refine need_look (look_put (look_lec (by assumption) (by assumption)) (by assumption)) ?_ | with_reducible refine need_look (look_lec (look_lec (by assumption) (by assumption)) (by assumption)) ?_ | with_reducible refine need_look (look_put (look_put (AH.put_same _ _ _) (by assumption)) (by assumption)) ?_ | with_reducible refine need_look (look_lec (look_put (AH.put_same _ _ _) (by assumption)) (by assumption)) ?_ | with_reducible refine need_look (look_put (look_lec (AH.put_same _ _ _) (by assumption)) (by assumption)) ?_ | with_reducible refine need_look (look_lec (look_lec (AH.put_same _ _ _) (by assumption)) (by assumption)) ?_) <;> (try simp -implicitDefEqProofs (disch := omega) only [go_sem, eq_self, decide_true, decide_false, Nat.reduceBEq, Nat.reduceAdd, Nat.reduceSub, Nat.reduceMul, Nat.reduceEqDiff, Nat.reduceLeDiff, Nat.reduceLT, Int.reduceLE, Int.reduceLT, Int.reduceToNat, Int.reduceAdd, Int.reduceEq, Int.reduceNeg, AH.put_ne, hk])))
    all_goals exact end_eq rfl (AH.le_refl _)
theorem broke_calls {r : Rl} {kb k : Nat} {lim wt st un e s n now : Int} {sv : V} {H : AH} (hr : r.ok) (hs : 0 ≤ s) (hs2 : s ≤ 1152921504606846976) (hn : 0 ≤ n) (hn2 : n < 1000) (h0 : 0 ≤ now) (h1 : now ≤ 1000000000000) (hk : H kb = some (.cells [.int .i64 r.b, .int .i64 r.c, .int .i64 r.t, .int .i64 r.m, .int .i64 s, .int .i64 n, .bool false])) (hk2 : H k = some (.cells [.ptr kb 0, .int .i64 lim, .int .i64 wt, .int .i64 st, .int .i64 un, sv])) (hne : k ≠ kb) :
    ACalls Tryz.prog 50 [.ptr k 0, .int .i64 now, .int .i64 e] H (fun o H' =>
      o = .ret (if r.t ≤ (if r.m < now - s then 0 else n) + 1 then .agg (evC 5 e 0) else .agg (evC 4 e (r.delay ((if r.m < now - s then 0 else n) + 1).toNat))) ∧
      H' = (H.put kb (stO r s ((if r.m < now - s then 0 else n) + 1) (decide (r.t ≤ (if r.m < now - s then 0 else n) + 1)))).put k
        (if r.t ≤ (if r.m < now - s then 0 else n) + 1 then kpO kb lim wt 5 un sv else kpO kb lim wt 4 (now + r.delay ((if r.m < now - s then 0 else n) + 1).toNat) sv)) := by
  refine ACalls.dropG ?_
  refine acalls Tryz.func50 c50 r50 (by simp [Tryz.ntmps50]) ?_
  have bf := fun (H : AH) hk => fail_calls (k := kb) (H := H) hr hs hs2 hn hn2 h0 (by omega) hk
  generalize (if r.m < now - s then (0 : Int) else n) + 1 = q at bf ⊢
  have d0 := r.delay_nonneg hr q.toNat
  by_cases h : r.t ≤ q
  · simp only [h, if_true, decide_true] at bf ⊢
    repeat' (first | with_reducible refine am_seq ?_ | with_reducible refine am_block ?_ | ((with_reducible apply am_cond); (case hb => rfl); all_goals (intro hc; (try simp only [reduceCtorEq, decide_eq_true_eq, decide_eq_false_iff_not, Bool.or_eq_true, Bool.and_eq_true, Bool.or_eq_false_iff, Bool.not_eq_true', Bool.not_eq_false', beq_iff_eq] at hc); (try (exfalso; omega)))) | ((first | with_reducible refine am_reg ?_ | with_reducible refine am_drw ?_ | with_reducible refine am_skip ?_ | with_reducible refine am_exit ?_ | with_reducible refine am_ret ?_ | with_reducible refine And.intro (by first | exact AH.lec_refl _ | assumption | exact AccP.lec (by assumption) | omega) ?_ | with_reducible refine isnE_of (fun hc => ?_) (fun hc => ?_) (fun hc => ?_) | ((first | with_reducible refine gd_not (fun hc => ?_) (fun hc => ?_) | with_reducible refine gd_of (fun hc => ?_) (fun hc => ?_) | with_reducible refine gq_not (fun hc => ?_) (fun hc => ?_) | with_reducible refine gq_of (fun hc => ?_) (fun hc => ?_) | with_reducible refine pickB_of (fun hc => ?_) (fun hc => ?_)) <;> (try simp -implicitDefEqProofs (disch := omega) only [go_sem, eq_self, decide_true, decide_false, Nat.reduceBEq, Nat.reduceAdd, Nat.reduceSub, Nat.reduceMul, Nat.reduceEqDiff, Nat.reduceLeDiff, Nat.reduceLT, Int.reduceLE, Int.reduceLT, Int.reduceToNat, Int.reduceAdd, Int.reduceEq, Int.reduceNeg, AH.put_ne, hc, hk, hk2]) <;> (try simp only [reduceCtorEq, decide_eq_true_eq, decide_eq_false_iff_not, Bool.or_eq_true, Bool.and_eq_true, Bool.or_eq_false_iff, Bool.not_eq_true', Bool.not_eq_false', beq_iff_eq] at hc) <;> (try (exfalso; omega))) | ((with_reducible refine alloc_intro (fun ko hko => ?_)) <;> (try have hne := fresh_ne (by assumption) hko) <;> (try have hnk := fresh_ne hk hko) <;> (try have hnk2 := fresh_ne hk2 hko) <;> (try simp only [AH.put_none] at hko)) | ((first | (with_reducible refine vapp_accL (by assumption) ?_ (fun v2 H2 hacc hlec => ?_)) | (with_reducible refine vapp_accL (AccP.mono (by assumption) (AccP.le (by assumption))) ?_ (fun v2 H2 hacc hlec => ?_)) | (with_reducible refine vapp_accL (AccP.new (by assumption) (by assumption) _) ?_ (fun v2 H2 hacc hlec => ?_))); · simp only [byteCells_length, List.length_cons, List.length_nil, List.length_map, List.length_append, intsE_length]; omega) | with_reducible refine need_elems (by assumption) ?_ | with_reducible refine vlen_acc (by assumption) ?_ | with_reducible refine need_bytes (by assumption) ?_ | with_reducible refine call_turn (bf _ (look_put hk (by assumption))) ?_ | with_reducible refine need_look (by assumption) ?_ | with_reducible refine need_look (look_put (by assumption) (by assumption)) ?_ | with_reducible refine need_look (look_lec (by assumption) (by assumption)) ?_ | with_reducible refine need_look (look_put (AH.put_same _ _ _) (by assumption)) ?_ | with_reducible refine need_look (look_lec (AH.put_same _ _ _) (by assumption)) ?_ | with_reducible refine need_look (look_put (look_put (by assumption) (by assumption)) (by assumption)) ?_ | with_reducible refine need_look (look_lec (look_put (by assumption) (by assumption)) (by assumption)) ?_ | with_reducible refine need_look (look_put (look_lec (by assumption) (by assumption)) (by assumption)) ?_ | with_reducible refine need_look (look_lec (look_lec (by assumption) (by assumption)) (by assumption)) ?_ | with_reducible refine need_look (look_put (look_put (AH.put_same _ _ _) (by assumption)) (by assumption)) ?_ | with_reducible refine need_look (look_lec (look_put (AH.put_same _ _ _) (by assumption)) (by assumption)) ?_ | with_reducible refine need_look (look_put (look_lec (AH.put_same _ _ _) (by assumption)) (by assumption)) ?_ | with_reducible refine need_look (look_lec (look_lec (AH.put_same _ _ _) (by assumption)) (by assumption)) ?_) <;> (try simp -implicitDefEqProofs (disch := omega) only [go_sem, eq_self, decide_true, decide_false, Nat.reduceBEq, Nat.reduceAdd, Nat.reduceSub, Nat.reduceMul, Nat.reduceEqDiff, Nat.reduceLeDiff, Nat.reduceLT, Int.reduceLE, Int.reduceLT, Int.reduceToNat, Int.reduceAdd, Int.reduceEq, Int.reduceNeg, AH.put_ne, hk, hk2])))
    all_goals exact end_eq rfl (le_new2 hko (by omega) (by omega))
  · simp only [h, if_false, decide_false] at bf ⊢
    repeat' (first | with_reducible refine am_seq ?_ | with_reducible refine am_block ?_ | ((with_reducible apply am_cond); (case hb => rfl); all_goals (intro hc; (try simp only [reduceCtorEq, decide_eq_true_eq, decide_eq_false_iff_not, Bool.or_eq_true, Bool.and_eq_true, Bool.or_eq_false_iff, Bool.not_eq_true', Bool.not_eq_false', beq_iff_eq] at hc); (try (exfalso; omega)))) | ((first | with_reducible refine am_reg ?_ | with_reducible refine am_drw ?_ | with_reducible refine am_skip ?_ | with_reducible refine am_exit ?_ | with_reducible refine am_ret ?_ | with_reducible refine And.intro (by first | exact AH.lec_refl _ | assumption | exact AccP.lec (by assumption) | omega) ?_ | with_reducible refine isnE_of (fun hc => ?_) (fun hc => ?_) (fun hc => ?_) | ((first | with_reducible refine gd_not (fun hc => ?_) (fun hc => ?_) | with_reducible refine gd_of (fun hc => ?_) (fun hc => ?_) | with_reducible refine gq_not (fun hc => ?_) (fun hc => ?_) | with_reducible refine gq_of (fun hc => ?_) (fun hc => ?_) | with_reducible refine pickB_of (fun hc => ?_) (fun hc => ?_)) <;> (try simp -implicitDefEqProofs (disch := omega) only [go_sem, eq_self, decide_true, decide_false, Nat.reduceBEq, Nat.reduceAdd, Nat.reduceSub, Nat.reduceMul, Nat.reduceEqDiff, Nat.reduceLeDiff, Nat.reduceLT, Int.reduceLE, Int.reduceLT, Int.reduceToNat, Int.reduceAdd, Int.reduceEq, Int.reduceNeg, AH.put_ne, hc, hk, hk2]) <;> (try simp only [reduceCtorEq, decide_eq_true_eq, decide_eq_false_iff_not, Bool.or_eq_true, Bool.and_eq_true, Bool.or_eq_false_iff, Bool.not_eq_true', Bool.not_eq_false', beq_iff_eq] at hc) <;> (try (exfalso; omega))) | ((with_reducible refine alloc_intro (fun ko hko => ?_)) <;> (try have hne := fresh_ne (by assumption) hko) <;> (try have hnk := fresh_ne hk hko) <;> (try have hnk2 := fresh_ne hk2 hko) <;> (try simp only [AH.put_none] at hko)) | ((first | (with_reducible refine vapp_accL (by assumption) ?_ (fun v2 H2 hacc hlec => ?_)) | (with_reducible refine vapp_accL (AccP.mono (by assumption) (AccP.le (by assumption))) ?_ (fun v2 H2 hacc hlec => ?_)) | (with_reducible refine vapp_accL (AccP.new (by assumption) (by assumption) _) ?_ (fun v2 H2 hacc hlec => ?_))); · simp only [byteCells_length, List.length_cons, List.length_nil, List.length_map, List.length_append, intsE_length]; omega) | with_reducible refine need_elems (by assumption) ?_ | with_reducible refine vlen_acc (by assumption) ?_ | with_reducible refine need_bytes (by assumption) ?_ | with_reducible refine call_turn (bf _ (look_put hk (by assumption))) ?_ | (first | with_reducible refine call_of (add_calls (by omega) (by omega) (by omega)) ?_ | with_reducible refine qcall_of (add_calls (by omega) (by omega) (by omega)) ?_) | with_reducible refine need_look (by assumption) ?_ | with_reducible refine need_look (look_put (by assumption) (by assumption)) ?_ | with_reducible refine need_look (look_lec (by assumption) (by assumption)) ?_ | with_reducible refine need_look (look_put (AH.put_same _ _ _) (by assumption)) ?_ | with_reducible refine need_look (look_lec (AH.put_same _ _ _) (by assumption)) ?_ | with_reducible refine need_look (look_put (look_put (by assumption) (by assumption)) (by assumption)) ?_ | with_reducible refine need_look (look_lec (look_put (by assumption) (by assumption)) (by assumption)) ?_ | with_reducible refine need_look (look_put (look_lec (by assumption) (by assumption)) (by assumption)) ?_ | with_reducible refine need_look (look_lec (look_lec (by assumption) (by assumption)) (by assumption)) ?_ | with_reducible refine need_look (look_put (look_put (AH.put_same _ _ _) (by assumption)) (by assumption)) ?_ | with_reducible refine need_look (look_lec (look_put (AH.put_same _ _ _) (by assumption)) (by assumption)) ?_ | with_reducible refine need_look (look_put (look_lec (AH.put_same _ _ _) (by assumption)) (by assumption)) ?_ | with_reducible refine need_look (look_lec (look_lec (AH.put_same _ _ _) (by assumption)) (by assumption)) ?_) <;> (try simp -implicitDefEqProofs (disch := omega) only [go_sem, eq_self, decide_true, decide_false, Nat.reduceBEq, Nat.reduceAdd, Nat.reduceSub, Nat.reduceMul, Nat.reduceEqDiff, Nat.reduceLeDiff, Nat.reduceLT, Int.reduceLE, Int.reduceLT, Int.reduceToNat, Int.reduceAdd, Int.reduceEq, Int.reduceNeg, AH.put_ne, hk, hk2])))
    all_goals exact end_eq rfl (le_new2 hko (by omega) (by omega))
end Go.Proofs.YtcfeafpjkcmdiaaGreatDoor
