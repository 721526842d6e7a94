/- Of the walks of this seat: contracts of functions of the given program, proved over the abstract values of the texts Vm. Conditions: as each theorem says. -/
import Derived.Test.YtcfeafpjkcmdiaaGreatDoorSN1
set_option linter.unusedVariables false
set_option linter.unusedSimpArgs false
namespace Go.Proofs.YtcfeafpjkcmdiaaGreatDoor
open Go.Vm
/- flange/flangelaw23.awake -/
abbrev k5_0 : MC :=
  (.seq (.reg [
    ⟨(some 14), none, .val (.mv (.t 2))⟩,
    ⟨(some 15), none, .val (.bin .eql .num (.t 14) (.c (.int .i64 0)))⟩,
    ⟨(some 16), none, .val (.mv (.t 15))⟩,
    ⟨(some 17), (some (16, true)), .val (.mv (.t 4))⟩,
    ⟨(some 18), (some (16, true)), .val (.bin .eql .num (.t 17) (.c (.int .i64 0)))⟩,
    ⟨(some 19), none, .val (.pick (.t 16) (.t 18) (.c (.bool false)))⟩,
    ⟨(some 20), none, .val (.mv (.t 19))⟩,
    ⟨(some 21), (some (20, true)), .val (.mv (.t 3))⟩,
    ⟨(some 22), (some (20, true)), .val (.len .sl (.t 21))⟩,
    ⟨(some 23), (some (20, true)), .val (.bin .eql .num (.t 22) (.c (.int .i64 1)))⟩,
    ⟨(some 24), none, .val (.pick (.t 20) (.t 23) (.c (.bool false)))⟩,
    ⟨(some 25), none, .val (.mv (.t 24))⟩,
    ⟨(some 26), (some (25, true)), .val (.mv (.t 3))⟩,
    ⟨(some 27), (some (25, true)), .val (.iaddr 9 (.t 26) (.c (.int .i64 0)))⟩,
    ⟨(some 28), (some (25, true)), .val (.faddr 0 (.t 27))⟩,
    ⟨(some 29), (some (25, true)), .val (.load false 1 (.t 28))⟩,
    ⟨(some 30), (some (25, true)), .val (.bin .eql .num (.t 29) (.c (.int .i64 0)))⟩,
    ⟨(some 31), none, .val (.pick (.t 25) (.t 30) (.c (.bool false)))⟩,
    ⟨(some 32), none, .val (.mv (.t 31))⟩,
    ⟨(some 33), (some (32, true)), .val (.mv (.t 1))⟩,
    ⟨(some 34), (some (32, true)), .call 13 [(.t 33)]⟩,
    ⟨(some 35), (some (32, true)), .val (.bin .eql .num (.t 34) (.c (.int .i64 1)))⟩,
    ⟨(some 36), none, .val (.pick (.t 32) (.t 35) (.c (.bool false)))⟩,
    ⟨(some 0), none, .val (.mv (.t 36))⟩] [0]) (.ret))

abbrev k5_1 : MC :=
  (.seq (.reg [
    ⟨(some 10), none, .val (.mv (.t 1))⟩,
    ⟨(some 11), none, .call 6 [(.t 10), (.c (.int .i64 0))]⟩,
    ⟨(some 9), none, .val (.mv (.t 11))⟩,
    ⟨(some 12), none, .val (.ext (.t 9) 0)⟩,
    ⟨(some 13), none, .val (.ext (.t 9) 1)⟩,
    ⟨(some 3), none, .val (.mv (.t 12))⟩,
    ⟨(some 4), none, .val (.mv (.t 13))⟩] [1, 2, 3, 4]) k5_0)

abbrev k5_2 : MC :=
  (.seq (.reg [
    ⟨(some 6), none, .call 28 [(.c (.int .i64 1000)), (.c (.int .i64 5))]⟩,
    ⟨(some 5), none, .val (.mv (.t 6))⟩,
    ⟨(some 7), none, .val (.ext (.t 5) 0)⟩,
    ⟨(some 8), none, .val (.ext (.t 5) 1)⟩,
    ⟨(some 1), none, .val (.mv (.t 7))⟩,
    ⟨(some 2), none, .val (.mv (.t 8))⟩] [1, 2]) k5_1)
abbrev k5 : MC :=
  (.seq (.reg [
    ⟨(some 0), none, .val (.mv (.c (.bool false)))⟩] []) k5_2)
theorem c5 : Tryz.f5.body.bind (mcOf Tryz.prog (List.contains [] ·) (List.getD [([], []), ([], [1, 2]), ([], [1, 2, 3, 4]), ([], [0])] · ([], [])) 37) = some k5 := by kernel_rfl
theorem r5 : rvsOf Tryz.prog Tryz.f5.results.toList = some [.tmp 0] := by kernel_rfl

/- (*flange/session.Session).Feed -/
abbrev k7_0 : MC :=
  .cond (.t 18) ((.seq (.reg [
     ⟨(some 6), none, .val (.mv (.c .nilSl))⟩,
     ⟨(some 7), none, .val (.mv (.c (.int .i64 11)))⟩] [6, 7]) (.ret))) (.skip)

abbrev k7_1 : MC :=
  .cond (.t 36) (.exit 0) (.skip)

abbrev k7_2 : MC :=
  (.seq ((.seq (.reg [
    ⟨(some 35), none, .val (.mv (.t 0))⟩,
    ⟨(some 36), none, .call 29 [(.t 35)]⟩] [0, 1, 8, 10, 12, 29, 30, 31, 36]) k7_1)) (.stuck))

abbrev k7_3 : MC :=
  .reg [
    ⟨(some 47), none, .val (.bin .add .num (.t 31) (.c (.int .i64 1)))⟩,
    ⟨(some 31), none, .val (.mv (.t 47))⟩] [0, 1, 8, 10, 29, 30, 31]

abbrev k7_4 : MC :=
  (.seq (.block 1 ((.seq (.reg [
     ⟨(some 33), none, .val (.iaddr 1 (.t 29) (.t 31))⟩,
     ⟨(some 34), none, .val (.load false 1 (.t 33))⟩,
     ⟨(some 12), none, .val (.mv (.t 34))⟩] [0, 1, 8, 10, 12, 29, 30, 31]) k7_2))) k7_3)

abbrev k7_5 : MC :=
  (.seq (.cond (.t 32) (.skip) (.exit 0)) k7_4)

abbrev k7_6 : MC :=
  (.seq (.reg [
    ⟨(some 32), none, .val (.bin .lss .num (.t 31) (.t 30))⟩] [0, 1, 8, 10, 29, 30, 31, 32]) k7_5)

abbrev k7_7 : MC :=
  .block 0 (.loop k7_6)

abbrev k7_8 : MC :=
  .cond (.t 54) (.reg [
     ⟨(some 55), none, .val (.mv (.t 0))⟩,
     ⟨(some 56), none, .val (.mv (.t 10))⟩,
     ⟨(some 57), none, .call 40 [(.t 55), (.t 56)]⟩] [0]) (.skip)

abbrev k7_9 : MC :=
  (.seq (.reg [
    ⟨(some 58), none, .val (.mv (.t 0))⟩,
    ⟨(some 59), none, .call 34 [(.t 58)]⟩,
    ⟨(some 6), none, .val (.mv (.t 59))⟩,
    ⟨(some 7), none, .val (.mv (.c (.int .i64 0)))⟩] [6, 7]) (.ret))

abbrev k7_10 : MC :=
  (.seq ((.seq (.reg [
    ⟨(some 48), none, .val (.mv (.t 10))⟩,
    ⟨(some 49), none, .val (.bin .neq .num (.t 48) (.c (.int .i64 0)))⟩,
    ⟨(some 50), none, .val (.mv (.t 49))⟩,
    ⟨(some 51), (some (50, true)), .val (.mv (.t 0))⟩,
    ⟨(some 52), (some (50, true)), .call 29 [(.t 51)]⟩,
    ⟨(some 53), (some (50, true)), .val (.not (.t 52))⟩,
    ⟨(some 54), none, .val (.pick (.t 50) (.t 53) (.c (.bool false)))⟩] [0, 10, 54]) k7_8)) k7_9)

abbrev k7_11 : MC :=
  (.seq ((.seq (.reg [
    ⟨(some 29), none, .val (.mv (.t 9))⟩,
    ⟨(some 30), none, .val (.len .sl (.t 29))⟩,
    ⟨(some 31), none, .val (.mv (.c (.int .i64 0)))⟩] [0, 1, 8, 10, 29, 30, 31]) k7_7)) k7_10)

abbrev k7_12 : MC :=
  (.seq (.reg [
    ⟨(some 21), none, .val (.mv (.t 0))⟩,
    ⟨(some 22), none, .val (.nilc (.t 21))⟩,
    ⟨(some 23), none, .val (.faddr 9 (.t 22))⟩,
    ⟨(some 24), none, .val (.load false 1 (.t 23))⟩,
    ⟨(some 25), none, .val (.mv (.t 2))⟩,
    ⟨(some 26), none, .call 39 [(.t 24), (.t 25)]⟩,
    ⟨(some 20), none, .val (.mv (.t 26))⟩,
    ⟨(some 27), none, .val (.ext (.t 20) 0)⟩,
    ⟨(some 28), none, .val (.ext (.t 20) 1)⟩,
    ⟨(some 9), none, .val (.mv (.t 27))⟩,
    ⟨(some 10), none, .val (.mv (.t 28))⟩] [0, 1, 8, 9, 10]) k7_11)

abbrev k7_13 : MC :=
  (.seq (.reg [
    ⟨(some 19), none, .build [.nilFunc, .nilFunc, .nilFunc, .nilFunc, .nilFunc] [(1, 1, (.c (.func (.func 35) [] []))), (2, 1, (.c (.func (.func 36) [] []))), (3, 1, (.c (.func (.func 37) [] []))), (4, 1, (.c (.func (.func 38) [] [])))]⟩,
    ⟨(some 8), none, .zalloc [.nilFunc, .nilFunc, .nilFunc, .nilFunc, .nilFunc]⟩,
    ⟨none, none, .store 5 (.t 8) (.t 19)⟩] [0, 1, 2, 8]) k7_12)

abbrev k7_14 : MC :=
  (.seq ((.seq (.reg [
    ⟨(some 13), none, .val (.mv (.t 0))⟩,
    ⟨(some 14), none, .val (.bin .eql .ptr (.t 13) (.c .nilPtr))⟩,
    ⟨(some 15), none, .val (.mv (.t 14))⟩,
    ⟨(some 16), (some (15, false)), .val (.mv (.t 0))⟩,
    ⟨(some 17), (some (15, false)), .call 29 [(.t 16)]⟩,
    ⟨(some 18), none, .val (.pick (.t 15) (.c (.bool true)) (.t 17))⟩] [0, 1, 2, 18]) k7_0)) k7_13)
abbrev k7 : MC :=
  (.seq (.reg [
    ⟨(some 6), none, .val (.mv (.c .nilSl))⟩,
    ⟨(some 7), none, .val (.mv (.c (.int .i64 0)))⟩] [0, 1, 2]) k7_14)
theorem c7 : Tryz.f7.body.bind (mcOf Tryz.prog (List.contains [] ·) (List.getD [([], [0, 1, 2]), ([], [0, 1, 2, 18]), ([], [6, 7]), ([], [0, 1, 2, 8]), ([], [0, 1, 8, 9, 10]), ([], [0, 1, 8, 10, 29, 30, 31]), ([], [0, 1, 8, 10, 29, 30, 31, 32]), ([], [0, 1, 8, 10, 12, 29, 30, 31]), ([], [0, 1, 8, 10, 12, 29, 30, 31, 36]), ([], [0, 1, 8, 10, 29, 30, 31]), ([], [0, 1, 8, 10, 29, 30, 31]), ([], [0, 10, 54]), ([], [0]), ([], [6, 7])] · ([], [])) 60) = some k7 := by kernel_rfl
theorem r7 : rvsOf Tryz.prog Tryz.f7.results.toList = some [.tmp 6, .tmp 7] := by kernel_rfl

/- (*flange/session.Session).Call -/
abbrev k8_0 : MC :=
  .cond (.t 14) ((.seq (.reg [
     ⟨(some 6), none, .val (.mv (.c .nilSl))⟩,
     ⟨(some 7), none, .val (.mv (.c (.int .i64 11)))⟩] [6, 7]) (.ret))) (.skip)

abbrev k8_1 : MC :=
  .cond (.t 27) ((.seq (.reg [
     ⟨(some 6), none, .val (.mv (.c .nilSl))⟩,
     ⟨(some 7), none, .val (.mv (.c (.int .i64 7)))⟩] [6, 7]) (.ret))) (.skip)

abbrev k8_2 : MC :=
  (.seq (.reg [
    ⟨(some 26), none, .val (.mv (.t 9))⟩,
    ⟨(some 27), none, .val (.not (.t 26))⟩] [0, 1, 5, 27]) k8_1)

abbrev k8_3 : MC :=
  .cond (.t 43) ((.seq (.reg [
     ⟨(some 6), none, .val (.mv (.c .nilSl))⟩,
     ⟨(some 7), none, .val (.mv (.c (.int .i64 3)))⟩] [6, 7]) (.ret))) (.skip)

abbrev k8_4 : MC :=
  .cond (.t 39) ((.seq (.reg [
     ⟨(some 42), none, .val (.mv (.t 11))⟩,
     ⟨(some 6), none, .val (.mv (.c .nilSl))⟩,
     ⟨(some 7), none, .val (.mv (.t 42))⟩] [6, 7]) (.ret))) ((.seq (.reg [
     ⟨(some 44), none, .val (.mv (.t 10))⟩,
     ⟨(some 45), none, .val (.len .sl (.t 44))⟩,
     ⟨(some 46), none, .val (.mv (.t 0))⟩,
     ⟨(some 47), none, .val (.nilc (.t 46))⟩,
     ⟨(some 48), none, .val (.faddr 3 (.t 47))⟩,
     ⟨(some 49), none, .val (.load false 1 (.t 48))⟩,
     ⟨(some 50), none, .val (.bin .gtr .num (.t 45) (.t 49))⟩,
     ⟨(some 43), none, .val (.mv (.t 50))⟩] [0, 1, 10, 43]) k8_3))

abbrev k8_5 : MC :=
  (.seq (.reg [
    ⟨(some 62), none, .val (.mv (.t 0))⟩,
    ⟨(some 63), none, .call 34 [(.t 62)]⟩,
    ⟨(some 6), none, .val (.mv (.t 63))⟩,
    ⟨(some 7), none, .val (.mv (.c (.int .i64 0)))⟩] [6, 7]) (.ret))

abbrev k8_6 : MC :=
  (.seq (.reg [
    ⟨(some 58), none, .val (.mv (.t 0))⟩,
    ⟨(some 59), none, .val (.mv (.t 1))⟩,
    ⟨(some 60), none, .val (.mv (.t 10))⟩,
    ⟨(some 61), none, .call 33 [(.t 58), (.t 59), (.t 60), (.c (.int .i64 4))]⟩] [0]) k8_5)

abbrev k8_7 : MC :=
  (.seq (.reg [
    ⟨(some 51), none, .val (.mv (.t 0))⟩,
    ⟨(some 52), none, .val (.nilc (.t 51))⟩,
    ⟨(some 53), none, .val (.faddr 7 (.t 52))⟩,
    ⟨(some 54), none, .val (.load false 1 (.t 53))⟩,
    ⟨(some 55), none, .val (.bin .add .num (.t 54) (.c (.int .i64 1)))⟩,
    ⟨(some 56), none, .val (.nilc (.t 51))⟩,
    ⟨(some 57), none, .val (.faddr 7 (.t 56))⟩,
    ⟨none, none, .store 1 (.t 57) (.t 55)⟩] [0, 1, 10]) k8_6)

abbrev k8_8 : MC :=
  (.seq (.block 0 ((.seq (.reg [
     ⟨(some 40), none, .val (.mv (.t 11))⟩,
     ⟨(some 41), none, .val (.bin .neq .num (.t 40) (.c (.int .i64 0)))⟩,
     ⟨(some 39), none, .val (.mv (.t 41))⟩] [0, 1, 10, 11, 39]) k8_4))) k8_7)

abbrev k8_9 : MC :=
  (.seq (.reg [
    ⟨(some 35), none, .val (.load true 9 (.t 5))⟩,
    ⟨(some 36), none, .call 41 [(.t 35)]⟩,
    ⟨(some 34), none, .val (.mv (.t 36))⟩,
    ⟨(some 37), none, .val (.ext (.t 34) 0)⟩,
    ⟨(some 38), none, .val (.ext (.t 34) 1)⟩,
    ⟨(some 10), none, .val (.mv (.t 37))⟩,
    ⟨(some 11), none, .val (.mv (.t 38))⟩] [0, 1, 10, 11]) k8_8)

abbrev k8_10 : MC :=
  (.seq (.reg [
    ⟨(some 28), none, .val (.mv (.t 0))⟩,
    ⟨(some 29), none, .val (.nilc (.t 28))⟩,
    ⟨(some 30), none, .val (.faddr 7 (.t 29))⟩,
    ⟨(some 31), none, .val (.load false 1 (.t 30))⟩,
    ⟨(some 32), none, .val (.bin .add .num (.t 31) (.c (.int .i64 1)))⟩,
    ⟨(some 33), none, .val (.faddr 0 (.t 5))⟩,
    ⟨none, none, .store 1 (.t 33) (.t 32)⟩] [0, 1, 5]) k8_9)

abbrev k8_11 : MC :=
  (.seq ((.seq (.drw [
    ⟨(some 16), none, .val (.mv (.t 0))⟩,
    ⟨(some 17), none, .val (.nilc (.t 16))⟩,
    ⟨(some 18), none, .val (.faddr 0 (.t 17))⟩,
    ⟨(some 19), none, .val (.faddr 2 (.t 18))⟩,
    ⟨(some 20), none, .val (.load false 1 (.t 19))⟩,
    ⟨(some 21), none, .val (.faddr 2 (.t 5))⟩,
    ⟨(some 22), none, .val (.load false 1 (.t 21))⟩,
    ⟨(some 23), none, .val (.yo (.look .str .nilPtr true) [(.t 20), (.t 22)])⟩,
    ⟨(some 15), none, .val (.mv (.t 23))⟩,
    ⟨(some 24), none, .val (.ext (.t 15) 0)⟩,
    ⟨(some 25), none, .val (.ext (.t 15) 1)⟩,
    ⟨(some 8), none, .val (.mv (.t 24))⟩,
    ⟨(some 9), none, .val (.mv (.t 25))⟩] [
] [0, 1, 5, 9]) k8_2)) k8_10)

abbrev k8_12 : MC :=
  (.seq ((.seq (.reg [
    ⟨(some 12), none, .val (.mv (.t 0))⟩,
    ⟨(some 13), none, .call 13 [(.t 12)]⟩,
    ⟨(some 14), none, .val (.bin .neq .num (.t 13) (.c (.int .i64 3)))⟩] [0, 1, 5, 14]) k8_0)) k8_11)
abbrev k8 : MC :=
  (.seq (.reg [
    ⟨(some 5), none, .box (.t 2)⟩,
    ⟨(some 6), none, .val (.mv (.c .nilSl))⟩,
    ⟨(some 7), none, .val (.mv (.c (.int .i64 0)))⟩] [0, 1, 5]) k8_12)
theorem c8 : Tryz.f8.body.bind (mcOf Tryz.prog (List.contains [] ·) (List.getD [([], [0, 1, 5]), ([], [0, 1, 5, 14]), ([], [6, 7]), ([0, 0, 0, 0, 0, 0, 0, 0, 0, 0, 0, 0, 0], [0, 1, 5, 9]), ([], [0, 1, 5, 27]), ([], [6, 7]), ([], [0, 1, 5]), ([], [0, 1, 10, 11]), ([], [0, 1, 10, 11, 39]), ([], [6, 7]), ([], [0, 1, 10, 43]), ([], [6, 7]), ([], [0, 1, 10]), ([], [0]), ([], [6, 7])] · ([], [])) 64) = some k8 := by kernel_rfl
theorem r8 : rvsOf Tryz.prog Tryz.f8.results.toList = some [.tmp 6, .tmp 7] := by kernel_rfl

/- (*flange/session.Session).Schema -/
abbrev k9_0 : MC :=
  .cond (.t 9) ((.seq (.reg [
     ⟨(some 4), none, .val (.mv (.c .nilPtr))⟩,
     ⟨(some 5), none, .val (.mv (.c (.bool false)))⟩] [4, 5]) (.ret))) (.skip)

abbrev k9_1 : MC :=
  (.seq (.reg [
    ⟨(some 20), none, .val (.mv (.t 6))⟩,
    ⟨(some 21), none, .val (.mv (.t 7))⟩,
    ⟨(some 4), none, .val (.mv (.t 20))⟩,
    ⟨(some 5), none, .val (.mv (.t 21))⟩] [4, 5]) (.ret))

abbrev k9_2 : MC :=
  (.seq (.reg [
    ⟨(some 11), none, .val (.mv (.t 0))⟩,
    ⟨(some 12), none, .val (.nilc (.t 11))⟩,
    ⟨(some 13), none, .val (.faddr 0 (.t 12))⟩,
    ⟨(some 14), none, .val (.faddr 2 (.t 13))⟩,
    ⟨(some 15), none, .val (.load false 1 (.t 14))⟩,
    ⟨(some 16), none, .val (.mv (.t 1))⟩,
    ⟨(some 17), none, .val (.yo (.look .str .nilPtr true) [(.t 15), (.t 16)])⟩,
    ⟨(some 10), none, .val (.mv (.t 17))⟩,
    ⟨(some 18), none, .val (.ext (.t 10) 0)⟩,
    ⟨(some 19), none, .val (.ext (.t 10) 1)⟩,
    ⟨(some 6), none, .val (.mv (.t 18))⟩,
    ⟨(some 7), none, .val (.mv (.t 19))⟩] [6, 7]) k9_1)

abbrev k9_3 : MC :=
  (.seq ((.seq (.reg [
    ⟨(some 8), none, .val (.mv (.t 0))⟩,
    ⟨(some 9), none, .val (.bin .eql .ptr (.t 8) (.c .nilPtr))⟩] [0, 1, 9]) k9_0)) k9_2)
abbrev k9 : MC :=
  (.seq (.reg [
    ⟨(some 4), none, .val (.mv (.c .nilPtr))⟩,
    ⟨(some 5), none, .val (.mv (.c (.bool false)))⟩] [0, 1]) k9_3)
theorem c9 : Tryz.f9.body.bind (mcOf Tryz.prog (List.contains [] ·) (List.getD [([], [0, 1]), ([], [0, 1, 9]), ([], [4, 5]), ([], [6, 7]), ([], [4, 5])] · ([], [])) 22) = some k9 := by kernel_rfl
theorem r9 : rvsOf Tryz.prog Tryz.f9.results.toList = some [.tmp 4, .tmp 5] := by kernel_rfl

/- (*flange/session.Session).Until -/
abbrev k10_0 : MC :=
  .cond (.t 6) ((.seq (.reg [
     ⟨(some 2), none, .val (.mv (.c (.int .i64 0)))⟩,
     ⟨(some 3), none, .val (.mv (.c (.bool false)))⟩] [2, 3]) (.ret))) (.skip)

abbrev k10_1 : MC :=
  (.seq (.reg [
    ⟨(some 7), none, .val (.mv (.t 0))⟩,
    ⟨(some 8), none, .val (.nilc (.t 7))⟩,
    ⟨(some 9), none, .val (.faddr 6 (.t 8))⟩,
    ⟨(some 10), none, .val (.load false 1 (.t 9))⟩,
    ⟨(some 2), none, .val (.mv (.t 10))⟩,
    ⟨(some 3), none, .val (.mv (.c (.bool true)))⟩] [2, 3]) (.ret))

abbrev k10_2 : MC :=
  (.seq ((.seq (.reg [
    ⟨(some 4), none, .val (.mv (.t 0))⟩,
    ⟨(some 5), none, .call 42 [(.t 4)]⟩,
    ⟨(some 6), none, .val (.not (.t 5))⟩] [0, 6]) k10_0)) k10_1)
abbrev k10 : MC :=
  (.seq (.reg [
    ⟨(some 2), none, .val (.mv (.c (.int .i64 0)))⟩,
    ⟨(some 3), none, .val (.mv (.c (.bool false)))⟩] [0]) k10_2)
theorem c10 : Tryz.f10.body.bind (mcOf Tryz.prog (List.contains [] ·) (List.getD [([], [0]), ([], [0, 6]), ([], [2, 3]), ([], [2, 3])] · ([], [])) 11) = some k10 := by kernel_rfl
theorem r10 : rvsOf Tryz.prog Tryz.f10.results.toList = some [.tmp 2, .tmp 3] := by kernel_rfl

/- (*flange/session.Session).Tick -/
abbrev k11_0 : MC :=
  .cond (.t 16) ((.seq (.reg [
     ⟨(some 4), none, .val (.mv (.c .nilSl))⟩] [4]) (.ret))) (.skip)

abbrev k11_1 : MC :=
  (.seq (.reg [
    ⟨(some 19), none, .val (.mv (.t 0))⟩,
    ⟨(some 20), none, .call 34 [(.t 19)]⟩,
    ⟨(some 4), none, .val (.mv (.t 20))⟩] [4]) (.ret))

abbrev k11_2 : MC :=
  (.seq (.reg [
    ⟨(some 17), none, .val (.mv (.t 0))⟩,
    ⟨(some 18), none, .call 40 [(.t 17), (.c (.int .i64 13))]⟩] [0]) k11_1)

abbrev k11_3 : MC :=
  (.seq ((.seq (.drw [
    ⟨(some 5), none, .val (.mv (.t 0))⟩,
    ⟨(some 6), none, .call 42 [(.t 5)]⟩,
    ⟨(some 7), none, .val (.not (.t 6))⟩,
    ⟨(some 8), none, .val (.mv (.t 7))⟩,
    ⟨(some 9), (some (8, false)), .val (.mv (.t 1))⟩,
    ⟨(some 10), (some (8, false)), .call 43 [(.t 9)]⟩,
    ⟨(some 11), (some (8, false)), .val (.mv (.t 0))⟩,
    ⟨(some 12), (some (8, false)), .val (.nilc (.t 11))⟩,
    ⟨(some 13), (some (8, false)), .val (.faddr 6 (.t 12))⟩,
    ⟨(some 14), (some (8, false)), .val (.load false 1 (.t 13))⟩,
    ⟨(some 15), (some (8, false)), .val (.bin .lss .num (.t 10) (.t 14))⟩,
    ⟨(some 16), none, .val (.pick (.t 8) (.c (.bool true)) (.t 15))⟩] [
] [0, 16]) k11_0)) k11_2)
abbrev k11 : MC :=
  (.seq (.reg [
    ⟨(some 4), none, .val (.mv (.c .nilSl))⟩] [0, 1]) k11_3)
theorem c11 : Tryz.f11.body.bind (mcOf Tryz.prog (List.contains [] ·) (List.getD [([], [0, 1]), ([0, 0, 0, 0, 0, 0, 0, 0, 0, 0, 0, 0], [0, 16]), ([], [4]), ([], [0]), ([], [4])] · ([], [])) 21) = some k11 := by kernel_rfl
theorem r11 : rvsOf Tryz.prog Tryz.f11.results.toList = some [.tmp 4] := by kernel_rfl

/- (*flange/session.Session).Gone -/
abbrev k12_0 : MC :=
  .cond (.t 8) ((.seq (.reg [
     ⟨(some 2), none, .val (.mv (.c .nilSl))⟩] [2]) (.ret))) (.skip)

abbrev k12_1 : MC :=
  (.seq (.reg [
    ⟨(some 11), none, .val (.mv (.t 0))⟩,
    ⟨(some 12), none, .call 34 [(.t 11)]⟩,
    ⟨(some 2), none, .val (.mv (.t 12))⟩] [2]) (.ret))

abbrev k12_2 : MC :=
  (.seq (.reg [
    ⟨(some 9), none, .val (.mv (.t 0))⟩,
    ⟨(some 10), none, .call 40 [(.t 9), (.c (.int .i64 14))]⟩] [0]) k12_1)

abbrev k12_3 : MC :=
  (.seq ((.seq (.reg [
    ⟨(some 3), none, .val (.mv (.t 0))⟩,
    ⟨(some 4), none, .val (.bin .eql .ptr (.t 3) (.c .nilPtr))⟩,
    ⟨(some 5), none, .val (.mv (.t 4))⟩,
    ⟨(some 6), (some (5, false)), .val (.mv (.t 0))⟩,
    ⟨(some 7), (some (5, false)), .call 29 [(.t 6)]⟩,
    ⟨(some 8), none, .val (.pick (.t 5) (.c (.bool true)) (.t 7))⟩] [0, 8]) k12_0)) k12_2)
abbrev k12 : MC :=
  (.seq (.reg [
    ⟨(some 2), none, .val (.mv (.c .nilSl))⟩] [0]) k12_3)
theorem c12 : Tryz.f12.body.bind (mcOf Tryz.prog (List.contains [] ·) (List.getD [([], [0]), ([], [0, 8]), ([], [2]), ([], [0]), ([], [2])] · ([], [])) 13) = some k12 := by kernel_rfl
theorem r12 : rvsOf Tryz.prog Tryz.f12.results.toList = some [.tmp 2] := by kernel_rfl

/- (*flange/session.Session).Fault -/
abbrev k14_0 : MC :=
  .cond (.t 4) ((.seq (.reg [
     ⟨(some 2), none, .val (.mv (.c (.int .i64 11)))⟩] [2]) (.ret))) (.skip)

abbrev k14_1 : MC :=
  (.seq (.reg [
    ⟨(some 5), none, .val (.mv (.t 0))⟩,
    ⟨(some 6), none, .val (.nilc (.t 5))⟩,
    ⟨(some 7), none, .val (.faddr 8 (.t 6))⟩,
    ⟨(some 8), none, .val (.load false 1 (.t 7))⟩,
    ⟨(some 2), none, .val (.mv (.t 8))⟩] [2]) (.ret))

abbrev k14_2 : MC :=
  (.seq ((.seq (.reg [
    ⟨(some 3), none, .val (.mv (.t 0))⟩,
    ⟨(some 4), none, .val (.bin .eql .ptr (.t 3) (.c .nilPtr))⟩] [0, 4]) k14_0)) k14_1)
abbrev k14 : MC :=
  (.seq (.reg [
    ⟨(some 2), none, .val (.mv (.c (.int .i64 0)))⟩] [0]) k14_2)
theorem c14 : Tryz.f14.body.bind (mcOf Tryz.prog (List.contains [] ·) (List.getD [([], [0]), ([], [0, 4]), ([], [2]), ([], [2])] · ([], [])) 9) = some k14 := by kernel_rfl
theorem r14 : rvsOf Tryz.prog Tryz.f14.results.toList = some [.tmp 2] := by kernel_rfl

/- (*flange/session.Session).Deal -/
abbrev k15_0 : MC :=
  .cond (.t 4) ((.seq (.reg [
     ⟨(some 5), none, .build [(.int .i64 0), .nilSl] []⟩,
     ⟨none, none, .store 2 (.t 2) (.t 5)⟩] [2]) (.ret))) (.skip)

abbrev k15_1 : MC :=
  (.seq (.drw [
    ⟨(some 6), none, .val (.mv (.t 0))⟩,
    ⟨(some 7), none, .val (.nilc (.t 6))⟩,
    ⟨(some 8), none, .val (.faddr 0 (.t 7))⟩,
    ⟨(some 9), none, .val (.faddr 0 (.t 8))⟩,
    ⟨(some 10), none, .val (.faddr 0 (.t 9))⟩,
    ⟨(some 11), none, .val (.load false 1 (.t 10))⟩,
    ⟨(some 12), none, .val (.mv (.t 0))⟩,
    ⟨(some 13), none, .val (.nilc (.t 12))⟩,
    ⟨(some 14), none, .val (.faddr 0 (.t 13))⟩,
    ⟨(some 15), none, .val (.faddr 0 (.t 14))⟩,
    ⟨(some 16), none, .val (.faddr 1 (.t 15))⟩,
    ⟨(some 17), none, .val (.load false 1 (.t 16))⟩,
    ⟨(some 18), none, .call 44 [(.t 17)]⟩,
    ⟨(some 19), none, .build [(.int .i64 0), .nilSl] [(0, 1, (.t 11)), (1, 1, (.t 18))]⟩] [
    ⟨none, none, .store 2 (.t 2) (.t 19)⟩] [2]) (.ret))

abbrev k15_2 : MC :=
  (.seq ((.seq (.reg [
    ⟨(some 3), none, .val (.mv (.t 0))⟩,
    ⟨(some 4), none, .val (.bin .eql .ptr (.t 3) (.c .nilPtr))⟩] [0, 2, 4]) k15_0)) k15_1)
abbrev k15 : MC :=
  (.seq (.reg [
    ⟨(some 2), none, .zalloc [(.int .i64 0), .nilSl]⟩] [0, 2]) k15_2)
theorem c15 : Tryz.f15.body.bind (mcOf Tryz.prog (List.contains [] ·) (List.getD [([], [0, 2]), ([], [0, 2, 4]), ([], [2]), ([0, 0, 0, 0, 0, 0, 0, 0, 0, 0, 0, 0, 0, 0, 2], [2])] · ([], [])) 20) = some k15 := by kernel_rfl
theorem r15 : rvsOf Tryz.prog Tryz.f15.results.toList = some [.cell 2 true 2] := by kernel_rfl

/- (*flange/session.Session).Kinds -/
abbrev k16_0 : MC :=
  .cond (.t 4) ((.seq (.reg [
     ⟨(some 2), none, .val (.mv (.c .nilSl))⟩] [2]) (.ret))) (.skip)

abbrev k16_1 : MC :=
  (.seq (.reg [
    ⟨(some 5), none, .val (.mv (.t 0))⟩,
    ⟨(some 6), none, .val (.nilc (.t 5))⟩,
    ⟨(some 7), none, .val (.faddr 0 (.t 6))⟩,
    ⟨(some 8), none, .val (.faddr 2 (.t 7))⟩,
    ⟨(some 9), none, .val (.load false 1 (.t 8))⟩,
    ⟨(some 10), none, .call 46 [(.t 9)]⟩,
    ⟨(some 11), none, .call 45 [(.t 10)]⟩,
    ⟨(some 2), none, .val (.mv (.t 11))⟩] [2]) (.ret))

abbrev k16_2 : MC :=
  (.seq ((.seq (.reg [
    ⟨(some 3), none, .val (.mv (.t 0))⟩,
    ⟨(some 4), none, .val (.bin .eql .ptr (.t 3) (.c .nilPtr))⟩] [0, 4]) k16_0)) k16_1)
abbrev k16 : MC :=
  (.seq (.reg [
    ⟨(some 2), none, .val (.mv (.c .nilSl))⟩] [0]) k16_2)
theorem c16 : Tryz.f16.body.bind (mcOf Tryz.prog (List.contains [] ·) (List.getD [([], [0]), ([], [0, 4]), ([], [2]), ([], [2])] · ([], [])) 12) = some k16 := by kernel_rfl
theorem r16 : rvsOf Tryz.prog Tryz.f16.results.toList = some [.tmp 2] := by kernel_rfl

/- (*flange/session.Session).waits -/
abbrev k42_0 : MC :=
  (.seq (.reg [
    ⟨(some 6), none, .val (.mv (.t 3))⟩,
    ⟨(some 7), none, .val (.bin .eql .num (.t 6) (.c (.int .i64 1)))⟩,
    ⟨(some 8), none, .val (.mv (.t 7))⟩,
    ⟨(some 9), (some (8, false)), .val (.mv (.t 3))⟩,
    ⟨(some 10), (some (8, false)), .val (.bin .eql .num (.t 9) (.c (.int .i64 2)))⟩,
    ⟨(some 11), none, .val (.pick (.t 8) (.c (.bool true)) (.t 10))⟩,
    ⟨(some 12), none, .val (.mv (.t 11))⟩,
    ⟨(some 13), (some (12, false)), .val (.mv (.t 3))⟩,
    ⟨(some 14), (some (12, false)), .val (.bin .eql .num (.t 13) (.c (.int .i64 4)))⟩,
    ⟨(some 15), none, .val (.pick (.t 12) (.c (.bool true)) (.t 14))⟩,
    ⟨(some 2), none, .val (.mv (.t 15))⟩] [2]) (.ret))

abbrev k42_1 : MC :=
  (.seq (.reg [
    ⟨(some 4), none, .val (.mv (.t 0))⟩,
    ⟨(some 5), none, .call 13 [(.t 4)]⟩,
    ⟨(some 3), none, .val (.mv (.t 5))⟩] [3]) k42_0)
abbrev k42 : MC :=
  (.seq (.reg [
    ⟨(some 2), none, .val (.mv (.c (.bool false)))⟩] [0]) k42_1)
theorem c42 : Tryz.f42.body.bind (mcOf Tryz.prog (List.contains [] ·) (List.getD [([], [0]), ([], [3]), ([], [2])] · ([], [])) 16) = some k42 := by kernel_rfl
theorem r42 : rvsOf Tryz.prog Tryz.f42.results.toList = some [.tmp 2] := by kernel_rfl

/- flange/flangelaw23.SessionNone -/
abbrev k3_0 : MC :=
  .cond (.t 22) ((.seq (.reg [
     ⟨(some 23), none, .call 5 []⟩,
     ⟨(some 4), none, .val (.mv (.t 23))⟩] [4]) (.ret))) (.skip)

abbrev k3_1 : MC :=
  (.seq (.reg [
    ⟨(some 54), none, .val (.mv (.t 7))⟩,
    ⟨(some 55), none, .val (.bin .eql .num (.t 54) (.c (.int .i64 11)))⟩,
    ⟨(some 56), none, .val (.mv (.t 55))⟩,
    ⟨(some 57), (some (56, true)), .val (.mv (.t 9))⟩,
    ⟨(some 58), (some (56, true)), .val (.bin .eql .num (.t 57) (.c (.int .i64 11)))⟩,
    ⟨(some 59), none, .val (.pick (.t 56) (.t 58) (.c (.bool false)))⟩,
    ⟨(some 60), none, .val (.mv (.t 59))⟩,
    ⟨(some 61), (some (60, true)), .val (.mv (.t 11))⟩,
    ⟨(some 62), (some (60, true)), .val (.bin .eql .num (.t 61) (.c (.int .i64 11)))⟩,
    ⟨(some 63), none, .val (.pick (.t 60) (.t 62) (.c (.bool false)))⟩,
    ⟨(some 64), none, .val (.mv (.t 63))⟩,
    ⟨(some 65), (some (64, true)), .val (.mv (.t 13))⟩,
    ⟨(some 66), (some (64, true)), .val (.not (.t 65))⟩,
    ⟨(some 67), none, .val (.pick (.t 64) (.t 66) (.c (.bool false)))⟩,
    ⟨(some 68), none, .val (.mv (.t 67))⟩,
    ⟨(some 69), (some (68, true)), .val (.mv (.t 15))⟩,
    ⟨(some 70), (some (68, true)), .val (.not (.t 69))⟩,
    ⟨(some 71), none, .val (.pick (.t 68) (.t 70) (.c (.bool false)))⟩,
    ⟨(some 72), none, .val (.mv (.t 71))⟩,
    ⟨(some 73), (some (72, true)), .val (.mv (.t 5))⟩,
    ⟨(some 74), (some (72, true)), .val (.mv (.t 0))⟩,
    ⟨(some 75), (some (72, true)), .call 11 [(.t 73), (.t 74)]⟩,
    ⟨(some 76), (some (72, true)), .val (.len .sl (.t 75))⟩,
    ⟨(some 77), (some (72, true)), .val (.bin .eql .num (.t 76) (.c (.int .i64 0)))⟩,
    ⟨(some 78), none, .val (.pick (.t 72) (.t 77) (.c (.bool false)))⟩,
    ⟨(some 79), none, .val (.mv (.t 78))⟩,
    ⟨(some 80), (some (79, true)), .val (.mv (.t 5))⟩,
    ⟨(some 81), (some (79, true)), .call 12 [(.t 80)]⟩,
    ⟨(some 82), (some (79, true)), .val (.len .sl (.t 81))⟩,
    ⟨(some 83), (some (79, true)), .val (.bin .eql .num (.t 82) (.c (.int .i64 0)))⟩,
    ⟨(some 84), none, .val (.pick (.t 79) (.t 83) (.c (.bool false)))⟩,
    ⟨(some 85), none, .val (.mv (.t 84))⟩,
    ⟨(some 86), (some (85, true)), .val (.mv (.t 5))⟩,
    ⟨(some 87), (some (85, true)), .call 13 [(.t 86)]⟩,
    ⟨(some 88), (some (85, true)), .val (.bin .eql .num (.t 87) (.c (.int .i64 0)))⟩,
    ⟨(some 89), none, .val (.pick (.t 85) (.t 88) (.c (.bool false)))⟩,
    ⟨(some 90), none, .val (.mv (.t 89))⟩,
    ⟨(some 91), (some (90, true)), .val (.mv (.t 5))⟩,
    ⟨(some 92), (some (90, true)), .call 14 [(.t 91)]⟩,
    ⟨(some 93), (some (90, true)), .val (.bin .eql .num (.t 92) (.c (.int .i64 11)))⟩,
    ⟨(some 94), none, .val (.pick (.t 90) (.t 93) (.c (.bool false)))⟩,
    ⟨(some 95), none, .val (.mv (.t 94))⟩,
    ⟨(some 96), (some (95, true)), .val (.mv (.t 5))⟩,
    ⟨(some 97), (some (95, true)), .call 15 [(.t 96)]⟩,
    ⟨(some 98), (some (95, true)), .val (.fld false 1 0 (.t 97))⟩,
    ⟨(some 99), (some (95, true)), .val (.bin .eql .num (.t 98) (.c (.int .i64 0)))⟩,
    ⟨(some 100), none, .val (.pick (.t 95) (.t 99) (.c (.bool false)))⟩,
    ⟨(some 101), none, .val (.mv (.t 100))⟩,
    ⟨(some 102), (some (101, true)), .val (.mv (.t 5))⟩,
    ⟨(some 103), (some (101, true)), .call 16 [(.t 102)]⟩,
    ⟨(some 104), (some (101, true)), .val (.len .sl (.t 103))⟩,
    ⟨(some 105), (some (101, true)), .val (.bin .eql .num (.t 104) (.c (.int .i64 0)))⟩,
    ⟨(some 106), none, .val (.pick (.t 101) (.t 105) (.c (.bool false)))⟩,
    ⟨(some 4), none, .val (.mv (.t 106))⟩] [4]) (.ret))

abbrev k3_2 : MC :=
  (.seq (.reg [
    ⟨(some 50), none, .val (.mv (.t 5))⟩,
    ⟨(some 51), none, .call 10 [(.t 50)]⟩,
    ⟨(some 49), none, .val (.mv (.t 51))⟩,
    ⟨(some 52), none, .val (.ext (.t 49) 0)⟩,
    ⟨(some 53), none, .val (.ext (.t 49) 1)⟩,
    ⟨(some 14), none, .val (.mv (.t 52))⟩,
    ⟨(some 15), none, .val (.mv (.t 53))⟩] [0, 5, 7, 9, 11, 13, 15]) k3_1)

abbrev k3_3 : MC :=
  (.seq (.reg [
    ⟨(some 45), none, .val (.mv (.t 5))⟩,
    ⟨(some 46), none, .call 9 [(.t 45), (.c (.str [118, 109]))]⟩,
    ⟨(some 44), none, .val (.mv (.t 46))⟩,
    ⟨(some 47), none, .val (.ext (.t 44) 0)⟩,
    ⟨(some 48), none, .val (.ext (.t 44) 1)⟩,
    ⟨(some 12), none, .val (.mv (.t 47))⟩,
    ⟨(some 13), none, .val (.mv (.t 48))⟩] [0, 5, 7, 9, 11, 13]) k3_2)

abbrev k3_4 : MC :=
  (.seq (.reg [
    ⟨(some 38), none, .val (.mv (.t 5))⟩,
    ⟨(some 39), none, .val (.mv (.t 0))⟩,
    ⟨(some 40), none, .build [(.int .i64 0), (.int .i64 0), (.str []), .nilIface, .nilIface, .nilIface, .nilSl, (.int .i64 0), (.str [])] []⟩,
    ⟨(some 41), none, .call 8 [(.t 38), (.t 39), (.t 40)]⟩,
    ⟨(some 37), none, .val (.mv (.t 41))⟩,
    ⟨(some 42), none, .val (.ext (.t 37) 0)⟩,
    ⟨(some 43), none, .val (.ext (.t 37) 1)⟩,
    ⟨(some 10), none, .val (.mv (.t 42))⟩,
    ⟨(some 11), none, .val (.mv (.t 43))⟩] [0, 5, 7, 9, 11]) k3_3)

abbrev k3_5 : MC :=
  (.seq (.reg [
    ⟨(some 31), none, .val (.mv (.t 5))⟩,
    ⟨(some 32), none, .val (.mv (.t 0))⟩,
    ⟨(some 33), none, .val (.mv (.t 1))⟩,
    ⟨(some 34), none, .call 7 [(.t 31), (.t 32), (.t 33)]⟩,
    ⟨(some 30), none, .val (.mv (.t 34))⟩,
    ⟨(some 35), none, .val (.ext (.t 30) 0)⟩,
    ⟨(some 36), none, .val (.ext (.t 30) 1)⟩,
    ⟨(some 8), none, .val (.mv (.t 35))⟩,
    ⟨(some 9), none, .val (.mv (.t 36))⟩] [0, 5, 7, 9]) k3_4)

abbrev k3_6 : MC :=
  (.seq (.reg [
    ⟨(some 25), none, .val (.mv (.t 5))⟩,
    ⟨(some 26), none, .val (.mv (.t 0))⟩,
    ⟨(some 27), none, .call 6 [(.t 25), (.t 26)]⟩,
    ⟨(some 24), none, .val (.mv (.t 27))⟩,
    ⟨(some 28), none, .val (.ext (.t 24) 0)⟩,
    ⟨(some 29), none, .val (.ext (.t 24) 1)⟩,
    ⟨(some 6), none, .val (.mv (.t 28))⟩,
    ⟨(some 7), none, .val (.mv (.t 29))⟩] [0, 1, 5, 7]) k3_5)

abbrev k3_7 : MC :=
  (.seq (.reg [
    ⟨(some 5), none, .val (.mv (.c .nilPtr))⟩] [0, 1, 5]) k3_6)

abbrev k3_8 : MC :=
  (.seq ((.seq (.reg [
    ⟨(some 16), none, .val (.mv (.t 1))⟩,
    ⟨(some 17), none, .val (.len .sl (.t 16))⟩,
    ⟨(some 18), none, .val (.bin .gtr .num (.t 17) (.c (.int .i64 100)))⟩,
    ⟨(some 19), none, .val (.mv (.t 18))⟩,
    ⟨(some 20), (some (19, false)), .call 5 []⟩,
    ⟨(some 21), (some (19, false)), .val (.not (.t 20))⟩,
    ⟨(some 22), none, .val (.pick (.t 19) (.c (.bool true)) (.t 21))⟩] [0, 1, 22]) k3_0)) k3_7)
abbrev k3 : MC :=
  (.seq (.reg [
    ⟨(some 4), none, .val (.mv (.c (.bool false)))⟩] [0, 1]) k3_8)
theorem c3 : Tryz.f3.body.bind (mcOf Tryz.prog (List.contains [] ·) (List.getD [([], [0, 1]), ([], [0, 1, 22]), ([], [4]), ([], [0, 1, 5]), ([], [0, 1, 5, 7]), ([], [0, 5, 7, 9]), ([], [0, 5, 7, 9, 11]), ([], [0, 5, 7, 9, 11, 13]), ([], [0, 5, 7, 9, 11, 13, 15]), ([], [4])] · ([], [])) 107) = some k3 := by kernel_rfl
theorem r3 : rvsOf Tryz.prog Tryz.f3.results.toList = some [.tmp 4] := by kernel_rfl

attribute [local go_sem] byteCells_length intsE_get intsE_length List.drop_zero toNat_succ Nat.sub_zero Int.toNat_natCast Option.map_some Int.natCast_nonneg decide_eq_true_eq decide_eq_false_iff_not
theorem sawake_calls (H : AH) : ACalls Tryz.prog 5 [] H (fun o H' => o = .ret (.bool true) ∧ H' = H) := by
  refine ACalls.drop ?_
  refine acalls Tryz.func5 c5 r5 (by simp [Tryz.ntmps5]) ?_
  have nc := fun H => snew_calls (a := 1000) (b := 5) (by decide) (by decide) (by decide) (by decide) H
  repeat' (first | with_reducible refine am_seq ?_ | with_reducible refine am_block ?_ | ((with_reducible apply am_cond); (case hb => rfl); all_goals (intro hc; (try simp only [reduceCtorEq, decide_eq_true_eq, decide_eq_false_iff_not, Bool.or_eq_true, Bool.and_eq_true, Bool.or_eq_false_iff, Bool.not_eq_true', Bool.not_eq_false', beq_iff_eq] at hc); (try (exfalso; omega)))) | ((first | with_reducible refine am_reg ?_ | with_reducible refine am_drw ?_ | with_reducible refine am_skip ?_ | with_reducible refine am_exit ?_ | with_reducible refine am_ret ?_ | with_reducible refine And.intro (by first | exact AH.lec_refl _ | assumption | exact AccP.lec (by assumption) | omega) ?_ | with_reducible refine isnE_of (fun hc => ?_) (fun hc => ?_) (fun hc => ?_) | ((first | with_reducible refine gd_not (fun hc => ?_) (fun hc => ?_) | with_reducible refine gd_of (fun hc => ?_) (fun hc => ?_) | with_reducible refine gq_not (fun hc => ?_) (fun hc => ?_) | with_reducible refine gq_of (fun hc => ?_) (fun hc => ?_) | with_reducible refine pickB_of (fun hc => ?_) (fun hc => ?_)) <;> (try simp -implicitDefEqProofs (disch := omega) only [go_sem, eq_self, decide_true, decide_false, Nat.reduceBEq, Nat.reduceAdd, Nat.reduceSub, Nat.reduceMul, Nat.reduceEqDiff, Nat.reduceLeDiff, Nat.reduceLT, Int.reduceLE, Int.reduceLT, Int.reduceToNat, Int.reduceAdd, Int.reduceEq, Int.reduceNeg, AH.put_ne, hc]) <;> (try simp only [reduceCtorEq, decide_eq_true_eq, decide_eq_false_iff_not, Bool.or_eq_true, Bool.and_eq_true, Bool.or_eq_false_iff, Bool.not_eq_true', Bool.not_eq_false', beq_iff_eq] at hc) <;> (try (exfalso; omega))) | ((with_reducible refine alloc_intro (fun ko hko => ?_)) <;> (try have hne := fresh_ne (by assumption) hko) <;> (try have hnk := fresh_ne hk hko) <;> (try have hnk2 := fresh_ne hk2 hko) <;> (try simp only [AH.put_none] at hko)) | ((first | (with_reducible refine vapp_accL (by assumption) ?_ (fun v2 H2 hacc hlec => ?_)) | (with_reducible refine vapp_accL (AccP.mono (by assumption) (AccP.le (by assumption))) ?_ (fun v2 H2 hacc hlec => ?_)) | (with_reducible refine vapp_accL (AccP.new (by assumption) (by assumption) _) ?_ (fun v2 H2 hacc hlec => ?_))); · simp only [byteCells_length, List.length_cons, List.length_nil, List.length_map, List.length_append]; omega) | with_reducible refine need_elems (by assumption) ?_ | with_reducible refine vlen_acc (by assumption) ?_ | with_reducible refine need_bytes (by assumption) ?_ | with_reducible refine call_ex (nc _) (fun v H2 hr => ?_) | with_reducible refine need_look (by assumption) ?_ | with_reducible refine need_look (look_put (by assumption) (by assumption)) ?_ | with_reducible refine need_look (look_lec (by assumption) (by assumption)) ?_ | with_reducible refine need_look (look_put (AH.put_same _ _ _) (by assumption)) ?_ | with_reducible refine need_look (look_lec (AH.put_same _ _ _) (by assumption)) ?_ | with_reducible refine need_look (look_put (look_put (by assumption) (by assumption)) (by assumption)) ?_ | with_reducible refine need_look (look_lec (look_put (by assumption) (by assumption)) (by assumption)) ?_ | with_reducible refine need_look (look_put (look_lec (by assumption) (by assumption)) (by assumption)) ?_ | with_reducible refine need_look (look_lec (look_lec (by assumption) (by assumption)) (by assumption)) ?_ | with_reducible refine need_look (look_put (look_put (AH.put_same _ _ _) (by assumption)) (by assumption)) ?_ | with_reducible refine need_look (look_lec (look_put (AH.put_same _ _ _) (by assumption)) (by assumption)) ?_ | with_reducible refine need_look (look_put (look_lec (AH.put_same _ _ _) (by assumption)) (by assumption)) ?_ | with_reducible refine need_look (look_lec (look_lec (AH.put_same _ _ _) (by assumption)) (by assumption)) ?_) <;> (try simp -implicitDefEqProofs (disch := omega) only [go_sem, eq_self, decide_true, decide_false, Nat.reduceBEq, Nat.reduceAdd, Nat.reduceSub, Nat.reduceMul, Nat.reduceEqDiff, Nat.reduceLeDiff, Nat.reduceLT, Int.reduceLE, Int.reduceLT, Int.reduceToNat, Int.reduceAdd, Int.reduceEq, Int.reduceNeg, AH.put_ne])))
  obtain ⟨k, rfl, hk, rfl⟩ := hr
  simp -implicitDefEqProofs (disch := omega) only [go_sem, eq_self, decide_true, decide_false, Nat.reduceBEq, Nat.reduceAdd, Nat.reduceSub, Nat.reduceMul, Nat.reduceEqDiff, Nat.reduceLeDiff, Nat.reduceLT, Int.reduceLE, Int.reduceLT, Int.reduceToNat, Int.reduceAdd, Int.reduceEq, Int.reduceNeg, AH.put_ne]
  repeat' (first | with_reducible refine am_seq ?_ | with_reducible refine am_block ?_ | ((with_reducible apply am_cond); (case hb => rfl); all_goals (intro hc; (try simp only [reduceCtorEq, decide_eq_true_eq, decide_eq_false_iff_not, Bool.or_eq_true, Bool.and_eq_true, Bool.or_eq_false_iff, Bool.not_eq_true', Bool.not_eq_false', beq_iff_eq] at hc); (try (exfalso; omega)))) | ((first | with_reducible refine am_reg ?_ | with_reducible refine am_drw ?_ | with_reducible refine am_skip ?_ | with_reducible refine am_exit ?_ | with_reducible refine am_ret ?_ | with_reducible refine And.intro (by first | exact AH.lec_refl _ | assumption | exact AccP.lec (by assumption) | omega) ?_ | with_reducible refine isnE_of (fun hc => ?_) (fun hc => ?_) (fun hc => ?_) | ((first | with_reducible refine gd_not (fun hc => ?_) (fun hc => ?_) | with_reducible refine gd_of (fun hc => ?_) (fun hc => ?_) | with_reducible refine gq_not (fun hc => ?_) (fun hc => ?_) | with_reducible refine gq_of (fun hc => ?_) (fun hc => ?_) | with_reducible refine pickB_of (fun hc => ?_) (fun hc => ?_)) <;> (try simp -implicitDefEqProofs (disch := omega) only [go_sem, eq_self, decide_true, decide_false, Nat.reduceBEq, Nat.reduceAdd, Nat.reduceSub, Nat.reduceMul, Nat.reduceEqDiff, Nat.reduceLeDiff, Nat.reduceLT, Int.reduceLE, Int.reduceLT, Int.reduceToNat, Int.reduceAdd, Int.reduceEq, Int.reduceNeg, AH.put_ne, hc]) <;> (try simp only [reduceCtorEq, decide_eq_true_eq, decide_eq_false_iff_not, Bool.or_eq_true, Bool.and_eq_true, Bool.or_eq_false_iff, Bool.not_eq_true', Bool.not_eq_false', beq_iff_eq] at hc) <;> (try (exfalso; omega))) | ((with_reducible refine alloc_intro (fun ko hko => ?_)) <;> (try have hne := fresh_ne (by assumption) hko) <;> (try have hnk := fresh_ne hk hko) <;> (try have hnk2 := fresh_ne hk2 hko) <;> (try simp only [AH.put_none] at hko)) | ((first | (with_reducible refine vapp_accL (by assumption) ?_ (fun v2 H2 hacc hlec => ?_)) | (with_reducible refine vapp_accL (AccP.mono (by assumption) (AccP.le (by assumption))) ?_ (fun v2 H2 hacc hlec => ?_)) | (with_reducible refine vapp_accL (AccP.new (by assumption) (by assumption) _) ?_ (fun v2 H2 hacc hlec => ?_))); · simp only [byteCells_length, List.length_cons, List.length_nil, List.length_map, List.length_append]; omega) | with_reducible refine need_elems (by assumption) ?_ | with_reducible refine vlen_acc (by assumption) ?_ | with_reducible refine need_bytes (by assumption) ?_ | with_reducible refine call_ex (open_calls (by decide) (by decide) (by decide) (by decide) (AH.put_same _ _ _)) (fun v H2 hr => ?_) | with_reducible refine need_look (by assumption) ?_ | with_reducible refine need_look (look_put (by assumption) (by assumption)) ?_ | with_reducible refine need_look (look_lec (by assumption) (by assumption)) ?_ | with_reducible refine need_look (look_put (AH.put_same _ _ _) (by assumption)) ?_ | with_reducible refine need_look (look_lec (AH.put_same _ _ _) (by assumption)) ?_ | with_reducible refine need_look (look_put (look_put (by assumption) (by assumption)) (by assumption)) ?_ | with_reducible refine need_look (look_lec (look_put (by assumption) (by assumption)) (by assumption)) ?_ | with_reducible refine need_look (look_put (look_lec (by assumption) (by assumption)) (by assumption)) ?_ | with_reducible refine need_look (look_lec (look_lec (by assumption) (by assumption)) (by assumption)) ?_ | with_reducible refine need_look (look_put (look_put (AH.put_same _ _ _) (by assumption)) (by assumption)) ?_ | with_reducible refine need_look (look_lec (look_put (AH.put_same _ _ _) (by assumption)) (by assumption)) ?_ | with_reducible refine need_look (look_put (look_lec (AH.put_same _ _ _) (by assumption)) (by assumption)) ?_ | with_reducible refine need_look (look_lec (look_lec (AH.put_same _ _ _) (by assumption)) (by assumption)) ?_) <;> (try simp -implicitDefEqProofs (disch := omega) only [go_sem, eq_self, decide_true, decide_false, Nat.reduceBEq, Nat.reduceAdd, Nat.reduceSub, Nat.reduceMul, Nat.reduceEqDiff, Nat.reduceLeDiff, Nat.reduceLT, Int.reduceLE, Int.reduceLT, Int.reduceToNat, Int.reduceAdd, Int.reduceEq, Int.reduceNeg, AH.put_ne])))
  obtain ⟨u, i, p, rfl, hx, hk2⟩ := hr
  simp -implicitDefEqProofs (disch := omega) only [go_sem, eq_self, decide_true, decide_false, Nat.reduceBEq, Nat.reduceAdd, Nat.reduceSub, Nat.reduceMul, Nat.reduceEqDiff, Nat.reduceLeDiff, Nat.reduceLT, Int.reduceLE, Int.reduceLT, Int.reduceToNat, Int.reduceAdd, Int.reduceEq, Int.reduceNeg, AH.put_ne]
  repeat' (first | with_reducible refine am_seq ?_ | with_reducible refine am_block ?_ | ((with_reducible apply am_cond); (case hb => rfl); all_goals (intro hc; (try simp only [reduceCtorEq, decide_eq_true_eq, decide_eq_false_iff_not, Bool.or_eq_true, Bool.and_eq_true, Bool.or_eq_false_iff, Bool.not_eq_true', Bool.not_eq_false', beq_iff_eq] at hc); (try (exfalso; omega)))) | ((first | with_reducible refine am_reg ?_ | with_reducible refine am_drw ?_ | with_reducible refine am_skip ?_ | with_reducible refine am_exit ?_ | with_reducible refine am_ret ?_ | with_reducible refine And.intro (by first | exact AH.lec_refl _ | assumption | exact AccP.lec (by assumption) | omega) ?_ | with_reducible refine isnE_of (fun hc => ?_) (fun hc => ?_) (fun hc => ?_) | ((first | with_reducible refine gd_not (fun hc => ?_) (fun hc => ?_) | with_reducible refine gd_of (fun hc => ?_) (fun hc => ?_) | with_reducible refine gq_not (fun hc => ?_) (fun hc => ?_) | with_reducible refine gq_of (fun hc => ?_) (fun hc => ?_) | with_reducible refine pickB_of (fun hc => ?_) (fun hc => ?_)) <;> (try simp -implicitDefEqProofs (disch := omega) only [go_sem, eq_self, decide_true, decide_false, Nat.reduceBEq, Nat.reduceAdd, Nat.reduceSub, Nat.reduceMul, Nat.reduceEqDiff, Nat.reduceLeDiff, Nat.reduceLT, Int.reduceLE, Int.reduceLT, Int.reduceToNat, Int.reduceAdd, Int.reduceEq, Int.reduceNeg, AH.put_ne, hc]) <;> (try simp only [reduceCtorEq, decide_eq_true_eq, decide_eq_false_iff_not, Bool.or_eq_true, Bool.and_eq_true, Bool.or_eq_false_iff, Bool.not_eq_true', Bool.not_eq_false', beq_iff_eq] at hc) <;> (try (exfalso; omega))) | ((with_reducible refine alloc_intro (fun ko hko => ?_)) <;> (try have hne := fresh_ne (by assumption) hko) <;> (try have hnk := fresh_ne hk hko) <;> (try have hnk2 := fresh_ne hk2 hko) <;> (try simp only [AH.put_none] at hko)) | ((first | (with_reducible refine vapp_accL (by assumption) ?_ (fun v2 H2 hacc hlec => ?_)) | (with_reducible refine vapp_accL (AccP.mono (by assumption) (AccP.le (by assumption))) ?_ (fun v2 H2 hacc hlec => ?_)) | (with_reducible refine vapp_accL (AccP.new (by assumption) (by assumption) _) ?_ (fun v2 H2 hacc hlec => ?_))); · simp only [byteCells_length, List.length_cons, List.length_nil, List.length_map, List.length_append]; omega) | with_reducible refine need_elems (by assumption) ?_ | with_reducible refine vlen_acc (by assumption) ?_ | with_reducible refine need_bytes (by assumption) ?_ | (first | with_reducible refine call_at (fun G hl => sstate_calls (look_lec hk2 hl)) ?_ | with_reducible refine qcall_at (fun G hl => sstate_calls (look_lec hk2 hl)) ?_) | with_reducible refine need_look (by assumption) ?_ | with_reducible refine need_look (look_put (by assumption) (by assumption)) ?_ | with_reducible refine need_look (look_lec (by assumption) (by assumption)) ?_ | with_reducible refine need_look (look_put (AH.put_same _ _ _) (by assumption)) ?_ | with_reducible refine need_look (look_lec (AH.put_same _ _ _) (by assumption)) ?_ | with_reducible refine need_look (look_put (look_put (by assumption) (by assumption)) (by assumption)) ?_ | with_reducible refine need_look (look_lec (look_put (by assumption) (by assumption)) (by assumption)) ?_ | with_reducible refine need_look (look_put (look_lec (by assumption) (by assumption)) (by assumption)) ?_ | with_reducible refine need_look (look_lec (look_lec (by assumption) (by assumption)) (by assumption)) ?_ | with_reducible refine need_look (look_put (look_put (AH.put_same _ _ _) (by assumption)) (by assumption)) ?_ | with_reducible refine need_look (look_lec (look_put (AH.put_same _ _ _) (by assumption)) (by assumption)) ?_ | with_reducible refine need_look (look_put (look_lec (AH.put_same _ _ _) (by assumption)) (by assumption)) ?_ | with_reducible refine need_look (look_lec (look_lec (AH.put_same _ _ _) (by assumption)) (by assumption)) ?_) <;> (try simp -implicitDefEqProofs (disch := omega) only [go_sem, eq_self, decide_true, decide_false, Nat.reduceBEq, Nat.reduceAdd, Nat.reduceSub, Nat.reduceMul, Nat.reduceEqDiff, Nat.reduceLeDiff, Nat.reduceLT, Int.reduceLE, Int.reduceLT, Int.reduceToNat, Int.reduceAdd, Int.reduceEq, Int.reduceNeg, AH.put_ne])))
  all_goals refine end_le (fun j o ho => ?_)
  have hjk : j ≠ k := by rintro rfl; rw [hk] at ho; cases ho
  exact hx j o hjk (by rw [AH.put_ne _ _ hjk]; exact ho)
theorem openn_calls {n : Int} (H : AH) : ACalls Tryz.prog 6 [.nilPtr, .int .i64 n] H (fun o H' => o = .ret (.tuple [.nilSl, .int .i64 11]) ∧ H' = H) := by
  refine ACalls.drop ?_
  refine acalls Tryz.func6 c6 r6 (by simp [Tryz.ntmps6]) ?_
  repeat' (first | with_reducible refine am_seq ?_ | with_reducible refine am_block ?_ | ((with_reducible apply am_cond); (case hb => rfl); all_goals (intro hc; (try simp only [reduceCtorEq, decide_eq_true_eq, decide_eq_false_iff_not, Bool.or_eq_true, Bool.and_eq_true, Bool.or_eq_false_iff, Bool.not_eq_true', Bool.not_eq_false', beq_iff_eq] at hc); (try (exfalso; omega)))) | ((first | with_reducible refine am_reg ?_ | with_reducible refine am_drw ?_ | with_reducible refine am_skip ?_ | with_reducible refine am_exit ?_ | with_reducible refine am_ret ?_ | with_reducible refine And.intro (by first | exact AH.lec_refl _ | assumption | exact AccP.lec (by assumption) | omega) ?_ | with_reducible refine isnE_of (fun hc => ?_) (fun hc => ?_) (fun hc => ?_) | ((first | with_reducible refine gd_not (fun hc => ?_) (fun hc => ?_) | with_reducible refine gd_of (fun hc => ?_) (fun hc => ?_) | with_reducible refine gq_not (fun hc => ?_) (fun hc => ?_) | with_reducible refine gq_of (fun hc => ?_) (fun hc => ?_) | with_reducible refine pickB_of (fun hc => ?_) (fun hc => ?_)) <;> (try simp -implicitDefEqProofs (disch := omega) only [go_sem, eq_self, decide_true, decide_false, Nat.reduceBEq, Nat.reduceAdd, Nat.reduceSub, Nat.reduceMul, Nat.reduceEqDiff, Nat.reduceLeDiff, Nat.reduceLT, Int.reduceLE, Int.reduceLT, Int.reduceToNat, Int.reduceAdd, Int.reduceEq, Int.reduceNeg, AH.put_ne, hc]) <;> (try simp only [reduceCtorEq, decide_eq_true_eq, decide_eq_false_iff_not, Bool.or_eq_true, Bool.and_eq_true, Bool.or_eq_false_iff, Bool.not_eq_true', Bool.not_eq_false', beq_iff_eq] at hc) <;> (try (exfalso; omega))) | ((with_reducible refine alloc_intro (fun ko hko => ?_)) <;> (try have hne := fresh_ne (by assumption) hko) <;> (try have hnk := fresh_ne hk hko) <;> (try have hnk2 := fresh_ne hk2 hko) <;> (try simp only [AH.put_none] at hko)) | ((first | (with_reducible refine vapp_accL (by assumption) ?_ (fun v2 H2 hacc hlec => ?_)) | (with_reducible refine vapp_accL (AccP.mono (by assumption) (AccP.le (by assumption))) ?_ (fun v2 H2 hacc hlec => ?_)) | (with_reducible refine vapp_accL (AccP.new (by assumption) (by assumption) _) ?_ (fun v2 H2 hacc hlec => ?_))); · simp only [byteCells_length, List.length_cons, List.length_nil, List.length_map, List.length_append]; omega) | with_reducible refine need_elems (by assumption) ?_ | with_reducible refine vlen_acc (by assumption) ?_ | with_reducible refine need_bytes (by assumption) ?_ | with_reducible refine need_look (by assumption) ?_ | with_reducible refine need_look (look_put (by assumption) (by assumption)) ?_ | with_reducible refine need_look (look_lec (by assumption) (by assumption)) ?_ | with_reducible refine need_look (look_put (AH.put_same _ _ _) (by assumption)) ?_ | with_reducible refine need_look (look_lec (AH.put_same _ _ _) (by assumption)) ?_ | with_reducible refine need_look (look_put (look_put (by assumption) (by assumption)) (by assumption)) ?_ | with_reducible refine need_look (look_lec (look_put (by assumption) (by assumption)) (by assumption)) ?_ | with_reducible refine need_look (look_put (look_lec (by assumption) (by assumption)) (by assumption)) ?_ | with_reducible refine need_look (look_lec (look_lec (by assumption) (by assumption)) (by assumption)) ?_ | with_reducible refine need_look (look_put (look_put (AH.put_same _ _ _) (by assumption)) (by assumption)) ?_ | with_reducible refine need_look (look_lec (look_put (AH.put_same _ _ _) (by assumption)) (by assumption)) ?_ | with_reducible refine need_look (look_put (look_lec (AH.put_same _ _ _) (by assumption)) (by assumption)) ?_ | with_reducible refine need_look (look_lec (look_lec (AH.put_same _ _ _) (by assumption)) (by assumption)) ?_) <;> (try simp -implicitDefEqProofs (disch := omega) only [go_sem, eq_self, decide_true, decide_false, Nat.reduceBEq, Nat.reduceAdd, Nat.reduceSub, Nat.reduceMul, Nat.reduceEqDiff, Nat.reduceLeDiff, Nat.reduceLT, Int.reduceLE, Int.reduceLT, Int.reduceToNat, Int.reduceAdd, Int.reduceEq, Int.reduceNeg, AH.put_ne])))
  all_goals exact end_same
theorem feedn2_calls {n : Int} {v : V} (H : AH) : ACalls Tryz.prog 7 [.nilPtr, .int .i64 n, v] H (fun o H' => o = .ret (.tuple [.nilSl, .int .i64 11]) ∧ H' = H) := by
  refine ACalls.drop ?_
  refine acalls Tryz.func7 c7 r7 (by simp [Tryz.ntmps7]) ?_
  repeat' (first | with_reducible refine am_seq ?_ | with_reducible refine am_block ?_ | ((with_reducible apply am_cond); (case hb => rfl); all_goals (intro hc; (try simp only [reduceCtorEq, decide_eq_true_eq, decide_eq_false_iff_not, Bool.or_eq_true, Bool.and_eq_true, Bool.or_eq_false_iff, Bool.not_eq_true', Bool.not_eq_false', beq_iff_eq] at hc); (try (exfalso; omega)))) | ((first | with_reducible refine am_reg ?_ | with_reducible refine am_drw ?_ | with_reducible refine am_skip ?_ | with_reducible refine am_exit ?_ | with_reducible refine am_ret ?_ | with_reducible refine And.intro (by first | exact AH.lec_refl _ | assumption | exact AccP.lec (by assumption) | omega) ?_ | with_reducible refine isnE_of (fun hc => ?_) (fun hc => ?_) (fun hc => ?_) | ((first | with_reducible refine gd_not (fun hc => ?_) (fun hc => ?_) | with_reducible refine gd_of (fun hc => ?_) (fun hc => ?_) | with_reducible refine gq_not (fun hc => ?_) (fun hc => ?_) | with_reducible refine gq_of (fun hc => ?_) (fun hc => ?_) | with_reducible refine pickB_of (fun hc => ?_) (fun hc => ?_)) <;> (try simp -implicitDefEqProofs (disch := omega) only [go_sem, eq_self, decide_true, decide_false, Nat.reduceBEq, Nat.reduceAdd, Nat.reduceSub, Nat.reduceMul, Nat.reduceEqDiff, Nat.reduceLeDiff, Nat.reduceLT, Int.reduceLE, Int.reduceLT, Int.reduceToNat, Int.reduceAdd, Int.reduceEq, Int.reduceNeg, AH.put_ne, hc]) <;> (try simp only [reduceCtorEq, decide_eq_true_eq, decide_eq_false_iff_not, Bool.or_eq_true, Bool.and_eq_true, Bool.or_eq_false_iff, Bool.not_eq_true', Bool.not_eq_false', beq_iff_eq] at hc) <;> (try (exfalso; omega))) | ((with_reducible refine alloc_intro (fun ko hko => ?_)) <;> (try have hne := fresh_ne (by assumption) hko) <;> (try have hnk := fresh_ne hk hko) <;> (try have hnk2 := fresh_ne hk2 hko) <;> (try simp only [AH.put_none] at hko)) | ((first | (with_reducible refine vapp_accL (by assumption) ?_ (fun v2 H2 hacc hlec => ?_)) | (with_reducible refine vapp_accL (AccP.mono (by assumption) (AccP.le (by assumption))) ?_ (fun v2 H2 hacc hlec => ?_)) | (with_reducible refine vapp_accL (AccP.new (by assumption) (by assumption) _) ?_ (fun v2 H2 hacc hlec => ?_))); · simp only [byteCells_length, List.length_cons, List.length_nil, List.length_map, List.length_append]; omega) | with_reducible refine need_elems (by assumption) ?_ | with_reducible refine vlen_acc (by assumption) ?_ | with_reducible refine need_bytes (by assumption) ?_ | with_reducible refine need_look (by assumption) ?_ | with_reducible refine need_look (look_put (by assumption) (by assumption)) ?_ | with_reducible refine need_look (look_lec (by assumption) (by assumption)) ?_ | with_reducible refine need_look (look_put (AH.put_same _ _ _) (by assumption)) ?_ | with_reducible refine need_look (look_lec (AH.put_same _ _ _) (by assumption)) ?_ | with_reducible refine need_look (look_put (look_put (by assumption) (by assumption)) (by assumption)) ?_ | with_reducible refine need_look (look_lec (look_put (by assumption) (by assumption)) (by assumption)) ?_ | with_reducible refine need_look (look_put (look_lec (by assumption) (by assumption)) (by assumption)) ?_ | with_reducible refine need_look (look_lec (look_lec (by assumption) (by assumption)) (by assumption)) ?_ | with_reducible refine need_look (look_put (look_put (AH.put_same _ _ _) (by assumption)) (by assumption)) ?_ | with_reducible refine need_look (look_lec (look_put (AH.put_same _ _ _) (by assumption)) (by assumption)) ?_ | with_reducible refine need_look (look_put (look_lec (AH.put_same _ _ _) (by assumption)) (by assumption)) ?_ | with_reducible refine need_look (look_lec (look_lec (AH.put_same _ _ _) (by assumption)) (by assumption)) ?_) <;> (try simp -implicitDefEqProofs (disch := omega) only [go_sem, eq_self, decide_true, decide_false, Nat.reduceBEq, Nat.reduceAdd, Nat.reduceSub, Nat.reduceMul, Nat.reduceEqDiff, Nat.reduceLeDiff, Nat.reduceLT, Int.reduceLE, Int.reduceLT, Int.reduceToNat, Int.reduceAdd, Int.reduceEq, Int.reduceNeg, AH.put_ne])))
  all_goals exact end_same
theorem sstaten_calls (H : AH) : ACalls Tryz.prog 13 [.nilPtr] H (fun o H' => o = .ret (.int .i64 0) ∧ H' = H) := by
  refine ACalls.drop ?_
  refine acalls Tryz.func13 c13 r13 (by simp [Tryz.ntmps13]) ?_
  repeat' (first | with_reducible refine am_seq ?_ | with_reducible refine am_block ?_ | ((with_reducible apply am_cond); (case hb => rfl); all_goals (intro hc; (try simp only [reduceCtorEq, decide_eq_true_eq, decide_eq_false_iff_not, Bool.or_eq_true, Bool.and_eq_true, Bool.or_eq_false_iff, Bool.not_eq_true', Bool.not_eq_false', beq_iff_eq] at hc); (try (exfalso; omega)))) | ((first | with_reducible refine am_reg ?_ | with_reducible refine am_drw ?_ | with_reducible refine am_skip ?_ | with_reducible refine am_exit ?_ | with_reducible refine am_ret ?_ | with_reducible refine And.intro (by first | exact AH.lec_refl _ | assumption | exact AccP.lec (by assumption) | omega) ?_ | with_reducible refine isnE_of (fun hc => ?_) (fun hc => ?_) (fun hc => ?_) | ((first | with_reducible refine gd_not (fun hc => ?_) (fun hc => ?_) | with_reducible refine gd_of (fun hc => ?_) (fun hc => ?_) | with_reducible refine gq_not (fun hc => ?_) (fun hc => ?_) | with_reducible refine gq_of (fun hc => ?_) (fun hc => ?_) | with_reducible refine pickB_of (fun hc => ?_) (fun hc => ?_)) <;> (try simp -implicitDefEqProofs (disch := omega) only [go_sem, eq_self, decide_true, decide_false, Nat.reduceBEq, Nat.reduceAdd, Nat.reduceSub, Nat.reduceMul, Nat.reduceEqDiff, Nat.reduceLeDiff, Nat.reduceLT, Int.reduceLE, Int.reduceLT, Int.reduceToNat, Int.reduceAdd, Int.reduceEq, Int.reduceNeg, AH.put_ne, hc]) <;> (try simp only [reduceCtorEq, decide_eq_true_eq, decide_eq_false_iff_not, Bool.or_eq_true, Bool.and_eq_true, Bool.or_eq_false_iff, Bool.not_eq_true', Bool.not_eq_false', beq_iff_eq] at hc) <;> (try (exfalso; omega))) | ((with_reducible refine alloc_intro (fun ko hko => ?_)) <;> (try have hne := fresh_ne (by assumption) hko) <;> (try have hnk := fresh_ne hk hko) <;> (try have hnk2 := fresh_ne hk2 hko) <;> (try simp only [AH.put_none] at hko)) | ((first | (with_reducible refine vapp_accL (by assumption) ?_ (fun v2 H2 hacc hlec => ?_)) | (with_reducible refine vapp_accL (AccP.mono (by assumption) (AccP.le (by assumption))) ?_ (fun v2 H2 hacc hlec => ?_)) | (with_reducible refine vapp_accL (AccP.new (by assumption) (by assumption) _) ?_ (fun v2 H2 hacc hlec => ?_))); · simp only [byteCells_length, List.length_cons, List.length_nil, List.length_map, List.length_append]; omega) | with_reducible refine need_elems (by assumption) ?_ | with_reducible refine vlen_acc (by assumption) ?_ | with_reducible refine need_bytes (by assumption) ?_ | with_reducible refine need_look (by assumption) ?_ | with_reducible refine need_look (look_put (by assumption) (by assumption)) ?_ | with_reducible refine need_look (look_lec (by assumption) (by assumption)) ?_ | with_reducible refine need_look (look_put (AH.put_same _ _ _) (by assumption)) ?_ | with_reducible refine need_look (look_lec (AH.put_same _ _ _) (by assumption)) ?_ | with_reducible refine need_look (look_put (look_put (by assumption) (by assumption)) (by assumption)) ?_ | with_reducible refine need_look (look_lec (look_put (by assumption) (by assumption)) (by assumption)) ?_ | with_reducible refine need_look (look_put (look_lec (by assumption) (by assumption)) (by assumption)) ?_ | with_reducible refine need_look (look_lec (look_lec (by assumption) (by assumption)) (by assumption)) ?_ | with_reducible refine need_look (look_put (look_put (AH.put_same _ _ _) (by assumption)) (by assumption)) ?_ | with_reducible refine need_look (look_lec (look_put (AH.put_same _ _ _) (by assumption)) (by assumption)) ?_ | with_reducible refine need_look (look_put (look_lec (AH.put_same _ _ _) (by assumption)) (by assumption)) ?_ | with_reducible refine need_look (look_lec (look_lec (AH.put_same _ _ _) (by assumption)) (by assumption)) ?_) <;> (try simp -implicitDefEqProofs (disch := omega) only [go_sem, eq_self, decide_true, decide_false, Nat.reduceBEq, Nat.reduceAdd, Nat.reduceSub, Nat.reduceMul, Nat.reduceEqDiff, Nat.reduceLeDiff, Nat.reduceLT, Int.reduceLE, Int.reduceLT, Int.reduceToNat, Int.reduceAdd, Int.reduceEq, Int.reduceNeg, AH.put_ne])))
  all_goals exact end_same
theorem calln2_calls {n : Int} {cs : List V} (H : AH) : ACalls Tryz.prog 8 [.nilPtr, .int .i64 n, .agg cs] H (fun o H' => o = .ret (.tuple [.nilSl, .int .i64 11]) ∧ H' = H) := by
  refine ACalls.drop ?_
  refine acalls Tryz.func8 c8 r8 (by simp [Tryz.ntmps8]) ?_
  repeat' (first | with_reducible refine am_seq ?_ | with_reducible refine am_block ?_ | ((with_reducible apply am_cond); (case hb => rfl); all_goals (intro hc; (try simp only [reduceCtorEq, decide_eq_true_eq, decide_eq_false_iff_not, Bool.or_eq_true, Bool.and_eq_true, Bool.or_eq_false_iff, Bool.not_eq_true', Bool.not_eq_false', beq_iff_eq] at hc); (try (exfalso; omega)))) | ((first | with_reducible refine am_reg ?_ | with_reducible refine am_drw ?_ | with_reducible refine am_skip ?_ | with_reducible refine am_exit ?_ | with_reducible refine am_ret ?_ | with_reducible refine And.intro (by first | exact AH.lec_refl _ | assumption | exact AccP.lec (by assumption) | omega) ?_ | with_reducible refine isnE_of (fun hc => ?_) (fun hc => ?_) (fun hc => ?_) | ((first | with_reducible refine gd_not (fun hc => ?_) (fun hc => ?_) | with_reducible refine gd_of (fun hc => ?_) (fun hc => ?_) | with_reducible refine gq_not (fun hc => ?_) (fun hc => ?_) | with_reducible refine gq_of (fun hc => ?_) (fun hc => ?_) | with_reducible refine pickB_of (fun hc => ?_) (fun hc => ?_)) <;> (try simp -implicitDefEqProofs (disch := omega) only [go_sem, eq_self, decide_true, decide_false, Nat.reduceBEq, Nat.reduceAdd, Nat.reduceSub, Nat.reduceMul, Nat.reduceEqDiff, Nat.reduceLeDiff, Nat.reduceLT, Int.reduceLE, Int.reduceLT, Int.reduceToNat, Int.reduceAdd, Int.reduceEq, Int.reduceNeg, AH.put_ne, hc]) <;> (try simp only [reduceCtorEq, decide_eq_true_eq, decide_eq_false_iff_not, Bool.or_eq_true, Bool.and_eq_true, Bool.or_eq_false_iff, Bool.not_eq_true', Bool.not_eq_false', beq_iff_eq] at hc) <;> (try (exfalso; omega))) | ((with_reducible refine alloc_intro (fun ko hko => ?_)) <;> (try have hne := fresh_ne (by assumption) hko) <;> (try have hnk := fresh_ne hk hko) <;> (try have hnk2 := fresh_ne hk2 hko) <;> (try simp only [AH.put_none] at hko)) | ((first | (with_reducible refine vapp_accL (by assumption) ?_ (fun v2 H2 hacc hlec => ?_)) | (with_reducible refine vapp_accL (AccP.mono (by assumption) (AccP.le (by assumption))) ?_ (fun v2 H2 hacc hlec => ?_)) | (with_reducible refine vapp_accL (AccP.new (by assumption) (by assumption) _) ?_ (fun v2 H2 hacc hlec => ?_))); · simp only [byteCells_length, List.length_cons, List.length_nil, List.length_map, List.length_append]; omega) | with_reducible refine need_elems (by assumption) ?_ | with_reducible refine vlen_acc (by assumption) ?_ | with_reducible refine need_bytes (by assumption) ?_ | (first | with_reducible refine call_of (sstaten_calls) ?_ | with_reducible refine qcall_of (sstaten_calls) ?_) | with_reducible refine need_look (by assumption) ?_ | with_reducible refine need_look (look_put (by assumption) (by assumption)) ?_ | with_reducible refine need_look (look_lec (by assumption) (by assumption)) ?_ | with_reducible refine need_look (look_put (AH.put_same _ _ _) (by assumption)) ?_ | with_reducible refine need_look (look_lec (AH.put_same _ _ _) (by assumption)) ?_ | with_reducible refine need_look (look_put (look_put (by assumption) (by assumption)) (by assumption)) ?_ | with_reducible refine need_look (look_lec (look_put (by assumption) (by assumption)) (by assumption)) ?_ | with_reducible refine need_look (look_put (look_lec (by assumption) (by assumption)) (by assumption)) ?_ | with_reducible refine need_look (look_lec (look_lec (by assumption) (by assumption)) (by assumption)) ?_ | with_reducible refine need_look (look_put (look_put (AH.put_same _ _ _) (by assumption)) (by assumption)) ?_ | with_reducible refine need_look (look_lec (look_put (AH.put_same _ _ _) (by assumption)) (by assumption)) ?_ | with_reducible refine need_look (look_put (look_lec (AH.put_same _ _ _) (by assumption)) (by assumption)) ?_ | with_reducible refine need_look (look_lec (look_lec (AH.put_same _ _ _) (by assumption)) (by assumption)) ?_) <;> (try simp -implicitDefEqProofs (disch := omega) only [go_sem, eq_self, decide_true, decide_false, Nat.reduceBEq, Nat.reduceAdd, Nat.reduceSub, Nat.reduceMul, Nat.reduceEqDiff, Nat.reduceLeDiff, Nat.reduceLT, Int.reduceLE, Int.reduceLT, Int.reduceToNat, Int.reduceAdd, Int.reduceEq, Int.reduceNeg, AH.put_ne])))
  all_goals first | exact end_same | exact end_le (AH.le_put (AH.le_refl _) hko _)
theorem schn_calls {s : List UInt8} (H : AH) : ACalls Tryz.prog 9 [.nilPtr, .str s] H (fun o H' => o = .ret (.tuple [.nilPtr, .bool false]) ∧ H' = H) := by
  refine ACalls.drop ?_
  refine acalls Tryz.func9 c9 r9 (by simp [Tryz.ntmps9]) ?_
  repeat' (first | with_reducible refine am_seq ?_ | with_reducible refine am_block ?_ | ((with_reducible apply am_cond); (case hb => rfl); all_goals (intro hc; (try simp only [reduceCtorEq, decide_eq_true_eq, decide_eq_false_iff_not, Bool.or_eq_true, Bool.and_eq_true, Bool.or_eq_false_iff, Bool.not_eq_true', Bool.not_eq_false', beq_iff_eq] at hc); (try (exfalso; omega)))) | ((first | with_reducible refine am_reg ?_ | with_reducible refine am_drw ?_ | with_reducible refine am_skip ?_ | with_reducible refine am_exit ?_ | with_reducible refine am_ret ?_ | with_reducible refine And.intro (by first | exact AH.lec_refl _ | assumption | exact AccP.lec (by assumption) | omega) ?_ | with_reducible refine isnE_of (fun hc => ?_) (fun hc => ?_) (fun hc => ?_) | ((first | with_reducible refine gd_not (fun hc => ?_) (fun hc => ?_) | with_reducible refine gd_of (fun hc => ?_) (fun hc => ?_) | with_reducible refine gq_not (fun hc => ?_) (fun hc => ?_) | with_reducible refine gq_of (fun hc => ?_) (fun hc => ?_) | with_reducible refine pickB_of (fun hc => ?_) (fun hc => ?_)) <;> (try simp -implicitDefEqProofs (disch := omega) only [go_sem, eq_self, decide_true, decide_false, Nat.reduceBEq, Nat.reduceAdd, Nat.reduceSub, Nat.reduceMul, Nat.reduceEqDiff, Nat.reduceLeDiff, Nat.reduceLT, Int.reduceLE, Int.reduceLT, Int.reduceToNat, Int.reduceAdd, Int.reduceEq, Int.reduceNeg, AH.put_ne, hc]) <;> (try simp only [reduceCtorEq, decide_eq_true_eq, decide_eq_false_iff_not, Bool.or_eq_true, Bool.and_eq_true, Bool.or_eq_false_iff, Bool.not_eq_true', Bool.not_eq_false', beq_iff_eq] at hc) <;> (try (exfalso; omega))) | ((with_reducible refine alloc_intro (fun ko hko => ?_)) <;> (try have hne := fresh_ne (by assumption) hko) <;> (try have hnk := fresh_ne hk hko) <;> (try have hnk2 := fresh_ne hk2 hko) <;> (try simp only [AH.put_none] at hko)) | ((first | (with_reducible refine vapp_accL (by assumption) ?_ (fun v2 H2 hacc hlec => ?_)) | (with_reducible refine vapp_accL (AccP.mono (by assumption) (AccP.le (by assumption))) ?_ (fun v2 H2 hacc hlec => ?_)) | (with_reducible refine vapp_accL (AccP.new (by assumption) (by assumption) _) ?_ (fun v2 H2 hacc hlec => ?_))); · simp only [byteCells_length, List.length_cons, List.length_nil, List.length_map, List.length_append]; omega) | with_reducible refine need_elems (by assumption) ?_ | with_reducible refine vlen_acc (by assumption) ?_ | with_reducible refine need_bytes (by assumption) ?_ | with_reducible refine need_look (by assumption) ?_ | with_reducible refine need_look (look_put (by assumption) (by assumption)) ?_ | with_reducible refine need_look (look_lec (by assumption) (by assumption)) ?_ | with_reducible refine need_look (look_put (AH.put_same _ _ _) (by assumption)) ?_ | with_reducible refine need_look (look_lec (AH.put_same _ _ _) (by assumption)) ?_ | with_reducible refine need_look (look_put (look_put (by assumption) (by assumption)) (by assumption)) ?_ | with_reducible refine need_look (look_lec (look_put (by assumption) (by assumption)) (by assumption)) ?_ | with_reducible refine need_look (look_put (look_lec (by assumption) (by assumption)) (by assumption)) ?_ | with_reducible refine need_look (look_lec (look_lec (by assumption) (by assumption)) (by assumption)) ?_ | with_reducible refine need_look (look_put (look_put (AH.put_same _ _ _) (by assumption)) (by assumption)) ?_ | with_reducible refine need_look (look_lec (look_put (AH.put_same _ _ _) (by assumption)) (by assumption)) ?_ | with_reducible refine need_look (look_put (look_lec (AH.put_same _ _ _) (by assumption)) (by assumption)) ?_ | with_reducible refine need_look (look_lec (look_lec (AH.put_same _ _ _) (by assumption)) (by assumption)) ?_) <;> (try simp -implicitDefEqProofs (disch := omega) only [go_sem, eq_self, decide_true, decide_false, Nat.reduceBEq, Nat.reduceAdd, Nat.reduceSub, Nat.reduceMul, Nat.reduceEqDiff, Nat.reduceLeDiff, Nat.reduceLT, Int.reduceLE, Int.reduceLT, Int.reduceToNat, Int.reduceAdd, Int.reduceEq, Int.reduceNeg, AH.put_ne])))
  all_goals exact end_same
theorem waitsn_calls (H : AH) : ACalls Tryz.prog 42 [.nilPtr] H (fun o H' => o = .ret (.bool false) ∧ H' = H) := by
  refine ACalls.drop ?_
  refine acalls Tryz.func42 c42 r42 (by simp [Tryz.ntmps42]) ?_
  repeat' (first | with_reducible refine am_seq ?_ | with_reducible refine am_block ?_ | ((with_reducible apply am_cond); (case hb => rfl); all_goals (intro hc; (try simp only [reduceCtorEq, decide_eq_true_eq, decide_eq_false_iff_not, Bool.or_eq_true, Bool.and_eq_true, Bool.or_eq_false_iff, Bool.not_eq_true', Bool.not_eq_false', beq_iff_eq] at hc); (try (exfalso; omega)))) | ((first | with_reducible refine am_reg ?_ | with_reducible refine am_drw ?_ | with_reducible refine am_skip ?_ | with_reducible refine am_exit ?_ | with_reducible refine am_ret ?_ | with_reducible refine And.intro (by first | exact AH.lec_refl _ | assumption | exact AccP.lec (by assumption) | omega) ?_ | with_reducible refine isnE_of (fun hc => ?_) (fun hc => ?_) (fun hc => ?_) | ((first | with_reducible refine gd_not (fun hc => ?_) (fun hc => ?_) | with_reducible refine gd_of (fun hc => ?_) (fun hc => ?_) | with_reducible refine gq_not (fun hc => ?_) (fun hc => ?_) | with_reducible refine gq_of (fun hc => ?_) (fun hc => ?_) | with_reducible refine pickB_of (fun hc => ?_) (fun hc => ?_)) <;> (try simp -implicitDefEqProofs (disch := omega) only [go_sem, eq_self, decide_true, decide_false, Nat.reduceBEq, Nat.reduceAdd, Nat.reduceSub, Nat.reduceMul, Nat.reduceEqDiff, Nat.reduceLeDiff, Nat.reduceLT, Int.reduceLE, Int.reduceLT, Int.reduceToNat, Int.reduceAdd, Int.reduceEq, Int.reduceNeg, AH.put_ne, hc]) <;> (try simp only [reduceCtorEq, decide_eq_true_eq, decide_eq_false_iff_not, Bool.or_eq_true, Bool.and_eq_true, Bool.or_eq_false_iff, Bool.not_eq_true', Bool.not_eq_false', beq_iff_eq] at hc) <;> (try (exfalso; omega))) | ((with_reducible refine alloc_intro (fun ko hko => ?_)) <;> (try have hne := fresh_ne (by assumption) hko) <;> (try have hnk := fresh_ne hk hko) <;> (try have hnk2 := fresh_ne hk2 hko) <;> (try simp only [AH.put_none] at hko)) | ((first | (with_reducible refine vapp_accL (by assumption) ?_ (fun v2 H2 hacc hlec => ?_)) | (with_reducible refine vapp_accL (AccP.mono (by assumption) (AccP.le (by assumption))) ?_ (fun v2 H2 hacc hlec => ?_)) | (with_reducible refine vapp_accL (AccP.new (by assumption) (by assumption) _) ?_ (fun v2 H2 hacc hlec => ?_))); · simp only [byteCells_length, List.length_cons, List.length_nil, List.length_map, List.length_append]; omega) | with_reducible refine need_elems (by assumption) ?_ | with_reducible refine vlen_acc (by assumption) ?_ | with_reducible refine need_bytes (by assumption) ?_ | (first | with_reducible refine call_of (sstaten_calls) ?_ | with_reducible refine qcall_of (sstaten_calls) ?_) | with_reducible refine need_look (by assumption) ?_ | with_reducible refine need_look (look_put (by assumption) (by assumption)) ?_ | with_reducible refine need_look (look_lec (by assumption) (by assumption)) ?_ | with_reducible refine need_look (look_put (AH.put_same _ _ _) (by assumption)) ?_ | with_reducible refine need_look (look_lec (AH.put_same _ _ _) (by assumption)) ?_ | with_reducible refine need_look (look_put (look_put (by assumption) (by assumption)) (by assumption)) ?_ | with_reducible refine need_look (look_lec (look_put (by assumption) (by assumption)) (by assumption)) ?_ | with_reducible refine need_look (look_put (look_lec (by assumption) (by assumption)) (by assumption)) ?_ | with_reducible refine need_look (look_lec (look_lec (by assumption) (by assumption)) (by assumption)) ?_ | with_reducible refine need_look (look_put (look_put (AH.put_same _ _ _) (by assumption)) (by assumption)) ?_ | with_reducible refine need_look (look_lec (look_put (AH.put_same _ _ _) (by assumption)) (by assumption)) ?_ | with_reducible refine need_look (look_put (look_lec (AH.put_same _ _ _) (by assumption)) (by assumption)) ?_ | with_reducible refine need_look (look_lec (look_lec (AH.put_same _ _ _) (by assumption)) (by assumption)) ?_) <;> (try simp -implicitDefEqProofs (disch := omega) only [go_sem, eq_self, decide_true, decide_false, Nat.reduceBEq, Nat.reduceAdd, Nat.reduceSub, Nat.reduceMul, Nat.reduceEqDiff, Nat.reduceLeDiff, Nat.reduceLT, Int.reduceLE, Int.reduceLT, Int.reduceToNat, Int.reduceAdd, Int.reduceEq, Int.reduceNeg, AH.put_ne])))
  all_goals exact end_same
theorem untiln_calls (H : AH) : ACalls Tryz.prog 10 [.nilPtr] H (fun o H' => o = .ret (.tuple [.int .i64 0, .bool false]) ∧ H' = H) := by
  refine ACalls.drop ?_
  refine acalls Tryz.func10 c10 r10 (by simp [Tryz.ntmps10]) ?_
  repeat' (first | with_reducible refine am_seq ?_ | with_reducible refine am_block ?_ | ((with_reducible apply am_cond); (case hb => rfl); all_goals (intro hc; (try simp only [reduceCtorEq, decide_eq_true_eq, decide_eq_false_iff_not, Bool.or_eq_true, Bool.and_eq_true, Bool.or_eq_false_iff, Bool.not_eq_true', Bool.not_eq_false', beq_iff_eq] at hc); (try (exfalso; omega)))) | ((first | with_reducible refine am_reg ?_ | with_reducible refine am_drw ?_ | with_reducible refine am_skip ?_ | with_reducible refine am_exit ?_ | with_reducible refine am_ret ?_ | with_reducible refine And.intro (by first | exact AH.lec_refl _ | assumption | exact AccP.lec (by assumption) | omega) ?_ | with_reducible refine isnE_of (fun hc => ?_) (fun hc => ?_) (fun hc => ?_) | ((first | with_reducible refine gd_not (fun hc => ?_) (fun hc => ?_) | with_reducible refine gd_of (fun hc => ?_) (fun hc => ?_) | with_reducible refine gq_not (fun hc => ?_) (fun hc => ?_) | with_reducible refine gq_of (fun hc => ?_) (fun hc => ?_) | with_reducible refine pickB_of (fun hc => ?_) (fun hc => ?_)) <;> (try simp -implicitDefEqProofs (disch := omega) only [go_sem, eq_self, decide_true, decide_false, Nat.reduceBEq, Nat.reduceAdd, Nat.reduceSub, Nat.reduceMul, Nat.reduceEqDiff, Nat.reduceLeDiff, Nat.reduceLT, Int.reduceLE, Int.reduceLT, Int.reduceToNat, Int.reduceAdd, Int.reduceEq, Int.reduceNeg, AH.put_ne, hc]) <;> (try simp only [reduceCtorEq, decide_eq_true_eq, decide_eq_false_iff_not, Bool.or_eq_true, Bool.and_eq_true, Bool.or_eq_false_iff, Bool.not_eq_true', Bool.not_eq_false', beq_iff_eq] at hc) <;> (try (exfalso; omega))) | ((with_reducible refine alloc_intro (fun ko hko => ?_)) <;> (try have hne := fresh_ne (by assumption) hko) <;> (try have hnk := fresh_ne hk hko) <;> (try have hnk2 := fresh_ne hk2 hko) <;> (try simp only [AH.put_none] at hko)) | ((first | (with_reducible refine vapp_accL (by assumption) ?_ (fun v2 H2 hacc hlec => ?_)) | (with_reducible refine vapp_accL (AccP.mono (by assumption) (AccP.le (by assumption))) ?_ (fun v2 H2 hacc hlec => ?_)) | (with_reducible refine vapp_accL (AccP.new (by assumption) (by assumption) _) ?_ (fun v2 H2 hacc hlec => ?_))); · simp only [byteCells_length, List.length_cons, List.length_nil, List.length_map, List.length_append]; omega) | with_reducible refine need_elems (by assumption) ?_ | with_reducible refine vlen_acc (by assumption) ?_ | with_reducible refine need_bytes (by assumption) ?_ | (first | with_reducible refine call_of (waitsn_calls) ?_ | with_reducible refine qcall_of (waitsn_calls) ?_) | with_reducible refine need_look (by assumption) ?_ | with_reducible refine need_look (look_put (by assumption) (by assumption)) ?_ | with_reducible refine need_look (look_lec (by assumption) (by assumption)) ?_ | with_reducible refine need_look (look_put (AH.put_same _ _ _) (by assumption)) ?_ | with_reducible refine need_look (look_lec (AH.put_same _ _ _) (by assumption)) ?_ | with_reducible refine need_look (look_put (look_put (by assumption) (by assumption)) (by assumption)) ?_ | with_reducible refine need_look (look_lec (look_put (by assumption) (by assumption)) (by assumption)) ?_ | with_reducible refine need_look (look_put (look_lec (by assumption) (by assumption)) (by assumption)) ?_ | with_reducible refine need_look (look_lec (look_lec (by assumption) (by assumption)) (by assumption)) ?_ | with_reducible refine need_look (look_put (look_put (AH.put_same _ _ _) (by assumption)) (by assumption)) ?_ | with_reducible refine need_look (look_lec (look_put (AH.put_same _ _ _) (by assumption)) (by assumption)) ?_ | with_reducible refine need_look (look_put (look_lec (AH.put_same _ _ _) (by assumption)) (by assumption)) ?_ | with_reducible refine need_look (look_lec (look_lec (AH.put_same _ _ _) (by assumption)) (by assumption)) ?_) <;> (try simp -implicitDefEqProofs (disch := omega) only [go_sem, eq_self, decide_true, decide_false, Nat.reduceBEq, Nat.reduceAdd, Nat.reduceSub, Nat.reduceMul, Nat.reduceEqDiff, Nat.reduceLeDiff, Nat.reduceLT, Int.reduceLE, Int.reduceLT, Int.reduceToNat, Int.reduceAdd, Int.reduceEq, Int.reduceNeg, AH.put_ne])))
  all_goals exact end_same
theorem tickn2_calls {n : Int} (H : AH) : ACalls Tryz.prog 11 [.nilPtr, .int .i64 n] H (fun o H' => o = .ret .nilSl ∧ H' = H) := by
  refine ACalls.drop ?_
  refine acalls Tryz.func11 c11 r11 (by simp [Tryz.ntmps11]) ?_
  repeat' (first | with_reducible refine am_seq ?_ | with_reducible refine am_block ?_ | ((with_reducible apply am_cond); (case hb => rfl); all_goals (intro hc; (try simp only [reduceCtorEq, decide_eq_true_eq, decide_eq_false_iff_not, Bool.or_eq_true, Bool.and_eq_true, Bool.or_eq_false_iff, Bool.not_eq_true', Bool.not_eq_false', beq_iff_eq] at hc); (try (exfalso; omega)))) | ((first | with_reducible refine am_reg ?_ | with_reducible refine am_drw ?_ | with_reducible refine am_skip ?_ | with_reducible refine am_exit ?_ | with_reducible refine am_ret ?_ | with_reducible refine And.intro (by first | exact AH.lec_refl _ | assumption | exact AccP.lec (by assumption) | omega) ?_ | with_reducible refine isnE_of (fun hc => ?_) (fun hc => ?_) (fun hc => ?_) | ((first | with_reducible refine gd_not (fun hc => ?_) (fun hc => ?_) | with_reducible refine gd_of (fun hc => ?_) (fun hc => ?_) | with_reducible refine gq_not (fun hc => ?_) (fun hc => ?_) | with_reducible refine gq_of (fun hc => ?_) (fun hc => ?_) | with_reducible refine pickB_of (fun hc => ?_) (fun hc => ?_)) <;> (try simp -implicitDefEqProofs (disch := omega) only [go_sem, eq_self, decide_true, decide_false, Nat.reduceBEq, Nat.reduceAdd, Nat.reduceSub, Nat.reduceMul, Nat.reduceEqDiff, Nat.reduceLeDiff, Nat.reduceLT, Int.reduceLE, Int.reduceLT, Int.reduceToNat, Int.reduceAdd, Int.reduceEq, Int.reduceNeg, AH.put_ne, hc]) <;> (try simp only [reduceCtorEq, decide_eq_true_eq, decide_eq_false_iff_not, Bool.or_eq_true, Bool.and_eq_true, Bool.or_eq_false_iff, Bool.not_eq_true', Bool.not_eq_false', beq_iff_eq] at hc) <;> (try (exfalso; omega))) | ((with_reducible refine alloc_intro (fun ko hko => ?_)) <;> (try have hne := fresh_ne (by assumption) hko) <;> (try have hnk := fresh_ne hk hko) <;> (try have hnk2 := fresh_ne hk2 hko) <;> (try simp only [AH.put_none] at hko)) | ((first | (with_reducible refine vapp_accL (by assumption) ?_ (fun v2 H2 hacc hlec => ?_)) | (with_reducible refine vapp_accL (AccP.mono (by assumption) (AccP.le (by assumption))) ?_ (fun v2 H2 hacc hlec => ?_)) | (with_reducible refine vapp_accL (AccP.new (by assumption) (by assumption) _) ?_ (fun v2 H2 hacc hlec => ?_))); · simp only [byteCells_length, List.length_cons, List.length_nil, List.length_map, List.length_append]; omega) | with_reducible refine need_elems (by assumption) ?_ | with_reducible refine vlen_acc (by assumption) ?_ | with_reducible refine need_bytes (by assumption) ?_ | (first | with_reducible refine call_of (waitsn_calls) ?_ | with_reducible refine qcall_of (waitsn_calls) ?_) | with_reducible refine need_look (by assumption) ?_ | with_reducible refine need_look (look_put (by assumption) (by assumption)) ?_ | with_reducible refine need_look (look_lec (by assumption) (by assumption)) ?_ | with_reducible refine need_look (look_put (AH.put_same _ _ _) (by assumption)) ?_ | with_reducible refine need_look (look_lec (AH.put_same _ _ _) (by assumption)) ?_ | with_reducible refine need_look (look_put (look_put (by assumption) (by assumption)) (by assumption)) ?_ | with_reducible refine need_look (look_lec (look_put (by assumption) (by assumption)) (by assumption)) ?_ | with_reducible refine need_look (look_put (look_lec (by assumption) (by assumption)) (by assumption)) ?_ | with_reducible refine need_look (look_lec (look_lec (by assumption) (by assumption)) (by assumption)) ?_ | with_reducible refine need_look (look_put (look_put (AH.put_same _ _ _) (by assumption)) (by assumption)) ?_ | with_reducible refine need_look (look_lec (look_put (AH.put_same _ _ _) (by assumption)) (by assumption)) ?_ | with_reducible refine need_look (look_put (look_lec (AH.put_same _ _ _) (by assumption)) (by assumption)) ?_ | with_reducible refine need_look (look_lec (look_lec (AH.put_same _ _ _) (by assumption)) (by assumption)) ?_) <;> (try simp -implicitDefEqProofs (disch := omega) only [go_sem, eq_self, decide_true, decide_false, Nat.reduceBEq, Nat.reduceAdd, Nat.reduceSub, Nat.reduceMul, Nat.reduceEqDiff, Nat.reduceLeDiff, Nat.reduceLT, Int.reduceLE, Int.reduceLT, Int.reduceToNat, Int.reduceAdd, Int.reduceEq, Int.reduceNeg, AH.put_ne])))
  all_goals exact end_same
theorem gonen2_calls (H : AH) : ACalls Tryz.prog 12 [.nilPtr] H (fun o H' => o = .ret .nilSl ∧ H' = H) := by
  refine ACalls.drop ?_
  refine acalls Tryz.func12 c12 r12 (by simp [Tryz.ntmps12]) ?_
  repeat' (first | with_reducible refine am_seq ?_ | with_reducible refine am_block ?_ | ((with_reducible apply am_cond); (case hb => rfl); all_goals (intro hc; (try simp only [reduceCtorEq, decide_eq_true_eq, decide_eq_false_iff_not, Bool.or_eq_true, Bool.and_eq_true, Bool.or_eq_false_iff, Bool.not_eq_true', Bool.not_eq_false', beq_iff_eq] at hc); (try (exfalso; omega)))) | ((first | with_reducible refine am_reg ?_ | with_reducible refine am_drw ?_ | with_reducible refine am_skip ?_ | with_reducible refine am_exit ?_ | with_reducible refine am_ret ?_ | with_reducible refine And.intro (by first | exact AH.lec_refl _ | assumption | exact AccP.lec (by assumption) | omega) ?_ | with_reducible refine isnE_of (fun hc => ?_) (fun hc => ?_) (fun hc => ?_) | ((first | with_reducible refine gd_not (fun hc => ?_) (fun hc => ?_) | with_reducible refine gd_of (fun hc => ?_) (fun hc => ?_) | with_reducible refine gq_not (fun hc => ?_) (fun hc => ?_) | with_reducible refine gq_of (fun hc => ?_) (fun hc => ?_) | with_reducible refine pickB_of (fun hc => ?_) (fun hc => ?_)) <;> (try simp -implicitDefEqProofs (disch := omega) only [go_sem, eq_self, decide_true, decide_false, Nat.reduceBEq, Nat.reduceAdd, Nat.reduceSub, Nat.reduceMul, Nat.reduceEqDiff, Nat.reduceLeDiff, Nat.reduceLT, Int.reduceLE, Int.reduceLT, Int.reduceToNat, Int.reduceAdd, Int.reduceEq, Int.reduceNeg, AH.put_ne, hc]) <;> (try simp only [reduceCtorEq, decide_eq_true_eq, decide_eq_false_iff_not, Bool.or_eq_true, Bool.and_eq_true, Bool.or_eq_false_iff, Bool.not_eq_true', Bool.not_eq_false', beq_iff_eq] at hc) <;> (try (exfalso; omega))) | ((with_reducible refine alloc_intro (fun ko hko => ?_)) <;> (try have hne := fresh_ne (by assumption) hko) <;> (try have hnk := fresh_ne hk hko) <;> (try have hnk2 := fresh_ne hk2 hko) <;> (try simp only [AH.put_none] at hko)) | ((first | (with_reducible refine vapp_accL (by assumption) ?_ (fun v2 H2 hacc hlec => ?_)) | (with_reducible refine vapp_accL (AccP.mono (by assumption) (AccP.le (by assumption))) ?_ (fun v2 H2 hacc hlec => ?_)) | (with_reducible refine vapp_accL (AccP.new (by assumption) (by assumption) _) ?_ (fun v2 H2 hacc hlec => ?_))); · simp only [byteCells_length, List.length_cons, List.length_nil, List.length_map, List.length_append]; omega) | with_reducible refine need_elems (by assumption) ?_ | with_reducible refine vlen_acc (by assumption) ?_ | with_reducible refine need_bytes (by assumption) ?_ | with_reducible refine need_look (by assumption) ?_ | with_reducible refine need_look (look_put (by assumption) (by assumption)) ?_ | with_reducible refine need_look (look_lec (by assumption) (by assumption)) ?_ | with_reducible refine need_look (look_put (AH.put_same _ _ _) (by assumption)) ?_ | with_reducible refine need_look (look_lec (AH.put_same _ _ _) (by assumption)) ?_ | with_reducible refine need_look (look_put (look_put (by assumption) (by assumption)) (by assumption)) ?_ | with_reducible refine need_look (look_lec (look_put (by assumption) (by assumption)) (by assumption)) ?_ | with_reducible refine need_look (look_put (look_lec (by assumption) (by assumption)) (by assumption)) ?_ | with_reducible refine need_look (look_lec (look_lec (by assumption) (by assumption)) (by assumption)) ?_ | with_reducible refine need_look (look_put (look_put (AH.put_same _ _ _) (by assumption)) (by assumption)) ?_ | with_reducible refine need_look (look_lec (look_put (AH.put_same _ _ _) (by assumption)) (by assumption)) ?_ | with_reducible refine need_look (look_put (look_lec (AH.put_same _ _ _) (by assumption)) (by assumption)) ?_ | with_reducible refine need_look (look_lec (look_lec (AH.put_same _ _ _) (by assumption)) (by assumption)) ?_) <;> (try simp -implicitDefEqProofs (disch := omega) only [go_sem, eq_self, decide_true, decide_false, Nat.reduceBEq, Nat.reduceAdd, Nat.reduceSub, Nat.reduceMul, Nat.reduceEqDiff, Nat.reduceLeDiff, Nat.reduceLT, Int.reduceLE, Int.reduceLT, Int.reduceToNat, Int.reduceAdd, Int.reduceEq, Int.reduceNeg, AH.put_ne])))
  all_goals exact end_same
theorem faultn_calls (H : AH) : ACalls Tryz.prog 14 [.nilPtr] H (fun o H' => o = .ret (.int .i64 11) ∧ H' = H) := by
  refine ACalls.drop ?_
  refine acalls Tryz.func14 c14 r14 (by simp [Tryz.ntmps14]) ?_
  repeat' (first | with_reducible refine am_seq ?_ | with_reducible refine am_block ?_ | ((with_reducible apply am_cond); (case hb => rfl); all_goals (intro hc; (try simp only [reduceCtorEq, decide_eq_true_eq, decide_eq_false_iff_not, Bool.or_eq_true, Bool.and_eq_true, Bool.or_eq_false_iff, Bool.not_eq_true', Bool.not_eq_false', beq_iff_eq] at hc); (try (exfalso; omega)))) | ((first | with_reducible refine am_reg ?_ | with_reducible refine am_drw ?_ | with_reducible refine am_skip ?_ | with_reducible refine am_exit ?_ | with_reducible refine am_ret ?_ | with_reducible refine And.intro (by first | exact AH.lec_refl _ | assumption | exact AccP.lec (by assumption) | omega) ?_ | with_reducible refine isnE_of (fun hc => ?_) (fun hc => ?_) (fun hc => ?_) | ((first | with_reducible refine gd_not (fun hc => ?_) (fun hc => ?_) | with_reducible refine gd_of (fun hc => ?_) (fun hc => ?_) | with_reducible refine gq_not (fun hc => ?_) (fun hc => ?_) | with_reducible refine gq_of (fun hc => ?_) (fun hc => ?_) | with_reducible refine pickB_of (fun hc => ?_) (fun hc => ?_)) <;> (try simp -implicitDefEqProofs (disch := omega) only [go_sem, eq_self, decide_true, decide_false, Nat.reduceBEq, Nat.reduceAdd, Nat.reduceSub, Nat.reduceMul, Nat.reduceEqDiff, Nat.reduceLeDiff, Nat.reduceLT, Int.reduceLE, Int.reduceLT, Int.reduceToNat, Int.reduceAdd, Int.reduceEq, Int.reduceNeg, AH.put_ne, hc]) <;> (try simp only [reduceCtorEq, decide_eq_true_eq, decide_eq_false_iff_not, Bool.or_eq_true, Bool.and_eq_true, Bool.or_eq_false_iff, Bool.not_eq_true', Bool.not_eq_false', beq_iff_eq] at hc) <;> (try (exfalso; omega))) | ((with_reducible refine alloc_intro (fun ko hko => ?_)) <;> (try have hne := fresh_ne (by assumption) hko) <;> (try have hnk := fresh_ne hk hko) <;> (try have hnk2 := fresh_ne hk2 hko) <;> (try simp only [AH.put_none] at hko)) | ((first | (with_reducible refine vapp_accL (by assumption) ?_ (fun v2 H2 hacc hlec => ?_)) | (with_reducible refine vapp_accL (AccP.mono (by assumption) (AccP.le (by assumption))) ?_ (fun v2 H2 hacc hlec => ?_)) | (with_reducible refine vapp_accL (AccP.new (by assumption) (by assumption) _) ?_ (fun v2 H2 hacc hlec => ?_))); · simp only [byteCells_length, List.length_cons, List.length_nil, List.length_map, List.length_append]; omega) | with_reducible refine need_elems (by assumption) ?_ | with_reducible refine vlen_acc (by assumption) ?_ | with_reducible refine need_bytes (by assumption) ?_ | with_reducible refine need_look (by assumption) ?_ | with_reducible refine need_look (look_put (by assumption) (by assumption)) ?_ | with_reducible refine need_look (look_lec (by assumption) (by assumption)) ?_ | with_reducible refine need_look (look_put (AH.put_same _ _ _) (by assumption)) ?_ | with_reducible refine need_look (look_lec (AH.put_same _ _ _) (by assumption)) ?_ | with_reducible refine need_look (look_put (look_put (by assumption) (by assumption)) (by assumption)) ?_ | with_reducible refine need_look (look_lec (look_put (by assumption) (by assumption)) (by assumption)) ?_ | with_reducible refine need_look (look_put (look_lec (by assumption) (by assumption)) (by assumption)) ?_ | with_reducible refine need_look (look_lec (look_lec (by assumption) (by assumption)) (by assumption)) ?_ | with_reducible refine need_look (look_put (look_put (AH.put_same _ _ _) (by assumption)) (by assumption)) ?_ | with_reducible refine need_look (look_lec (look_put (AH.put_same _ _ _) (by assumption)) (by assumption)) ?_ | with_reducible refine need_look (look_put (look_lec (AH.put_same _ _ _) (by assumption)) (by assumption)) ?_ | with_reducible refine need_look (look_lec (look_lec (AH.put_same _ _ _) (by assumption)) (by assumption)) ?_) <;> (try simp -implicitDefEqProofs (disch := omega) only [go_sem, eq_self, decide_true, decide_false, Nat.reduceBEq, Nat.reduceAdd, Nat.reduceSub, Nat.reduceMul, Nat.reduceEqDiff, Nat.reduceLeDiff, Nat.reduceLT, Int.reduceLE, Int.reduceLT, Int.reduceToNat, Int.reduceAdd, Int.reduceEq, Int.reduceNeg, AH.put_ne])))
  all_goals exact end_same
theorem dealn_calls (H : AH) : ACalls Tryz.prog 15 [.nilPtr] H (fun o H' => o = .ret (.agg [.int .i64 0, .nilSl]) ∧ H' = H) := by
  refine ACalls.drop ?_
  refine acalls Tryz.func15 c15 r15 (by simp [Tryz.ntmps15]) ?_
  repeat' (first | with_reducible refine am_seq ?_ | with_reducible refine am_block ?_ | ((with_reducible apply am_cond); (case hb => rfl); all_goals (intro hc; (try simp only [reduceCtorEq, decide_eq_true_eq, decide_eq_false_iff_not, Bool.or_eq_true, Bool.and_eq_true, Bool.or_eq_false_iff, Bool.not_eq_true', Bool.not_eq_false', beq_iff_eq] at hc); (try (exfalso; omega)))) | ((first | with_reducible refine am_reg ?_ | with_reducible refine am_drw ?_ | with_reducible refine am_skip ?_ | with_reducible refine am_exit ?_ | with_reducible refine am_ret ?_ | with_reducible refine And.intro (by first | exact AH.lec_refl _ | assumption | exact AccP.lec (by assumption) | omega) ?_ | with_reducible refine isnE_of (fun hc => ?_) (fun hc => ?_) (fun hc => ?_) | ((first | with_reducible refine gd_not (fun hc => ?_) (fun hc => ?_) | with_reducible refine gd_of (fun hc => ?_) (fun hc => ?_) | with_reducible refine gq_not (fun hc => ?_) (fun hc => ?_) | with_reducible refine gq_of (fun hc => ?_) (fun hc => ?_) | with_reducible refine pickB_of (fun hc => ?_) (fun hc => ?_)) <;> (try simp -implicitDefEqProofs (disch := omega) only [go_sem, eq_self, decide_true, decide_false, Nat.reduceBEq, Nat.reduceAdd, Nat.reduceSub, Nat.reduceMul, Nat.reduceEqDiff, Nat.reduceLeDiff, Nat.reduceLT, Int.reduceLE, Int.reduceLT, Int.reduceToNat, Int.reduceAdd, Int.reduceEq, Int.reduceNeg, AH.put_ne, hc]) <;> (try simp only [reduceCtorEq, decide_eq_true_eq, decide_eq_false_iff_not, Bool.or_eq_true, Bool.and_eq_true, Bool.or_eq_false_iff, Bool.not_eq_true', Bool.not_eq_false', beq_iff_eq] at hc) <;> (try (exfalso; omega))) | ((with_reducible refine alloc_intro (fun ko hko => ?_)) <;> (try have hne := fresh_ne (by assumption) hko) <;> (try have hnk := fresh_ne hk hko) <;> (try have hnk2 := fresh_ne hk2 hko) <;> (try simp only [AH.put_none] at hko)) | ((first | (with_reducible refine vapp_accL (by assumption) ?_ (fun v2 H2 hacc hlec => ?_)) | (with_reducible refine vapp_accL (AccP.mono (by assumption) (AccP.le (by assumption))) ?_ (fun v2 H2 hacc hlec => ?_)) | (with_reducible refine vapp_accL (AccP.new (by assumption) (by assumption) _) ?_ (fun v2 H2 hacc hlec => ?_))); · simp only [byteCells_length, List.length_cons, List.length_nil, List.length_map, List.length_append]; omega) | with_reducible refine need_elems (by assumption) ?_ | with_reducible refine vlen_acc (by assumption) ?_ | with_reducible refine need_bytes (by assumption) ?_ | with_reducible refine need_look (by assumption) ?_ | with_reducible refine need_look (look_put (by assumption) (by assumption)) ?_ | with_reducible refine need_look (look_lec (by assumption) (by assumption)) ?_ | with_reducible refine need_look (look_put (AH.put_same _ _ _) (by assumption)) ?_ | with_reducible refine need_look (look_lec (AH.put_same _ _ _) (by assumption)) ?_ | with_reducible refine need_look (look_put (look_put (by assumption) (by assumption)) (by assumption)) ?_ | with_reducible refine need_look (look_lec (look_put (by assumption) (by assumption)) (by assumption)) ?_ | with_reducible refine need_look (look_put (look_lec (by assumption) (by assumption)) (by assumption)) ?_ | with_reducible refine need_look (look_lec (look_lec (by assumption) (by assumption)) (by assumption)) ?_ | with_reducible refine need_look (look_put (look_put (AH.put_same _ _ _) (by assumption)) (by assumption)) ?_ | with_reducible refine need_look (look_lec (look_put (AH.put_same _ _ _) (by assumption)) (by assumption)) ?_ | with_reducible refine need_look (look_put (look_lec (AH.put_same _ _ _) (by assumption)) (by assumption)) ?_ | with_reducible refine need_look (look_lec (look_lec (AH.put_same _ _ _) (by assumption)) (by assumption)) ?_) <;> (try simp -implicitDefEqProofs (disch := omega) only [go_sem, eq_self, decide_true, decide_false, Nat.reduceBEq, Nat.reduceAdd, Nat.reduceSub, Nat.reduceMul, Nat.reduceEqDiff, Nat.reduceLeDiff, Nat.reduceLT, Int.reduceLE, Int.reduceLT, Int.reduceToNat, Int.reduceAdd, Int.reduceEq, Int.reduceNeg, AH.put_ne])))
  all_goals first | exact end_same | exact end_le (AH.le_put (AH.le_refl _) hko _)
theorem kindsn_calls (H : AH) : ACalls Tryz.prog 16 [.nilPtr] H (fun o H' => o = .ret .nilSl ∧ H' = H) := by
  refine ACalls.drop ?_
  refine acalls Tryz.func16 c16 r16 (by simp [Tryz.ntmps16]) ?_
  repeat' (first | with_reducible refine am_seq ?_ | with_reducible refine am_block ?_ | ((with_reducible apply am_cond); (case hb => rfl); all_goals (intro hc; (try simp only [reduceCtorEq, decide_eq_true_eq, decide_eq_false_iff_not, Bool.or_eq_true, Bool.and_eq_true, Bool.or_eq_false_iff, Bool.not_eq_true', Bool.not_eq_false', beq_iff_eq] at hc); (try (exfalso; omega)))) | ((first | with_reducible refine am_reg ?_ | with_reducible refine am_drw ?_ | with_reducible refine am_skip ?_ | with_reducible refine am_exit ?_ | with_reducible refine am_ret ?_ | with_reducible refine And.intro (by first | exact AH.lec_refl _ | assumption | exact AccP.lec (by assumption) | omega) ?_ | with_reducible refine isnE_of (fun hc => ?_) (fun hc => ?_) (fun hc => ?_) | ((first | with_reducible refine gd_not (fun hc => ?_) (fun hc => ?_) | with_reducible refine gd_of (fun hc => ?_) (fun hc => ?_) | with_reducible refine gq_not (fun hc => ?_) (fun hc => ?_) | with_reducible refine gq_of (fun hc => ?_) (fun hc => ?_) | with_reducible refine pickB_of (fun hc => ?_) (fun hc => ?_)) <;> (try simp -implicitDefEqProofs (disch := omega) only [go_sem, eq_self, decide_true, decide_false, Nat.reduceBEq, Nat.reduceAdd, Nat.reduceSub, Nat.reduceMul, Nat.reduceEqDiff, Nat.reduceLeDiff, Nat.reduceLT, Int.reduceLE, Int.reduceLT, Int.reduceToNat, Int.reduceAdd, Int.reduceEq, Int.reduceNeg, AH.put_ne, hc]) <;> (try simp only [reduceCtorEq, decide_eq_true_eq, decide_eq_false_iff_not, Bool.or_eq_true, Bool.and_eq_true, Bool.or_eq_false_iff, Bool.not_eq_true', Bool.not_eq_false', beq_iff_eq] at hc) <;> (try (exfalso; omega))) | ((with_reducible refine alloc_intro (fun ko hko => ?_)) <;> (try have hne := fresh_ne (by assumption) hko) <;> (try have hnk := fresh_ne hk hko) <;> (try have hnk2 := fresh_ne hk2 hko) <;> (try simp only [AH.put_none] at hko)) | ((first | (with_reducible refine vapp_accL (by assumption) ?_ (fun v2 H2 hacc hlec => ?_)) | (with_reducible refine vapp_accL (AccP.mono (by assumption) (AccP.le (by assumption))) ?_ (fun v2 H2 hacc hlec => ?_)) | (with_reducible refine vapp_accL (AccP.new (by assumption) (by assumption) _) ?_ (fun v2 H2 hacc hlec => ?_))); · simp only [byteCells_length, List.length_cons, List.length_nil, List.length_map, List.length_append]; omega) | with_reducible refine need_elems (by assumption) ?_ | with_reducible refine vlen_acc (by assumption) ?_ | with_reducible refine need_bytes (by assumption) ?_ | with_reducible refine need_look (by assumption) ?_ | with_reducible refine need_look (look_put (by assumption) (by assumption)) ?_ | with_reducible refine need_look (look_lec (by assumption) (by assumption)) ?_ | with_reducible refine need_look (look_put (AH.put_same _ _ _) (by assumption)) ?_ | with_reducible refine need_look (look_lec (AH.put_same _ _ _) (by assumption)) ?_ | with_reducible refine need_look (look_put (look_put (by assumption) (by assumption)) (by assumption)) ?_ | with_reducible refine need_look (look_lec (look_put (by assumption) (by assumption)) (by assumption)) ?_ | with_reducible refine need_look (look_put (look_lec (by assumption) (by assumption)) (by assumption)) ?_ | with_reducible refine need_look (look_lec (look_lec (by assumption) (by assumption)) (by assumption)) ?_ | with_reducible refine need_look (look_put (look_put (AH.put_same _ _ _) (by assumption)) (by assumption)) ?_ | with_reducible refine need_look (look_lec (look_put (AH.put_same _ _ _) (by assumption)) (by assumption)) ?_ | with_reducible refine need_look (look_put (look_lec (AH.put_same _ _ _) (by assumption)) (by assumption)) ?_ | with_reducible refine need_look (look_lec (look_lec (AH.put_same _ _ _) (by assumption)) (by assumption)) ?_) <;> (try simp -implicitDefEqProofs (disch := omega) only [go_sem, eq_self, decide_true, decide_false, Nat.reduceBEq, Nat.reduceAdd, Nat.reduceSub, Nat.reduceMul, Nat.reduceEqDiff, Nat.reduceLeDiff, Nat.reduceLT, Int.reduceLE, Int.reduceLT, Int.reduceToNat, Int.reduceAdd, Int.reduceEq, Int.reduceNeg, AH.put_ne])))
  all_goals exact end_same
theorem slaw_calls {now : Int} {b : List UInt8} {t : Tok} (H : AH) : ACalls Tryz.prog 3 [.int .i64 now, .sl 1 (byteCells b) t] H (fun o H' => o = .ret (.bool true) ∧ H' = H) := by
  refine ACalls.drop ?_
  refine acalls Tryz.func3 c3 r3 (by simp [Tryz.ntmps3]) ?_
  repeat' (first | with_reducible refine am_seq ?_ | with_reducible refine am_block ?_ | ((with_reducible apply am_cond); (case hb => rfl); all_goals (intro hc; (try simp only [reduceCtorEq, decide_eq_true_eq, decide_eq_false_iff_not, Bool.or_eq_true, Bool.and_eq_true, Bool.or_eq_false_iff, Bool.not_eq_true', Bool.not_eq_false', beq_iff_eq] at hc); (try (exfalso; omega)))) | ((first | with_reducible refine am_reg ?_ | with_reducible refine am_drw ?_ | with_reducible refine am_skip ?_ | with_reducible refine am_exit ?_ | with_reducible refine am_ret ?_ | with_reducible refine And.intro (by first | exact AH.lec_refl _ | assumption | exact AccP.lec (by assumption) | omega) ?_ | with_reducible refine isnE_of (fun hc => ?_) (fun hc => ?_) (fun hc => ?_) | ((first | with_reducible refine gd_not (fun hc => ?_) (fun hc => ?_) | with_reducible refine gd_of (fun hc => ?_) (fun hc => ?_) | with_reducible refine gq_not (fun hc => ?_) (fun hc => ?_) | with_reducible refine gq_of (fun hc => ?_) (fun hc => ?_) | with_reducible refine pickB_of (fun hc => ?_) (fun hc => ?_)) <;> (try simp -implicitDefEqProofs (disch := omega) only [go_sem, eq_self, decide_true, decide_false, Nat.reduceBEq, Nat.reduceAdd, Nat.reduceSub, Nat.reduceMul, Nat.reduceEqDiff, Nat.reduceLeDiff, Nat.reduceLT, Int.reduceLE, Int.reduceLT, Int.reduceToNat, Int.reduceAdd, Int.reduceEq, Int.reduceNeg, AH.put_ne, hc]) <;> (try simp only [reduceCtorEq, decide_eq_true_eq, decide_eq_false_iff_not, Bool.or_eq_true, Bool.and_eq_true, Bool.or_eq_false_iff, Bool.not_eq_true', Bool.not_eq_false', beq_iff_eq] at hc) <;> (try (exfalso; omega))) | ((with_reducible refine alloc_intro (fun ko hko => ?_)) <;> (try have hne := fresh_ne (by assumption) hko) <;> (try have hnk := fresh_ne hk hko) <;> (try have hnk2 := fresh_ne hk2 hko) <;> (try simp only [AH.put_none] at hko)) | ((first | (with_reducible refine vapp_accL (by assumption) ?_ (fun v2 H2 hacc hlec => ?_)) | (with_reducible refine vapp_accL (AccP.mono (by assumption) (AccP.le (by assumption))) ?_ (fun v2 H2 hacc hlec => ?_)) | (with_reducible refine vapp_accL (AccP.new (by assumption) (by assumption) _) ?_ (fun v2 H2 hacc hlec => ?_))); · simp only [byteCells_length, List.length_cons, List.length_nil, List.length_map, List.length_append]; omega) | with_reducible refine need_elems (by assumption) ?_ | with_reducible refine vlen_acc (by assumption) ?_ | with_reducible refine need_bytes (by assumption) ?_ | (first | with_reducible refine call_of (sawake_calls) ?_ | with_reducible refine qcall_of (sawake_calls) ?_) | (first | with_reducible refine call_of (openn_calls) ?_ | with_reducible refine qcall_of (openn_calls) ?_) | (first | with_reducible refine call_of (feedn2_calls) ?_ | with_reducible refine qcall_of (feedn2_calls) ?_) | (first | with_reducible refine call_of (calln2_calls) ?_ | with_reducible refine qcall_of (calln2_calls) ?_) | (first | with_reducible refine call_of (schn_calls) ?_ | with_reducible refine qcall_of (schn_calls) ?_) | (first | with_reducible refine call_of (untiln_calls) ?_ | with_reducible refine qcall_of (untiln_calls) ?_) | (first | with_reducible refine call_of (tickn2_calls) ?_ | with_reducible refine qcall_of (tickn2_calls) ?_) | (first | with_reducible refine call_of (gonen2_calls) ?_ | with_reducible refine qcall_of (gonen2_calls) ?_) | (first | with_reducible refine call_of (sstaten_calls) ?_ | with_reducible refine qcall_of (sstaten_calls) ?_) | (first | with_reducible refine call_of (faultn_calls) ?_ | with_reducible refine qcall_of (faultn_calls) ?_) | (first | with_reducible refine call_of (dealn_calls) ?_ | with_reducible refine qcall_of (dealn_calls) ?_) | (first | with_reducible refine call_of (kindsn_calls) ?_ | with_reducible refine qcall_of (kindsn_calls) ?_) | with_reducible refine need_look (by assumption) ?_ | with_reducible refine need_look (look_put (by assumption) (by assumption)) ?_ | with_reducible refine need_look (look_lec (by assumption) (by assumption)) ?_ | with_reducible refine need_look (look_put (AH.put_same _ _ _) (by assumption)) ?_ | with_reducible refine need_look (look_lec (AH.put_same _ _ _) (by assumption)) ?_ | with_reducible refine need_look (look_put (look_put (by assumption) (by assumption)) (by assumption)) ?_ | with_reducible refine need_look (look_lec (look_put (by assumption) (by assumption)) (by assumption)) ?_ | with_reducible refine need_look (look_put (look_lec (by assumption) (by assumption)) (by assumption)) ?_ | with_reducible refine need_look (look_lec (look_lec (by assumption) (by assumption)) (by assumption)) ?_ | with_reducible refine need_look (look_put (look_put (AH.put_same _ _ _) (by assumption)) (by assumption)) ?_ | with_reducible refine need_look (look_lec (look_put (AH.put_same _ _ _) (by assumption)) (by assumption)) ?_ | with_reducible refine need_look (look_put (look_lec (AH.put_same _ _ _) (by assumption)) (by assumption)) ?_ | with_reducible refine need_look (look_lec (look_lec (AH.put_same _ _ _) (by assumption)) (by assumption)) ?_) <;> (try simp -implicitDefEqProofs (disch := omega) only [go_sem, eq_self, decide_true, decide_false, Nat.reduceBEq, Nat.reduceAdd, Nat.reduceSub, Nat.reduceMul, Nat.reduceEqDiff, Nat.reduceLeDiff, Nat.reduceLT, Int.reduceLE, Int.reduceLT, Int.reduceToNat, Int.reduceAdd, Int.reduceEq, Int.reduceNeg, AH.put_ne])))
  all_goals exact end_same
end Go.Proofs.YtcfeafpjkcmdiaaGreatDoor
