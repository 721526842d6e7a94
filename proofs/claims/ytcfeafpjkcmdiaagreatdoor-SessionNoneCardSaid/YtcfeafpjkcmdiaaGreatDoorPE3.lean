/- Of the walks of this seat: contracts of functions of the given program, proved over the abstract values of the texts Vm. Conditions: as each theorem says. -/
import Derived.Test.YtcfeafpjkcmdiaaGreatDoorPE2
set_option linter.unusedVariables false
set_option linter.unusedSimpArgs false
namespace Go.Proofs.YtcfeafpjkcmdiaaGreatDoor
open Go.Vm
/- flange/supervise.New -/
abbrev k47_0 : MC :=
  .cond (.t 18) ((.seq (.reg [
     ⟨(some 19), none, .val (.mv (.t 9))⟩,
     ⟨(some 6), none, .val (.mv (.c .nilPtr))⟩,
     ⟨(some 7), none, .val (.mv (.t 19))⟩] [6, 7]) (.ret))) (.skip)

abbrev k47_1 : MC :=
  .cond (.t 27) ((.seq (.reg [
     ⟨(some 28), none, .val (.mv (.t 11))⟩,
     ⟨(some 6), none, .val (.mv (.c .nilPtr))⟩,
     ⟨(some 7), none, .val (.mv (.t 28))⟩] [6, 7]) (.ret))) (.skip)

abbrev k47_2 : MC :=
  (.seq (.reg [
    ⟨(some 26), none, .val (.mv (.t 11))⟩,
    ⟨(some 27), none, .val (.bin .neq .num (.t 26) (.c (.int .i64 0)))⟩] [1, 2, 8, 11, 27]) k47_1)

abbrev k47_3 : MC :=
  (.seq (.reg [
    ⟨(some 29), none, .val (.mv (.t 8))⟩,
    ⟨(some 30), none, .build [.nilPtr] [(0, 1, (.t 29))]⟩,
    ⟨(some 31), none, .val (.mv (.t 1))⟩,
    ⟨(some 32), none, .val (.mv (.t 2))⟩,
    ⟨(some 33), none, .build [.nilPtr, (.int .i64 0), (.int .i64 0), (.int .i64 0), (.int .i64 0), .nilPtr] [(0, 1, (.t 30)), (1, 1, (.t 31)), (2, 1, (.t 32))]⟩,
    ⟨(some 34), none, .box (.t 33)⟩,
    ⟨(some 6), none, .val (.mv (.t 34))⟩,
    ⟨(some 7), none, .val (.mv (.c (.int .i64 0)))⟩] [6, 7]) (.ret))

abbrev k47_4 : MC :=
  (.seq ((.seq (.reg [
    ⟨(some 21), none, .val (.mv (.t 1))⟩,
    ⟨(some 22), none, .val (.mv (.t 2))⟩,
    ⟨(some 23), none, .call 28 [(.t 21), (.t 22)]⟩,
    ⟨(some 20), none, .val (.mv (.t 23))⟩,
    ⟨(some 24), none, .val (.ext (.t 20) 0)⟩,
    ⟨(some 25), none, .val (.ext (.t 20) 1)⟩,
    ⟨(some 10), none, .val (.mv (.t 24))⟩,
    ⟨(some 11), none, .val (.mv (.t 25))⟩] [1, 2, 8, 11]) k47_2)) k47_3)

abbrev k47_5 : MC :=
  (.seq ((.seq (.reg [
    ⟨(some 17), none, .val (.mv (.t 9))⟩,
    ⟨(some 18), none, .val (.bin .neq .num (.t 17) (.c (.int .i64 0)))⟩] [1, 2, 8, 9, 18]) k47_0)) k47_4)

abbrev k47_6 : MC :=
  (.seq (.reg [
    ⟨(some 13), none, .val (.load true 4 (.t 3))⟩,
    ⟨(some 14), none, .call 78 [(.t 13)]⟩,
    ⟨(some 12), none, .val (.mv (.t 14))⟩,
    ⟨(some 15), none, .val (.ext (.t 12) 0)⟩,
    ⟨(some 16), none, .val (.ext (.t 12) 1)⟩,
    ⟨(some 8), none, .val (.mv (.t 15))⟩,
    ⟨(some 9), none, .val (.mv (.t 16))⟩] [1, 2, 8, 9]) k47_5)
abbrev k47 : MC :=
  (.seq (.reg [
    ⟨(some 3), none, .boxi (.t 0)⟩,
    ⟨(some 6), none, .val (.mv (.c .nilPtr))⟩,
    ⟨(some 7), none, .val (.mv (.c (.int .i64 0)))⟩] [1, 2, 3]) k47_6)
theorem c47 : Tryz.f47.body.bind (mcOf Tryz.prog (List.contains [3] ·) (List.getD [([], [1, 2, 3]), ([], [1, 2, 8, 9]), ([], [1, 2, 8, 9, 18]), ([], [6, 7]), ([], [1, 2, 8, 11]), ([], [1, 2, 8, 11, 27]), ([], [6, 7]), ([], [6, 7])] · ([], [])) 35) = some k47 := by kernel_rfl
theorem r47 : rvsOf Tryz.prog Tryz.f47.results.toList = some [.tmp 6, .tmp 7] := by kernel_rfl

/- (*flange/supervise.Keeper).Start -/
abbrev k18_0 : MC :=
  .cond (.t 9) ((.seq (.reg [
     ⟨(some 4), none, .val (.mv (.c .nilSl))⟩,
     ⟨(some 5), none, .val (.mv (.c (.int .i64 11)))⟩] [4, 5]) (.ret))) (.skip)

abbrev k18_1 : MC :=
  (.seq (.reg [
    ⟨(some 10), none, .val (.mv (.t 0))⟩,
    ⟨(some 11), none, .call 49 [(.t 10)]⟩,
    ⟨(some 12), none, .val (.ext (.t 11) 0)⟩,
    ⟨(some 13), none, .val (.ext (.t 11) 1)⟩,
    ⟨(some 4), none, .val (.mv (.t 12))⟩,
    ⟨(some 5), none, .val (.mv (.t 13))⟩] [4, 5]) (.ret))

abbrev k18_2 : MC :=
  (.seq ((.seq (.reg [
    ⟨(some 6), none, .val (.mv (.t 0))⟩,
    ⟨(some 7), none, .bslice 1 1 [(.int .i64 0)] [(0, 1, (.c (.int .i64 0)))]⟩,
    ⟨(some 8), none, .call 48 [(.t 6), (.t 7)]⟩,
    ⟨(some 9), none, .val (.not (.t 8))⟩] [0, 9]) k18_0)) k18_1)
abbrev k18 : MC :=
  (.seq (.reg [
    ⟨(some 4), none, .val (.mv (.c .nilSl))⟩,
    ⟨(some 5), none, .val (.mv (.c (.int .i64 0)))⟩] [0]) k18_2)
theorem c18 : Tryz.f18.body.bind (mcOf Tryz.prog (List.contains [] ·) (List.getD [([], [0]), ([], [0, 9]), ([], [4, 5]), ([], [4, 5])] · ([], [])) 14) = some k18 := by kernel_rfl
theorem r18 : rvsOf Tryz.prog Tryz.f18.results.toList = some [.tmp 4, .tmp 5] := by kernel_rfl

/- (*flange/supervise.Keeper).Spawned -/
abbrev k19_0 : MC :=
  .cond (.t 15) ((.seq (.reg [
     ⟨(some 18), none, .val (.mv (.t 0))⟩,
     ⟨(some 19), none, .val (.mv (.t 1))⟩,
     ⟨(some 20), none, .call 50 [(.t 18), (.t 19), (.c (.int .i64 14))]⟩,
     ⟨(some 21), none, .bslice 10 1 [(.int .i64 0), .nilSl, (.int .i64 0), .nilSl, .nilIface, .nilSl, .nilSl, .nilSl, (.int .i64 0), (.int .i64 0)] [(0, 10, (.t 20))]⟩,
     ⟨(some 6), none, .val (.mv (.t 21))⟩,
     ⟨(some 7), none, .val (.mv (.c (.int .i64 0)))⟩] [6, 7]) (.ret))) (.skip)

abbrev k19_1 : MC :=
  .cond (.t 10) ((.seq (.reg [
     ⟨(some 6), none, .val (.mv (.c .nilSl))⟩,
     ⟨(some 7), none, .val (.mv (.c (.int .i64 11)))⟩] [6, 7]) (.ret))) ((.seq (.reg [
     ⟨(some 16), none, .val (.mv (.t 2))⟩,
     ⟨(some 17), none, .val (.not (.t 16))⟩,
     ⟨(some 15), none, .val (.mv (.t 17))⟩] [0, 1, 15]) k19_0))

abbrev k19_2 : MC :=
  (.seq (.reg [
    ⟨(some 55), none, .val (.mv (.t 0))⟩,
    ⟨(some 56), none, .val (.mv (.t 1))⟩,
    ⟨(some 57), none, .val (.mv (.t 8))⟩,
    ⟨(some 58), none, .call 52 [(.t 55), (.t 56), (.t 57)]⟩,
    ⟨(some 59), none, .val (.mv (.t 9))⟩,
    ⟨(some 6), none, .val (.mv (.t 58))⟩,
    ⟨(some 7), none, .val (.mv (.t 59))⟩] [6, 7]) (.ret))

abbrev k19_3 : MC :=
  (.seq (.reg [
    ⟨(some 52), none, .val (.mv (.t 0))⟩,
    ⟨(some 53), none, .val (.nilc (.t 52))⟩,
    ⟨(some 54), none, .val (.faddr 3 (.t 53))⟩,
    ⟨none, none, .store 1 (.t 54) (.c (.int .i64 2))⟩] [0, 1, 8, 9]) k19_2)

abbrev k19_4 : MC :=
  (.seq (.reg [
    ⟨(some 44), none, .val (.mv (.t 0))⟩,
    ⟨(some 45), none, .val (.nilc (.t 44))⟩,
    ⟨(some 46), none, .val (.faddr 5 (.t 45))⟩,
    ⟨(some 47), none, .val (.load false 1 (.t 46))⟩,
    ⟨(some 48), none, .val (.mv (.t 1))⟩,
    ⟨(some 49), none, .call 6 [(.t 47), (.t 48)]⟩,
    ⟨(some 43), none, .val (.mv (.t 49))⟩,
    ⟨(some 50), none, .val (.ext (.t 43) 0)⟩,
    ⟨(some 51), none, .val (.ext (.t 43) 1)⟩,
    ⟨(some 8), none, .val (.mv (.t 50))⟩,
    ⟨(some 9), none, .val (.mv (.t 51))⟩] [0, 1, 8, 9]) k19_3)

abbrev k19_5 : MC :=
  (.seq (.reg [
    ⟨(some 37), none, .val (.mv (.t 0))⟩,
    ⟨(some 38), none, .val (.nilc (.t 37))⟩,
    ⟨(some 39), none, .val (.faddr 0 (.t 38))⟩,
    ⟨(some 40), none, .val (.load true 1 (.t 39))⟩,
    ⟨(some 41), none, .val (.mv (.t 1))⟩,
    ⟨(some 42), none, .call 51 [(.t 40), (.t 41)]⟩] [0, 1]) k19_4)

abbrev k19_6 : MC :=
  (.seq (.stuck) k19_5)

abbrev k19_7 : MC :=
  (.seq (.block 0 ((.seq (.reg [
     ⟨(some 11), none, .val (.mv (.t 0))⟩,
     ⟨(some 12), none, .bslice 1 1 [(.int .i64 0)] [(0, 1, (.c (.int .i64 1)))]⟩,
     ⟨(some 13), none, .call 48 [(.t 11), (.t 12)]⟩,
     ⟨(some 14), none, .val (.not (.t 13))⟩,
     ⟨(some 10), none, .val (.mv (.t 14))⟩] [0, 1, 2, 10]) k19_1))) k19_6)
abbrev k19 : MC :=
  (.seq (.reg [
    ⟨(some 6), none, .val (.mv (.c .nilSl))⟩,
    ⟨(some 7), none, .val (.mv (.c (.int .i64 0)))⟩] [0, 1, 2]) k19_7)
theorem c19 : Tryz.f19.body.bind (mcOf Tryz.prog (List.contains [] ·) (List.getD [([], [0, 1, 2]), ([], [0, 1, 2, 10]), ([], [6, 7]), ([], [0, 1, 15]), ([], [6, 7]), ([], [0, 1]), ([], [0, 1]), ([], [0, 1, 8, 9]), ([], [0, 1, 8, 9]), ([], [6, 7])] · ([], [])) 60) = some k19 := by kernel_rfl
theorem r19 : rvsOf Tryz.prog Tryz.f19.results.toList = some [.tmp 6, .tmp 7] := by kernel_rfl

/- (*flange/supervise.Keeper).State -/
abbrev k25_0 : MC :=
  .cond (.t 4) ((.seq (.reg [
     ⟨(some 2), none, .val (.mv (.c (.int .i64 0)))⟩] [2]) (.ret))) (.skip)

abbrev k25_1 : MC :=
  (.seq (.reg [
    ⟨(some 5), none, .val (.mv (.t 0))⟩,
    ⟨(some 6), none, .val (.nilc (.t 5))⟩,
    ⟨(some 7), none, .val (.faddr 3 (.t 6))⟩,
    ⟨(some 8), none, .val (.load false 1 (.t 7))⟩,
    ⟨(some 2), none, .val (.mv (.t 8))⟩] [2]) (.ret))

abbrev k25_2 : MC :=
  (.seq ((.seq (.reg [
    ⟨(some 3), none, .val (.mv (.t 0))⟩,
    ⟨(some 4), none, .val (.bin .eql .ptr (.t 3) (.c .nilPtr))⟩] [0, 4]) k25_0)) k25_1)
abbrev k25 : MC :=
  (.seq (.reg [
    ⟨(some 2), none, .val (.mv (.c (.int .i64 0)))⟩] [0]) k25_2)
theorem c25 : Tryz.f25.body.bind (mcOf Tryz.prog (List.contains [] ·) (List.getD [([], [0]), ([], [0, 4]), ([], [2]), ([], [2])] · ([], [])) 9) = some k25 := by kernel_rfl
theorem r25 : rvsOf Tryz.prog Tryz.f25.results.toList = some [.tmp 2] := by kernel_rfl

/- (*flange/supervise.Keeper).Tick -/
abbrev k24_0 : MC :=
  (.seq (.reg [
    ⟨(some 38), none, .val (.mv (.t 5))⟩,
    ⟨(some 4), none, .val (.mv (.t 38))⟩] [4]) (.ret))

abbrev k24_1 : MC :=
  .cond (.t 20) ((.seq (.reg [
     ⟨(some 34), none, .val (.mv (.t 0))⟩,
     ⟨(some 35), none, .call 49 [(.t 34)]⟩,
     ⟨(some 33), none, .val (.mv (.t 35))⟩,
     ⟨(some 36), none, .val (.ext (.t 33) 0)⟩,
     ⟨(some 37), none, .val (.ext (.t 33) 1)⟩,
     ⟨(some 5), none, .val (.mv (.t 36))⟩,
     ⟨(some 6), none, .val (.mv (.t 37))⟩] [5]) k24_0)) (.skip)

abbrev k24_2 : MC :=
  .cond (.t 7) ((.seq (.reg [
     ⟨(some 11), none, .val (.mv (.t 0))⟩,
     ⟨(some 12), none, .val (.mv (.t 1))⟩,
     ⟨(some 13), none, .val (.mv (.t 0))⟩,
     ⟨(some 14), none, .val (.nilc (.t 13))⟩,
     ⟨(some 15), none, .val (.faddr 5 (.t 14))⟩,
     ⟨(some 16), none, .val (.load false 1 (.t 15))⟩,
     ⟨(some 17), none, .val (.mv (.t 1))⟩,
     ⟨(some 18), none, .call 11 [(.t 16), (.t 17)]⟩,
     ⟨(some 19), none, .call 52 [(.t 11), (.t 12), (.t 18)]⟩,
     ⟨(some 4), none, .val (.mv (.t 19))⟩] [4]) (.ret))) ((.seq (.drw [
     ⟨(some 21), none, .val (.mv (.t 0))⟩,
     ⟨(some 22), none, .bslice 1 1 [(.int .i64 0)] [(0, 1, (.c (.int .i64 4)))]⟩,
     ⟨(some 23), none, .call 48 [(.t 21), (.t 22)]⟩,
     ⟨(some 24), none, .val (.mv (.t 23))⟩,
     ⟨(some 25), (some (24, true)), .val (.mv (.t 1))⟩,
     ⟨(some 26), (some (24, true)), .call 43 [(.t 25)]⟩,
     ⟨(some 27), (some (24, true)), .val (.mv (.t 0))⟩,
     ⟨(some 28), (some (24, true)), .val (.nilc (.t 27))⟩,
     ⟨(some 29), (some (24, true)), .val (.faddr 4 (.t 28))⟩,
     ⟨(some 30), (some (24, true)), .val (.load false 1 (.t 29))⟩,
     ⟨(some 31), (some (24, true)), .val (.bin .geq .num (.t 26) (.t 30))⟩,
     ⟨(some 32), none, .val (.pick (.t 24) (.t 31) (.c (.bool false)))⟩,
     ⟨(some 20), none, .val (.mv (.t 32))⟩] [
] [0, 20]) k24_1))

abbrev k24_3 : MC :=
  (.seq (.reg [
    ⟨(some 4), none, .val (.mv (.c .nilSl))⟩] [4]) (.ret))

abbrev k24_4 : MC :=
  (.seq (.block 0 ((.seq (.reg [
     ⟨(some 8), none, .val (.mv (.t 0))⟩,
     ⟨(some 9), none, .bslice 1 2 [(.int .i64 0), (.int .i64 0)] [(0, 1, (.c (.int .i64 2))), (1, 1, (.c (.int .i64 3)))]⟩,
     ⟨(some 10), none, .call 48 [(.t 8), (.t 9)]⟩,
     ⟨(some 7), none, .val (.mv (.t 10))⟩] [0, 1, 7]) k24_2))) k24_3)
abbrev k24 : MC :=
  (.seq (.reg [
    ⟨(some 4), none, .val (.mv (.c .nilSl))⟩] [0, 1]) k24_4)
theorem c24 : Tryz.f24.body.bind (mcOf Tryz.prog (List.contains [] ·) (List.getD [([], [0, 1]), ([], [0, 1, 7]), ([], [4]), ([0, 0, 0, 0, 0, 0, 0, 0, 0, 0, 0, 0, 0], [0, 20]), ([], [5]), ([], [4]), ([], [4])] · ([], [])) 39) = some k24 := by kernel_rfl
theorem r24 : rvsOf Tryz.prog Tryz.f24.results.toList = some [.tmp 4] := by kernel_rfl

/- (*flange/supervise.Keeper).Reset -/
abbrev k23_0 : MC :=
  .cond (.t 6) ((.seq (.reg [
     ⟨(some 2), none, .val (.mv (.c (.int .i64 11)))⟩] [2]) (.ret))) (.skip)

abbrev k23_1 : MC :=
  (.seq (.reg [
    ⟨(some 2), none, .val (.mv (.c (.int .i64 0)))⟩] [2]) (.ret))

abbrev k23_2 : MC :=
  (.seq (.reg [
    ⟨(some 13), none, .val (.mv (.t 0))⟩,
    ⟨(some 14), none, .val (.nilc (.t 13))⟩,
    ⟨(some 15), none, .val (.faddr 3 (.t 14))⟩,
    ⟨none, none, .store 1 (.t 15) (.c (.int .i64 0))⟩] []) k23_1)

abbrev k23_3 : MC :=
  (.seq (.reg [
    ⟨(some 7), none, .val (.mv (.t 0))⟩,
    ⟨(some 8), none, .val (.nilc (.t 7))⟩,
    ⟨(some 9), none, .val (.faddr 0 (.t 8))⟩,
    ⟨(some 10), none, .val (.faddr 0 (.t 9))⟩,
    ⟨(some 11), none, .val (.load false 1 (.t 10))⟩,
    ⟨(some 12), none, .call 53 [(.t 11)]⟩] [0]) k23_2)

abbrev k23_4 : MC :=
  (.seq ((.seq (.reg [
    ⟨(some 3), none, .val (.mv (.t 0))⟩,
    ⟨(some 4), none, .bslice 1 1 [(.int .i64 0)] [(0, 1, (.c (.int .i64 5)))]⟩,
    ⟨(some 5), none, .call 48 [(.t 3), (.t 4)]⟩,
    ⟨(some 6), none, .val (.not (.t 5))⟩] [0, 6]) k23_0)) k23_3)
abbrev k23 : MC :=
  (.seq (.reg [
    ⟨(some 2), none, .val (.mv (.c (.int .i64 0)))⟩] [0]) k23_4)
theorem c23 : Tryz.f23.body.bind (mcOf Tryz.prog (List.contains [] ·) (List.getD [([], [0]), ([], [0, 6]), ([], [2]), ([], [0]), ([], []), ([], [2])] · ([], [])) 16) = some k23 := by kernel_rfl
theorem r23 : rvsOf Tryz.prog Tryz.f23.results.toList = some [.tmp 2] := by kernel_rfl

/- (*flange/supervise.Keeper).Tries -/
abbrev k27_0 : MC :=
  .cond (.t 4) ((.seq (.reg [
     ⟨(some 2), none, .val (.mv (.c (.int .i64 0)))⟩] [2]) (.ret))) (.skip)

abbrev k27_1 : MC :=
  (.seq (.reg [
    ⟨(some 5), none, .val (.mv (.t 0))⟩,
    ⟨(some 6), none, .val (.nilc (.t 5))⟩,
    ⟨(some 7), none, .val (.faddr 0 (.t 6))⟩,
    ⟨(some 8), none, .val (.faddr 0 (.t 7))⟩,
    ⟨(some 9), none, .val (.load false 1 (.t 8))⟩,
    ⟨(some 10), none, .call 54 [(.t 9)]⟩,
    ⟨(some 2), none, .val (.mv (.t 10))⟩] [2]) (.ret))

abbrev k27_2 : MC :=
  (.seq ((.seq (.reg [
    ⟨(some 3), none, .val (.mv (.t 0))⟩,
    ⟨(some 4), none, .val (.bin .eql .ptr (.t 3) (.c .nilPtr))⟩] [0, 4]) k27_0)) k27_1)
abbrev k27 : MC :=
  (.seq (.reg [
    ⟨(some 2), none, .val (.mv (.c (.int .i64 0)))⟩] [0]) k27_2)
theorem c27 : Tryz.f27.body.bind (mcOf Tryz.prog (List.contains [] ·) (List.getD [([], [0]), ([], [0, 4]), ([], [2]), ([], [2])] · ([], [])) 11) = some k27 := by kernel_rfl
theorem r27 : rvsOf Tryz.prog Tryz.f27.results.toList = some [.tmp 2] := by kernel_rfl

/- flange/flangelaw25.awake -/
abbrev k17_0 : MC :=
  (.seq (.reg [
    ⟨(some 15), none, .val (.mv (.t 2))⟩,
    ⟨(some 16), none, .val (.bin .eql .num (.t 15) (.c (.int .i64 0)))⟩,
    ⟨(some 17), none, .val (.mv (.t 16))⟩,
    ⟨(some 18), (some (17, true)), .val (.mv (.t 4))⟩,
    ⟨(some 19), (some (17, true)), .val (.bin .eql .num (.t 18) (.c (.int .i64 0)))⟩,
    ⟨(some 20), none, .val (.pick (.t 17) (.t 19) (.c (.bool false)))⟩,
    ⟨(some 21), none, .val (.mv (.t 20))⟩,
    ⟨(some 22), (some (21, true)), .val (.mv (.t 3))⟩,
    ⟨(some 23), (some (21, true)), .val (.len .sl (.t 22))⟩,
    ⟨(some 24), (some (21, true)), .val (.bin .eql .num (.t 23) (.c (.int .i64 1)))⟩,
    ⟨(some 25), none, .val (.pick (.t 21) (.t 24) (.c (.bool false)))⟩,
    ⟨(some 26), none, .val (.mv (.t 25))⟩,
    ⟨(some 27), (some (26, true)), .val (.mv (.t 3))⟩,
    ⟨(some 28), (some (26, true)), .val (.iaddr 10 (.t 27) (.c (.int .i64 0)))⟩,
    ⟨(some 29), (some (26, true)), .val (.faddr 0 (.t 28))⟩,
    ⟨(some 30), (some (26, true)), .val (.load false 1 (.t 29))⟩,
    ⟨(some 31), (some (26, true)), .val (.bin .eql .num (.t 30) (.c (.int .i64 0)))⟩,
    ⟨(some 32), none, .val (.pick (.t 26) (.t 31) (.c (.bool false)))⟩,
    ⟨(some 33), none, .val (.mv (.t 32))⟩,
    ⟨(some 34), (some (33, true)), .val (.mv (.t 1))⟩,
    ⟨(some 35), (some (33, true)), .call 25 [(.t 34)]⟩,
    ⟨(some 36), (some (33, true)), .val (.bin .eql .num (.t 35) (.c (.int .i64 1)))⟩,
    ⟨(some 37), none, .val (.pick (.t 33) (.t 36) (.c (.bool false)))⟩,
    ⟨(some 0), none, .val (.mv (.t 37))⟩] [0]) (.ret))

abbrev k17_1 : MC :=
  (.seq (.reg [
    ⟨(some 11), none, .val (.mv (.t 1))⟩,
    ⟨(some 12), none, .call 18 [(.t 11), (.c (.int .i64 0))]⟩,
    ⟨(some 10), none, .val (.mv (.t 12))⟩,
    ⟨(some 13), none, .val (.ext (.t 10) 0)⟩,
    ⟨(some 14), none, .val (.ext (.t 10) 1)⟩,
    ⟨(some 3), none, .val (.mv (.t 13))⟩,
    ⟨(some 4), none, .val (.mv (.t 14))⟩] [1, 2, 3, 4]) k17_0)

abbrev k17_2 : MC :=
  (.seq (.reg [
    ⟨(some 6), none, .build [(.int .i64 0), (.int .i64 0), (.int .i64 0), (.int .i64 0)] [(0, 1, (.c (.int .i64 1))), (1, 1, (.c (.int .i64 2))), (2, 1, (.c (.int .i64 3))), (3, 1, (.c (.int .i64 5)))]⟩,
    ⟨(some 7), none, .call 47 [(.t 6), (.c (.int .i64 1000)), (.c (.int .i64 5))]⟩,
    ⟨(some 5), none, .val (.mv (.t 7))⟩,
    ⟨(some 8), none, .val (.ext (.t 5) 0)⟩,
    ⟨(some 9), none, .val (.ext (.t 5) 1)⟩,
    ⟨(some 1), none, .val (.mv (.t 8))⟩,
    ⟨(some 2), none, .val (.mv (.t 9))⟩] [1, 2]) k17_1)
abbrev k17 : MC :=
  (.seq (.reg [
    ⟨(some 0), none, .val (.mv (.c (.bool false)))⟩] []) k17_2)
theorem c17 : Tryz.f17.body.bind (mcOf Tryz.prog (List.contains [] ·) (List.getD [([], []), ([], [1, 2]), ([], [1, 2, 3, 4]), ([], [0])] · ([], [])) 38) = some k17 := by kernel_rfl
theorem r17 : rvsOf Tryz.prog Tryz.f17.results.toList = some [.tmp 0] := by kernel_rfl

attribute [local go_sem] Rl.cells intsE_get intsE_length List.drop_zero toNat_succ Nat.sub_zero Int.toNat_natCast Option.map_some Int.natCast_nonneg decide_eq_true_eq decide_eq_false_iff_not
theorem state_calls {kb k : Nat} {lim wt st un : Int} {sv : V} {H : AH} (hk : H k = some (.cells [.ptr kb 0, .int .i64 lim, .int .i64 wt, .int .i64 st, .int .i64 un, sv])) :
    ACalls Tryz.prog 25 [.ptr k 0] H (fun o H' => o = .ret (.int .i64 st) ∧ H' = H) := by
  refine ACalls.drop ?_
  refine acalls Tryz.func25 c25 r25 (by simp [Tryz.ntmps25]) ?_
  repeat' (first | with_reducible refine am_seq ?_ | with_reducible refine am_block ?_ | ((with_reducible apply am_cond); (case hb => rfl); all_goals (intro hc; (try simp only [reduceCtorEq, decide_eq_true_eq, decide_eq_false_iff_not, Bool.or_eq_true, Bool.and_eq_true, Bool.or_eq_false_iff, Bool.not_eq_true', Bool.not_eq_false', beq_iff_eq] at hc); (try (exfalso; omega)))) | ((first | with_reducible refine am_reg ?_ | with_reducible refine am_drw ?_ | with_reducible refine am_skip ?_ | with_reducible refine am_exit ?_ | with_reducible refine am_ret ?_ | with_reducible refine And.intro (by first | exact AH.lec_refl _ | assumption | exact AccP.lec (by assumption) | omega) ?_ | with_reducible refine isnE_of (fun hc => ?_) (fun hc => ?_) (fun hc => ?_) | ((first | with_reducible refine gd_not (fun hc => ?_) (fun hc => ?_) | with_reducible refine gd_of (fun hc => ?_) (fun hc => ?_) | with_reducible refine gq_not (fun hc => ?_) (fun hc => ?_) | with_reducible refine gq_of (fun hc => ?_) (fun hc => ?_) | with_reducible refine pickB_of (fun hc => ?_) (fun hc => ?_)) <;> (try simp -implicitDefEqProofs (disch := omega) only [go_sem, eq_self, decide_true, decide_false, Nat.reduceBEq, Nat.reduceAdd, Nat.reduceSub, Nat.reduceMul, Nat.reduceEqDiff, Nat.reduceLeDiff, Nat.reduceLT, Int.reduceLE, Int.reduceLT, Int.reduceToNat, Int.reduceAdd, Int.reduceEq, Int.reduceNeg, AH.put_ne, hc, hk]) <;> (try simp only [reduceCtorEq, decide_eq_true_eq, decide_eq_false_iff_not, Bool.or_eq_true, Bool.and_eq_true, Bool.or_eq_false_iff, Bool.not_eq_true', Bool.not_eq_false', beq_iff_eq] at hc) <;> (try (exfalso; omega))) | ((with_reducible refine alloc_intro (fun ko hko => ?_)) <;> (try have hne := fresh_ne (by assumption) hko) <;> (try have hnk := fresh_ne hk hko) <;> (try have hnk2 := fresh_ne hk2 hko) <;> (try simp only [AH.put_none] at hko)) | ((first | (with_reducible refine vapp_accL (by assumption) ?_ (fun v2 H2 hacc hlec => ?_)) | (with_reducible refine vapp_accL (AccP.mono (by assumption) (AccP.le (by assumption))) ?_ (fun v2 H2 hacc hlec => ?_)) | (with_reducible refine vapp_accL (AccP.new (by assumption) (by assumption) _) ?_ (fun v2 H2 hacc hlec => ?_))); · simp only [byteCells_length, List.length_cons, List.length_nil, List.length_map, List.length_append]; omega) | with_reducible refine need_elems (by assumption) ?_ | with_reducible refine vlen_acc (by assumption) ?_ | with_reducible refine need_bytes (by assumption) ?_ | with_reducible refine need_look (by assumption) ?_ | with_reducible refine need_look (look_put (by assumption) (by assumption)) ?_ | with_reducible refine need_look (look_lec (by assumption) (by assumption)) ?_ | with_reducible refine need_look (look_put (AH.put_same _ _ _) (by assumption)) ?_ | with_reducible refine need_look (look_lec (AH.put_same _ _ _) (by assumption)) ?_ | with_reducible refine need_look (look_put (look_put (by assumption) (by assumption)) (by assumption)) ?_ | with_reducible refine need_look (look_lec (look_put (by assumption) (by assumption)) (by assumption)) ?_ | with_reducible refine need_look (look_put (look_lec (by assumption) (by assumption)) (by assumption)) ?_ | with_reducible refine need_look (look_lec (look_lec (by assumption) (by assumption)) (by assumption)) ?_ | with_reducible refine need_look (look_put (look_put (AH.put_same _ _ _) (by assumption)) (by assumption)) ?_ | with_reducible refine need_look (look_lec (look_put (AH.put_same _ _ _) (by assumption)) (by assumption)) ?_ | with_reducible refine need_look (look_put (look_lec (AH.put_same _ _ _) (by assumption)) (by assumption)) ?_ | with_reducible refine need_look (look_lec (look_lec (AH.put_same _ _ _) (by assumption)) (by assumption)) ?_) <;> (try simp -implicitDefEqProofs (disch := omega) only [go_sem, eq_self, decide_true, decide_false, Nat.reduceBEq, Nat.reduceAdd, Nat.reduceSub, Nat.reduceMul, Nat.reduceEqDiff, Nat.reduceLeDiff, Nat.reduceLT, Int.reduceLE, Int.reduceLT, Int.reduceToNat, Int.reduceAdd, Int.reduceEq, Int.reduceNeg, AH.put_ne, hk])))
  all_goals exact end_same
theorem tries_calls {r : Rl} {kb k : Nat} {lim wt st un s n : Int} {sv : V} {b : Bool} {H : AH} (hk : H k = some (.cells [.ptr kb 0, .int .i64 lim, .int .i64 wt, .int .i64 st, .int .i64 un, sv])) (hk2 : H kb = some (.cells [.int .i64 r.b, .int .i64 r.c, .int .i64 r.t, .int .i64 r.m, .int .i64 s, .int .i64 n, .bool b])) :
    ACalls Tryz.prog 27 [.ptr k 0] H (fun o H' => o = .ret (.int .i64 n) ∧ H' = H) := by
  refine ACalls.drop ?_
  refine acalls Tryz.func27 c27 r27 (by simp [Tryz.ntmps27]) ?_
  repeat' (first | with_reducible refine am_seq ?_ | with_reducible refine am_block ?_ | ((with_reducible apply am_cond); (case hb => rfl); all_goals (intro hc; (try simp only [reduceCtorEq, decide_eq_true_eq, decide_eq_false_iff_not, Bool.or_eq_true, Bool.and_eq_true, Bool.or_eq_false_iff, Bool.not_eq_true', Bool.not_eq_false', beq_iff_eq] at hc); (try (exfalso; omega)))) | ((first | with_reducible refine am_reg ?_ | with_reducible refine am_drw ?_ | with_reducible refine am_skip ?_ | with_reducible refine am_exit ?_ | with_reducible refine am_ret ?_ | with_reducible refine And.intro (by first | exact AH.lec_refl _ | assumption | exact AccP.lec (by assumption) | omega) ?_ | with_reducible refine isnE_of (fun hc => ?_) (fun hc => ?_) (fun hc => ?_) | ((first | with_reducible refine gd_not (fun hc => ?_) (fun hc => ?_) | with_reducible refine gd_of (fun hc => ?_) (fun hc => ?_) | with_reducible refine gq_not (fun hc => ?_) (fun hc => ?_) | with_reducible refine gq_of (fun hc => ?_) (fun hc => ?_) | with_reducible refine pickB_of (fun hc => ?_) (fun hc => ?_)) <;> (try simp -implicitDefEqProofs (disch := omega) only [go_sem, eq_self, decide_true, decide_false, Nat.reduceBEq, Nat.reduceAdd, Nat.reduceSub, Nat.reduceMul, Nat.reduceEqDiff, Nat.reduceLeDiff, Nat.reduceLT, Int.reduceLE, Int.reduceLT, Int.reduceToNat, Int.reduceAdd, Int.reduceEq, Int.reduceNeg, AH.put_ne, hc, hk, hk2]) <;> (try simp only [reduceCtorEq, decide_eq_true_eq, decide_eq_false_iff_not, Bool.or_eq_true, Bool.and_eq_true, Bool.or_eq_false_iff, Bool.not_eq_true', Bool.not_eq_false', beq_iff_eq] at hc) <;> (try (exfalso; omega))) | ((with_reducible refine alloc_intro (fun ko hko => ?_)) <;> (try have hne := fresh_ne (by assumption) hko) <;> (try have hnk := fresh_ne hk hko) <;> (try have hnk2 := fresh_ne hk2 hko) <;> (try simp only [AH.put_none] at hko)) | ((first | (with_reducible refine vapp_accL (by assumption) ?_ (fun v2 H2 hacc hlec => ?_)) | (with_reducible refine vapp_accL (AccP.mono (by assumption) (AccP.le (by assumption))) ?_ (fun v2 H2 hacc hlec => ?_)) | (with_reducible refine vapp_accL (AccP.new (by assumption) (by assumption) _) ?_ (fun v2 H2 hacc hlec => ?_))); · simp only [byteCells_length, List.length_cons, List.length_nil, List.length_map, List.length_append]; omega) | with_reducible refine need_elems (by assumption) ?_ | with_reducible refine vlen_acc (by assumption) ?_ | with_reducible refine need_bytes (by assumption) ?_ | (first | with_reducible refine call_at (fun G hl => bcount_calls (look_lec hk2 hl)) ?_ | with_reducible refine qcall_at (fun G hl => bcount_calls (look_lec hk2 hl)) ?_) | with_reducible refine need_look (by assumption) ?_ | with_reducible refine need_look (look_put (by assumption) (by assumption)) ?_ | with_reducible refine need_look (look_lec (by assumption) (by assumption)) ?_ | with_reducible refine need_look (look_put (AH.put_same _ _ _) (by assumption)) ?_ | with_reducible refine need_look (look_lec (AH.put_same _ _ _) (by assumption)) ?_ | with_reducible refine need_look (look_put (look_put (by assumption) (by assumption)) (by assumption)) ?_ | with_reducible refine need_look (look_lec (look_put (by assumption) (by assumption)) (by assumption)) ?_ | with_reducible refine need_look (look_put (look_lec (by assumption) (by assumption)) (by assumption)) ?_ | with_reducible refine need_look (look_lec (look_lec (by assumption) (by assumption)) (by assumption)) ?_ | with_reducible refine need_look (look_put (look_put (AH.put_same _ _ _) (by assumption)) (by assumption)) ?_ | with_reducible refine need_look (look_lec (look_put (AH.put_same _ _ _) (by assumption)) (by assumption)) ?_ | with_reducible refine need_look (look_put (look_lec (AH.put_same _ _ _) (by assumption)) (by assumption)) ?_ | with_reducible refine need_look (look_lec (look_lec (AH.put_same _ _ _) (by assumption)) (by assumption)) ?_) <;> (try simp -implicitDefEqProofs (disch := omega) only [go_sem, eq_self, decide_true, decide_false, Nat.reduceBEq, Nat.reduceAdd, Nat.reduceSub, Nat.reduceMul, Nat.reduceEqDiff, Nat.reduceLeDiff, Nat.reduceLT, Int.reduceLE, Int.reduceLT, Int.reduceToNat, Int.reduceAdd, Int.reduceEq, Int.reduceNeg, AH.put_ne, hk, hk2])))
  all_goals exact end_same
theorem reset_calls {r : Rl} {kb k : Nat} {lim wt un s n : Int} {sv : V} {b : Bool} {H : AH} (hk : H k = some (.cells [.ptr kb 0, .int .i64 lim, .int .i64 wt, .int .i64 5, .int .i64 un, sv])) (hk2 : H kb = some (.cells [.int .i64 r.b, .int .i64 r.c, .int .i64 r.t, .int .i64 r.m, .int .i64 s, .int .i64 n, .bool b])) (hne : k ≠ kb) :
    ACalls Tryz.prog 23 [.ptr k 0] H (fun o H' => o = .ret (.int .i64 0) ∧ H' = (H.put kb (stO r s 0 false)).put k (kpO kb lim wt 0 un sv)) := by
  refine ACalls.dropG ?_
  refine acalls Tryz.func23 c23 r23 (by simp [Tryz.ntmps23]) ?_
  repeat' (first | with_reducible refine am_seq ?_ | with_reducible refine am_block ?_ | ((with_reducible apply am_cond); (case hb => rfl); all_goals (intro hc; (try simp only [reduceCtorEq, decide_eq_true_eq, decide_eq_false_iff_not, Bool.or_eq_true, Bool.and_eq_true, Bool.or_eq_false_iff, Bool.not_eq_true', Bool.not_eq_false', beq_iff_eq] at hc); (try (exfalso; omega)))) | ((first | with_reducible refine am_reg ?_ | with_reducible refine am_drw ?_ | with_reducible refine am_skip ?_ | with_reducible refine am_exit ?_ | with_reducible refine am_ret ?_ | with_reducible refine And.intro (by first | exact AH.lec_refl _ | assumption | exact AccP.lec (by assumption) | omega) ?_ | with_reducible refine isnE_of (fun hc => ?_) (fun hc => ?_) (fun hc => ?_) | ((first | with_reducible refine gd_not (fun hc => ?_) (fun hc => ?_) | with_reducible refine gd_of (fun hc => ?_) (fun hc => ?_) | with_reducible refine gq_not (fun hc => ?_) (fun hc => ?_) | with_reducible refine gq_of (fun hc => ?_) (fun hc => ?_) | with_reducible refine pickB_of (fun hc => ?_) (fun hc => ?_)) <;> (try simp -implicitDefEqProofs (disch := omega) only [go_sem, eq_self, decide_true, decide_false, Nat.reduceBEq, Nat.reduceAdd, Nat.reduceSub, Nat.reduceMul, Nat.reduceEqDiff, Nat.reduceLeDiff, Nat.reduceLT, Int.reduceLE, Int.reduceLT, Int.reduceToNat, Int.reduceAdd, Int.reduceEq, Int.reduceNeg, AH.put_ne, hc, hk, hk2]) <;> (try simp only [reduceCtorEq, decide_eq_true_eq, decide_eq_false_iff_not, Bool.or_eq_true, Bool.and_eq_true, Bool.or_eq_false_iff, Bool.not_eq_true', Bool.not_eq_false', beq_iff_eq] at hc) <;> (try (exfalso; omega))) | ((with_reducible refine alloc_intro (fun ko hko => ?_)) <;> (try have hne := fresh_ne (by assumption) hko) <;> (try have hnk := fresh_ne hk hko) <;> (try have hnk2 := fresh_ne hk2 hko) <;> (try simp only [AH.put_none] at hko)) | ((first | (with_reducible refine vapp_accL (by assumption) ?_ (fun v2 H2 hacc hlec => ?_)) | (with_reducible refine vapp_accL (AccP.mono (by assumption) (AccP.le (by assumption))) ?_ (fun v2 H2 hacc hlec => ?_)) | (with_reducible refine vapp_accL (AccP.new (by assumption) (by assumption) _) ?_ (fun v2 H2 hacc hlec => ?_))); · simp only [byteCells_length, List.length_cons, List.length_nil, List.length_map, List.length_append]; omega) | with_reducible refine need_elems (by assumption) ?_ | with_reducible refine vlen_acc (by assumption) ?_ | with_reducible refine need_bytes (by assumption) ?_ | (first | with_reducible refine call_at (fun G hl => is1_calls (look_lec hk hl)) ?_ | with_reducible refine qcall_at (fun G hl => is1_calls (look_lec hk hl)) ?_) | with_reducible refine call_turn (breset_calls hk2) ?_ | with_reducible refine need_look (by assumption) ?_ | with_reducible refine need_look (look_put (by assumption) (by assumption)) ?_ | with_reducible refine need_look (look_lec (by assumption) (by assumption)) ?_ | with_reducible refine need_look (look_put (AH.put_same _ _ _) (by assumption)) ?_ | with_reducible refine need_look (look_lec (AH.put_same _ _ _) (by assumption)) ?_ | with_reducible refine need_look (look_put (look_put (by assumption) (by assumption)) (by assumption)) ?_ | with_reducible refine need_look (look_lec (look_put (by assumption) (by assumption)) (by assumption)) ?_ | with_reducible refine need_look (look_put (look_lec (by assumption) (by assumption)) (by assumption)) ?_ | with_reducible refine need_look (look_lec (look_lec (by assumption) (by assumption)) (by assumption)) ?_ | with_reducible refine need_look (look_put (look_put (AH.put_same _ _ _) (by assumption)) (by assumption)) ?_ | with_reducible refine need_look (look_lec (look_put (AH.put_same _ _ _) (by assumption)) (by assumption)) ?_ | with_reducible refine need_look (look_put (look_lec (AH.put_same _ _ _) (by assumption)) (by assumption)) ?_ | with_reducible refine need_look (look_lec (look_lec (AH.put_same _ _ _) (by assumption)) (by assumption)) ?_) <;> (try simp -implicitDefEqProofs (disch := omega) only [go_sem, eq_self, decide_true, decide_false, Nat.reduceBEq, Nat.reduceAdd, Nat.reduceSub, Nat.reduceMul, Nat.reduceEqDiff, Nat.reduceLeDiff, Nat.reduceLT, Int.reduceLE, Int.reduceLT, Int.reduceToNat, Int.reduceAdd, Int.reduceEq, Int.reduceNeg, AH.put_ne, hk, hk2])))
  all_goals exact end_eq rfl (AH.le_refl _)
theorem start_calls {kb k : Nat} {lim wt un : Int} {sv : V} {H : AH} (hk : H k = some (.cells [.ptr kb 0, .int .i64 lim, .int .i64 wt, .int .i64 0, .int .i64 un, sv])) :
    ACalls Tryz.prog 18 [.ptr k 0, .int .i64 0] H (fun o H' => o = .ret (.tuple [.sl 10 [evC 0 0 0] .tight, .int .i64 0]) ∧ H' = H.put k (kpO kb lim wt 1 un sv)) := by
  refine ACalls.dropG ?_
  refine acalls Tryz.func18 c18 r18 (by simp [Tryz.ntmps18]) ?_
  repeat' (first | with_reducible refine am_seq ?_ | with_reducible refine am_block ?_ | ((with_reducible apply am_cond); (case hb => rfl); all_goals (intro hc; (try simp only [reduceCtorEq, decide_eq_true_eq, decide_eq_false_iff_not, Bool.or_eq_true, Bool.and_eq_true, Bool.or_eq_false_iff, Bool.not_eq_true', Bool.not_eq_false', beq_iff_eq] at hc); (try (exfalso; omega)))) | ((first | with_reducible refine am_reg ?_ | with_reducible refine am_drw ?_ | with_reducible refine am_skip ?_ | with_reducible refine am_exit ?_ | with_reducible refine am_ret ?_ | with_reducible refine And.intro (by first | exact AH.lec_refl _ | assumption | exact AccP.lec (by assumption) | omega) ?_ | with_reducible refine isnE_of (fun hc => ?_) (fun hc => ?_) (fun hc => ?_) | ((first | with_reducible refine gd_not (fun hc => ?_) (fun hc => ?_) | with_reducible refine gd_of (fun hc => ?_) (fun hc => ?_) | with_reducible refine gq_not (fun hc => ?_) (fun hc => ?_) | with_reducible refine gq_of (fun hc => ?_) (fun hc => ?_) | with_reducible refine pickB_of (fun hc => ?_) (fun hc => ?_)) <;> (try simp -implicitDefEqProofs (disch := omega) only [go_sem, eq_self, decide_true, decide_false, Nat.reduceBEq, Nat.reduceAdd, Nat.reduceSub, Nat.reduceMul, Nat.reduceEqDiff, Nat.reduceLeDiff, Nat.reduceLT, Int.reduceLE, Int.reduceLT, Int.reduceToNat, Int.reduceAdd, Int.reduceEq, Int.reduceNeg, AH.put_ne, hc, hk]) <;> (try simp only [reduceCtorEq, decide_eq_true_eq, decide_eq_false_iff_not, Bool.or_eq_true, Bool.and_eq_true, Bool.or_eq_false_iff, Bool.not_eq_true', Bool.not_eq_false', beq_iff_eq] at hc) <;> (try (exfalso; omega))) | ((with_reducible refine alloc_intro (fun ko hko => ?_)) <;> (try have hne := fresh_ne (by assumption) hko) <;> (try have hnk := fresh_ne hk hko) <;> (try have hnk2 := fresh_ne hk2 hko) <;> (try simp only [AH.put_none] at hko)) | ((first | (with_reducible refine vapp_accL (by assumption) ?_ (fun v2 H2 hacc hlec => ?_)) | (with_reducible refine vapp_accL (AccP.mono (by assumption) (AccP.le (by assumption))) ?_ (fun v2 H2 hacc hlec => ?_)) | (with_reducible refine vapp_accL (AccP.new (by assumption) (by assumption) _) ?_ (fun v2 H2 hacc hlec => ?_))); · simp only [byteCells_length, List.length_cons, List.length_nil, List.length_map, List.length_append]; omega) | with_reducible refine need_elems (by assumption) ?_ | with_reducible refine vlen_acc (by assumption) ?_ | with_reducible refine need_bytes (by assumption) ?_ | (first | with_reducible refine call_at (fun G hl => is1_calls (look_lec hk hl)) ?_ | with_reducible refine qcall_at (fun G hl => is1_calls (look_lec hk hl)) ?_) | with_reducible refine call_turn (begin_calls hk) ?_ | with_reducible refine need_look (by assumption) ?_ | with_reducible refine need_look (look_put (by assumption) (by assumption)) ?_ | with_reducible refine need_look (look_lec (by assumption) (by assumption)) ?_ | with_reducible refine need_look (look_put (AH.put_same _ _ _) (by assumption)) ?_ | with_reducible refine need_look (look_lec (AH.put_same _ _ _) (by assumption)) ?_ | with_reducible refine need_look (look_put (look_put (by assumption) (by assumption)) (by assumption)) ?_ | with_reducible refine need_look (look_lec (look_put (by assumption) (by assumption)) (by assumption)) ?_ | with_reducible refine need_look (look_put (look_lec (by assumption) (by assumption)) (by assumption)) ?_ | with_reducible refine need_look (look_lec (look_lec (by assumption) (by assumption)) (by assumption)) ?_ | with_reducible refine need_look (look_put (look_put (AH.put_same _ _ _) (by assumption)) (by assumption)) ?_ | with_reducible refine need_look (look_lec (look_put (AH.put_same _ _ _) (by assumption)) (by assumption)) ?_ | with_reducible refine need_look (look_put (look_lec (AH.put_same _ _ _) (by assumption)) (by assumption)) ?_ | with_reducible refine need_look (look_lec (look_lec (AH.put_same _ _ _) (by assumption)) (by assumption)) ?_) <;> (try simp -implicitDefEqProofs (disch := omega) only [go_sem, eq_self, decide_true, decide_false, Nat.reduceBEq, Nat.reduceAdd, Nat.reduceSub, Nat.reduceMul, Nat.reduceEqDiff, Nat.reduceLeDiff, Nat.reduceLT, Int.reduceLE, Int.reduceLT, Int.reduceToNat, Int.reduceAdd, Int.reduceEq, Int.reduceNeg, AH.put_ne, hk])))
  all_goals exact end_eq rfl (AH.le_refl _)
theorem tickw_calls {kb k : Nat} {lim wt un now : Int} {sv : V} {H : AH} (h0 : 0 ≤ now) (h1 : now ≤ 1152921504606846976) (h2 : now < un) (hk : H k = some (.cells [.ptr kb 0, .int .i64 lim, .int .i64 wt, .int .i64 4, .int .i64 un, sv])) :
    ACalls Tryz.prog 24 [.ptr k 0, .int .i64 now] H (fun o H' => o = .ret .nilSl ∧ H' = H) := by
  refine ACalls.drop ?_
  refine acalls Tryz.func24 c24 r24 (by simp [Tryz.ntmps24]) ?_
  have cc := fun H => clip_calls (x := now) H
  rw [show min (max now 0) 1152921504606846976 = now by omega] at cc
  have h2' : ¬ un ≤ now := by omega
  repeat' (first | with_reducible refine am_seq ?_ | with_reducible refine am_block ?_ | ((with_reducible apply am_cond); (case hb => rfl); all_goals (intro hc; (try simp only [reduceCtorEq, decide_eq_true_eq, decide_eq_false_iff_not, Bool.or_eq_true, Bool.and_eq_true, Bool.or_eq_false_iff, Bool.not_eq_true', Bool.not_eq_false', beq_iff_eq] at hc); (try (exfalso; omega)))) | ((first | with_reducible refine am_reg ?_ | with_reducible refine am_drw ?_ | with_reducible refine am_skip ?_ | with_reducible refine am_exit ?_ | with_reducible refine am_ret ?_ | with_reducible refine And.intro (by first | exact AH.lec_refl _ | assumption | exact AccP.lec (by assumption) | omega) ?_ | with_reducible refine isnE_of (fun hc => ?_) (fun hc => ?_) (fun hc => ?_) | ((first | with_reducible refine gd_not (fun hc => ?_) (fun hc => ?_) | with_reducible refine gd_of (fun hc => ?_) (fun hc => ?_) | with_reducible refine gq_not (fun hc => ?_) (fun hc => ?_) | with_reducible refine gq_of (fun hc => ?_) (fun hc => ?_) | with_reducible refine pickB_of (fun hc => ?_) (fun hc => ?_)) <;> (try simp -implicitDefEqProofs (disch := omega) only [go_sem, eq_self, decide_true, decide_false, Nat.reduceBEq, Nat.reduceAdd, Nat.reduceSub, Nat.reduceMul, Nat.reduceEqDiff, Nat.reduceLeDiff, Nat.reduceLT, Int.reduceLE, Int.reduceLT, Int.reduceToNat, Int.reduceAdd, Int.reduceEq, Int.reduceNeg, AH.put_ne, hc, hk, h2', Bool.or_self]) <;> (try simp only [reduceCtorEq, decide_eq_true_eq, decide_eq_false_iff_not, Bool.or_eq_true, Bool.and_eq_true, Bool.or_eq_false_iff, Bool.not_eq_true', Bool.not_eq_false', beq_iff_eq] at hc) <;> (try (exfalso; omega))) | ((with_reducible refine alloc_intro (fun ko hko => ?_)) <;> (try have hne := fresh_ne (by assumption) hko) <;> (try have hnk := fresh_ne hk hko) <;> (try have hnk2 := fresh_ne hk2 hko) <;> (try simp only [AH.put_none] at hko)) | ((first | (with_reducible refine vapp_accL (by assumption) ?_ (fun v2 H2 hacc hlec => ?_)) | (with_reducible refine vapp_accL (AccP.mono (by assumption) (AccP.le (by assumption))) ?_ (fun v2 H2 hacc hlec => ?_)) | (with_reducible refine vapp_accL (AccP.new (by assumption) (by assumption) _) ?_ (fun v2 H2 hacc hlec => ?_))); · simp only [byteCells_length, List.length_cons, List.length_nil, List.length_map, List.length_append]; omega) | with_reducible refine need_elems (by assumption) ?_ | with_reducible refine vlen_acc (by assumption) ?_ | with_reducible refine need_bytes (by assumption) ?_ | (first | with_reducible refine call_at (fun G hl => is2_calls (look_lec hk hl)) ?_ | with_reducible refine qcall_at (fun G hl => is2_calls (look_lec hk hl)) ?_) | (first | with_reducible refine call_at (fun G hl => is1_calls (look_lec hk hl)) ?_ | with_reducible refine qcall_at (fun G hl => is1_calls (look_lec hk hl)) ?_) | (first | with_reducible refine call_of (cc) ?_ | with_reducible refine qcall_of (cc) ?_) | with_reducible refine need_look (by assumption) ?_ | with_reducible refine need_look (look_put (by assumption) (by assumption)) ?_ | with_reducible refine need_look (look_lec (by assumption) (by assumption)) ?_ | with_reducible refine need_look (look_put (AH.put_same _ _ _) (by assumption)) ?_ | with_reducible refine need_look (look_lec (AH.put_same _ _ _) (by assumption)) ?_ | with_reducible refine need_look (look_put (look_put (by assumption) (by assumption)) (by assumption)) ?_ | with_reducible refine need_look (look_lec (look_put (by assumption) (by assumption)) (by assumption)) ?_ | with_reducible refine need_look (look_put (look_lec (by assumption) (by assumption)) (by assumption)) ?_ | with_reducible refine need_look (look_lec (look_lec (by assumption) (by assumption)) (by assumption)) ?_ | with_reducible refine need_look (look_put (look_put (AH.put_same _ _ _) (by assumption)) (by assumption)) ?_ | with_reducible refine need_look (look_lec (look_put (AH.put_same _ _ _) (by assumption)) (by assumption)) ?_ | with_reducible refine need_look (look_put (look_lec (AH.put_same _ _ _) (by assumption)) (by assumption)) ?_ | with_reducible refine need_look (look_lec (look_lec (AH.put_same _ _ _) (by assumption)) (by assumption)) ?_) <;> (try simp -implicitDefEqProofs (disch := omega) only [go_sem, eq_self, decide_true, decide_false, Nat.reduceBEq, Nat.reduceAdd, Nat.reduceSub, Nat.reduceMul, Nat.reduceEqDiff, Nat.reduceLeDiff, Nat.reduceLT, Int.reduceLE, Int.reduceLT, Int.reduceToNat, Int.reduceAdd, Int.reduceEq, Int.reduceNeg, AH.put_ne, hk, h2', Bool.or_self])))
  all_goals exact end_same
theorem tickg_calls {kb k : Nat} {lim wt un now : Int} {sv : V} {H : AH} (h0 : 0 ≤ now) (h1 : now ≤ 1152921504606846976) (h2 : un ≤ now) (hk : H k = some (.cells [.ptr kb 0, .int .i64 lim, .int .i64 wt, .int .i64 4, .int .i64 un, sv])) :
    ACalls Tryz.prog 24 [.ptr k 0, .int .i64 now] H (fun o H' => o = .ret (.sl 10 [evC 0 0 0] .tight) ∧ H' = H.put k (kpO kb lim wt 1 un sv)) := by
  refine ACalls.dropG ?_
  refine acalls Tryz.func24 c24 r24 (by simp [Tryz.ntmps24]) ?_
  have cc := fun H => clip_calls (x := now) H
  rw [show min (max now 0) 1152921504606846976 = now by omega] at cc
  repeat' (first | with_reducible refine am_seq ?_ | with_reducible refine am_block ?_ | ((with_reducible apply am_cond); (case hb => rfl); all_goals (intro hc; (try simp only [reduceCtorEq, decide_eq_true_eq, decide_eq_false_iff_not, Bool.or_eq_true, Bool.and_eq_true, Bool.or_eq_false_iff, Bool.not_eq_true', Bool.not_eq_false', beq_iff_eq] at hc); (try (exfalso; omega)))) | ((first | with_reducible refine am_reg ?_ | with_reducible refine am_drw ?_ | with_reducible refine am_skip ?_ | with_reducible refine am_exit ?_ | with_reducible refine am_ret ?_ | with_reducible refine And.intro (by first | exact AH.lec_refl _ | assumption | exact AccP.lec (by assumption) | omega) ?_ | with_reducible refine isnE_of (fun hc => ?_) (fun hc => ?_) (fun hc => ?_) | ((first | with_reducible refine gd_not (fun hc => ?_) (fun hc => ?_) | with_reducible refine gd_of (fun hc => ?_) (fun hc => ?_) | with_reducible refine gq_not (fun hc => ?_) (fun hc => ?_) | with_reducible refine gq_of (fun hc => ?_) (fun hc => ?_) | with_reducible refine pickB_of (fun hc => ?_) (fun hc => ?_)) <;> (try simp -implicitDefEqProofs (disch := omega) only [go_sem, eq_self, decide_true, decide_false, Nat.reduceBEq, Nat.reduceAdd, Nat.reduceSub, Nat.reduceMul, Nat.reduceEqDiff, Nat.reduceLeDiff, Nat.reduceLT, Int.reduceLE, Int.reduceLT, Int.reduceToNat, Int.reduceAdd, Int.reduceEq, Int.reduceNeg, AH.put_ne, hc, hk, h2, Bool.or_self]) <;> (try simp only [reduceCtorEq, decide_eq_true_eq, decide_eq_false_iff_not, Bool.or_eq_true, Bool.and_eq_true, Bool.or_eq_false_iff, Bool.not_eq_true', Bool.not_eq_false', beq_iff_eq] at hc) <;> (try (exfalso; omega))) | ((with_reducible refine alloc_intro (fun ko hko => ?_)) <;> (try have hne := fresh_ne (by assumption) hko) <;> (try have hnk := fresh_ne hk hko) <;> (try have hnk2 := fresh_ne hk2 hko) <;> (try simp only [AH.put_none] at hko)) | ((first | (with_reducible refine vapp_accL (by assumption) ?_ (fun v2 H2 hacc hlec => ?_)) | (with_reducible refine vapp_accL (AccP.mono (by assumption) (AccP.le (by assumption))) ?_ (fun v2 H2 hacc hlec => ?_)) | (with_reducible refine vapp_accL (AccP.new (by assumption) (by assumption) _) ?_ (fun v2 H2 hacc hlec => ?_))); · simp only [byteCells_length, List.length_cons, List.length_nil, List.length_map, List.length_append]; omega) | with_reducible refine need_elems (by assumption) ?_ | with_reducible refine vlen_acc (by assumption) ?_ | with_reducible refine need_bytes (by assumption) ?_ | (first | with_reducible refine call_at (fun G hl => is2_calls (look_lec hk hl)) ?_ | with_reducible refine qcall_at (fun G hl => is2_calls (look_lec hk hl)) ?_) | (first | with_reducible refine call_at (fun G hl => is1_calls (look_lec hk hl)) ?_ | with_reducible refine qcall_at (fun G hl => is1_calls (look_lec hk hl)) ?_) | (first | with_reducible refine call_of (cc) ?_ | with_reducible refine qcall_of (cc) ?_) | with_reducible refine call_turn (begin_calls hk) ?_ | with_reducible refine need_look (by assumption) ?_ | with_reducible refine need_look (look_put (by assumption) (by assumption)) ?_ | with_reducible refine need_look (look_lec (by assumption) (by assumption)) ?_ | with_reducible refine need_look (look_put (AH.put_same _ _ _) (by assumption)) ?_ | with_reducible refine need_look (look_lec (AH.put_same _ _ _) (by assumption)) ?_ | with_reducible refine need_look (look_put (look_put (by assumption) (by assumption)) (by assumption)) ?_ | with_reducible refine need_look (look_lec (look_put (by assumption) (by assumption)) (by assumption)) ?_ | with_reducible refine need_look (look_put (look_lec (by assumption) (by assumption)) (by assumption)) ?_ | with_reducible refine need_look (look_lec (look_lec (by assumption) (by assumption)) (by assumption)) ?_ | with_reducible refine need_look (look_put (look_put (AH.put_same _ _ _) (by assumption)) (by assumption)) ?_ | with_reducible refine need_look (look_lec (look_put (AH.put_same _ _ _) (by assumption)) (by assumption)) ?_ | with_reducible refine need_look (look_put (look_lec (AH.put_same _ _ _) (by assumption)) (by assumption)) ?_ | with_reducible refine need_look (look_lec (look_lec (AH.put_same _ _ _) (by assumption)) (by assumption)) ?_) <;> (try simp -implicitDefEqProofs (disch := omega) only [go_sem, eq_self, decide_true, decide_false, Nat.reduceBEq, Nat.reduceAdd, Nat.reduceSub, Nat.reduceMul, Nat.reduceEqDiff, Nat.reduceLeDiff, Nat.reduceLT, Int.reduceLE, Int.reduceLT, Int.reduceToNat, Int.reduceAdd, Int.reduceEq, Int.reduceNeg, AH.put_ne, hk, h2, Bool.or_self])))
  all_goals exact end_eq rfl (AH.le_refl _)
theorem tickl_calls {kb k : Nat} {lim wt un now : Int} {sv : V} {H : AH} (hk : H k = some (.cells [.ptr kb 0, .int .i64 lim, .int .i64 wt, .int .i64 5, .int .i64 un, sv])) :
    ACalls Tryz.prog 24 [.ptr k 0, .int .i64 now] H (fun o H' => o = .ret .nilSl ∧ H' = H) := by
  refine ACalls.drop ?_
  refine acalls Tryz.func24 c24 r24 (by simp [Tryz.ntmps24]) ?_
  repeat' (first | with_reducible refine am_seq ?_ | with_reducible refine am_block ?_ | ((with_reducible apply am_cond); (case hb => rfl); all_goals (intro hc; (try simp only [reduceCtorEq, decide_eq_true_eq, decide_eq_false_iff_not, Bool.or_eq_true, Bool.and_eq_true, Bool.or_eq_false_iff, Bool.not_eq_true', Bool.not_eq_false', beq_iff_eq] at hc); (try (exfalso; omega)))) | ((first | with_reducible refine am_reg ?_ | with_reducible refine am_drw ?_ | with_reducible refine am_skip ?_ | with_reducible refine am_exit ?_ | with_reducible refine am_ret ?_ | with_reducible refine And.intro (by first | exact AH.lec_refl _ | assumption | exact AccP.lec (by assumption) | omega) ?_ | with_reducible refine isnE_of (fun hc => ?_) (fun hc => ?_) (fun hc => ?_) | ((first | with_reducible refine gd_not (fun hc => ?_) (fun hc => ?_) | with_reducible refine gd_of (fun hc => ?_) (fun hc => ?_) | with_reducible refine gq_not (fun hc => ?_) (fun hc => ?_) | with_reducible refine gq_of (fun hc => ?_) (fun hc => ?_) | with_reducible refine pickB_of (fun hc => ?_) (fun hc => ?_)) <;> (try simp -implicitDefEqProofs (disch := omega) only [go_sem, eq_self, decide_true, decide_false, Nat.reduceBEq, Nat.reduceAdd, Nat.reduceSub, Nat.reduceMul, Nat.reduceEqDiff, Nat.reduceLeDiff, Nat.reduceLT, Int.reduceLE, Int.reduceLT, Int.reduceToNat, Int.reduceAdd, Int.reduceEq, Int.reduceNeg, AH.put_ne, hc, hk, Bool.or_self]) <;> (try simp only [reduceCtorEq, decide_eq_true_eq, decide_eq_false_iff_not, Bool.or_eq_true, Bool.and_eq_true, Bool.or_eq_false_iff, Bool.not_eq_true', Bool.not_eq_false', beq_iff_eq] at hc) <;> (try (exfalso; omega))) | ((with_reducible refine alloc_intro (fun ko hko => ?_)) <;> (try have hne := fresh_ne (by assumption) hko) <;> (try have hnk := fresh_ne hk hko) <;> (try have hnk2 := fresh_ne hk2 hko) <;> (try simp only [AH.put_none] at hko)) | ((first | (with_reducible refine vapp_accL (by assumption) ?_ (fun v2 H2 hacc hlec => ?_)) | (with_reducible refine vapp_accL (AccP.mono (by assumption) (AccP.le (by assumption))) ?_ (fun v2 H2 hacc hlec => ?_)) | (with_reducible refine vapp_accL (AccP.new (by assumption) (by assumption) _) ?_ (fun v2 H2 hacc hlec => ?_))); · simp only [byteCells_length, List.length_cons, List.length_nil, List.length_map, List.length_append]; omega) | with_reducible refine need_elems (by assumption) ?_ | with_reducible refine vlen_acc (by assumption) ?_ | with_reducible refine need_bytes (by assumption) ?_ | (first | with_reducible refine call_at (fun G hl => is2_calls (look_lec hk hl)) ?_ | with_reducible refine qcall_at (fun G hl => is2_calls (look_lec hk hl)) ?_) | (first | with_reducible refine call_at (fun G hl => is1_calls (look_lec hk hl)) ?_ | with_reducible refine qcall_at (fun G hl => is1_calls (look_lec hk hl)) ?_) | with_reducible refine need_look (by assumption) ?_ | with_reducible refine need_look (look_put (by assumption) (by assumption)) ?_ | with_reducible refine need_look (look_lec (by assumption) (by assumption)) ?_ | with_reducible refine need_look (look_put (AH.put_same _ _ _) (by assumption)) ?_ | with_reducible refine need_look (look_lec (AH.put_same _ _ _) (by assumption)) ?_ | with_reducible refine need_look (look_put (look_put (by assumption) (by assumption)) (by assumption)) ?_ | with_reducible refine need_look (look_lec (look_put (by assumption) (by assumption)) (by assumption)) ?_ | with_reducible refine need_look (look_put (look_lec (by assumption) (by assumption)) (by assumption)) ?_ | with_reducible refine need_look (look_lec (look_lec (by assumption) (by assumption)) (by assumption)) ?_ | with_reducible refine need_look (look_put (look_put (AH.put_same _ _ _) (by assumption)) (by assumption)) ?_ | with_reducible refine need_look (look_lec (look_put (AH.put_same _ _ _) (by assumption)) (by assumption)) ?_ | with_reducible refine need_look (look_put (look_lec (AH.put_same _ _ _) (by assumption)) (by assumption)) ?_ | with_reducible refine need_look (look_lec (look_lec (AH.put_same _ _ _) (by assumption)) (by assumption)) ?_) <;> (try simp -implicitDefEqProofs (disch := omega) only [go_sem, eq_self, decide_true, decide_false, Nat.reduceBEq, Nat.reduceAdd, Nat.reduceSub, Nat.reduceMul, Nat.reduceEqDiff, Nat.reduceLeDiff, Nat.reduceLT, Int.reduceLE, Int.reduceLT, Int.reduceToNat, Int.reduceAdd, Int.reduceEq, Int.reduceNeg, AH.put_ne, hk, Bool.or_self])))
  all_goals exact end_same
theorem new_calls {r : Rl} {a b : Int} (hok : r.ok) (h1 : 64 ≤ a) (h2 : a ≤ 4096) (h3 : 1 ≤ b) (h4 : b ≤ 1000000) (H : AH) : ACalls Tryz.prog 47 [.agg [.int .i64 r.b, .int .i64 r.c, .int .i64 r.t, .int .i64 r.m], .int .i64 a, .int .i64 b] H (fun o H' => ∃ v, o = .ret v ∧ ∃ kb k, v = .tuple [.ptr k 0, .int .i64 0] ∧ k ≠ kb ∧ H' kb = some (stO r 0 0 false) ∧ H' k = some (kpO kb a b 0 0 .nilPtr) ∧ H kb = none ∧ H k = none ∧ H.le H') := by
  refine acalls Tryz.func47 c47 r47 (by simp [Tryz.ntmps47]) ?_
  repeat' (first | with_reducible refine am_seq ?_ | with_reducible refine am_block ?_ | ((with_reducible apply am_cond); (case hb => rfl); all_goals (intro hc; (try simp only [reduceCtorEq, decide_eq_true_eq, decide_eq_false_iff_not, Bool.or_eq_true, Bool.and_eq_true, Bool.or_eq_false_iff, Bool.not_eq_true', Bool.not_eq_false', beq_iff_eq] at hc); (try (exfalso; omega)))) | ((first | with_reducible refine am_reg ?_ | with_reducible refine am_drw ?_ | with_reducible refine am_skip ?_ | with_reducible refine am_exit ?_ | with_reducible refine am_ret ?_ | with_reducible refine And.intro (by first | exact AH.lec_refl _ | assumption | exact AccP.lec (by assumption) | omega) ?_ | with_reducible refine isnE_of (fun hc => ?_) (fun hc => ?_) (fun hc => ?_) | ((first | with_reducible refine gd_not (fun hc => ?_) (fun hc => ?_) | with_reducible refine gd_of (fun hc => ?_) (fun hc => ?_) | with_reducible refine gq_not (fun hc => ?_) (fun hc => ?_) | with_reducible refine gq_of (fun hc => ?_) (fun hc => ?_) | with_reducible refine pickB_of (fun hc => ?_) (fun hc => ?_)) <;> (try simp -implicitDefEqProofs (disch := omega) only [go_sem, eq_self, decide_true, decide_false, Nat.reduceBEq, Nat.reduceAdd, Nat.reduceSub, Nat.reduceMul, Nat.reduceEqDiff, Nat.reduceLeDiff, Nat.reduceLT, Int.reduceLE, Int.reduceLT, Int.reduceToNat, Int.reduceAdd, Int.reduceEq, Int.reduceNeg, AH.put_ne, hc]) <;> (try simp only [reduceCtorEq, decide_eq_true_eq, decide_eq_false_iff_not, Bool.or_eq_true, Bool.and_eq_true, Bool.or_eq_false_iff, Bool.not_eq_true', Bool.not_eq_false', beq_iff_eq] at hc) <;> (try (exfalso; omega))) | ((with_reducible refine alloc_intro (fun ko hko => ?_)) <;> (try have hne := fresh_ne (by assumption) hko) <;> (try have hnk := fresh_ne hk hko) <;> (try have hnk2 := fresh_ne hk2 hko) <;> (try simp only [AH.put_none] at hko)) | ((first | (with_reducible refine vapp_accL (by assumption) ?_ (fun v2 H2 hacc hlec => ?_)) | (with_reducible refine vapp_accL (AccP.mono (by assumption) (AccP.le (by assumption))) ?_ (fun v2 H2 hacc hlec => ?_)) | (with_reducible refine vapp_accL (AccP.new (by assumption) (by assumption) _) ?_ (fun v2 H2 hacc hlec => ?_))); · simp only [byteCells_length, List.length_cons, List.length_nil, List.length_map, List.length_append]; omega) | with_reducible refine need_elems (by assumption) ?_ | with_reducible refine vlen_acc (by assumption) ?_ | with_reducible refine need_bytes (by assumption) ?_ | with_reducible refine call_ex (bnew_calls hok _) (fun v H2 hr => ?_) | with_reducible refine call_ex (snew_calls h1 h2 h3 h4 _) (fun v H2 hr => ?_) | with_reducible refine need_look (by assumption) ?_ | with_reducible refine need_look (look_put (by assumption) (by assumption)) ?_ | with_reducible refine need_look (look_lec (by assumption) (by assumption)) ?_ | with_reducible refine need_look (look_put (AH.put_same _ _ _) (by assumption)) ?_ | with_reducible refine need_look (look_lec (AH.put_same _ _ _) (by assumption)) ?_ | with_reducible refine need_look (look_put (look_put (by assumption) (by assumption)) (by assumption)) ?_ | with_reducible refine need_look (look_lec (look_put (by assumption) (by assumption)) (by assumption)) ?_ | with_reducible refine need_look (look_put (look_lec (by assumption) (by assumption)) (by assumption)) ?_ | with_reducible refine need_look (look_lec (look_lec (by assumption) (by assumption)) (by assumption)) ?_ | with_reducible refine need_look (look_put (look_put (AH.put_same _ _ _) (by assumption)) (by assumption)) ?_ | with_reducible refine need_look (look_lec (look_put (AH.put_same _ _ _) (by assumption)) (by assumption)) ?_ | with_reducible refine need_look (look_put (look_lec (AH.put_same _ _ _) (by assumption)) (by assumption)) ?_ | with_reducible refine need_look (look_lec (look_lec (AH.put_same _ _ _) (by assumption)) (by assumption)) ?_) <;> (try simp -implicitDefEqProofs (disch := omega) only [go_sem, eq_self, decide_true, decide_false, Nat.reduceBEq, Nat.reduceAdd, Nat.reduceSub, Nat.reduceMul, Nat.reduceEqDiff, Nat.reduceLeDiff, Nat.reduceLT, Int.reduceLE, Int.reduceLT, Int.reduceToNat, Int.reduceAdd, Int.reduceEq, Int.reduceNeg, AH.put_ne])))
  obtain ⟨kb, rfl, hk, rfl⟩ := hr
  simp -implicitDefEqProofs (disch := omega) only [go_sem, eq_self, decide_true, decide_false, Nat.reduceBEq, Nat.reduceAdd, Nat.reduceSub, Nat.reduceMul, Nat.reduceEqDiff, Nat.reduceLeDiff, Nat.reduceLT, Int.reduceLE, Int.reduceLT, Int.reduceToNat, Int.reduceAdd, Int.reduceEq, Int.reduceNeg, AH.put_ne]
  repeat' (first | with_reducible refine am_seq ?_ | with_reducible refine am_block ?_ | ((with_reducible apply am_cond); (case hb => rfl); all_goals (intro hc; (try simp only [reduceCtorEq, decide_eq_true_eq, decide_eq_false_iff_not, Bool.or_eq_true, Bool.and_eq_true, Bool.or_eq_false_iff, Bool.not_eq_true', Bool.not_eq_false', beq_iff_eq] at hc); (try (exfalso; omega)))) | ((first | with_reducible refine am_reg ?_ | with_reducible refine am_drw ?_ | with_reducible refine am_skip ?_ | with_reducible refine am_exit ?_ | with_reducible refine am_ret ?_ | with_reducible refine And.intro (by first | exact AH.lec_refl _ | assumption | exact AccP.lec (by assumption) | omega) ?_ | with_reducible refine isnE_of (fun hc => ?_) (fun hc => ?_) (fun hc => ?_) | ((first | with_reducible refine gd_not (fun hc => ?_) (fun hc => ?_) | with_reducible refine gd_of (fun hc => ?_) (fun hc => ?_) | with_reducible refine gq_not (fun hc => ?_) (fun hc => ?_) | with_reducible refine gq_of (fun hc => ?_) (fun hc => ?_) | with_reducible refine pickB_of (fun hc => ?_) (fun hc => ?_)) <;> (try simp -implicitDefEqProofs (disch := omega) only [go_sem, eq_self, decide_true, decide_false, Nat.reduceBEq, Nat.reduceAdd, Nat.reduceSub, Nat.reduceMul, Nat.reduceEqDiff, Nat.reduceLeDiff, Nat.reduceLT, Int.reduceLE, Int.reduceLT, Int.reduceToNat, Int.reduceAdd, Int.reduceEq, Int.reduceNeg, AH.put_ne, hc]) <;> (try simp only [reduceCtorEq, decide_eq_true_eq, decide_eq_false_iff_not, Bool.or_eq_true, Bool.and_eq_true, Bool.or_eq_false_iff, Bool.not_eq_true', Bool.not_eq_false', beq_iff_eq] at hc) <;> (try (exfalso; omega))) | ((with_reducible refine alloc_intro (fun ko hko => ?_)) <;> (try have hne := fresh_ne (by assumption) hko) <;> (try have hnk := fresh_ne hk hko) <;> (try have hnk2 := fresh_ne hk2 hko) <;> (try simp only [AH.put_none] at hko)) | ((first | (with_reducible refine vapp_accL (by assumption) ?_ (fun v2 H2 hacc hlec => ?_)) | (with_reducible refine vapp_accL (AccP.mono (by assumption) (AccP.le (by assumption))) ?_ (fun v2 H2 hacc hlec => ?_)) | (with_reducible refine vapp_accL (AccP.new (by assumption) (by assumption) _) ?_ (fun v2 H2 hacc hlec => ?_))); · simp only [byteCells_length, List.length_cons, List.length_nil, List.length_map, List.length_append]; omega) | with_reducible refine need_elems (by assumption) ?_ | with_reducible refine vlen_acc (by assumption) ?_ | with_reducible refine need_bytes (by assumption) ?_ | with_reducible refine call_ex (bnew_calls hok _) (fun v H2 hr => ?_) | with_reducible refine call_ex (snew_calls h1 h2 h3 h4 _) (fun v H2 hr => ?_) | with_reducible refine need_look (by assumption) ?_ | with_reducible refine need_look (look_put (by assumption) (by assumption)) ?_ | with_reducible refine need_look (look_lec (by assumption) (by assumption)) ?_ | with_reducible refine need_look (look_put (AH.put_same _ _ _) (by assumption)) ?_ | with_reducible refine need_look (look_lec (AH.put_same _ _ _) (by assumption)) ?_ | with_reducible refine need_look (look_put (look_put (by assumption) (by assumption)) (by assumption)) ?_ | with_reducible refine need_look (look_lec (look_put (by assumption) (by assumption)) (by assumption)) ?_ | with_reducible refine need_look (look_put (look_lec (by assumption) (by assumption)) (by assumption)) ?_ | with_reducible refine need_look (look_lec (look_lec (by assumption) (by assumption)) (by assumption)) ?_ | with_reducible refine need_look (look_put (look_put (AH.put_same _ _ _) (by assumption)) (by assumption)) ?_ | with_reducible refine need_look (look_lec (look_put (AH.put_same _ _ _) (by assumption)) (by assumption)) ?_ | with_reducible refine need_look (look_put (look_lec (AH.put_same _ _ _) (by assumption)) (by assumption)) ?_ | with_reducible refine need_look (look_lec (look_lec (AH.put_same _ _ _) (by assumption)) (by assumption)) ?_) <;> (try simp -implicitDefEqProofs (disch := omega) only [go_sem, eq_self, decide_true, decide_false, Nat.reduceBEq, Nat.reduceAdd, Nat.reduceSub, Nat.reduceMul, Nat.reduceEqDiff, Nat.reduceLeDiff, Nat.reduceLT, Int.reduceLE, Int.reduceLT, Int.reduceToNat, Int.reduceAdd, Int.reduceEq, Int.reduceNeg, AH.put_ne])))
  obtain ⟨ks, rfl, hk2, rfl⟩ := hr
  simp -implicitDefEqProofs (disch := omega) only [go_sem, eq_self, decide_true, decide_false, Nat.reduceBEq, Nat.reduceAdd, Nat.reduceSub, Nat.reduceMul, Nat.reduceEqDiff, Nat.reduceLeDiff, Nat.reduceLT, Int.reduceLE, Int.reduceLT, Int.reduceToNat, Int.reduceAdd, Int.reduceEq, Int.reduceNeg, AH.put_ne]
  repeat' (first | with_reducible refine am_seq ?_ | with_reducible refine am_block ?_ | ((with_reducible apply am_cond); (case hb => rfl); all_goals (intro hc; (try simp only [reduceCtorEq, decide_eq_true_eq, decide_eq_false_iff_not, Bool.or_eq_true, Bool.and_eq_true, Bool.or_eq_false_iff, Bool.not_eq_true', Bool.not_eq_false', beq_iff_eq] at hc); (try (exfalso; omega)))) | ((first | with_reducible refine am_reg ?_ | with_reducible refine am_drw ?_ | with_reducible refine am_skip ?_ | with_reducible refine am_exit ?_ | with_reducible refine am_ret ?_ | with_reducible refine And.intro (by first | exact AH.lec_refl _ | assumption | exact AccP.lec (by assumption) | omega) ?_ | with_reducible refine isnE_of (fun hc => ?_) (fun hc => ?_) (fun hc => ?_) | ((first | with_reducible refine gd_not (fun hc => ?_) (fun hc => ?_) | with_reducible refine gd_of (fun hc => ?_) (fun hc => ?_) | with_reducible refine gq_not (fun hc => ?_) (fun hc => ?_) | with_reducible refine gq_of (fun hc => ?_) (fun hc => ?_) | with_reducible refine pickB_of (fun hc => ?_) (fun hc => ?_)) <;> (try simp -implicitDefEqProofs (disch := omega) only [go_sem, eq_self, decide_true, decide_false, Nat.reduceBEq, Nat.reduceAdd, Nat.reduceSub, Nat.reduceMul, Nat.reduceEqDiff, Nat.reduceLeDiff, Nat.reduceLT, Int.reduceLE, Int.reduceLT, Int.reduceToNat, Int.reduceAdd, Int.reduceEq, Int.reduceNeg, AH.put_ne, hc]) <;> (try simp only [reduceCtorEq, decide_eq_true_eq, decide_eq_false_iff_not, Bool.or_eq_true, Bool.and_eq_true, Bool.or_eq_false_iff, Bool.not_eq_true', Bool.not_eq_false', beq_iff_eq] at hc) <;> (try (exfalso; omega))) | ((with_reducible refine alloc_intro (fun ko hko => ?_)) <;> (try have hne := fresh_ne (by assumption) hko) <;> (try have hnk := fresh_ne hk hko) <;> (try have hnk2 := fresh_ne hk2 hko) <;> (try simp only [AH.put_none] at hko)) | ((first | (with_reducible refine vapp_accL (by assumption) ?_ (fun v2 H2 hacc hlec => ?_)) | (with_reducible refine vapp_accL (AccP.mono (by assumption) (AccP.le (by assumption))) ?_ (fun v2 H2 hacc hlec => ?_)) | (with_reducible refine vapp_accL (AccP.new (by assumption) (by assumption) _) ?_ (fun v2 H2 hacc hlec => ?_))); · simp only [byteCells_length, List.length_cons, List.length_nil, List.length_map, List.length_append]; omega) | with_reducible refine need_elems (by assumption) ?_ | with_reducible refine vlen_acc (by assumption) ?_ | with_reducible refine need_bytes (by assumption) ?_ | with_reducible refine need_look (by assumption) ?_ | with_reducible refine need_look (look_put (by assumption) (by assumption)) ?_ | with_reducible refine need_look (look_lec (by assumption) (by assumption)) ?_ | with_reducible refine need_look (look_put (AH.put_same _ _ _) (by assumption)) ?_ | with_reducible refine need_look (look_lec (AH.put_same _ _ _) (by assumption)) ?_ | with_reducible refine need_look (look_put (look_put (by assumption) (by assumption)) (by assumption)) ?_ | with_reducible refine need_look (look_lec (look_put (by assumption) (by assumption)) (by assumption)) ?_ | with_reducible refine need_look (look_put (look_lec (by assumption) (by assumption)) (by assumption)) ?_ | with_reducible refine need_look (look_lec (look_lec (by assumption) (by assumption)) (by assumption)) ?_ | with_reducible refine need_look (look_put (look_put (AH.put_same _ _ _) (by assumption)) (by assumption)) ?_ | with_reducible refine need_look (look_lec (look_put (AH.put_same _ _ _) (by assumption)) (by assumption)) ?_ | with_reducible refine need_look (look_put (look_lec (AH.put_same _ _ _) (by assumption)) (by assumption)) ?_ | with_reducible refine need_look (look_lec (look_lec (AH.put_same _ _ _) (by assumption)) (by assumption)) ?_) <;> (try simp -implicitDefEqProofs (disch := omega) only [go_sem, eq_self, decide_true, decide_false, Nat.reduceBEq, Nat.reduceAdd, Nat.reduceSub, Nat.reduceMul, Nat.reduceEqDiff, Nat.reduceLeDiff, Nat.reduceLT, Int.reduceLE, Int.reduceLT, Int.reduceToNat, Int.reduceAdd, Int.reduceEq, Int.reduceNeg, AH.put_ne])))
  have hne : ks ≠ kb := by rintro rfl; rw [AH.put_same] at hk2; cases hk2
  have hks : H ks = none := by rwa [AH.put_ne _ _ hne] at hk2
  exact ⟨_, rfl, kb, ko, rfl, hko.2.1, look_put (look_put (AH.put_same _ _ _) hk2) (by rw [AH.put_ne _ _ hko.1, AH.put_ne _ _ hko.2.1]; exact hko.2.2), AH.put_same _ _ _, hk, hko.2.2, AH.le_put (AH.le_put (AH.le_put (AH.le_refl H) hk _) hks _) hko.2.2 _⟩
theorem spawned_calls {r : Rl} {kb k : Nat} {lim wt un s n now : Int} {sv : V} {H : AH} (hr : r.ok) (hs : 0 ≤ s) (hs2 : s ≤ 1152921504606846976) (hn : 0 ≤ n) (hn2 : n < 1000) (h0 : 0 ≤ now) (h1 : now ≤ 1000000000000) (hk : H kb = some (.cells [.int .i64 r.b, .int .i64 r.c, .int .i64 r.t, .int .i64 r.m, .int .i64 s, .int .i64 n, .bool false])) (hk2 : H k = some (.cells [.ptr kb 0, .int .i64 lim, .int .i64 wt, .int .i64 1, .int .i64 un, sv])) (hne : k ≠ kb) :
    ACalls Tryz.prog 19 [.ptr k 0, .int .i64 now, .bool false] H (fun o H' =>
      o = .ret (.tuple [.sl 10 [if r.t ≤ (if r.m < now - s then 0 else n) + 1 then (evC 5 14 0) else (evC 4 14 (r.delay ((if r.m < now - s then 0 else n) + 1).toNat))] .tight, .int .i64 0]) ∧
      H' = (H.put kb (stO r s ((if r.m < now - s then 0 else n) + 1) (decide (r.t ≤ (if r.m < now - s then 0 else n) + 1)))).put k
        (if r.t ≤ (if r.m < now - s then 0 else n) + 1 then kpO kb lim wt 5 un sv else kpO kb lim wt 4 (now + r.delay ((if r.m < now - s then 0 else n) + 1).toNat) sv)) := by
  refine ACalls.dropG ?_
  refine acalls Tryz.func19 c19 r19 (by simp [Tryz.ntmps19]) ?_
  have bc := fun (H : AH) hk hk2 => broke_calls (k := k) (kb := kb) (lim := lim) (wt := wt) (st := 1) (un := un) (sv := sv) (e := 14) (H := H) hr hs hs2 hn hn2 h0 h1 hk hk2 hne
  generalize (if r.m < now - s then (0 : Int) else n) + 1 = q at bc ⊢
  by_cases h : r.t ≤ q
  · simp only [h, if_true, decide_true] at bc ⊢
    repeat' (first | with_reducible refine am_seq ?_ | with_reducible refine am_block ?_ | ((with_reducible apply am_cond); (case hb => rfl); all_goals (intro hc; (try simp only [reduceCtorEq, decide_eq_true_eq, decide_eq_false_iff_not, Bool.or_eq_true, Bool.and_eq_true, Bool.or_eq_false_iff, Bool.not_eq_true', Bool.not_eq_false', beq_iff_eq] at hc); (try (exfalso; omega)))) | ((first | with_reducible refine am_reg ?_ | with_reducible refine am_drw ?_ | with_reducible refine am_skip ?_ | with_reducible refine am_exit ?_ | with_reducible refine am_ret ?_ | with_reducible refine And.intro (by first | exact AH.lec_refl _ | assumption | exact AccP.lec (by assumption) | omega) ?_ | with_reducible refine isnE_of (fun hc => ?_) (fun hc => ?_) (fun hc => ?_) | ((first | with_reducible refine gd_not (fun hc => ?_) (fun hc => ?_) | with_reducible refine gd_of (fun hc => ?_) (fun hc => ?_) | with_reducible refine gq_not (fun hc => ?_) (fun hc => ?_) | with_reducible refine gq_of (fun hc => ?_) (fun hc => ?_) | with_reducible refine pickB_of (fun hc => ?_) (fun hc => ?_)) <;> (try simp -implicitDefEqProofs (disch := omega) only [go_sem, eq_self, decide_true, decide_false, Nat.reduceBEq, Nat.reduceAdd, Nat.reduceSub, Nat.reduceMul, Nat.reduceEqDiff, Nat.reduceLeDiff, Nat.reduceLT, Int.reduceLE, Int.reduceLT, Int.reduceToNat, Int.reduceAdd, Int.reduceEq, Int.reduceNeg, AH.put_ne, hc, hk, hk2, evC]) <;> (try simp only [reduceCtorEq, decide_eq_true_eq, decide_eq_false_iff_not, Bool.or_eq_true, Bool.and_eq_true, Bool.or_eq_false_iff, Bool.not_eq_true', Bool.not_eq_false', beq_iff_eq] at hc) <;> (try (exfalso; omega))) | ((with_reducible refine alloc_intro (fun ko hko => ?_)) <;> (try have hne := fresh_ne (by assumption) hko) <;> (try have hnk := fresh_ne hk hko) <;> (try have hnk2 := fresh_ne hk2 hko) <;> (try simp only [AH.put_none] at hko)) | ((first | (with_reducible refine vapp_accL (by assumption) ?_ (fun v2 H2 hacc hlec => ?_)) | (with_reducible refine vapp_accL (AccP.mono (by assumption) (AccP.le (by assumption))) ?_ (fun v2 H2 hacc hlec => ?_)) | (with_reducible refine vapp_accL (AccP.new (by assumption) (by assumption) _) ?_ (fun v2 H2 hacc hlec => ?_))); · simp only [byteCells_length, List.length_cons, List.length_nil, List.length_map, List.length_append]; omega) | with_reducible refine need_elems (by assumption) ?_ | with_reducible refine vlen_acc (by assumption) ?_ | with_reducible refine need_bytes (by assumption) ?_ | (first | with_reducible refine call_at (fun G hl => is1_calls (look_lec hk2 hl)) ?_ | with_reducible refine qcall_at (fun G hl => is1_calls (look_lec hk2 hl)) ?_) | with_reducible refine call_turn (bc _ hk hk2) ?_ | with_reducible refine need_look (by assumption) ?_ | with_reducible refine need_look (look_put (by assumption) (by assumption)) ?_ | with_reducible refine need_look (look_lec (by assumption) (by assumption)) ?_ | with_reducible refine need_look (look_put (AH.put_same _ _ _) (by assumption)) ?_ | with_reducible refine need_look (look_lec (AH.put_same _ _ _) (by assumption)) ?_ | with_reducible refine need_look (look_put (look_put (by assumption) (by assumption)) (by assumption)) ?_ | with_reducible refine need_look (look_lec (look_put (by assumption) (by assumption)) (by assumption)) ?_ | with_reducible refine need_look (look_put (look_lec (by assumption) (by assumption)) (by assumption)) ?_ | with_reducible refine need_look (look_lec (look_lec (by assumption) (by assumption)) (by assumption)) ?_ | with_reducible refine need_look (look_put (look_put (AH.put_same _ _ _) (by assumption)) (by assumption)) ?_ | with_reducible refine need_look (look_lec (look_put (AH.put_same _ _ _) (by assumption)) (by assumption)) ?_ | with_reducible refine need_look (look_put (look_lec (AH.put_same _ _ _) (by assumption)) (by assumption)) ?_ | with_reducible refine need_look (look_lec (look_lec (AH.put_same _ _ _) (by assumption)) (by assumption)) ?_) <;> (try simp -implicitDefEqProofs (disch := omega) only [go_sem, eq_self, decide_true, decide_false, Nat.reduceBEq, Nat.reduceAdd, Nat.reduceSub, Nat.reduceMul, Nat.reduceEqDiff, Nat.reduceLeDiff, Nat.reduceLT, Int.reduceLE, Int.reduceLT, Int.reduceToNat, Int.reduceAdd, Int.reduceEq, Int.reduceNeg, AH.put_ne, hk, hk2, evC])))
    all_goals exact end_eq rfl (AH.le_refl _)
  · simp only [h, if_false, decide_false] at bc ⊢
    repeat' (first | with_reducible refine am_seq ?_ | with_reducible refine am_block ?_ | ((with_reducible apply am_cond); (case hb => rfl); all_goals (intro hc; (try simp only [reduceCtorEq, decide_eq_true_eq, decide_eq_false_iff_not, Bool.or_eq_true, Bool.and_eq_true, Bool.or_eq_false_iff, Bool.not_eq_true', Bool.not_eq_false', beq_iff_eq] at hc); (try (exfalso; omega)))) | ((first | with_reducible refine am_reg ?_ | with_reducible refine am_drw ?_ | with_reducible refine am_skip ?_ | with_reducible refine am_exit ?_ | with_reducible refine am_ret ?_ | with_reducible refine And.intro (by first | exact AH.lec_refl _ | assumption | exact AccP.lec (by assumption) | omega) ?_ | with_reducible refine isnE_of (fun hc => ?_) (fun hc => ?_) (fun hc => ?_) | ((first | with_reducible refine gd_not (fun hc => ?_) (fun hc => ?_) | with_reducible refine gd_of (fun hc => ?_) (fun hc => ?_) | with_reducible refine gq_not (fun hc => ?_) (fun hc => ?_) | with_reducible refine gq_of (fun hc => ?_) (fun hc => ?_) | with_reducible refine pickB_of (fun hc => ?_) (fun hc => ?_)) <;> (try simp -implicitDefEqProofs (disch := omega) only [go_sem, eq_self, decide_true, decide_false, Nat.reduceBEq, Nat.reduceAdd, Nat.reduceSub, Nat.reduceMul, Nat.reduceEqDiff, Nat.reduceLeDiff, Nat.reduceLT, Int.reduceLE, Int.reduceLT, Int.reduceToNat, Int.reduceAdd, Int.reduceEq, Int.reduceNeg, AH.put_ne, hc, hk, hk2, evC]) <;> (try simp only [reduceCtorEq, decide_eq_true_eq, decide_eq_false_iff_not, Bool.or_eq_true, Bool.and_eq_true, Bool.or_eq_false_iff, Bool.not_eq_true', Bool.not_eq_false', beq_iff_eq] at hc) <;> (try (exfalso; omega))) | ((with_reducible refine alloc_intro (fun ko hko => ?_)) <;> (try have hne := fresh_ne (by assumption) hko) <;> (try have hnk := fresh_ne hk hko) <;> (try have hnk2 := fresh_ne hk2 hko) <;> (try simp only [AH.put_none] at hko)) | ((first | (with_reducible refine vapp_accL (by assumption) ?_ (fun v2 H2 hacc hlec => ?_)) | (with_reducible refine vapp_accL (AccP.mono (by assumption) (AccP.le (by assumption))) ?_ (fun v2 H2 hacc hlec => ?_)) | (with_reducible refine vapp_accL (AccP.new (by assumption) (by assumption) _) ?_ (fun v2 H2 hacc hlec => ?_))); · simp only [byteCells_length, List.length_cons, List.length_nil, List.length_map, List.length_append]; omega) | with_reducible refine need_elems (by assumption) ?_ | with_reducible refine vlen_acc (by assumption) ?_ | with_reducible refine need_bytes (by assumption) ?_ | (first | with_reducible refine call_at (fun G hl => is1_calls (look_lec hk2 hl)) ?_ | with_reducible refine qcall_at (fun G hl => is1_calls (look_lec hk2 hl)) ?_) | with_reducible refine call_turn (bc _ hk hk2) ?_ | with_reducible refine need_look (by assumption) ?_ | with_reducible refine need_look (look_put (by assumption) (by assumption)) ?_ | with_reducible refine need_look (look_lec (by assumption) (by assumption)) ?_ | with_reducible refine need_look (look_put (AH.put_same _ _ _) (by assumption)) ?_ | with_reducible refine need_look (look_lec (AH.put_same _ _ _) (by assumption)) ?_ | with_reducible refine need_look (look_put (look_put (by assumption) (by assumption)) (by assumption)) ?_ | with_reducible refine need_look (look_lec (look_put (by assumption) (by assumption)) (by assumption)) ?_ | with_reducible refine need_look (look_put (look_lec (by assumption) (by assumption)) (by assumption)) ?_ | with_reducible refine need_look (look_lec (look_lec (by assumption) (by assumption)) (by assumption)) ?_ | with_reducible refine need_look (look_put (look_put (AH.put_same _ _ _) (by assumption)) (by assumption)) ?_ | with_reducible refine need_look (look_lec (look_put (AH.put_same _ _ _) (by assumption)) (by assumption)) ?_ | with_reducible refine need_look (look_put (look_lec (AH.put_same _ _ _) (by assumption)) (by assumption)) ?_ | with_reducible refine need_look (look_lec (look_lec (AH.put_same _ _ _) (by assumption)) (by assumption)) ?_) <;> (try simp -implicitDefEqProofs (disch := omega) only [go_sem, eq_self, decide_true, decide_false, Nat.reduceBEq, Nat.reduceAdd, Nat.reduceSub, Nat.reduceMul, Nat.reduceEqDiff, Nat.reduceLeDiff, Nat.reduceLT, Int.reduceLE, Int.reduceLT, Int.reduceToNat, Int.reduceAdd, Int.reduceEq, Int.reduceNeg, AH.put_ne, hk, hk2, evC])))
    all_goals exact end_eq rfl (AH.le_refl _)
theorem awake_calls (H : AH) : ACalls Tryz.prog 17 [] H (fun o H' => o = .ret (.bool true) ∧ H' = H) := by
  refine ACalls.drop ?_
  refine acalls Tryz.func17 c17 r17 (by simp [Tryz.ntmps17]) ?_
  have nc := fun H => new_calls (r := ⟨1, 2, 3, 5⟩) (a := 1000) (b := 5) (by decide) (by decide) (by decide) (by decide) (by decide) H
  simp only at nc
  repeat' (first | with_reducible refine am_seq ?_ | with_reducible refine am_block ?_ | ((with_reducible apply am_cond); (case hb => rfl); all_goals (intro hc; (try simp only [reduceCtorEq, decide_eq_true_eq, decide_eq_false_iff_not, Bool.or_eq_true, Bool.and_eq_true, Bool.or_eq_false_iff, Bool.not_eq_true', Bool.not_eq_false', beq_iff_eq] at hc); (try (exfalso; omega)))) | ((first | with_reducible refine am_reg ?_ | with_reducible refine am_drw ?_ | with_reducible refine am_skip ?_ | with_reducible refine am_exit ?_ | with_reducible refine am_ret ?_ | with_reducible refine And.intro (by first | exact AH.lec_refl _ | assumption | exact AccP.lec (by assumption) | omega) ?_ | with_reducible refine isnE_of (fun hc => ?_) (fun hc => ?_) (fun hc => ?_) | ((first | with_reducible refine gd_not (fun hc => ?_) (fun hc => ?_) | with_reducible refine gd_of (fun hc => ?_) (fun hc => ?_) | with_reducible refine gq_not (fun hc => ?_) (fun hc => ?_) | with_reducible refine gq_of (fun hc => ?_) (fun hc => ?_) | with_reducible refine pickB_of (fun hc => ?_) (fun hc => ?_)) <;> (try simp -implicitDefEqProofs (disch := omega) only [go_sem, eq_self, decide_true, decide_false, Nat.reduceBEq, Nat.reduceAdd, Nat.reduceSub, Nat.reduceMul, Nat.reduceEqDiff, Nat.reduceLeDiff, Nat.reduceLT, Int.reduceLE, Int.reduceLT, Int.reduceToNat, Int.reduceAdd, Int.reduceEq, Int.reduceNeg, AH.put_ne, hc]) <;> (try simp only [reduceCtorEq, decide_eq_true_eq, decide_eq_false_iff_not, Bool.or_eq_true, Bool.and_eq_true, Bool.or_eq_false_iff, Bool.not_eq_true', Bool.not_eq_false', beq_iff_eq] at hc) <;> (try (exfalso; omega))) | ((with_reducible refine alloc_intro (fun ko hko => ?_)) <;> (try have hne := fresh_ne (by assumption) hko) <;> (try have hnk := fresh_ne hk hko) <;> (try have hnk2 := fresh_ne hk2 hko) <;> (try simp only [AH.put_none] at hko)) | ((first | (with_reducible refine vapp_accL (by assumption) ?_ (fun v2 H2 hacc hlec => ?_)) | (with_reducible refine vapp_accL (AccP.mono (by assumption) (AccP.le (by assumption))) ?_ (fun v2 H2 hacc hlec => ?_)) | (with_reducible refine vapp_accL (AccP.new (by assumption) (by assumption) _) ?_ (fun v2 H2 hacc hlec => ?_))); · simp only [byteCells_length, List.length_cons, List.length_nil, List.length_map, List.length_append]; omega) | with_reducible refine need_elems (by assumption) ?_ | with_reducible refine vlen_acc (by assumption) ?_ | with_reducible refine need_bytes (by assumption) ?_ | with_reducible refine call_ex (nc _) (fun v H2 hr => ?_) | with_reducible refine need_look (by assumption) ?_ | with_reducible refine need_look (look_put (by assumption) (by assumption)) ?_ | with_reducible refine need_look (look_lec (by assumption) (by assumption)) ?_ | with_reducible refine need_look (look_put (AH.put_same _ _ _) (by assumption)) ?_ | with_reducible refine need_look (look_lec (AH.put_same _ _ _) (by assumption)) ?_ | with_reducible refine need_look (look_put (look_put (by assumption) (by assumption)) (by assumption)) ?_ | with_reducible refine need_look (look_lec (look_put (by assumption) (by assumption)) (by assumption)) ?_ | with_reducible refine need_look (look_put (look_lec (by assumption) (by assumption)) (by assumption)) ?_ | with_reducible refine need_look (look_lec (look_lec (by assumption) (by assumption)) (by assumption)) ?_ | with_reducible refine need_look (look_put (look_put (AH.put_same _ _ _) (by assumption)) (by assumption)) ?_ | with_reducible refine need_look (look_lec (look_put (AH.put_same _ _ _) (by assumption)) (by assumption)) ?_ | with_reducible refine need_look (look_put (look_lec (AH.put_same _ _ _) (by assumption)) (by assumption)) ?_ | with_reducible refine need_look (look_lec (look_lec (AH.put_same _ _ _) (by assumption)) (by assumption)) ?_) <;> (try simp -implicitDefEqProofs (disch := omega) only [go_sem, eq_self, decide_true, decide_false, Nat.reduceBEq, Nat.reduceAdd, Nat.reduceSub, Nat.reduceMul, Nat.reduceEqDiff, Nat.reduceLeDiff, Nat.reduceLT, Int.reduceLE, Int.reduceLT, Int.reduceToNat, Int.reduceAdd, Int.reduceEq, Int.reduceNeg, AH.put_ne])))
  obtain ⟨kb, k, rfl, hne, hk, hk2, e1, e2, hle⟩ := hr
  simp -implicitDefEqProofs (disch := omega) only [go_sem, eq_self, decide_true, decide_false, Nat.reduceBEq, Nat.reduceAdd, Nat.reduceSub, Nat.reduceMul, Nat.reduceEqDiff, Nat.reduceLeDiff, Nat.reduceLT, Int.reduceLE, Int.reduceLT, Int.reduceToNat, Int.reduceAdd, Int.reduceEq, Int.reduceNeg, AH.put_ne]
  repeat' (first | with_reducible refine am_seq ?_ | with_reducible refine am_block ?_ | ((with_reducible apply am_cond); (case hb => rfl); all_goals (intro hc; (try simp only [reduceCtorEq, decide_eq_true_eq, decide_eq_false_iff_not, Bool.or_eq_true, Bool.and_eq_true, Bool.or_eq_false_iff, Bool.not_eq_true', Bool.not_eq_false', beq_iff_eq] at hc); (try (exfalso; omega)))) | ((first | with_reducible refine am_reg ?_ | with_reducible refine am_drw ?_ | with_reducible refine am_skip ?_ | with_reducible refine am_exit ?_ | with_reducible refine am_ret ?_ | with_reducible refine And.intro (by first | exact AH.lec_refl _ | assumption | exact AccP.lec (by assumption) | omega) ?_ | with_reducible refine isnE_of (fun hc => ?_) (fun hc => ?_) (fun hc => ?_) | ((first | with_reducible refine gd_not (fun hc => ?_) (fun hc => ?_) | with_reducible refine gd_of (fun hc => ?_) (fun hc => ?_) | with_reducible refine gq_not (fun hc => ?_) (fun hc => ?_) | with_reducible refine gq_of (fun hc => ?_) (fun hc => ?_) | with_reducible refine pickB_of (fun hc => ?_) (fun hc => ?_)) <;> (try simp -implicitDefEqProofs (disch := omega) only [go_sem, eq_self, decide_true, decide_false, Nat.reduceBEq, Nat.reduceAdd, Nat.reduceSub, Nat.reduceMul, Nat.reduceEqDiff, Nat.reduceLeDiff, Nat.reduceLT, Int.reduceLE, Int.reduceLT, Int.reduceToNat, Int.reduceAdd, Int.reduceEq, Int.reduceNeg, AH.put_ne, hc, evC]) <;> (try simp only [reduceCtorEq, decide_eq_true_eq, decide_eq_false_iff_not, Bool.or_eq_true, Bool.and_eq_true, Bool.or_eq_false_iff, Bool.not_eq_true', Bool.not_eq_false', beq_iff_eq] at hc) <;> (try (exfalso; omega))) | ((with_reducible refine alloc_intro (fun ko hko => ?_)) <;> (try have hne := fresh_ne (by assumption) hko) <;> (try have hnk := fresh_ne hk hko) <;> (try have hnk2 := fresh_ne hk2 hko) <;> (try simp only [AH.put_none] at hko)) | ((first | (with_reducible refine vapp_accL (by assumption) ?_ (fun v2 H2 hacc hlec => ?_)) | (with_reducible refine vapp_accL (AccP.mono (by assumption) (AccP.le (by assumption))) ?_ (fun v2 H2 hacc hlec => ?_)) | (with_reducible refine vapp_accL (AccP.new (by assumption) (by assumption) _) ?_ (fun v2 H2 hacc hlec => ?_))); · simp only [byteCells_length, List.length_cons, List.length_nil, List.length_map, List.length_append]; omega) | with_reducible refine need_elems (by assumption) ?_ | with_reducible refine vlen_acc (by assumption) ?_ | with_reducible refine need_bytes (by assumption) ?_ | with_reducible refine call_turn (start_calls hk2) ?_ | (first | with_reducible refine call_at (fun G hl => state_calls (look_lec (AH.put_same _ _ _) hl)) ?_ | with_reducible refine qcall_at (fun G hl => state_calls (look_lec (AH.put_same _ _ _) hl)) ?_) | with_reducible refine need_look (by assumption) ?_ | with_reducible refine need_look (look_put (by assumption) (by assumption)) ?_ | with_reducible refine need_look (look_lec (by assumption) (by assumption)) ?_ | with_reducible refine need_look (look_put (AH.put_same _ _ _) (by assumption)) ?_ | with_reducible refine need_look (look_lec (AH.put_same _ _ _) (by assumption)) ?_ | with_reducible refine need_look (look_put (look_put (by assumption) (by assumption)) (by assumption)) ?_ | with_reducible refine need_look (look_lec (look_put (by assumption) (by assumption)) (by assumption)) ?_ | with_reducible refine need_look (look_put (look_lec (by assumption) (by assumption)) (by assumption)) ?_ | with_reducible refine need_look (look_lec (look_lec (by assumption) (by assumption)) (by assumption)) ?_ | with_reducible refine need_look (look_put (look_put (AH.put_same _ _ _) (by assumption)) (by assumption)) ?_ | with_reducible refine need_look (look_lec (look_put (AH.put_same _ _ _) (by assumption)) (by assumption)) ?_ | with_reducible refine need_look (look_put (look_lec (AH.put_same _ _ _) (by assumption)) (by assumption)) ?_ | with_reducible refine need_look (look_lec (look_lec (AH.put_same _ _ _) (by assumption)) (by assumption)) ?_) <;> (try simp -implicitDefEqProofs (disch := omega) only [go_sem, eq_self, decide_true, decide_false, Nat.reduceBEq, Nat.reduceAdd, Nat.reduceSub, Nat.reduceMul, Nat.reduceEqDiff, Nat.reduceLeDiff, Nat.reduceLT, Int.reduceLE, Int.reduceLT, Int.reduceToNat, Int.reduceAdd, Int.reduceEq, Int.reduceNeg, AH.put_ne, evC])))
  all_goals exact end_le (AH.le_put hle e2 _)
end Go.Proofs.YtcfeafpjkcmdiaaGreatDoor
