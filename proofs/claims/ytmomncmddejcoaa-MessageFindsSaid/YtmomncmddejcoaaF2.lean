/- Of the walks of this seat: contracts of functions of the given program, proved over the abstract values of the texts Vm. Conditions: as each theorem says. -/
import Derived.Test.YtmomncmddejcoaaF1
import Derived.Test.YtmomncmddejcoaaB10
set_option linter.unusedVariables false
set_option linter.unusedSimpArgs false
namespace Go.Proofs.Ytmomncmddejcoaa
open Go.Vm
attribute [local go_sem] strsE_get strsE_length intsE_get intsE_length byteCells_get byteCells_length byteCells_take byteCells_drop bytes_cells fldC fldsE_get fldsE_length blobsE_get blobsE_length u64sE_length u64sE_get List.drop_zero bytesOf_cells toNat_succ Nat.sub_zero Int.toNat_natCast Option.map_some Int.natCast_nonneg decide_eq_true_eq decide_eq_false_iff_not
/- flange/flangelaw02.MessageFinds -/
abbrev k9_0 : MC :=
  .cond (.t 28) ((.seq (.reg [
     ⟨(some 29), none, .call 20 []⟩,
     ⟨(some 6), none, .val (.mv (.t 29))⟩] [6]) .ret)) (.skip)

abbrev k9_1 : MC :=
  .cond (.t 48) (.skip) (.exit 0)

abbrev k9_2 : MC :=
  .cond (.t 54) (.skip) (.exit 2)

abbrev k9_3 : MC :=
  .reg [
    ⟨(some 55), none, .val (.mv (.t 17))⟩,
    ⟨(some 56), none, .val (.bin .add .num (.t 55) (.c (.int .i64 1)))⟩,
    ⟨(some 17), none, .val (.mv (.t 56))⟩] [0, 1, 2, 7, 8, 9, 10, 11, 12, 13, 14, 15, 16, 17]

abbrev k9_4 : MC :=
  (.seq (.block 3 (.drw [
     ⟨(some 57), none, .val (.mv (.t 16))⟩,
     ⟨(some 58), none, .val (.mv (.t 57))⟩,
     ⟨(some 59), (some (58, false)), .val (.mv (.t 2))⟩,
     ⟨(some 60), (some (58, false)), .val (.mv (.t 17))⟩,
     ⟨(some 61), (some (58, false)), .val (.iaddr 1 (.t 59) (.t 60))⟩,
     ⟨(some 62), (some (58, false)), .val (.load false 1 (.t 61))⟩,
     ⟨(some 63), (some (58, false)), .val (.mv (.t 0))⟩,
     ⟨(some 64), (some (58, false)), .val (.mv (.t 15))⟩,
     ⟨(some 65), (some (58, false)), .val (.iaddr 4 (.t 63) (.t 64))⟩,
     ⟨(some 66), (some (58, false)), .val (.faddr 0 (.t 65))⟩,
     ⟨(some 67), (some (58, false)), .val (.load false 1 (.t 66))⟩,
     ⟨(some 68), (some (58, false)), .val (.bin .eql .num (.t 62) (.t 67))⟩,
     ⟨(some 69), none, .val (.pick (.t 58) (.c (.bool true)) (.t 68))⟩,
     ⟨(some 16), none, .val (.mv (.t 69))⟩] [
] [0, 1, 2, 7, 8, 9, 10, 11, 12, 13, 14, 15, 16, 17])) k9_3)

abbrev k9_5 : MC :=
  (.seq ((.seq (.reg [
    ⟨(some 51), none, .val (.mv (.t 17))⟩,
    ⟨(some 52), none, .val (.mv (.t 2))⟩,
    ⟨(some 53), none, .val (.len .sl (.t 52))⟩,
    ⟨(some 54), none, .val (.bin .lss .num (.t 51) (.t 53))⟩] [0, 1, 2, 7, 8, 9, 10, 11, 12, 13, 14, 15, 16, 17, 54]) k9_2)) k9_4)

abbrev k9_6 : MC :=
  .block 2 (.loop k9_5)

abbrev k9_7 : MC :=
  .cond (.t 80) (.exit 1) (.skip)

abbrev k9_8 : MC :=
  .cond (.t 103) ((.seq (.reg [
     ⟨(some 6), none, .val (.mv (.c (.bool false)))⟩] [6]) .ret)) (.skip)

abbrev k9_9 : MC :=
  .reg [
    ⟨(some 104), none, .val (.mv (.t 13))⟩,
    ⟨(some 105), none, .val (.bin .add .num (.t 104) (.c (.int .i64 1)))⟩,
    ⟨(some 13), none, .val (.mv (.t 105))⟩] [0, 1, 2, 7, 8, 9, 10, 11, 12, 13, 14, 15]

abbrev k9_10 : MC :=
  .cond (.t 107) (.reg [
     ⟨(some 108), none, .val (.mv (.t 15))⟩,
     ⟨(some 12), none, .val (.mv (.t 108))⟩] [0, 1, 2, 7, 8, 9, 10, 11, 12, 13, 14, 15]) (.skip)

abbrev k9_11 : MC :=
  .cond (.t 85) ((.seq ((.seq (.drw [
     ⟨(some 86), none, .val (.mv (.t 13))⟩,
     ⟨(some 87), none, .val (.mv (.t 11))⟩,
     ⟨(some 88), none, .val (.len .sl (.t 87))⟩,
     ⟨(some 89), none, .val (.bin .geq .num (.t 86) (.t 88))⟩,
     ⟨(some 90), none, .val (.mv (.t 89))⟩,
     ⟨(some 91), (some (90, false)), .val (.mv (.t 11))⟩,
     ⟨(some 92), (some (90, false)), .val (.mv (.t 13))⟩,
     ⟨(some 93), (some (90, false)), .val (.iaddr 1 (.t 91) (.t 92))⟩,
     ⟨(some 94), (some (90, false)), .val (.load false 1 (.t 93))⟩,
     ⟨(some 95), (some (90, false)), .val (.b2s (.t 94))⟩,
     ⟨(some 96), (some (90, false)), .val (.mv (.t 0))⟩,
     ⟨(some 97), (some (90, false)), .val (.mv (.t 15))⟩,
     ⟨(some 98), (some (90, false)), .val (.iaddr 4 (.t 96) (.t 97))⟩,
     ⟨(some 99), (some (90, false)), .val (.faddr 3 (.t 98))⟩,
     ⟨(some 100), (some (90, false)), .val (.load false 1 (.t 99))⟩,
     ⟨(some 101), (some (90, false)), .val (.b2s (.t 100))⟩,
     ⟨(some 102), (some (90, false)), .val (.bin .neq .num (.t 95) (.t 101))⟩,
     ⟨(some 103), none, .val (.pick (.t 90) (.c (.bool true)) (.t 102))⟩] [
] [0, 1, 2, 7, 8, 9, 10, 11, 12, 13, 14, 15, 103]) k9_8)) k9_9)) ((.seq (.reg [
     ⟨(some 106), none, .val (.mv (.t 12))⟩,
     ⟨(some 107), none, .val (.bin .lss .num (.t 106) (.c (.int .i64 0)))⟩] [0, 1, 2, 7, 8, 9, 10, 11, 12, 13, 14, 15, 107]) k9_10))

abbrev k9_12 : MC :=
  (.seq (.reg [
    ⟨(some 81), none, .val (.mv (.t 0))⟩,
    ⟨(some 82), none, .val (.mv (.t 15))⟩,
    ⟨(some 83), none, .val (.iaddr 4 (.t 81) (.t 82))⟩,
    ⟨(some 84), none, .val (.faddr 1 (.t 83))⟩,
    ⟨(some 85), none, .val (.load false 1 (.t 84))⟩] [0, 1, 2, 7, 8, 9, 10, 11, 12, 13, 14, 15, 85]) k9_11)

abbrev k9_13 : MC :=
  (.seq ((.seq (.reg [
    ⟨(some 74), none, .val (.mv (.t 0))⟩,
    ⟨(some 75), none, .val (.mv (.t 15))⟩,
    ⟨(some 76), none, .val (.iaddr 4 (.t 74) (.t 75))⟩,
    ⟨(some 77), none, .val (.faddr 0 (.t 76))⟩,
    ⟨(some 78), none, .val (.load false 1 (.t 77))⟩,
    ⟨(some 79), none, .val (.mv (.t 1))⟩,
    ⟨(some 80), none, .val (.bin .neq .num (.t 78) (.t 79))⟩] [0, 1, 2, 7, 8, 9, 10, 11, 12, 13, 14, 15, 80]) k9_7)) k9_12)

abbrev k9_14 : MC :=
  (.seq (.reg [
    ⟨(some 70), none, .val (.mv (.t 14))⟩,
    ⟨(some 71), none, .val (.mv (.t 70))⟩,
    ⟨(some 72), (some (71, true)), .val (.mv (.t 16))⟩,
    ⟨(some 73), none, .val (.pick (.t 71) (.t 72) (.c (.bool false)))⟩,
    ⟨(some 14), none, .val (.mv (.t 73))⟩] [0, 1, 2, 7, 8, 9, 10, 11, 12, 13, 14, 15]) k9_13)

abbrev k9_15 : MC :=
  (.seq ((.seq (.reg [
    ⟨(some 17), none, .val (.mv (.c (.int .i64 0)))⟩] [0, 1, 2, 7, 8, 9, 10, 11, 12, 13, 14, 15, 16, 17]) k9_6)) k9_14)

abbrev k9_16 : MC :=
  .reg [
    ⟨(some 49), none, .val (.mv (.t 15))⟩,
    ⟨(some 50), none, .val (.bin .add .num (.t 49) (.c (.int .i64 1)))⟩,
    ⟨(some 15), none, .val (.mv (.t 50))⟩] [0, 1, 2, 7, 8, 9, 10, 11, 12, 13, 14, 15]

abbrev k9_17 : MC :=
  (.seq (.block 1 ((.seq (.reg [
     ⟨(some 16), none, .val (.mv (.c (.bool false)))⟩] [0, 1, 2, 7, 8, 9, 10, 11, 12, 13, 14, 15, 16]) k9_15))) k9_16)

abbrev k9_18 : MC :=
  (.seq ((.seq (.reg [
    ⟨(some 45), none, .val (.mv (.t 15))⟩,
    ⟨(some 46), none, .val (.mv (.t 0))⟩,
    ⟨(some 47), none, .val (.len .sl (.t 46))⟩,
    ⟨(some 48), none, .val (.bin .lss .num (.t 45) (.t 47))⟩] [0, 1, 2, 7, 8, 9, 10, 11, 12, 13, 14, 15, 48]) k9_1)) k9_17)

abbrev k9_19 : MC :=
  .block 0 (.loop k9_18)

abbrev k9_20 : MC :=
  .cond (.t 138) ((.seq (.reg [
     ⟨(some 6), none, .val (.mv (.c (.bool false)))⟩] [6]) .ret)) (.skip)

abbrev k9_21 : MC :=
  (.seq (.drw [
    ⟨(some 139), none, .val (.mv (.t 10))⟩,
    ⟨(some 140), none, .val (.mv (.t 13))⟩,
    ⟨(some 141), none, .val (.bin .gtr .num (.t 140) (.c (.int .i64 0)))⟩,
    ⟨(some 142), none, .val (.bin .eql .bool (.t 139) (.t 141))⟩,
    ⟨(some 143), none, .val (.mv (.t 142))⟩,
    ⟨(some 144), (some (143, true)), .val (.mv (.t 10))⟩,
    ⟨(some 145), (some (143, true)), .val (.not (.t 144))⟩,
    ⟨(some 146), (some (143, true)), .val (.mv (.t 145))⟩,
    ⟨(some 147), (some (146, false)), .val (.mv (.t 9))⟩,
    ⟨(some 148), (some (146, false)), .val (.b2s (.t 147))⟩,
    ⟨(some 149), (some (146, false)), .val (.mv (.t 11))⟩,
    ⟨(some 150), (some (146, false)), .val (.iaddr 1 (.t 149) (.c (.int .i64 0)))⟩,
    ⟨(some 151), (some (146, false)), .val (.load false 1 (.t 150))⟩,
    ⟨(some 152), (some (146, false)), .val (.b2s (.t 151))⟩,
    ⟨(some 153), (some (146, false)), .val (.bin .eql .num (.t 148) (.t 152))⟩,
    ⟨(some 154), (some (143, true)), .val (.pick (.t 146) (.c (.bool true)) (.t 153))⟩,
    ⟨(some 155), none, .val (.pick (.t 143) (.t 154) (.c (.bool false)))⟩,
    ⟨(some 156), none, .val (.mv (.t 155))⟩,
    ⟨(some 157), (some (156, true)), .val (.mv (.t 0))⟩,
    ⟨(some 158), (some (156, true)), .val (.mv (.t 2))⟩,
    ⟨(some 159), (some (156, true)), .call 32 [(.t 157), (.t 158)]⟩,
    ⟨(some 160), (some (156, true)), .val (.mv (.t 14))⟩,
    ⟨(some 161), (some (156, true)), .val (.bin .eql .bool (.t 159) (.t 160))⟩,
    ⟨(some 162), none, .val (.pick (.t 156) (.t 161) (.c (.bool false)))⟩,
    ⟨(some 6), none, .val (.mv (.t 162))⟩] [
] [6]) .ret)

abbrev k9_22 : MC :=
  (.seq ((.seq (.reg [
    ⟨(some 109), none, .val (.mv (.t 8))⟩,
    ⟨(some 110), none, .val (.mv (.t 12))⟩,
    ⟨(some 111), none, .val (.bin .geq .num (.t 110) (.c (.int .i64 0)))⟩,
    ⟨(some 112), none, .val (.bin .neq .bool (.t 109) (.t 111))⟩,
    ⟨(some 113), none, .val (.mv (.t 112))⟩,
    ⟨(some 114), (some (113, false)), .val (.mv (.t 8))⟩,
    ⟨(some 115), (some (113, false)), .val (.mv (.t 114))⟩,
    ⟨(some 116), (some (115, true)), .val (.mv (.t 7))⟩,
    ⟨(some 117), (some (115, true)), .val (.mv (.t 0))⟩,
    ⟨(some 118), (some (115, true)), .val (.mv (.t 12))⟩,
    ⟨(some 119), (some (115, true)), .val (.iaddr 4 (.t 117) (.t 118))⟩,
    ⟨(some 120), (some (115, true)), .val (.faddr 2 (.t 119))⟩,
    ⟨(some 121), (some (115, true)), .val (.load false 1 (.t 120))⟩,
    ⟨(some 122), (some (115, true)), .val (.bin .neq .num (.t 116) (.t 121))⟩,
    ⟨(some 123), (some (113, false)), .val (.pick (.t 115) (.t 122) (.c (.bool false)))⟩,
    ⟨(some 124), none, .val (.pick (.t 113) (.c (.bool true)) (.t 123))⟩,
    ⟨(some 125), none, .val (.mv (.t 124))⟩,
    ⟨(some 126), (some (125, false)), .val (.mv (.t 8))⟩,
    ⟨(some 127), (some (125, false)), .val (.not (.t 126))⟩,
    ⟨(some 128), (some (125, false)), .val (.mv (.t 127))⟩,
    ⟨(some 129), (some (128, true)), .val (.mv (.t 7))⟩,
    ⟨(some 130), (some (128, true)), .val (.bin .neq .num (.t 129) (.c (.int .u64 0)))⟩,
    ⟨(some 131), (some (125, false)), .val (.pick (.t 128) (.t 130) (.c (.bool false)))⟩,
    ⟨(some 132), none, .val (.pick (.t 125) (.c (.bool true)) (.t 131))⟩,
    ⟨(some 133), none, .val (.mv (.t 132))⟩,
    ⟨(some 134), (some (133, false)), .val (.mv (.t 13))⟩,
    ⟨(some 135), (some (133, false)), .val (.mv (.t 11))⟩,
    ⟨(some 136), (some (133, false)), .val (.len .sl (.t 135))⟩,
    ⟨(some 137), (some (133, false)), .val (.bin .neq .num (.t 134) (.t 136))⟩,
    ⟨(some 138), none, .val (.pick (.t 133) (.c (.bool true)) (.t 137))⟩] [0, 2, 9, 10, 11, 13, 14, 138]) k9_20)) k9_21)

abbrev k9_23 : MC :=
  (.seq ((.seq (.reg [
    ⟨(some 15), none, .val (.mv (.c (.int .i64 0)))⟩] [0, 1, 2, 7, 8, 9, 10, 11, 12, 13, 14, 15]) k9_19)) k9_22)

abbrev k9_24 : MC :=
  (.seq (.reg [
    ⟨(some 14), none, .val (.mv (.c (.bool true)))⟩] [0, 1, 2, 7, 8, 9, 10, 11, 12, 13, 14]) k9_23)

abbrev k9_25 : MC :=
  (.seq (.reg [
    ⟨(some 12), none, .val (.mv (.c (.int .i64 (-1))))⟩,
    ⟨(some 13), none, .val (.mv (.c (.int .i64 0)))⟩] [0, 1, 2, 7, 8, 9, 10, 11, 12, 13]) k9_24)

abbrev k9_26 : MC :=
  (.seq (.reg [
    ⟨(some 42), none, .val (.mv (.t 0))⟩,
    ⟨(some 43), none, .val (.mv (.t 1))⟩,
    ⟨(some 44), none, .call 31 [(.t 42), (.t 43)]⟩,
    ⟨(some 11), none, .val (.mv (.t 44))⟩] [0, 1, 2, 7, 8, 9, 10, 11]) k9_25)

abbrev k9_27 : MC :=
  (.seq (.reg [
    ⟨(some 37), none, .val (.mv (.t 0))⟩,
    ⟨(some 38), none, .val (.mv (.t 1))⟩,
    ⟨(some 39), none, .call 30 [(.t 37), (.t 38)]⟩,
    ⟨(some 36), none, .val (.mv (.t 39))⟩,
    ⟨(some 40), none, .val (.ext (.t 36) 0)⟩,
    ⟨(some 41), none, .val (.ext (.t 36) 1)⟩,
    ⟨(some 9), none, .val (.mv (.t 40))⟩,
    ⟨(some 10), none, .val (.mv (.t 41))⟩] [0, 1, 2, 7, 8, 9, 10]) k9_26)

abbrev k9_28 : MC :=
  (.seq (.reg [
    ⟨(some 31), none, .val (.mv (.t 0))⟩,
    ⟨(some 32), none, .val (.mv (.t 1))⟩,
    ⟨(some 33), none, .call 29 [(.t 31), (.t 32)]⟩,
    ⟨(some 30), none, .val (.mv (.t 33))⟩,
    ⟨(some 34), none, .val (.ext (.t 30) 0)⟩,
    ⟨(some 35), none, .val (.ext (.t 30) 1)⟩,
    ⟨(some 7), none, .val (.mv (.t 34))⟩,
    ⟨(some 8), none, .val (.mv (.t 35))⟩] [0, 1, 2, 7, 8]) k9_27)

abbrev k9_29 : MC :=
  (.seq ((.seq (.reg [
    ⟨(some 18), none, .val (.mv (.t 0))⟩,
    ⟨(some 19), none, .call 19 [(.t 18)]⟩,
    ⟨(some 20), none, .val (.mv (.t 19))⟩,
    ⟨(some 21), (some (20, false)), .val (.mv (.t 2))⟩,
    ⟨(some 22), (some (20, false)), .val (.len .sl (.t 21))⟩,
    ⟨(some 23), (some (20, false)), .val (.bin .gtr .num (.t 22) (.c (.int .i64 50)))⟩,
    ⟨(some 24), none, .val (.pick (.t 20) (.c (.bool true)) (.t 23))⟩,
    ⟨(some 25), none, .val (.mv (.t 24))⟩,
    ⟨(some 26), (some (25, false)), .call 20 []⟩,
    ⟨(some 27), (some (25, false)), .val (.not (.t 26))⟩,
    ⟨(some 28), none, .val (.pick (.t 25) (.c (.bool true)) (.t 27))⟩] [0, 1, 2, 28]) k9_0)) k9_28)
abbrev k9 : MC :=
  (.seq (.reg [
    ⟨(some 6), none, .val (.mv (.c (.bool false)))⟩] [0, 1, 2]) k9_29)
theorem c9 : Try.f9.body.bind (mcOf Try.prog (List.contains [] ·) (List.getD [([], [0, 1, 2]), ([], [0, 1, 2, 28]), ([], [6]), ([], [0, 1, 2, 7, 8]), ([], [0, 1, 2, 7, 8, 9, 10]), ([], [0, 1, 2, 7, 8, 9, 10, 11]), ([], [0, 1, 2, 7, 8, 9, 10, 11, 12, 13]), ([], [0, 1, 2, 7, 8, 9, 10, 11, 12, 13, 14]), ([], [0, 1, 2, 7, 8, 9, 10, 11, 12, 13, 14, 15]), ([], [0, 1, 2, 7, 8, 9, 10, 11, 12, 13, 14, 15, 48]), ([], [0, 1, 2, 7, 8, 9, 10, 11, 12, 13, 14, 15]), ([], [0, 1, 2, 7, 8, 9, 10, 11, 12, 13, 14, 15, 16]), ([], [0, 1, 2, 7, 8, 9, 10, 11, 12, 13, 14, 15, 16, 17]), ([], [0, 1, 2, 7, 8, 9, 10, 11, 12, 13, 14, 15, 16, 17, 54]), ([], [0, 1, 2, 7, 8, 9, 10, 11, 12, 13, 14, 15, 16, 17]), ([0, 0, 0, 0, 0, 0, 0, 0, 0, 0, 0, 0, 0, 0], [0, 1, 2, 7, 8, 9, 10, 11, 12, 13, 14, 15, 16, 17]), ([], [0, 1, 2, 7, 8, 9, 10, 11, 12, 13, 14, 15]), ([], [0, 1, 2, 7, 8, 9, 10, 11, 12, 13, 14, 15, 80]), ([], [0, 1, 2, 7, 8, 9, 10, 11, 12, 13, 14, 15, 85]), ([0, 0, 0, 0, 0, 0, 0, 0, 0, 0, 0, 0, 0, 0, 0, 0, 0, 0], [0, 1, 2, 7, 8, 9, 10, 11, 12, 13, 14, 15, 103]), ([], [6]), ([], [0, 1, 2, 7, 8, 9, 10, 11, 12, 13, 14, 15]), ([], [0, 1, 2, 7, 8, 9, 10, 11, 12, 13, 14, 15, 107]), ([], [0, 1, 2, 7, 8, 9, 10, 11, 12, 13, 14, 15]), ([], [0, 2, 9, 10, 11, 13, 14, 138]), ([], [6]), ([0, 0, 0, 0, 0, 0, 0, 0, 0, 0, 0, 0, 0, 0, 0, 0, 0, 0, 0, 0, 0, 0, 0, 0, 0], [6])] · ([], [])) 163) = some k9 := by kernel_rfl
theorem r9 : rvsOf Try.prog Try.f9.results.toList = some [.tmp 6] := by kernel_rfl

abbrev fdQ (H : AH) : Out → AH → Prop := fun o H' => (∃ u, o = Out.ret u ∧ ∀ (s : St) (x : Value), s.val u x → s.val (V.bool true) x) ∧ H.le H'
theorem fd_tail {l : List Fld} {t u : Tok} {tag : Int} {tags : List Int} {x : V} (hl : l.length ≤ 80) (ht : tags.length ≤ 50) (H : AH) :
    AM Try.prog Try.f9.ntmps k9_22 (Body [RV.tmp 6] (fdQ H)) [(0, .sl 4 (fldsE l) t), (1, .int .i64 tag), (2, .sl 1 (intsE tags) u), (7, .int .u64 (numS l tag).1), (8, .bool (numS l tag).2), (9, .sl 1 (byteCells (blobT l tag)) .no), (10, .bool (decide (¬ manyT l tag = []))), (11, .sl 1 (blobsE (manyT l tag)) .no), (12, .int .i64 (idxB (numT tag) l 0)), (13, .int .i64 (manyT l tag).length), (14, .bool (l.all fun f => decide (f.tag ∈ tags))), (15, .int .i64 l.length), (48, x)] H := by
  have oc := fun H => only_calls (l := l) (t := t) (u := u) (tags := tags) (by omega) (by omega) H
  have ho : (!l.any fun f => !decide (f.tag ∈ tags)) = l.all fun f => decide (f.tag ∈ tags) := by
    rw [Bool.eq_iff_iff]; simp
  rw [ho] at oc
  generalize (l.all fun f => decide (f.tag ∈ tags)) = on at *
  rcases idxB_find (numT tag) l 0 with ⟨h1, h2⟩ | ⟨j, hj, h1, h2⟩
  · have h3 : numS l tag = (0, false) := by rw [numS, h1]
    have h2' : idxB (numT tag) l 0 = -1 := h2
    rw [h2', h3]
    cases hm : manyT l tag with
    | nil =>
      repeat' (first | with_reducible refine am_seq ?_ | with_reducible refine am_block ?_ | ((with_reducible apply am_cond); (case hb => rfl); all_goals (intro hc; (try simp only [reduceCtorEq, decide_eq_true_eq, decide_eq_false_iff_not, Bool.or_eq_true, Bool.and_eq_true, Bool.or_eq_false_iff, Bool.not_eq_true', Bool.not_eq_false', beq_iff_eq] at hc); (try (exfalso; omega)))) | ((first | with_reducible refine am_reg ?_ | with_reducible refine am_drw ?_ | with_reducible refine am_skip ?_ | with_reducible refine am_exit ?_ | with_reducible refine am_ret ?_ | with_reducible refine And.intro (by first | exact AH.lec_refl _ | assumption | exact AccP.lec (by assumption) | omega) ?_ | with_reducible refine isnE_of (fun hc => ?_) (fun hc => ?_) (fun hc => ?_) | ((first | with_reducible refine gd_not (fun hc => ?_) (fun hc => ?_) | with_reducible refine gd_of (fun hc => ?_) (fun hc => ?_) | with_reducible refine gq_not (fun hc => ?_) (fun hc => ?_) | with_reducible refine gq_of (fun hc => ?_) (fun hc => ?_) | with_reducible refine pickB_of (fun hc => ?_) (fun hc => ?_)) <;> (try simp -implicitDefEqProofs (disch := omega) only [go_sem, eq_self, decide_true, decide_false, Nat.reduceBEq, Nat.reduceAdd, Nat.reduceSub, Nat.reduceMul, Nat.reduceEqDiff, Nat.reduceLeDiff, Nat.reduceLT, Int.reduceLE, Int.reduceLT, Int.reduceToNat, Int.reduceAdd, Int.reduceEq, Int.reduceNeg, AH.put_ne, hc, wrap_id]) <;> (try simp only [reduceCtorEq, decide_eq_true_eq, decide_eq_false_iff_not, Bool.or_eq_true, Bool.and_eq_true, Bool.or_eq_false_iff, Bool.not_eq_true', Bool.not_eq_false', beq_iff_eq] at hc) <;> (try (exfalso; omega))) | ((with_reducible refine alloc_intro (fun ko hko => ?_)) <;> (try have hne := fresh_ne (by assumption) hko) <;> (try simp only [AH.put_none] at hko)) | ((first | (with_reducible refine vapp_accL (by assumption) ?_ (fun v2 H2 hacc hlec => ?_)) | (with_reducible refine vapp_accL (AccP.mono (by assumption) (AccP.le (by assumption))) ?_ (fun v2 H2 hacc hlec => ?_)) | (with_reducible refine vapp_accL (AccP.new (by assumption) (by assumption) _) ?_ (fun v2 H2 hacc hlec => ?_))); · simp only [byteCells_length, List.length_cons, List.length_nil, List.length_map, List.length_append, fldsE_length, blobsE_length, u64sE_length, intsE_length, strsE_length]; omega) | with_reducible refine need_elems (by assumption) ?_ | with_reducible refine vlen_acc (by assumption) ?_ | with_reducible refine need_bytes (by assumption) ?_ | (first | with_reducible refine call_of (oc) ?_ | with_reducible refine qcall_of (oc) ?_) | with_reducible refine need_look (by assumption) ?_ | with_reducible refine need_look (look_put (by assumption) (by assumption)) ?_ | with_reducible refine need_look (look_lec (by assumption) (by assumption)) ?_ | with_reducible refine need_look (look_put (AH.put_same _ _ _) (by assumption)) ?_ | with_reducible refine need_look (look_lec (AH.put_same _ _ _) (by assumption)) ?_ | with_reducible refine need_look (look_put (look_put (by assumption) (by assumption)) (by assumption)) ?_ | with_reducible refine need_look (look_lec (look_put (by assumption) (by assumption)) (by assumption)) ?_ | with_reducible refine need_look (look_put (look_lec (by assumption) (by assumption)) (by assumption)) ?_ | with_reducible refine need_look (look_lec (look_lec (by assumption) (by assumption)) (by assumption)) ?_ | with_reducible refine need_look (look_put (look_put (AH.put_same _ _ _) (by assumption)) (by assumption)) ?_ | with_reducible refine need_look (look_lec (look_put (AH.put_same _ _ _) (by assumption)) (by assumption)) ?_ | with_reducible refine need_look (look_put (look_lec (AH.put_same _ _ _) (by assumption)) (by assumption)) ?_ | with_reducible refine need_look (look_lec (look_lec (AH.put_same _ _ _) (by assumption)) (by assumption)) ?_) <;> (try simp -implicitDefEqProofs (disch := omega) only [go_sem, eq_self, decide_true, decide_false, Nat.reduceBEq, Nat.reduceAdd, Nat.reduceSub, Nat.reduceMul, Nat.reduceEqDiff, Nat.reduceLeDiff, Nat.reduceLT, Int.reduceLE, Int.reduceLT, Int.reduceToNat, Int.reduceAdd, Int.reduceEq, Int.reduceNeg, AH.put_ne, wrap_id])))
      all_goals first | (rw [beq_self_eq_true]; exact drop_end (fun _ _ h => h) (AH.le_refl _)) | exact drop_end (fun _ _ h => h) (AH.le_refl _) | exact absurd (by simp; omega) hc | exact absurd (by simp) hc | (rw [decide_eq_true (by omega)] at hc; exact absurd hc (by simp)) | trace_state
    | cons x xs =>
      have hb : blobT l tag = x := by rw [blobT, hm]
      rw [hb]
      repeat' (first | with_reducible refine am_seq ?_ | with_reducible refine am_block ?_ | ((with_reducible apply am_cond); (case hb => rfl); all_goals (intro hc; (try simp only [reduceCtorEq, decide_eq_true_eq, decide_eq_false_iff_not, Bool.or_eq_true, Bool.and_eq_true, Bool.or_eq_false_iff, Bool.not_eq_true', Bool.not_eq_false', beq_iff_eq] at hc); (try (exfalso; omega)))) | ((first | with_reducible refine am_reg ?_ | with_reducible refine am_drw ?_ | with_reducible refine am_skip ?_ | with_reducible refine am_exit ?_ | with_reducible refine am_ret ?_ | with_reducible refine And.intro (by first | exact AH.lec_refl _ | assumption | exact AccP.lec (by assumption) | omega) ?_ | with_reducible refine isnE_of (fun hc => ?_) (fun hc => ?_) (fun hc => ?_) | ((first | with_reducible refine gd_not (fun hc => ?_) (fun hc => ?_) | with_reducible refine gd_of (fun hc => ?_) (fun hc => ?_) | with_reducible refine gq_not (fun hc => ?_) (fun hc => ?_) | with_reducible refine gq_of (fun hc => ?_) (fun hc => ?_) | with_reducible refine pickB_of (fun hc => ?_) (fun hc => ?_)) <;> (try simp -implicitDefEqProofs (disch := omega) only [go_sem, eq_self, decide_true, decide_false, Nat.reduceBEq, Nat.reduceAdd, Nat.reduceSub, Nat.reduceMul, Nat.reduceEqDiff, Nat.reduceLeDiff, Nat.reduceLT, Int.reduceLE, Int.reduceLT, Int.reduceToNat, Int.reduceAdd, Int.reduceEq, Int.reduceNeg, AH.put_ne, hc, wrap_id]) <;> (try simp only [reduceCtorEq, decide_eq_true_eq, decide_eq_false_iff_not, Bool.or_eq_true, Bool.and_eq_true, Bool.or_eq_false_iff, Bool.not_eq_true', Bool.not_eq_false', beq_iff_eq] at hc) <;> (try (exfalso; omega))) | ((with_reducible refine alloc_intro (fun ko hko => ?_)) <;> (try have hne := fresh_ne (by assumption) hko) <;> (try simp only [AH.put_none] at hko)) | ((first | (with_reducible refine vapp_accL (by assumption) ?_ (fun v2 H2 hacc hlec => ?_)) | (with_reducible refine vapp_accL (AccP.mono (by assumption) (AccP.le (by assumption))) ?_ (fun v2 H2 hacc hlec => ?_)) | (with_reducible refine vapp_accL (AccP.new (by assumption) (by assumption) _) ?_ (fun v2 H2 hacc hlec => ?_))); · simp only [byteCells_length, List.length_cons, List.length_nil, List.length_map, List.length_append, fldsE_length, blobsE_length, u64sE_length, intsE_length, strsE_length]; omega) | with_reducible refine need_elems (by assumption) ?_ | with_reducible refine vlen_acc (by assumption) ?_ | with_reducible refine need_bytes (by assumption) ?_ | (first | with_reducible refine call_of (oc) ?_ | with_reducible refine qcall_of (oc) ?_) | with_reducible refine need_look (by assumption) ?_ | with_reducible refine need_look (look_put (by assumption) (by assumption)) ?_ | with_reducible refine need_look (look_lec (by assumption) (by assumption)) ?_ | with_reducible refine need_look (look_put (AH.put_same _ _ _) (by assumption)) ?_ | with_reducible refine need_look (look_lec (AH.put_same _ _ _) (by assumption)) ?_ | with_reducible refine need_look (look_put (look_put (by assumption) (by assumption)) (by assumption)) ?_ | with_reducible refine need_look (look_lec (look_put (by assumption) (by assumption)) (by assumption)) ?_ | with_reducible refine need_look (look_put (look_lec (by assumption) (by assumption)) (by assumption)) ?_ | with_reducible refine need_look (look_lec (look_lec (by assumption) (by assumption)) (by assumption)) ?_ | with_reducible refine need_look (look_put (look_put (AH.put_same _ _ _) (by assumption)) (by assumption)) ?_ | with_reducible refine need_look (look_lec (look_put (AH.put_same _ _ _) (by assumption)) (by assumption)) ?_ | with_reducible refine need_look (look_put (look_lec (AH.put_same _ _ _) (by assumption)) (by assumption)) ?_ | with_reducible refine need_look (look_lec (look_lec (AH.put_same _ _ _) (by assumption)) (by assumption)) ?_) <;> (try simp -implicitDefEqProofs (disch := omega) only [go_sem, eq_self, decide_true, decide_false, Nat.reduceBEq, Nat.reduceAdd, Nat.reduceSub, Nat.reduceMul, Nat.reduceEqDiff, Nat.reduceLeDiff, Nat.reduceLT, Int.reduceLE, Int.reduceLT, Int.reduceToNat, Int.reduceAdd, Int.reduceEq, Int.reduceNeg, AH.put_ne, wrap_id])))
      all_goals first | (rw [beq_self_eq_true]; exact drop_end (fun _ _ h => h) (AH.le_refl _)) | exact drop_end (fun _ _ h => h) (AH.le_refl _) | exact absurd (by simp; omega) hc | exact absurd (by simp) hc | (rw [decide_eq_true (by omega)] at hc; exact absurd hc (by simp)) | trace_state
  · have h3 : numS l tag = (l[j].n, true) := by rw [numS, h1]
    have h2' : idxB (numT tag) l 0 = (j : Int) := by rw [show (0 : Int) = ((0 : Nat) : Int) from rfl, h2]; omega
    rw [h2', h3]
    cases hm : manyT l tag with
    | nil =>
      repeat' (first | with_reducible refine am_seq ?_ | with_reducible refine am_block ?_ | ((with_reducible apply am_cond); (case hb => rfl); all_goals (intro hc; (try simp only [reduceCtorEq, decide_eq_true_eq, decide_eq_false_iff_not, Bool.or_eq_true, Bool.and_eq_true, Bool.or_eq_false_iff, Bool.not_eq_true', Bool.not_eq_false', beq_iff_eq] at hc); (try (exfalso; omega)))) | ((first | with_reducible refine am_reg ?_ | with_reducible refine am_drw ?_ | with_reducible refine am_skip ?_ | with_reducible refine am_exit ?_ | with_reducible refine am_ret ?_ | with_reducible refine And.intro (by first | exact AH.lec_refl _ | assumption | exact AccP.lec (by assumption) | omega) ?_ | with_reducible refine isnE_of (fun hc => ?_) (fun hc => ?_) (fun hc => ?_) | ((first | with_reducible refine gd_not (fun hc => ?_) (fun hc => ?_) | with_reducible refine gd_of (fun hc => ?_) (fun hc => ?_) | with_reducible refine gq_not (fun hc => ?_) (fun hc => ?_) | with_reducible refine gq_of (fun hc => ?_) (fun hc => ?_) | with_reducible refine pickB_of (fun hc => ?_) (fun hc => ?_)) <;> (try simp -implicitDefEqProofs (disch := omega) only [go_sem, eq_self, decide_true, decide_false, Nat.reduceBEq, Nat.reduceAdd, Nat.reduceSub, Nat.reduceMul, Nat.reduceEqDiff, Nat.reduceLeDiff, Nat.reduceLT, Int.reduceLE, Int.reduceLT, Int.reduceToNat, Int.reduceAdd, Int.reduceEq, Int.reduceNeg, AH.put_ne, hc, wrap_id, get_of_lt hj]) <;> (try simp only [reduceCtorEq, decide_eq_true_eq, decide_eq_false_iff_not, Bool.or_eq_true, Bool.and_eq_true, Bool.or_eq_false_iff, Bool.not_eq_true', Bool.not_eq_false', beq_iff_eq] at hc) <;> (try (exfalso; omega))) | ((with_reducible refine alloc_intro (fun ko hko => ?_)) <;> (try have hne := fresh_ne (by assumption) hko) <;> (try simp only [AH.put_none] at hko)) | ((first | (with_reducible refine vapp_accL (by assumption) ?_ (fun v2 H2 hacc hlec => ?_)) | (with_reducible refine vapp_accL (AccP.mono (by assumption) (AccP.le (by assumption))) ?_ (fun v2 H2 hacc hlec => ?_)) | (with_reducible refine vapp_accL (AccP.new (by assumption) (by assumption) _) ?_ (fun v2 H2 hacc hlec => ?_))); · simp only [byteCells_length, List.length_cons, List.length_nil, List.length_map, List.length_append, fldsE_length, blobsE_length, u64sE_length, intsE_length, strsE_length]; omega) | with_reducible refine need_elems (by assumption) ?_ | with_reducible refine vlen_acc (by assumption) ?_ | with_reducible refine need_bytes (by assumption) ?_ | (first | with_reducible refine call_of (oc) ?_ | with_reducible refine qcall_of (oc) ?_) | with_reducible refine need_look (by assumption) ?_ | with_reducible refine need_look (look_put (by assumption) (by assumption)) ?_ | with_reducible refine need_look (look_lec (by assumption) (by assumption)) ?_ | with_reducible refine need_look (look_put (AH.put_same _ _ _) (by assumption)) ?_ | with_reducible refine need_look (look_lec (AH.put_same _ _ _) (by assumption)) ?_ | with_reducible refine need_look (look_put (look_put (by assumption) (by assumption)) (by assumption)) ?_ | with_reducible refine need_look (look_lec (look_put (by assumption) (by assumption)) (by assumption)) ?_ | with_reducible refine need_look (look_put (look_lec (by assumption) (by assumption)) (by assumption)) ?_ | with_reducible refine need_look (look_lec (look_lec (by assumption) (by assumption)) (by assumption)) ?_ | with_reducible refine need_look (look_put (look_put (AH.put_same _ _ _) (by assumption)) (by assumption)) ?_ | with_reducible refine need_look (look_lec (look_put (AH.put_same _ _ _) (by assumption)) (by assumption)) ?_ | with_reducible refine need_look (look_put (look_lec (AH.put_same _ _ _) (by assumption)) (by assumption)) ?_ | with_reducible refine need_look (look_lec (look_lec (AH.put_same _ _ _) (by assumption)) (by assumption)) ?_) <;> (try simp -implicitDefEqProofs (disch := omega) only [go_sem, eq_self, decide_true, decide_false, Nat.reduceBEq, Nat.reduceAdd, Nat.reduceSub, Nat.reduceMul, Nat.reduceEqDiff, Nat.reduceLeDiff, Nat.reduceLT, Int.reduceLE, Int.reduceLT, Int.reduceToNat, Int.reduceAdd, Int.reduceEq, Int.reduceNeg, AH.put_ne, wrap_id, get_of_lt hj])))
      all_goals first | (rw [beq_self_eq_true]; exact drop_end (fun _ _ h => h) (AH.le_refl _)) | exact drop_end (fun _ _ h => h) (AH.le_refl _) | exact absurd (by simp; omega) hc | exact absurd (by simp) hc | (rw [decide_eq_true (by omega)] at hc; exact absurd hc (by simp)) | trace_state
    | cons x xs =>
      have hb : blobT l tag = x := by rw [blobT, hm]
      rw [hb]
      repeat' (first | with_reducible refine am_seq ?_ | with_reducible refine am_block ?_ | ((with_reducible apply am_cond); (case hb => rfl); all_goals (intro hc; (try simp only [reduceCtorEq, decide_eq_true_eq, decide_eq_false_iff_not, Bool.or_eq_true, Bool.and_eq_true, Bool.or_eq_false_iff, Bool.not_eq_true', Bool.not_eq_false', beq_iff_eq] at hc); (try (exfalso; omega)))) | ((first | with_reducible refine am_reg ?_ | with_reducible refine am_drw ?_ | with_reducible refine am_skip ?_ | with_reducible refine am_exit ?_ | with_reducible refine am_ret ?_ | with_reducible refine And.intro (by first | exact AH.lec_refl _ | assumption | exact AccP.lec (by assumption) | omega) ?_ | with_reducible refine isnE_of (fun hc => ?_) (fun hc => ?_) (fun hc => ?_) | ((first | with_reducible refine gd_not (fun hc => ?_) (fun hc => ?_) | with_reducible refine gd_of (fun hc => ?_) (fun hc => ?_) | with_reducible refine gq_not (fun hc => ?_) (fun hc => ?_) | with_reducible refine gq_of (fun hc => ?_) (fun hc => ?_) | with_reducible refine pickB_of (fun hc => ?_) (fun hc => ?_)) <;> (try simp -implicitDefEqProofs (disch := omega) only [go_sem, eq_self, decide_true, decide_false, Nat.reduceBEq, Nat.reduceAdd, Nat.reduceSub, Nat.reduceMul, Nat.reduceEqDiff, Nat.reduceLeDiff, Nat.reduceLT, Int.reduceLE, Int.reduceLT, Int.reduceToNat, Int.reduceAdd, Int.reduceEq, Int.reduceNeg, AH.put_ne, hc, wrap_id, get_of_lt hj]) <;> (try simp only [reduceCtorEq, decide_eq_true_eq, decide_eq_false_iff_not, Bool.or_eq_true, Bool.and_eq_true, Bool.or_eq_false_iff, Bool.not_eq_true', Bool.not_eq_false', beq_iff_eq] at hc) <;> (try (exfalso; omega))) | ((with_reducible refine alloc_intro (fun ko hko => ?_)) <;> (try have hne := fresh_ne (by assumption) hko) <;> (try simp only [AH.put_none] at hko)) | ((first | (with_reducible refine vapp_accL (by assumption) ?_ (fun v2 H2 hacc hlec => ?_)) | (with_reducible refine vapp_accL (AccP.mono (by assumption) (AccP.le (by assumption))) ?_ (fun v2 H2 hacc hlec => ?_)) | (with_reducible refine vapp_accL (AccP.new (by assumption) (by assumption) _) ?_ (fun v2 H2 hacc hlec => ?_))); · simp only [byteCells_length, List.length_cons, List.length_nil, List.length_map, List.length_append, fldsE_length, blobsE_length, u64sE_length, intsE_length, strsE_length]; omega) | with_reducible refine need_elems (by assumption) ?_ | with_reducible refine vlen_acc (by assumption) ?_ | with_reducible refine need_bytes (by assumption) ?_ | (first | with_reducible refine call_of (oc) ?_ | with_reducible refine qcall_of (oc) ?_) | with_reducible refine need_look (by assumption) ?_ | with_reducible refine need_look (look_put (by assumption) (by assumption)) ?_ | with_reducible refine need_look (look_lec (by assumption) (by assumption)) ?_ | with_reducible refine need_look (look_put (AH.put_same _ _ _) (by assumption)) ?_ | with_reducible refine need_look (look_lec (AH.put_same _ _ _) (by assumption)) ?_ | with_reducible refine need_look (look_put (look_put (by assumption) (by assumption)) (by assumption)) ?_ | with_reducible refine need_look (look_lec (look_put (by assumption) (by assumption)) (by assumption)) ?_ | with_reducible refine need_look (look_put (look_lec (by assumption) (by assumption)) (by assumption)) ?_ | with_reducible refine need_look (look_lec (look_lec (by assumption) (by assumption)) (by assumption)) ?_ | with_reducible refine need_look (look_put (look_put (AH.put_same _ _ _) (by assumption)) (by assumption)) ?_ | with_reducible refine need_look (look_lec (look_put (AH.put_same _ _ _) (by assumption)) (by assumption)) ?_ | with_reducible refine need_look (look_put (look_lec (AH.put_same _ _ _) (by assumption)) (by assumption)) ?_ | with_reducible refine need_look (look_lec (look_lec (AH.put_same _ _ _) (by assumption)) (by assumption)) ?_) <;> (try simp -implicitDefEqProofs (disch := omega) only [go_sem, eq_self, decide_true, decide_false, Nat.reduceBEq, Nat.reduceAdd, Nat.reduceSub, Nat.reduceMul, Nat.reduceEqDiff, Nat.reduceLeDiff, Nat.reduceLT, Int.reduceLE, Int.reduceLT, Int.reduceToNat, Int.reduceAdd, Int.reduceEq, Int.reduceNeg, AH.put_ne, wrap_id, get_of_lt hj])))
      all_goals first | (rw [beq_self_eq_true]; exact drop_end (fun _ _ h => h) (AH.le_refl _)) | exact drop_end (fun _ _ h => h) (AH.le_refl _) | exact absurd (by simp; omega) hc | exact absurd (by simp) hc | (rw [decide_eq_true (by omega)] at hc; exact absurd hc (by simp)) | trace_state
theorem fd_in {Q : AExit → A → AH → Prop} {l : List Fld} {t u : Tok} {tag fi k : Int} {tags : List Int} {nn ok bb is mm : V} {on : Bool} {i : Nat} (hlt : i < l.length) (hl : l.length ≤ 80) (ht : tags.length ≤ 50) (H : AH)
    (hq : ∀ w, Q .normal [(0, .sl 4 (fldsE l) t), (1, .int .i64 tag), (2, .sl 1 (intsE tags) u), (7, nn), (8, ok), (9, bb), (10, is), (11, mm), (12, .int .i64 fi), (13, .int .i64 k), (14, .bool on), (15, .int .i64 i), (16, .bool (decide (l[i].tag ∈ tags))), (17, .int .i64 tags.length), (54, w)] H) : AM Try.prog Try.f9.ntmps k9_6 Q [(0, .sl 4 (fldsE l) t), (1, .int .i64 tag), (2, .sl 1 (intsE tags) u), (7, nn), (8, ok), (9, bb), (10, is), (11, mm), (12, .int .i64 fi), (13, .int .i64 k), (14, .bool on), (15, .int .i64 i), (16, .bool false), (17, .int .i64 0)] H := by
  refine am_block ?_
  refine am_loop (fun n2 a H2 => ∃ j : Nat, j + n2 = tags.length ∧ a = [(0, .sl 4 (fldsE l) t), (1, .int .i64 tag), (2, .sl 1 (intsE tags) u), (7, nn), (8, ok), (9, bb), (10, is), (11, mm), (12, .int .i64 fi), (13, .int .i64 k), (14, .bool on), (15, .int .i64 i), (16, .bool (decide (l[i].tag ∈ tags.take j))), (17, .int .i64 j)] ∧ H2 = H) ?_ tags.length ⟨0, by simp, by simp, rfl⟩
  rintro n2 a H2 ⟨j, hj, rfl, rfl⟩
  by_cases hlt2 : j < tags.length
  · have e : l[i].tag ∈ tags.take (j + 1) ↔ (l[i].tag ∈ tags.take j ∨ l[i].tag = tags[j]) := by
      rw [take_snoc tags j hlt2, List.mem_append, List.mem_singleton]
    repeat' (first | with_reducible refine am_seq ?_ | with_reducible refine am_block ?_ | ((with_reducible apply am_cond); (case hb => rfl); all_goals (intro hc; (try simp only [reduceCtorEq, decide_eq_true_eq, decide_eq_false_iff_not, Bool.or_eq_true, Bool.and_eq_true, Bool.or_eq_false_iff, Bool.not_eq_true', Bool.not_eq_false', beq_iff_eq] at hc); (try (exfalso; omega)))) | ((first | with_reducible refine am_reg ?_ | with_reducible refine am_drw ?_ | with_reducible refine am_skip ?_ | with_reducible refine am_exit ?_ | with_reducible refine am_ret ?_ | with_reducible refine And.intro (by first | exact AH.lec_refl _ | assumption | exact AccP.lec (by assumption) | omega) ?_ | with_reducible refine isnE_of (fun hc => ?_) (fun hc => ?_) (fun hc => ?_) | ((first | with_reducible refine gd_not (fun hc => ?_) (fun hc => ?_) | with_reducible refine gd_of (fun hc => ?_) (fun hc => ?_) | with_reducible refine gq_not (fun hc => ?_) (fun hc => ?_) | with_reducible refine gq_of (fun hc => ?_) (fun hc => ?_) | with_reducible refine pickB_of (fun hc => ?_) (fun hc => ?_)) <;> (try simp -implicitDefEqProofs (disch := omega) only [go_sem, eq_self, decide_true, decide_false, Nat.reduceBEq, Nat.reduceAdd, Nat.reduceSub, Nat.reduceMul, Nat.reduceEqDiff, Nat.reduceLeDiff, Nat.reduceLT, Int.reduceLE, Int.reduceLT, Int.reduceToNat, Int.reduceAdd, Int.reduceEq, Int.reduceNeg, AH.put_ne, hc, wrap_id, get_of_lt hlt2, get_of_lt hlt]) <;> (try simp only [reduceCtorEq, decide_eq_true_eq, decide_eq_false_iff_not, Bool.or_eq_true, Bool.and_eq_true, Bool.or_eq_false_iff, Bool.not_eq_true', Bool.not_eq_false', beq_iff_eq] at hc) <;> (try (exfalso; omega))) | ((with_reducible refine alloc_intro (fun ko hko => ?_)) <;> (try have hne := fresh_ne (by assumption) hko) <;> (try simp only [AH.put_none] at hko)) | ((first | (with_reducible refine vapp_accL (by assumption) ?_ (fun v2 H2 hacc hlec => ?_)) | (with_reducible refine vapp_accL (AccP.mono (by assumption) (AccP.le (by assumption))) ?_ (fun v2 H2 hacc hlec => ?_)) | (with_reducible refine vapp_accL (AccP.new (by assumption) (by assumption) _) ?_ (fun v2 H2 hacc hlec => ?_))); · simp only [byteCells_length, List.length_cons, List.length_nil, List.length_map, List.length_append, fldsE_length, blobsE_length, u64sE_length, intsE_length, strsE_length]; omega) | with_reducible refine need_elems (by assumption) ?_ | with_reducible refine vlen_acc (by assumption) ?_ | with_reducible refine need_bytes (by assumption) ?_ | with_reducible refine need_look (by assumption) ?_ | with_reducible refine need_look (look_put (by assumption) (by assumption)) ?_ | with_reducible refine need_look (look_lec (by assumption) (by assumption)) ?_ | with_reducible refine need_look (look_put (AH.put_same _ _ _) (by assumption)) ?_ | with_reducible refine need_look (look_lec (AH.put_same _ _ _) (by assumption)) ?_ | with_reducible refine need_look (look_put (look_put (by assumption) (by assumption)) (by assumption)) ?_ | with_reducible refine need_look (look_lec (look_put (by assumption) (by assumption)) (by assumption)) ?_ | with_reducible refine need_look (look_put (look_lec (by assumption) (by assumption)) (by assumption)) ?_ | with_reducible refine need_look (look_lec (look_lec (by assumption) (by assumption)) (by assumption)) ?_ | with_reducible refine need_look (look_put (look_put (AH.put_same _ _ _) (by assumption)) (by assumption)) ?_ | with_reducible refine need_look (look_lec (look_put (AH.put_same _ _ _) (by assumption)) (by assumption)) ?_ | with_reducible refine need_look (look_put (look_lec (AH.put_same _ _ _) (by assumption)) (by assumption)) ?_ | with_reducible refine need_look (look_lec (look_lec (AH.put_same _ _ _) (by assumption)) (by assumption)) ?_) <;> (try simp -implicitDefEqProofs (disch := omega) only [go_sem, eq_self, decide_true, decide_false, Nat.reduceBEq, Nat.reduceAdd, Nat.reduceSub, Nat.reduceMul, Nat.reduceEqDiff, Nat.reduceLeDiff, Nat.reduceLT, Int.reduceLE, Int.reduceLT, Int.reduceToNat, Int.reduceAdd, Int.reduceEq, Int.reduceNeg, AH.put_ne, wrap_id, get_of_lt hlt2, get_of_lt hlt])))
    · have e2 : decide (tags[j] = l[i].tag) = decide (l[i].tag ∈ tags.take (j + 1)) := by
        rw [decide_eq_decide, e]
        exact ⟨fun h => .inr h.symm, fun h => h.elim (fun h => absurd h hc) Eq.symm⟩
      exact ⟨n2 - 1, by omega, j + 1, by omega, by rw [e2]; rfl⟩
    · have e2 : true = decide (l[i].tag ∈ tags.take (j + 1)) := by
        rw [decide_eq_true (e.2 (.inl hc))]
      exact ⟨n2 - 1, by omega, j + 1, by omega, by rw [← e2]; rfl⟩
  · rw [List.take_of_length_le (by omega)]
    have ej : (tags.length : Int) = j := by omega
    rw [ej] at hq
    repeat' (first | with_reducible refine am_seq ?_ | with_reducible refine am_block ?_ | ((with_reducible apply am_cond); (case hb => rfl); all_goals (intro hc; (try simp only [reduceCtorEq, decide_eq_true_eq, decide_eq_false_iff_not, Bool.or_eq_true, Bool.and_eq_true, Bool.or_eq_false_iff, Bool.not_eq_true', Bool.not_eq_false', beq_iff_eq] at hc); (try (exfalso; omega)))) | ((first | with_reducible refine am_reg ?_ | with_reducible refine am_drw ?_ | with_reducible refine am_skip ?_ | with_reducible refine am_exit ?_ | with_reducible refine am_ret ?_ | with_reducible refine And.intro (by first | exact AH.lec_refl _ | assumption | exact AccP.lec (by assumption) | omega) ?_ | with_reducible refine isnE_of (fun hc => ?_) (fun hc => ?_) (fun hc => ?_) | ((first | with_reducible refine gd_not (fun hc => ?_) (fun hc => ?_) | with_reducible refine gd_of (fun hc => ?_) (fun hc => ?_) | with_reducible refine gq_not (fun hc => ?_) (fun hc => ?_) | with_reducible refine gq_of (fun hc => ?_) (fun hc => ?_) | with_reducible refine pickB_of (fun hc => ?_) (fun hc => ?_)) <;> (try simp -implicitDefEqProofs (disch := omega) only [go_sem, eq_self, decide_true, decide_false, Nat.reduceBEq, Nat.reduceAdd, Nat.reduceSub, Nat.reduceMul, Nat.reduceEqDiff, Nat.reduceLeDiff, Nat.reduceLT, Int.reduceLE, Int.reduceLT, Int.reduceToNat, Int.reduceAdd, Int.reduceEq, Int.reduceNeg, AH.put_ne, hc, wrap_id, get_of_lt hlt]) <;> (try simp only [reduceCtorEq, decide_eq_true_eq, decide_eq_false_iff_not, Bool.or_eq_true, Bool.and_eq_true, Bool.or_eq_false_iff, Bool.not_eq_true', Bool.not_eq_false', beq_iff_eq] at hc) <;> (try (exfalso; omega))) | ((with_reducible refine alloc_intro (fun ko hko => ?_)) <;> (try have hne := fresh_ne (by assumption) hko) <;> (try simp only [AH.put_none] at hko)) | ((first | (with_reducible refine vapp_accL (by assumption) ?_ (fun v2 H2 hacc hlec => ?_)) | (with_reducible refine vapp_accL (AccP.mono (by assumption) (AccP.le (by assumption))) ?_ (fun v2 H2 hacc hlec => ?_)) | (with_reducible refine vapp_accL (AccP.new (by assumption) (by assumption) _) ?_ (fun v2 H2 hacc hlec => ?_))); · simp only [byteCells_length, List.length_cons, List.length_nil, List.length_map, List.length_append, fldsE_length, blobsE_length, u64sE_length, intsE_length, strsE_length]; omega) | with_reducible refine need_elems (by assumption) ?_ | with_reducible refine vlen_acc (by assumption) ?_ | with_reducible refine need_bytes (by assumption) ?_ | with_reducible refine need_look (by assumption) ?_ | with_reducible refine need_look (look_put (by assumption) (by assumption)) ?_ | with_reducible refine need_look (look_lec (by assumption) (by assumption)) ?_ | with_reducible refine need_look (look_put (AH.put_same _ _ _) (by assumption)) ?_ | with_reducible refine need_look (look_lec (AH.put_same _ _ _) (by assumption)) ?_ | with_reducible refine need_look (look_put (look_put (by assumption) (by assumption)) (by assumption)) ?_ | with_reducible refine need_look (look_lec (look_put (by assumption) (by assumption)) (by assumption)) ?_ | with_reducible refine need_look (look_put (look_lec (by assumption) (by assumption)) (by assumption)) ?_ | with_reducible refine need_look (look_lec (look_lec (by assumption) (by assumption)) (by assumption)) ?_ | with_reducible refine need_look (look_put (look_put (AH.put_same _ _ _) (by assumption)) (by assumption)) ?_ | with_reducible refine need_look (look_lec (look_put (AH.put_same _ _ _) (by assumption)) (by assumption)) ?_ | with_reducible refine need_look (look_put (look_lec (AH.put_same _ _ _) (by assumption)) (by assumption)) ?_ | with_reducible refine need_look (look_lec (look_lec (AH.put_same _ _ _) (by assumption)) (by assumption)) ?_) <;> (try simp -implicitDefEqProofs (disch := omega) only [go_sem, eq_self, decide_true, decide_false, Nat.reduceBEq, Nat.reduceAdd, Nat.reduceSub, Nat.reduceMul, Nat.reduceEqDiff, Nat.reduceLeDiff, Nat.reduceLT, Int.reduceLE, Int.reduceLT, Int.reduceToNat, Int.reduceAdd, Int.reduceEq, Int.reduceNeg, AH.put_ne, wrap_id, get_of_lt hlt])))
    all_goals exact hq _
abbrev fdI (l : List Fld) (tag : Int) (tags : List Int) (t u : Tok) (H : AH) (n : Nat) (a : A) (H' : AH) : Prop := ∃ i : Nat, i + n = l.length ∧ a = [(0, .sl 4 (fldsE l) t), (1, .int .i64 tag), (2, .sl 1 (intsE tags) u), (7, .int .u64 (numS l tag).1), (8, .bool (numS l tag).2), (9, .sl 1 (byteCells (blobT l tag)) .no), (10, .bool (decide (¬ manyT l tag = []))), (11, .sl 1 (blobsE (manyT l tag)) .no), (12, .int .i64 (idxB (numT tag) (l.take i) 0)), (13, .int .i64 (manyT (l.take i) tag).length), (14, .bool ((l.take i).all fun f => decide (f.tag ∈ tags))), (15, .int .i64 i)] ∧ H' = H
theorem many_append (a b : List Fld) (tag : Int) : manyT (a ++ b) tag = manyT a tag ++ manyT b tag := by simp [manyT]
theorem idxB_snoc {α : Type} (p : α → Bool) (x : α) : ∀ (l : List α) (i : Int), 0 ≤ i → idxB p (l ++ [x]) i = if 0 ≤ idxB p l i then idxB p l i else if p x = true then i + l.length else -1
  | [], i, h => by simp [idxB]
  | y :: l, i, h => by
    simp only [List.cons_append, idxB]
    by_cases hp : p y = true
    · simp [hp, h]
    · simp only [hp, if_false, Bool.false_eq_true]
      rw [idxB_snoc p x l (i + 1) (by omega)]
      split
      · rfl
      · split
        · simp; omega
        · rfl
theorem fd_round {l : List Fld} {t u : Tok} {tag : Int} {tags : List Int} {Q : AExit → A → AH → Prop} (hl : l.length ≤ 80) (ht : tags.length ≤ 50) (hb : ∀ f ∈ l, f.b.length ≤ 5000) (n i : Nat) (hi : i + n = l.length) (hlt : i < l.length) (H : AH) :
    AM Try.prog Try.f9.ntmps k9_18 (LQ (fdI l tag tags t u H) n Q) [(0, .sl 4 (fldsE l) t), (1, .int .i64 tag), (2, .sl 1 (intsE tags) u), (7, .int .u64 (numS l tag).1), (8, .bool (numS l tag).2), (9, .sl 1 (byteCells (blobT l tag)) .no), (10, .bool (decide (¬ manyT l tag = []))), (11, .sl 1 (blobsE (manyT l tag)) .no), (12, .int .i64 (idxB (numT tag) (l.take i) 0)), (13, .int .i64 (manyT (l.take i) tag).length), (14, .bool ((l.take i).all fun f => decide (f.tag ∈ tags))), (15, .int .i64 i)] H := by
  have hsn := take_snoc l i hlt
  have e1 : idxB (numT tag) (l.take (i + 1)) 0 = if 0 ≤ idxB (numT tag) (l.take i) 0 then idxB (numT tag) (l.take i) 0 else if numT tag l[i] = true then (i : Int) else -1 := by
    rw [hsn, idxB_snoc _ _ _ _ (by omega), List.length_take_of_le (by omega)]; simp
  have e2 : manyT (l.take (i + 1)) tag = manyT (l.take i) tag ++ manyT [l[i]] tag := by rw [hsn, many_append]
  have e3 : ((l.take (i + 1)).all fun f => decide (f.tag ∈ tags)) = (((l.take i).all fun f => decide (f.tag ∈ tags)) && decide (l[i].tag ∈ tags)) := by
    rw [hsn, List.all_append]; simp only [List.all_cons, List.all_nil, Bool.and_true]
  have e4 : manyT l tag = manyT (l.take i) tag ++ manyT (l.drop i) tag := by rw [← many_append, List.take_append_drop]
  have ed : manyT (l.drop i) tag = manyT [l[i]] tag ++ manyT (l.drop (i + 1)) tag := by
    rw [← many_append]; congr 1; exact List.drop_eq_getElem_cons hlt
  have fin : ∀ (fi k : Int) (on : Bool), fi = idxB (numT tag) (l.take (i + 1)) 0 → k = ((manyT (l.take (i + 1)) tag).length : Int) → on = ((l.take (i + 1)).all fun f => decide (f.tag ∈ tags)) → ∃ m, m < n ∧ fdI l tag tags t u H m [(0, .sl 4 (fldsE l) t), (1, .int .i64 tag), (2, .sl 1 (intsE tags) u), (7, .int .u64 (numS l tag).1), (8, .bool (numS l tag).2), (9, .sl 1 (byteCells (blobT l tag)) .no), (10, .bool (decide (¬ manyT l tag = []))), (11, .sl 1 (blobsE (manyT l tag)) .no), (12, .int .i64 fi), (13, .int .i64 k), (14, .bool on), (15, .int .i64 ((i : Int) + 1))] H := by
    rintro fi k on rfl rfl rfl
    exact ⟨n - 1, by omega, i + 1, by omega, rfl, rfl⟩
  have hm1 : -1 ≤ idxB (numT tag) (l.take i) 0 := by
    rcases idxB_find (numT tag) (l.take i) 0 with ⟨_, h2⟩ | ⟨j, hj, _, h2⟩
    · have h2' : idxB (numT tag) (l.take i) 0 = -1 := h2
      omega
    · have h2' : idxB (numT tag) (l.take i) 0 = ((0 : Nat) : Int) + j := h2
      omega
  have hml : (manyT (l.take i) tag).length ≤ 80 := by
    have h1 : (manyT (l.take i) tag).length ≤ (l.take i).length := by
      unfold manyT; rw [List.length_map]; exact List.length_filter_le _ _
    rw [List.length_take] at h1; omega
  generalize ho : (l.take i).all (fun f => decide (f.tag ∈ tags)) = on at *
  by_cases htag : l[i].tag = tag
  · cases hby : l[i].by_
    · have em : manyT [l[i]] tag = [] := by simp [manyT, hby]
      rw [em, List.append_nil] at e2
      have en : numT tag l[i] = true := by simp [numT, htag, hby]
      rw [en] at e1
      simp only [if_true, if_false, Bool.false_eq_true] at e1
      repeat' (first | (refine fd_in hlt hl ht _ (fun w => ?_); simp only [SQ_normal]) | with_reducible refine am_seq ?_ | with_reducible refine am_block ?_ | ((with_reducible apply am_cond); (case hb => rfl); all_goals (intro hc; (try simp only [reduceCtorEq, decide_eq_true_eq, decide_eq_false_iff_not, Bool.or_eq_true, Bool.and_eq_true, Bool.or_eq_false_iff, Bool.not_eq_true', Bool.not_eq_false', beq_iff_eq] at hc); (try (exfalso; omega)))) | ((first | with_reducible refine am_reg ?_ | with_reducible refine am_drw ?_ | with_reducible refine am_skip ?_ | with_reducible refine am_exit ?_ | with_reducible refine am_ret ?_ | with_reducible refine And.intro (by first | exact AH.lec_refl _ | assumption | exact AccP.lec (by assumption) | omega) ?_ | with_reducible refine isnE_of (fun hc => ?_) (fun hc => ?_) (fun hc => ?_) | ((first | with_reducible refine gd_not (fun hc => ?_) (fun hc => ?_) | with_reducible refine gd_of (fun hc => ?_) (fun hc => ?_) | with_reducible refine gq_not (fun hc => ?_) (fun hc => ?_) | with_reducible refine gq_of (fun hc => ?_) (fun hc => ?_) | with_reducible refine pickB_of (fun hc => ?_) (fun hc => ?_)) <;> (try simp -implicitDefEqProofs (disch := omega) only [go_sem, eq_self, decide_true, decide_false, Nat.reduceBEq, Nat.reduceAdd, Nat.reduceSub, Nat.reduceMul, Nat.reduceEqDiff, Nat.reduceLeDiff, Nat.reduceLT, Int.reduceLE, Int.reduceLT, Int.reduceToNat, Int.reduceAdd, Int.reduceEq, Int.reduceNeg, AH.put_ne, hc, wrap_id, get_of_lt hlt, htag, hby]) <;> (try simp only [reduceCtorEq, decide_eq_true_eq, decide_eq_false_iff_not, Bool.or_eq_true, Bool.and_eq_true, Bool.or_eq_false_iff, Bool.not_eq_true', Bool.not_eq_false', beq_iff_eq] at hc) <;> (try (exfalso; omega))) | ((with_reducible refine alloc_intro (fun ko hko => ?_)) <;> (try have hne := fresh_ne (by assumption) hko) <;> (try simp only [AH.put_none] at hko)) | ((first | (with_reducible refine vapp_accL (by assumption) ?_ (fun v2 H2 hacc hlec => ?_)) | (with_reducible refine vapp_accL (AccP.mono (by assumption) (AccP.le (by assumption))) ?_ (fun v2 H2 hacc hlec => ?_)) | (with_reducible refine vapp_accL (AccP.new (by assumption) (by assumption) _) ?_ (fun v2 H2 hacc hlec => ?_))); · simp only [byteCells_length, List.length_cons, List.length_nil, List.length_map, List.length_append, fldsE_length, blobsE_length, u64sE_length, intsE_length, strsE_length]; omega) | with_reducible refine need_elems (by assumption) ?_ | with_reducible refine vlen_acc (by assumption) ?_ | with_reducible refine need_bytes (by assumption) ?_ | with_reducible refine need_look (by assumption) ?_ | with_reducible refine need_look (look_put (by assumption) (by assumption)) ?_ | with_reducible refine need_look (look_lec (by assumption) (by assumption)) ?_ | with_reducible refine need_look (look_put (AH.put_same _ _ _) (by assumption)) ?_ | with_reducible refine need_look (look_lec (AH.put_same _ _ _) (by assumption)) ?_ | with_reducible refine need_look (look_put (look_put (by assumption) (by assumption)) (by assumption)) ?_ | with_reducible refine need_look (look_lec (look_put (by assumption) (by assumption)) (by assumption)) ?_ | with_reducible refine need_look (look_put (look_lec (by assumption) (by assumption)) (by assumption)) ?_ | with_reducible refine need_look (look_lec (look_lec (by assumption) (by assumption)) (by assumption)) ?_ | with_reducible refine need_look (look_put (look_put (AH.put_same _ _ _) (by assumption)) (by assumption)) ?_ | with_reducible refine need_look (look_lec (look_put (AH.put_same _ _ _) (by assumption)) (by assumption)) ?_ | with_reducible refine need_look (look_put (look_lec (AH.put_same _ _ _) (by assumption)) (by assumption)) ?_ | with_reducible refine need_look (look_lec (look_lec (AH.put_same _ _ _) (by assumption)) (by assumption)) ?_) <;> (try simp -implicitDefEqProofs (disch := omega) only [go_sem, eq_self, decide_true, decide_false, Nat.reduceBEq, Nat.reduceAdd, Nat.reduceSub, Nat.reduceMul, Nat.reduceEqDiff, Nat.reduceLeDiff, Nat.reduceLT, Int.reduceLE, Int.reduceLT, Int.reduceToNat, Int.reduceAdd, Int.reduceEq, Int.reduceNeg, AH.put_ne, wrap_id, get_of_lt hlt, htag, hby])))
      all_goals (refine fin _ _ _ (by rw [e1]; first | done | rfl | (split <;> omega)) (by rw [e2]; first | done | rfl | (rw [wrap_id _ (by omega) (by omega)]; simp) | simp) (by rw [e3]; first | done | rfl | (simp [*]; done)))
    · have em : manyT [l[i]] tag = [l[i].b] := by simp [manyT, hby, htag]
      rw [em] at e2 ed
      have en : numT tag l[i] = false := by simp [numT, hby]
      rw [en] at e1
      simp only [if_true, if_false, Bool.false_eq_true] at e1
      have hk : (manyT l tag)[(manyT (l.take i) tag).length]? = some l[i].b := by
        rw [e4, ed]; simp
      have hkl : (manyT (l.take i) tag).length < (manyT l tag).length := by rw [e4, ed]; simp
      repeat' (first | (refine fd_in hlt hl ht _ (fun w => ?_); simp only [SQ_normal]) | with_reducible refine am_seq ?_ | with_reducible refine am_block ?_ | ((with_reducible apply am_cond); (case hb => rfl); all_goals (intro hc; (try simp only [reduceCtorEq, decide_eq_true_eq, decide_eq_false_iff_not, Bool.or_eq_true, Bool.and_eq_true, Bool.or_eq_false_iff, Bool.not_eq_true', Bool.not_eq_false', beq_iff_eq] at hc); (try (exfalso; omega)))) | ((first | with_reducible refine am_reg ?_ | with_reducible refine am_drw ?_ | with_reducible refine am_skip ?_ | with_reducible refine am_exit ?_ | with_reducible refine am_ret ?_ | with_reducible refine And.intro (by first | exact AH.lec_refl _ | assumption | exact AccP.lec (by assumption) | omega) ?_ | with_reducible refine isnE_of (fun hc => ?_) (fun hc => ?_) (fun hc => ?_) | ((first | with_reducible refine gd_not (fun hc => ?_) (fun hc => ?_) | with_reducible refine gd_of (fun hc => ?_) (fun hc => ?_) | with_reducible refine gq_not (fun hc => ?_) (fun hc => ?_) | with_reducible refine gq_of (fun hc => ?_) (fun hc => ?_) | with_reducible refine pickB_of (fun hc => ?_) (fun hc => ?_)) <;> (try simp -implicitDefEqProofs (disch := omega) only [go_sem, eq_self, decide_true, decide_false, Nat.reduceBEq, Nat.reduceAdd, Nat.reduceSub, Nat.reduceMul, Nat.reduceEqDiff, Nat.reduceLeDiff, Nat.reduceLT, Int.reduceLE, Int.reduceLT, Int.reduceToNat, Int.reduceAdd, Int.reduceEq, Int.reduceNeg, AH.put_ne, hc, wrap_id, get_of_lt hlt, htag, hby, hk]) <;> (try simp only [reduceCtorEq, decide_eq_true_eq, decide_eq_false_iff_not, Bool.or_eq_true, Bool.and_eq_true, Bool.or_eq_false_iff, Bool.not_eq_true', Bool.not_eq_false', beq_iff_eq] at hc) <;> (try (exfalso; omega))) | ((with_reducible refine alloc_intro (fun ko hko => ?_)) <;> (try have hne := fresh_ne (by assumption) hko) <;> (try simp only [AH.put_none] at hko)) | ((first | (with_reducible refine vapp_accL (by assumption) ?_ (fun v2 H2 hacc hlec => ?_)) | (with_reducible refine vapp_accL (AccP.mono (by assumption) (AccP.le (by assumption))) ?_ (fun v2 H2 hacc hlec => ?_)) | (with_reducible refine vapp_accL (AccP.new (by assumption) (by assumption) _) ?_ (fun v2 H2 hacc hlec => ?_))); · simp only [byteCells_length, List.length_cons, List.length_nil, List.length_map, List.length_append, fldsE_length, blobsE_length, u64sE_length, intsE_length, strsE_length]; omega) | with_reducible refine need_elems (by assumption) ?_ | with_reducible refine vlen_acc (by assumption) ?_ | with_reducible refine need_bytes (by assumption) ?_ | with_reducible refine need_look (by assumption) ?_ | with_reducible refine need_look (look_put (by assumption) (by assumption)) ?_ | with_reducible refine need_look (look_lec (by assumption) (by assumption)) ?_ | with_reducible refine need_look (look_put (AH.put_same _ _ _) (by assumption)) ?_ | with_reducible refine need_look (look_lec (AH.put_same _ _ _) (by assumption)) ?_ | with_reducible refine need_look (look_put (look_put (by assumption) (by assumption)) (by assumption)) ?_ | with_reducible refine need_look (look_lec (look_put (by assumption) (by assumption)) (by assumption)) ?_ | with_reducible refine need_look (look_put (look_lec (by assumption) (by assumption)) (by assumption)) ?_ | with_reducible refine need_look (look_lec (look_lec (by assumption) (by assumption)) (by assumption)) ?_ | with_reducible refine need_look (look_put (look_put (AH.put_same _ _ _) (by assumption)) (by assumption)) ?_ | with_reducible refine need_look (look_lec (look_put (AH.put_same _ _ _) (by assumption)) (by assumption)) ?_ | with_reducible refine need_look (look_put (look_lec (AH.put_same _ _ _) (by assumption)) (by assumption)) ?_ | with_reducible refine need_look (look_lec (look_lec (AH.put_same _ _ _) (by assumption)) (by assumption)) ?_) <;> (try simp -implicitDefEqProofs (disch := omega) only [go_sem, eq_self, decide_true, decide_false, Nat.reduceBEq, Nat.reduceAdd, Nat.reduceSub, Nat.reduceMul, Nat.reduceEqDiff, Nat.reduceLeDiff, Nat.reduceLT, Int.reduceLE, Int.reduceLT, Int.reduceToNat, Int.reduceAdd, Int.reduceEq, Int.reduceNeg, AH.put_ne, wrap_id, get_of_lt hlt, htag, hby, hk])))
      all_goals (refine fin _ _ _ (by rw [e1]; first | done | rfl | (split <;> omega)) (by rw [e2]; first | done | rfl | (rw [wrap_id _ (by omega) (by omega)]; simp) | simp) (by rw [e3]; first | done | rfl | (simp [*]; done)))
  · have em : manyT [l[i]] tag = [] := by simp [manyT, htag]
    rw [em, List.append_nil] at e2
    have en : numT tag l[i] = false := by simp [numT, htag]
    rw [en] at e1
    simp only [if_true, if_false, Bool.false_eq_true] at e1
    repeat' (first | (refine fd_in hlt hl ht _ (fun w => ?_); simp only [SQ_normal]) | with_reducible refine am_seq ?_ | with_reducible refine am_block ?_ | ((with_reducible apply am_cond); (case hb => rfl); all_goals (intro hc; (try simp only [reduceCtorEq, decide_eq_true_eq, decide_eq_false_iff_not, Bool.or_eq_true, Bool.and_eq_true, Bool.or_eq_false_iff, Bool.not_eq_true', Bool.not_eq_false', beq_iff_eq] at hc); (try (exfalso; omega)))) | ((first | with_reducible refine am_reg ?_ | with_reducible refine am_drw ?_ | with_reducible refine am_skip ?_ | with_reducible refine am_exit ?_ | with_reducible refine am_ret ?_ | with_reducible refine And.intro (by first | exact AH.lec_refl _ | assumption | exact AccP.lec (by assumption) | omega) ?_ | with_reducible refine isnE_of (fun hc => ?_) (fun hc => ?_) (fun hc => ?_) | ((first | with_reducible refine gd_not (fun hc => ?_) (fun hc => ?_) | with_reducible refine gd_of (fun hc => ?_) (fun hc => ?_) | with_reducible refine gq_not (fun hc => ?_) (fun hc => ?_) | with_reducible refine gq_of (fun hc => ?_) (fun hc => ?_) | with_reducible refine pickB_of (fun hc => ?_) (fun hc => ?_)) <;> (try simp -implicitDefEqProofs (disch := omega) only [go_sem, eq_self, decide_true, decide_false, Nat.reduceBEq, Nat.reduceAdd, Nat.reduceSub, Nat.reduceMul, Nat.reduceEqDiff, Nat.reduceLeDiff, Nat.reduceLT, Int.reduceLE, Int.reduceLT, Int.reduceToNat, Int.reduceAdd, Int.reduceEq, Int.reduceNeg, AH.put_ne, hc, wrap_id, get_of_lt hlt, htag]) <;> (try simp only [reduceCtorEq, decide_eq_true_eq, decide_eq_false_iff_not, Bool.or_eq_true, Bool.and_eq_true, Bool.or_eq_false_iff, Bool.not_eq_true', Bool.not_eq_false', beq_iff_eq] at hc) <;> (try (exfalso; omega))) | ((with_reducible refine alloc_intro (fun ko hko => ?_)) <;> (try have hne := fresh_ne (by assumption) hko) <;> (try simp only [AH.put_none] at hko)) | ((first | (with_reducible refine vapp_accL (by assumption) ?_ (fun v2 H2 hacc hlec => ?_)) | (with_reducible refine vapp_accL (AccP.mono (by assumption) (AccP.le (by assumption))) ?_ (fun v2 H2 hacc hlec => ?_)) | (with_reducible refine vapp_accL (AccP.new (by assumption) (by assumption) _) ?_ (fun v2 H2 hacc hlec => ?_))); · simp only [byteCells_length, List.length_cons, List.length_nil, List.length_map, List.length_append, fldsE_length, blobsE_length, u64sE_length, intsE_length, strsE_length]; omega) | with_reducible refine need_elems (by assumption) ?_ | with_reducible refine vlen_acc (by assumption) ?_ | with_reducible refine need_bytes (by assumption) ?_ | with_reducible refine need_look (by assumption) ?_ | with_reducible refine need_look (look_put (by assumption) (by assumption)) ?_ | with_reducible refine need_look (look_lec (by assumption) (by assumption)) ?_ | with_reducible refine need_look (look_put (AH.put_same _ _ _) (by assumption)) ?_ | with_reducible refine need_look (look_lec (AH.put_same _ _ _) (by assumption)) ?_ | with_reducible refine need_look (look_put (look_put (by assumption) (by assumption)) (by assumption)) ?_ | with_reducible refine need_look (look_lec (look_put (by assumption) (by assumption)) (by assumption)) ?_ | with_reducible refine need_look (look_put (look_lec (by assumption) (by assumption)) (by assumption)) ?_ | with_reducible refine need_look (look_lec (look_lec (by assumption) (by assumption)) (by assumption)) ?_ | with_reducible refine need_look (look_put (look_put (AH.put_same _ _ _) (by assumption)) (by assumption)) ?_ | with_reducible refine need_look (look_lec (look_put (AH.put_same _ _ _) (by assumption)) (by assumption)) ?_ | with_reducible refine need_look (look_put (look_lec (AH.put_same _ _ _) (by assumption)) (by assumption)) ?_ | with_reducible refine need_look (look_lec (look_lec (AH.put_same _ _ _) (by assumption)) (by assumption)) ?_) <;> (try simp -implicitDefEqProofs (disch := omega) only [go_sem, eq_self, decide_true, decide_false, Nat.reduceBEq, Nat.reduceAdd, Nat.reduceSub, Nat.reduceMul, Nat.reduceEqDiff, Nat.reduceLeDiff, Nat.reduceLT, Int.reduceLE, Int.reduceLT, Int.reduceToNat, Int.reduceAdd, Int.reduceEq, Int.reduceNeg, AH.put_ne, wrap_id, get_of_lt hlt, htag])))
    all_goals (refine fin _ _ _ (by rw [e1]; first | done | rfl | (split <;> omega)) (by rw [e2]; first | done | rfl | (rw [wrap_id _ (by omega) (by omega)]; simp) | simp) (by rw [e3]; first | done | rfl | (simp [*]; done)))
theorem finds_calls {l : List Fld} {t u : Tok} {tag : Int} {tags : List Int} (hl : l.length < 9223372036854775808) (ht : tags.length < 9223372036854775808) (H : AH) :
    ACalls Try.prog 9 [.sl 4 (fldsE l) t, .int .i64 tag, .sl 1 (intsE tags) u] H (fun o H' => o = .ret (.bool true) ∧ H' = H) := by
  refine ACalls.drop ?_
  refine acalls Try.func9 c9 r9 (by simp [Try.ntmps9]) ?_
  cases hg : greatF l
  · obtain ⟨s1, s2⟩ : l.length ≤ 80 ∧ ∀ f ∈ l, f.b.length ≤ 5000 := by
      simp only [greatF, Bool.or_eq_false_iff, List.any_eq_false, decide_eq_true_eq, decide_eq_false_iff_not] at hg
      exact ⟨by omega, fun f hf => by have := hg.1 f hf; omega⟩
    by_cases h50 : 50 < tags.length
    · repeat' (first | with_reducible refine am_seq ?_ | with_reducible refine am_block ?_ | ((with_reducible apply am_cond); (case hb => rfl); all_goals (intro hc; (try simp only [reduceCtorEq, decide_eq_true_eq, decide_eq_false_iff_not, Bool.or_eq_true, Bool.and_eq_true, Bool.or_eq_false_iff, Bool.not_eq_true', Bool.not_eq_false', beq_iff_eq] at hc); (try (exfalso; omega)))) | ((first | with_reducible refine am_reg ?_ | with_reducible refine am_drw ?_ | with_reducible refine am_skip ?_ | with_reducible refine am_exit ?_ | with_reducible refine am_ret ?_ | with_reducible refine And.intro (by first | exact AH.lec_refl _ | assumption | exact AccP.lec (by assumption) | omega) ?_ | with_reducible refine isnE_of (fun hc => ?_) (fun hc => ?_) (fun hc => ?_) | ((first | with_reducible refine gd_not (fun hc => ?_) (fun hc => ?_) | with_reducible refine gd_of (fun hc => ?_) (fun hc => ?_) | with_reducible refine gq_not (fun hc => ?_) (fun hc => ?_) | with_reducible refine gq_of (fun hc => ?_) (fun hc => ?_) | with_reducible refine pickB_of (fun hc => ?_) (fun hc => ?_)) <;> (try simp -implicitDefEqProofs (disch := omega) only [go_sem, eq_self, decide_true, decide_false, Nat.reduceBEq, Nat.reduceAdd, Nat.reduceSub, Nat.reduceMul, Nat.reduceEqDiff, Nat.reduceLeDiff, Nat.reduceLT, Int.reduceLE, Int.reduceLT, Int.reduceToNat, Int.reduceAdd, Int.reduceEq, Int.reduceNeg, AH.put_ne, hc, wrap_id, hg]) <;> (try simp only [reduceCtorEq, decide_eq_true_eq, decide_eq_false_iff_not, Bool.or_eq_true, Bool.and_eq_true, Bool.or_eq_false_iff, Bool.not_eq_true', Bool.not_eq_false', beq_iff_eq] at hc) <;> (try (exfalso; omega))) | ((with_reducible refine alloc_intro (fun ko hko => ?_)) <;> (try have hne := fresh_ne (by assumption) hko) <;> (try simp only [AH.put_none] at hko)) | ((first | (with_reducible refine vapp_accL (by assumption) ?_ (fun v2 H2 hacc hlec => ?_)) | (with_reducible refine vapp_accL (AccP.mono (by assumption) (AccP.le (by assumption))) ?_ (fun v2 H2 hacc hlec => ?_)) | (with_reducible refine vapp_accL (AccP.new (by assumption) (by assumption) _) ?_ (fun v2 H2 hacc hlec => ?_))); · simp only [byteCells_length, List.length_cons, List.length_nil, List.length_map, List.length_append, fldsE_length, blobsE_length, u64sE_length, intsE_length, strsE_length]; omega) | with_reducible refine need_elems (by assumption) ?_ | with_reducible refine vlen_acc (by assumption) ?_ | with_reducible refine need_bytes (by assumption) ?_ | (first | with_reducible refine call_of (fgreat_calls hl) ?_ | with_reducible refine qcall_of (fgreat_calls hl) ?_) | (first | with_reducible refine call_of (awake2_calls) ?_ | with_reducible refine qcall_of (awake2_calls) ?_) | with_reducible refine need_look (by assumption) ?_ | with_reducible refine need_look (look_put (by assumption) (by assumption)) ?_ | with_reducible refine need_look (look_lec (by assumption) (by assumption)) ?_ | with_reducible refine need_look (look_put (AH.put_same _ _ _) (by assumption)) ?_ | with_reducible refine need_look (look_lec (AH.put_same _ _ _) (by assumption)) ?_ | with_reducible refine need_look (look_put (look_put (by assumption) (by assumption)) (by assumption)) ?_ | with_reducible refine need_look (look_lec (look_put (by assumption) (by assumption)) (by assumption)) ?_ | with_reducible refine need_look (look_put (look_lec (by assumption) (by assumption)) (by assumption)) ?_ | with_reducible refine need_look (look_lec (look_lec (by assumption) (by assumption)) (by assumption)) ?_ | with_reducible refine need_look (look_put (look_put (AH.put_same _ _ _) (by assumption)) (by assumption)) ?_ | with_reducible refine need_look (look_lec (look_put (AH.put_same _ _ _) (by assumption)) (by assumption)) ?_ | with_reducible refine need_look (look_put (look_lec (AH.put_same _ _ _) (by assumption)) (by assumption)) ?_ | with_reducible refine need_look (look_lec (look_lec (AH.put_same _ _ _) (by assumption)) (by assumption)) ?_) <;> (try simp -implicitDefEqProofs (disch := omega) only [go_sem, eq_self, decide_true, decide_false, Nat.reduceBEq, Nat.reduceAdd, Nat.reduceSub, Nat.reduceMul, Nat.reduceEqDiff, Nat.reduceLeDiff, Nat.reduceLT, Int.reduceLE, Int.reduceLT, Int.reduceToNat, Int.reduceAdd, Int.reduceEq, Int.reduceNeg, AH.put_ne, wrap_id, hg])))
      all_goals exact drop_end (fun _ _ h => h) (AH.le_refl _)
    · have nc := fun H => mnumber_calls (l := l) (t := t) (tag := tag) (by omega) H
      have bc := fun H => mbytes_calls (l := l) (t := t) (tag := tag) (by omega) (fun f hf => by have := s2 f hf; omega) H
      have mc := fun H => many_calls (l := l) (t := t) (tag := tag) (by omega) (fun f hf => by have := s2 f hf; omega) H
      repeat' (first | with_reducible refine am_seq ?_ | with_reducible refine am_block ?_ | ((with_reducible apply am_cond); (case hb => rfl); all_goals (intro hc; (try simp only [reduceCtorEq, decide_eq_true_eq, decide_eq_false_iff_not, Bool.or_eq_true, Bool.and_eq_true, Bool.or_eq_false_iff, Bool.not_eq_true', Bool.not_eq_false', beq_iff_eq] at hc); (try (exfalso; omega)))) | ((first | with_reducible refine am_reg ?_ | with_reducible refine am_drw ?_ | with_reducible refine am_skip ?_ | with_reducible refine am_exit ?_ | with_reducible refine am_ret ?_ | with_reducible refine And.intro (by first | exact AH.lec_refl _ | assumption | exact AccP.lec (by assumption) | omega) ?_ | with_reducible refine isnE_of (fun hc => ?_) (fun hc => ?_) (fun hc => ?_) | ((first | with_reducible refine gd_not (fun hc => ?_) (fun hc => ?_) | with_reducible refine gd_of (fun hc => ?_) (fun hc => ?_) | with_reducible refine gq_not (fun hc => ?_) (fun hc => ?_) | with_reducible refine gq_of (fun hc => ?_) (fun hc => ?_) | with_reducible refine pickB_of (fun hc => ?_) (fun hc => ?_)) <;> (try simp -implicitDefEqProofs (disch := omega) only [go_sem, eq_self, decide_true, decide_false, Nat.reduceBEq, Nat.reduceAdd, Nat.reduceSub, Nat.reduceMul, Nat.reduceEqDiff, Nat.reduceLeDiff, Nat.reduceLT, Int.reduceLE, Int.reduceLT, Int.reduceToNat, Int.reduceAdd, Int.reduceEq, Int.reduceNeg, AH.put_ne, hc, wrap_id, hg]) <;> (try simp only [reduceCtorEq, decide_eq_true_eq, decide_eq_false_iff_not, Bool.or_eq_true, Bool.and_eq_true, Bool.or_eq_false_iff, Bool.not_eq_true', Bool.not_eq_false', beq_iff_eq] at hc) <;> (try (exfalso; omega))) | ((with_reducible refine alloc_intro (fun ko hko => ?_)) <;> (try have hne := fresh_ne (by assumption) hko) <;> (try simp only [AH.put_none] at hko)) | ((first | (with_reducible refine vapp_accL (by assumption) ?_ (fun v2 H2 hacc hlec => ?_)) | (with_reducible refine vapp_accL (AccP.mono (by assumption) (AccP.le (by assumption))) ?_ (fun v2 H2 hacc hlec => ?_)) | (with_reducible refine vapp_accL (AccP.new (by assumption) (by assumption) _) ?_ (fun v2 H2 hacc hlec => ?_))); · simp only [byteCells_length, List.length_cons, List.length_nil, List.length_map, List.length_append, fldsE_length, blobsE_length, u64sE_length, intsE_length, strsE_length]; omega) | with_reducible refine need_elems (by assumption) ?_ | with_reducible refine vlen_acc (by assumption) ?_ | with_reducible refine need_bytes (by assumption) ?_ | (first | with_reducible refine call_of (fgreat_calls hl) ?_ | with_reducible refine qcall_of (fgreat_calls hl) ?_) | (first | with_reducible refine call_of (awake2_calls) ?_ | with_reducible refine qcall_of (awake2_calls) ?_) | (first | with_reducible refine call_of (nc) ?_ | with_reducible refine qcall_of (nc) ?_) | (first | with_reducible refine call_of (bc) ?_ | with_reducible refine qcall_of (bc) ?_) | (first | with_reducible refine call_of (mc) ?_ | with_reducible refine qcall_of (mc) ?_) | with_reducible refine need_look (by assumption) ?_ | with_reducible refine need_look (look_put (by assumption) (by assumption)) ?_ | with_reducible refine need_look (look_lec (by assumption) (by assumption)) ?_ | with_reducible refine need_look (look_put (AH.put_same _ _ _) (by assumption)) ?_ | with_reducible refine need_look (look_lec (AH.put_same _ _ _) (by assumption)) ?_ | with_reducible refine need_look (look_put (look_put (by assumption) (by assumption)) (by assumption)) ?_ | with_reducible refine need_look (look_lec (look_put (by assumption) (by assumption)) (by assumption)) ?_ | with_reducible refine need_look (look_put (look_lec (by assumption) (by assumption)) (by assumption)) ?_ | with_reducible refine need_look (look_lec (look_lec (by assumption) (by assumption)) (by assumption)) ?_ | with_reducible refine need_look (look_put (look_put (AH.put_same _ _ _) (by assumption)) (by assumption)) ?_ | with_reducible refine need_look (look_lec (look_put (AH.put_same _ _ _) (by assumption)) (by assumption)) ?_ | with_reducible refine need_look (look_put (look_lec (AH.put_same _ _ _) (by assumption)) (by assumption)) ?_ | with_reducible refine need_look (look_lec (look_lec (AH.put_same _ _ _) (by assumption)) (by assumption)) ?_) <;> (try simp -implicitDefEqProofs (disch := omega) only [go_sem, eq_self, decide_true, decide_false, Nat.reduceBEq, Nat.reduceAdd, Nat.reduceSub, Nat.reduceMul, Nat.reduceEqDiff, Nat.reduceLeDiff, Nat.reduceLT, Int.reduceLE, Int.reduceLT, Int.reduceToNat, Int.reduceAdd, Int.reduceEq, Int.reduceNeg, AH.put_ne, wrap_id, hg])))
      refine am_loop (fdI l tag tags t u H) ?_ l.length ⟨0, by omega, by first | rfl | simp, rfl⟩
      rintro n a H' ⟨i, hi, rfl, rfl⟩
      by_cases hlt : i < l.length
      · exact fd_round s1 (by omega) s2 n i hi hlt _
      · rw [List.take_of_length_le (by omega)]
        have ei : i = l.length := by omega
        subst ei
        repeat' (first | (exact fd_tail (tags := tags) s1 (by omega) _) | with_reducible refine am_seq ?_ | with_reducible refine am_block ?_ | ((with_reducible apply am_cond); (case hb => rfl); all_goals (intro hc; (try simp only [reduceCtorEq, decide_eq_true_eq, decide_eq_false_iff_not, Bool.or_eq_true, Bool.and_eq_true, Bool.or_eq_false_iff, Bool.not_eq_true', Bool.not_eq_false', beq_iff_eq] at hc); (try (exfalso; omega)))) | ((first | with_reducible refine am_reg ?_ | with_reducible refine am_drw ?_ | with_reducible refine am_skip ?_ | with_reducible refine am_exit ?_ | with_reducible refine am_ret ?_ | with_reducible refine And.intro (by first | exact AH.lec_refl _ | assumption | exact AccP.lec (by assumption) | omega) ?_ | with_reducible refine isnE_of (fun hc => ?_) (fun hc => ?_) (fun hc => ?_) | ((first | with_reducible refine gd_not (fun hc => ?_) (fun hc => ?_) | with_reducible refine gd_of (fun hc => ?_) (fun hc => ?_) | with_reducible refine gq_not (fun hc => ?_) (fun hc => ?_) | with_reducible refine gq_of (fun hc => ?_) (fun hc => ?_) | with_reducible refine pickB_of (fun hc => ?_) (fun hc => ?_)) <;> (try simp -implicitDefEqProofs (disch := omega) only [go_sem, eq_self, decide_true, decide_false, Nat.reduceBEq, Nat.reduceAdd, Nat.reduceSub, Nat.reduceMul, Nat.reduceEqDiff, Nat.reduceLeDiff, Nat.reduceLT, Int.reduceLE, Int.reduceLT, Int.reduceToNat, Int.reduceAdd, Int.reduceEq, Int.reduceNeg, AH.put_ne, hc, wrap_id]) <;> (try simp only [reduceCtorEq, decide_eq_true_eq, decide_eq_false_iff_not, Bool.or_eq_true, Bool.and_eq_true, Bool.or_eq_false_iff, Bool.not_eq_true', Bool.not_eq_false', beq_iff_eq] at hc) <;> (try (exfalso; omega))) | ((with_reducible refine alloc_intro (fun ko hko => ?_)) <;> (try have hne := fresh_ne (by assumption) hko) <;> (try simp only [AH.put_none] at hko)) | ((first | (with_reducible refine vapp_accL (by assumption) ?_ (fun v2 H2 hacc hlec => ?_)) | (with_reducible refine vapp_accL (AccP.mono (by assumption) (AccP.le (by assumption))) ?_ (fun v2 H2 hacc hlec => ?_)) | (with_reducible refine vapp_accL (AccP.new (by assumption) (by assumption) _) ?_ (fun v2 H2 hacc hlec => ?_))); · simp only [byteCells_length, List.length_cons, List.length_nil, List.length_map, List.length_append, fldsE_length, blobsE_length, u64sE_length, intsE_length, strsE_length]; omega) | with_reducible refine need_elems (by assumption) ?_ | with_reducible refine vlen_acc (by assumption) ?_ | with_reducible refine need_bytes (by assumption) ?_ | with_reducible refine need_look (by assumption) ?_ | with_reducible refine need_look (look_put (by assumption) (by assumption)) ?_ | with_reducible refine need_look (look_lec (by assumption) (by assumption)) ?_ | with_reducible refine need_look (look_put (AH.put_same _ _ _) (by assumption)) ?_ | with_reducible refine need_look (look_lec (AH.put_same _ _ _) (by assumption)) ?_ | with_reducible refine need_look (look_put (look_put (by assumption) (by assumption)) (by assumption)) ?_ | with_reducible refine need_look (look_lec (look_put (by assumption) (by assumption)) (by assumption)) ?_ | with_reducible refine need_look (look_put (look_lec (by assumption) (by assumption)) (by assumption)) ?_ | with_reducible refine need_look (look_lec (look_lec (by assumption) (by assumption)) (by assumption)) ?_ | with_reducible refine need_look (look_put (look_put (AH.put_same _ _ _) (by assumption)) (by assumption)) ?_ | with_reducible refine need_look (look_lec (look_put (AH.put_same _ _ _) (by assumption)) (by assumption)) ?_ | with_reducible refine need_look (look_put (look_lec (AH.put_same _ _ _) (by assumption)) (by assumption)) ?_ | with_reducible refine need_look (look_lec (look_lec (AH.put_same _ _ _) (by assumption)) (by assumption)) ?_) <;> (try simp -implicitDefEqProofs (disch := omega) only [go_sem, eq_self, decide_true, decide_false, Nat.reduceBEq, Nat.reduceAdd, Nat.reduceSub, Nat.reduceMul, Nat.reduceEqDiff, Nat.reduceLeDiff, Nat.reduceLT, Int.reduceLE, Int.reduceLT, Int.reduceToNat, Int.reduceAdd, Int.reduceEq, Int.reduceNeg, AH.put_ne, wrap_id])))
  · repeat' (first | with_reducible refine am_seq ?_ | with_reducible refine am_block ?_ | ((with_reducible apply am_cond); (case hb => rfl); all_goals (intro hc; (try simp only [reduceCtorEq, decide_eq_true_eq, decide_eq_false_iff_not, Bool.or_eq_true, Bool.and_eq_true, Bool.or_eq_false_iff, Bool.not_eq_true', Bool.not_eq_false', beq_iff_eq] at hc); (try (exfalso; omega)))) | ((first | with_reducible refine am_reg ?_ | with_reducible refine am_drw ?_ | with_reducible refine am_skip ?_ | with_reducible refine am_exit ?_ | with_reducible refine am_ret ?_ | with_reducible refine And.intro (by first | exact AH.lec_refl _ | assumption | exact AccP.lec (by assumption) | omega) ?_ | with_reducible refine isnE_of (fun hc => ?_) (fun hc => ?_) (fun hc => ?_) | ((first | with_reducible refine gd_not (fun hc => ?_) (fun hc => ?_) | with_reducible refine gd_of (fun hc => ?_) (fun hc => ?_) | with_reducible refine gq_not (fun hc => ?_) (fun hc => ?_) | with_reducible refine gq_of (fun hc => ?_) (fun hc => ?_) | with_reducible refine pickB_of (fun hc => ?_) (fun hc => ?_)) <;> (try simp -implicitDefEqProofs (disch := omega) only [go_sem, eq_self, decide_true, decide_false, Nat.reduceBEq, Nat.reduceAdd, Nat.reduceSub, Nat.reduceMul, Nat.reduceEqDiff, Nat.reduceLeDiff, Nat.reduceLT, Int.reduceLE, Int.reduceLT, Int.reduceToNat, Int.reduceAdd, Int.reduceEq, Int.reduceNeg, AH.put_ne, hc, wrap_id, hg]) <;> (try simp only [reduceCtorEq, decide_eq_true_eq, decide_eq_false_iff_not, Bool.or_eq_true, Bool.and_eq_true, Bool.or_eq_false_iff, Bool.not_eq_true', Bool.not_eq_false', beq_iff_eq] at hc) <;> (try (exfalso; omega))) | ((with_reducible refine alloc_intro (fun ko hko => ?_)) <;> (try have hne := fresh_ne (by assumption) hko) <;> (try simp only [AH.put_none] at hko)) | ((first | (with_reducible refine vapp_accL (by assumption) ?_ (fun v2 H2 hacc hlec => ?_)) | (with_reducible refine vapp_accL (AccP.mono (by assumption) (AccP.le (by assumption))) ?_ (fun v2 H2 hacc hlec => ?_)) | (with_reducible refine vapp_accL (AccP.new (by assumption) (by assumption) _) ?_ (fun v2 H2 hacc hlec => ?_))); · simp only [byteCells_length, List.length_cons, List.length_nil, List.length_map, List.length_append, fldsE_length, blobsE_length, u64sE_length, intsE_length, strsE_length]; omega) | with_reducible refine need_elems (by assumption) ?_ | with_reducible refine vlen_acc (by assumption) ?_ | with_reducible refine need_bytes (by assumption) ?_ | (first | with_reducible refine call_of (fgreat_calls hl) ?_ | with_reducible refine qcall_of (fgreat_calls hl) ?_) | (first | with_reducible refine call_of (awake2_calls) ?_ | with_reducible refine qcall_of (awake2_calls) ?_) | with_reducible refine need_look (by assumption) ?_ | with_reducible refine need_look (look_put (by assumption) (by assumption)) ?_ | with_reducible refine need_look (look_lec (by assumption) (by assumption)) ?_ | with_reducible refine need_look (look_put (AH.put_same _ _ _) (by assumption)) ?_ | with_reducible refine need_look (look_lec (AH.put_same _ _ _) (by assumption)) ?_ | with_reducible refine need_look (look_put (look_put (by assumption) (by assumption)) (by assumption)) ?_ | with_reducible refine need_look (look_lec (look_put (by assumption) (by assumption)) (by assumption)) ?_ | with_reducible refine need_look (look_put (look_lec (by assumption) (by assumption)) (by assumption)) ?_ | with_reducible refine need_look (look_lec (look_lec (by assumption) (by assumption)) (by assumption)) ?_ | with_reducible refine need_look (look_put (look_put (AH.put_same _ _ _) (by assumption)) (by assumption)) ?_ | with_reducible refine need_look (look_lec (look_put (AH.put_same _ _ _) (by assumption)) (by assumption)) ?_ | with_reducible refine need_look (look_put (look_lec (AH.put_same _ _ _) (by assumption)) (by assumption)) ?_ | with_reducible refine need_look (look_lec (look_lec (AH.put_same _ _ _) (by assumption)) (by assumption)) ?_) <;> (try simp -implicitDefEqProofs (disch := omega) only [go_sem, eq_self, decide_true, decide_false, Nat.reduceBEq, Nat.reduceAdd, Nat.reduceSub, Nat.reduceMul, Nat.reduceEqDiff, Nat.reduceLeDiff, Nat.reduceLT, Int.reduceLE, Int.reduceLT, Int.reduceToNat, Int.reduceAdd, Int.reduceEq, Int.reduceNeg, AH.put_ne, wrap_id, hg])))
    all_goals exact drop_end (fun _ _ h => h) (AH.le_refl _)
end Go.Proofs.Ytmomncmddejcoaa
