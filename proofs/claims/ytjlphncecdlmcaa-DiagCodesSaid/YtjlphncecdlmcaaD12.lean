/- Of the walks of this seat: contracts of functions of the given program, proved over the abstract values of the texts Vm. Conditions: as each theorem says. -/
import Derived.Test.YtjlphncecdlmcaaNH
import Derived.Test.YtjlphncecdlmcaaVm36
set_option linter.unusedVariables false
set_option linter.unusedSimpArgs false
namespace Go.Proofs.Ytjlphncecdlmcaa
open Go.Vm
attribute [local go_sem] eq_self decide_true decide_false AH.put_ne
attribute [local go_sem_proc] Nat.reduceBEq Nat.reduceAdd Nat.reduceSub Nat.reduceMul Nat.reduceEqDiff Nat.reduceLeDiff Nat.reduceLT Int.reduceLE Int.reduceLT Int.reduceToNat Int.reduceAdd Int.reduceEq Int.reduceNeg
attribute [local go_sem] ntsE_get ntsE_length ntC byteCells_get byteCells_length byteCells_take byteCells_drop bytes_cells fldC fldsE_get fldsE_length List.drop_zero bytesOf_cells toNat_succ Nat.sub_zero Int.toNat_natCast Option.map_some Int.natCast_nonneg decide_eq_true_eq decide_eq_false_iff_not
/- flange/flangelaw13.DiagCodes -/
abbrev k7_0 : MC :=
 .cond (.t 34) ((.seq (.reg [
 ⟨some 35, none, .call 16 []⟩,
 ⟨some 4, none, .val (.mv (.t 35))⟩] [4]) (.ret))) (.skip)
abbrev k7_1 : MC :=
 .cond (.t 37) (.skip) (.exit 0)
abbrev k7_2 : MC :=
 .cond (.t 43) (.skip) (.exit 2)
abbrev k7_3 : MC :=
 .reg [
 ⟨some 65, none, .val (.mv (.t 6))⟩,
 ⟨some 66, none, .val (.mv (.t 0))⟩,
 ⟨some 67, none, .val (.mv (.t 8))⟩,
 ⟨some 68, none, .val (.iaddr 2 (.t 66) (.t 67))⟩,
 ⟨some 69, none, .val (.load true 2 (.t 68))⟩,
 ⟨some 70, none, .bslice 2 1 [(.bool false), (.str [])] [(0, 2, (.t 69))]⟩,
 ⟨some 71, none, .app 2 24 (.t 65) (.t 70)⟩,
 ⟨some 6, none, .val (.mv (.t 71))⟩] [0, 1, 5, 6, 7, 8]
abbrev k7_4 : MC :=
 .cond (.t 53) ((.seq (.reg [
 ⟨some 54, none, .val (.mv (.t 5))⟩,
 ⟨some 55, none, .val (.mv (.t 7))⟩,
 ⟨some 56, none, .val (.mv (.t 0))⟩,
 ⟨some 57, none, .val (.mv (.t 8))⟩,
 ⟨some 58, none, .val (.iaddr 2 (.t 56) (.t 57))⟩,
 ⟨some 59, none, .val (.faddr 1 (.t 58))⟩,
 ⟨some 60, none, .val (.load false 1 (.t 59))⟩,
 ⟨some 61, none, .s2b (.t 60)⟩,
 ⟨some 62, none, .build [(.int .i64 0), (.bool false), (.int .u64 0), .nilSl] [(0, 1, (.t 55)), (1, 1, (.c (.bool true))), (3, 1, (.t 61))]⟩,
 ⟨some 63, none, .bslice 4 1 [(.int .i64 0), (.bool false), (.int .u64 0), .nilSl] [(0, 4, (.t 62))]⟩,
 ⟨some 64, none, .app 4 48 (.t 54) (.t 63)⟩,
 ⟨some 5, none, .val (.mv (.t 64))⟩] [0, 1, 5, 6, 7, 8]) k7_3)) (.skip)
abbrev k7_5 : MC :=
 .reg [
 ⟨some 44, none, .val (.mv (.t 8))⟩,
 ⟨some 45, none, .val (.bin .add .num (.t 44) (.c (.int .i64 1)))⟩,
 ⟨some 8, none, .val (.mv (.t 45))⟩] [0, 1, 5, 6, 7, 8]
abbrev k7_6 : MC :=
 (.seq (.block 3 ((.seq (.reg [
 ⟨some 46, none, .val (.mv (.t 0))⟩,
 ⟨some 47, none, .val (.mv (.t 8))⟩,
 ⟨some 48, none, .val (.iaddr 2 (.t 46) (.t 47))⟩,
 ⟨some 49, none, .val (.faddr 0 (.t 48))⟩,
 ⟨some 50, none, .val (.load false 1 (.t 49))⟩,
 ⟨some 51, none, .val (.mv (.t 7))⟩,
 ⟨some 52, none, .val (.bin .eql .num (.t 51) (.c (.int .i64 1)))⟩,
 ⟨some 53, none, .val (.bin .eql .bool (.t 50) (.t 52))⟩] [0, 1, 5, 6, 7, 8, 53]) k7_4))) k7_5)
abbrev k7_7 : MC :=
 (.seq ((.seq (.reg [
 ⟨some 40, none, .val (.mv (.t 8))⟩,
 ⟨some 41, none, .val (.mv (.t 0))⟩,
 ⟨some 42, none, .val (.len .sl (.t 41))⟩,
 ⟨some 43, none, .val (.bin .lss .num (.t 40) (.t 42))⟩] [0, 1, 5, 6, 7, 8, 43]) k7_2)) k7_6)
abbrev k7_8 : MC :=
 .block 2 (.loop k7_7)
abbrev k7_9 : MC :=
 .reg [
 ⟨some 38, none, .val (.mv (.t 7))⟩,
 ⟨some 39, none, .val (.bin .add .num (.t 38) (.c (.int .i64 1)))⟩,
 ⟨some 7, none, .val (.mv (.t 39))⟩] [0, 1, 5, 6, 7]
abbrev k7_10 : MC :=
 (.seq (.block 1 ((.seq (.reg [
 ⟨some 8, none, .val (.mv (.c (.int .i64 0)))⟩] [0, 1, 5, 6, 7, 8]) k7_8))) k7_9)
abbrev k7_11 : MC :=
 (.seq ((.seq (.reg [
 ⟨some 36, none, .val (.mv (.t 7))⟩,
 ⟨some 37, none, .val (.bin .leq .num (.t 36) (.c (.int .i64 2)))⟩] [0, 1, 5, 6, 7, 37]) k7_1)) k7_10)
abbrev k7_12 : MC :=
 .block 0 (.loop k7_11)
abbrev k7_13 : MC :=
 .cond (.t 107) ((.seq (.reg [
 ⟨some 4, none, .val (.mv (.c (.bool false)))⟩] [4]) (.ret))) (.skip)
abbrev k7_14 : MC :=
 .cond (.t 120) (.skip) (.exit 4)
abbrev k7_15 : MC :=
 .cond (.t 142) ((.seq (.reg [
 ⟨some 4, none, .val (.mv (.c (.bool false)))⟩] [4]) (.ret))) (.skip)
abbrev k7_16 : MC :=
 .reg [
 ⟨some 121, none, .val (.mv (.t 15))⟩,
 ⟨some 122, none, .val (.bin .add .num (.t 121) (.c (.int .i64 1)))⟩,
 ⟨some 15, none, .val (.mv (.t 122))⟩] [1, 6, 12, 13, 14, 15]
abbrev k7_17 : MC :=
 (.seq (.block 5 ((.seq (.drw [
 ⟨some 123, none, .val (.mv (.t 14))⟩,
 ⟨some 124, none, .val (.bin .neq .num (.t 123) (.c (.int .i64 0)))⟩,
 ⟨some 125, none, .val (.mv (.t 124))⟩,
 ⟨some 126, (some (125, false)), .val (.mv (.t 13))⟩,
 ⟨some 127, (some (125, false)), .val (.len .sl (.t 126))⟩,
 ⟨some 128, (some (125, false)), .val (.mv (.t 6))⟩,
 ⟨some 129, (some (125, false)), .val (.len .sl (.t 128))⟩,
 ⟨some 130, (some (125, false)), .val (.bin .neq .num (.t 127) (.t 129))⟩,
 ⟨some 131, none, .val (.pick (.t 125) (.c (.bool true)) (.t 130))⟩,
 ⟨some 132, none, .val (.mv (.t 131))⟩,
 ⟨some 133, (some (132, false)), .val (.mv (.t 13))⟩,
 ⟨some 134, (some (132, false)), .val (.mv (.t 15))⟩,
 ⟨some 135, (some (132, false)), .val (.iaddr 2 (.t 133) (.t 134))⟩,
 ⟨some 136, (some (132, false)), .val (.load true 2 (.t 135))⟩,
 ⟨some 137, (some (132, false)), .val (.mv (.t 6))⟩,
 ⟨some 138, (some (132, false)), .val (.mv (.t 15))⟩,
 ⟨some 139, (some (132, false)), .val (.iaddr 2 (.t 137) (.t 138))⟩,
 ⟨some 140, (some (132, false)), .val (.load true 2 (.t 139))⟩,
 ⟨some 141, (some (132, false)), .val (.bin .neq (.cells [.bool, .str]) (.t 136) (.t 140))⟩,
 ⟨some 142, none, .val (.pick (.t 132) (.c (.bool true)) (.t 141))⟩] [
] [1, 6, 12, 13, 14, 15, 142]) k7_15))) k7_16)
abbrev k7_18 : MC :=
 (.seq ((.seq (.reg [
 ⟨some 113, none, .val (.mv (.t 15))⟩,
 ⟨some 114, none, .val (.mv (.t 6))⟩,
 ⟨some 115, none, .val (.len .sl (.t 114))⟩,
 ⟨some 116, none, .val (.bin .lss .num (.t 113) (.t 115))⟩,
 ⟨some 117, none, .val (.mv (.t 116))⟩,
 ⟨some 118, (some (117, true)), .val (.mv (.t 12))⟩,
 ⟨some 119, (some (117, true)), .val (.bin .eql .num (.t 118) (.c (.int .i64 0)))⟩,
 ⟨some 120, none, .val (.pick (.t 117) (.t 119) (.c (.bool false)))⟩] [1, 6, 12, 13, 14, 15, 120]) k7_14)) k7_17)
abbrev k7_19 : MC :=
 .block 4 (.loop k7_18)
abbrev k7_20 : MC :=
 .cond (.t 159) (.skip) (.exit 6)
abbrev k7_21 : MC :=
 .reg [
 ⟨some 160, none, .val (.mv (.t 22))⟩,
 ⟨some 161, none, .val (.bin .add .num (.t 160) (.c (.int .i64 1)))⟩,
 ⟨some 22, none, .val (.mv (.t 161))⟩] [16, 17, 18, 21, 22]
abbrev k7_22 : MC :=
 (.seq (.block 7 (.reg [
 ⟨some 162, none, .val (.mv (.t 21))⟩,
 ⟨some 163, none, .val (.mv (.t 162))⟩,
 ⟨some 164, (some (163, true)), .val (.mv (.t 18))⟩,
 ⟨some 165, (some (163, true)), .val (.mv (.t 22))⟩,
 ⟨some 166, (some (163, true)), .val (.iaddr 4 (.t 164) (.t 165))⟩,
 ⟨some 167, (some (163, true)), .val (.faddr 1 (.t 166))⟩,
 ⟨some 168, (some (163, true)), .val (.load false 1 (.t 167))⟩,
 ⟨some 169, none, .val (.pick (.t 163) (.t 168) (.c (.bool false)))⟩,
 ⟨some 170, none, .val (.mv (.t 169))⟩,
 ⟨some 171, (some (170, true)), .val (.mv (.t 18))⟩,
 ⟨some 172, (some (170, true)), .val (.mv (.t 22))⟩,
 ⟨some 173, (some (170, true)), .val (.iaddr 4 (.t 171) (.t 172))⟩,
 ⟨some 174, (some (170, true)), .val (.faddr 0 (.t 173))⟩,
 ⟨some 175, (some (170, true)), .val (.load false 1 (.t 174))⟩,
 ⟨some 176, (some (170, true)), .val (.bin .leq .num (.t 175) (.c (.int .i64 2)))⟩,
 ⟨some 177, none, .val (.pick (.t 170) (.t 176) (.c (.bool false)))⟩,
 ⟨some 21, none, .val (.mv (.t 177))⟩] [16, 17, 18, 21, 22])) k7_21)
abbrev k7_23 : MC :=
 (.seq ((.seq (.reg [
 ⟨some 156, none, .val (.mv (.t 22))⟩,
 ⟨some 157, none, .val (.mv (.t 18))⟩,
 ⟨some 158, none, .val (.len .sl (.t 157))⟩,
 ⟨some 159, none, .val (.bin .lss .num (.t 156) (.t 158))⟩] [16, 17, 18, 21, 22, 159]) k7_20)) k7_22)
abbrev k7_24 : MC :=
 .block 6 (.loop k7_23)
abbrev k7_25 : MC :=
 .cond (.t 179) ((.seq (.reg [
 ⟨some 180, none, .val (.mv (.t 16))⟩,
 ⟨some 181, none, .val (.len .sl (.t 180))⟩,
 ⟨some 182, none, .val (.bin .eql .num (.t 181) (.c (.int .i64 0)))⟩,
 ⟨some 183, none, .val (.mv (.t 182))⟩,
 ⟨some 184, (some (183, true)), .val (.mv (.t 17))⟩,
 ⟨some 185, (some (183, true)), .val (.bin .eql .num (.t 184) (.c (.int .i64 4)))⟩,
 ⟨some 186, none, .val (.pick (.t 183) (.t 185) (.c (.bool false)))⟩,
 ⟨some 4, none, .val (.mv (.t 186))⟩] [4]) (.ret))) (.skip)
abbrev k7_26 : MC :=
 .cond (.t 190) (.skip) (.exit 8)
abbrev k7_27 : MC :=
 .cond (.t 217) ((.seq (.reg [
 ⟨some 4, none, .val (.mv (.c (.bool false)))⟩] [4]) (.ret))) (.skip)
abbrev k7_28 : MC :=
 .reg [
 ⟨some 191, none, .val (.mv (.t 23))⟩,
 ⟨some 192, none, .val (.bin .add .num (.t 191) (.c (.int .i64 1)))⟩,
 ⟨some 23, none, .val (.mv (.t 192))⟩] [16, 17, 18, 23]
abbrev k7_29 : MC :=
 (.seq (.block 9 ((.seq (.drw [
 ⟨some 193, none, .val (.mv (.t 16))⟩,
 ⟨some 194, none, .val (.len .sl (.t 193))⟩,
 ⟨some 195, none, .val (.mv (.t 18))⟩,
 ⟨some 196, none, .val (.len .sl (.t 195))⟩,
 ⟨some 197, none, .val (.bin .neq .num (.t 194) (.t 196))⟩,
 ⟨some 198, none, .val (.mv (.t 197))⟩,
 ⟨some 199, (some (198, false)), .val (.mv (.t 16))⟩,
 ⟨some 200, (some (198, false)), .val (.mv (.t 23))⟩,
 ⟨some 201, (some (198, false)), .val (.iaddr 2 (.t 199) (.t 200))⟩,
 ⟨some 202, (some (198, false)), .val (.load true 2 (.t 201))⟩,
 ⟨some 203, (some (198, false)), .val (.mv (.t 18))⟩,
 ⟨some 204, (some (198, false)), .val (.mv (.t 23))⟩,
 ⟨some 205, (some (198, false)), .val (.iaddr 4 (.t 203) (.t 204))⟩,
 ⟨some 206, (some (198, false)), .val (.faddr 0 (.t 205))⟩,
 ⟨some 207, (some (198, false)), .val (.load false 1 (.t 206))⟩,
 ⟨some 208, (some (198, false)), .val (.bin .eql .num (.t 207) (.c (.int .i64 1)))⟩,
 ⟨some 209, (some (198, false)), .val (.mv (.t 18))⟩,
 ⟨some 210, (some (198, false)), .val (.mv (.t 23))⟩,
 ⟨some 211, (some (198, false)), .val (.iaddr 4 (.t 209) (.t 210))⟩,
 ⟨some 212, (some (198, false)), .val (.faddr 3 (.t 211))⟩,
 ⟨some 213, (some (198, false)), .val (.load false 1 (.t 212))⟩,
 ⟨some 214, (some (198, false)), .val (.b2s (.t 213))⟩,
 ⟨some 215, (some (198, false)), .build [(.bool false), (.str [])] [(0, 1, (.t 208)), (1, 1, (.t 214))]⟩,
 ⟨some 216, (some (198, false)), .val (.bin .neq (.cells [.bool, .str]) (.t 202) (.t 215))⟩,
 ⟨some 217, none, .val (.pick (.t 198) (.c (.bool true)) (.t 216))⟩] [
] [16, 17, 18, 23, 217]) k7_27))) k7_28)
abbrev k7_30 : MC :=
 (.seq ((.seq (.reg [
 ⟨some 187, none, .val (.mv (.t 23))⟩,
 ⟨some 188, none, .val (.mv (.t 18))⟩,
 ⟨some 189, none, .val (.len .sl (.t 188))⟩,
 ⟨some 190, none, .val (.bin .lss .num (.t 187) (.t 189))⟩] [16, 17, 18, 23, 190]) k7_26)) k7_29)
abbrev k7_31 : MC :=
 .block 8 (.loop k7_30)
abbrev k7_32 : MC :=
 (.seq (.reg [
 ⟨some 218, none, .val (.mv (.t 17))⟩,
 ⟨some 219, none, .val (.bin .eql .num (.t 218) (.c (.int .i64 0)))⟩,
 ⟨some 220, none, .val (.mv (.t 219))⟩,
 ⟨some 221, (some (220, true)), .val (.mv (.t 16))⟩,
 ⟨some 222, (some (220, true)), .val (.len .sl (.t 221))⟩,
 ⟨some 223, (some (220, true)), .val (.mv (.t 18))⟩,
 ⟨some 224, (some (220, true)), .val (.len .sl (.t 223))⟩,
 ⟨some 225, (some (220, true)), .val (.bin .eql .num (.t 222) (.t 224))⟩,
 ⟨some 226, none, .val (.pick (.t 220) (.t 225) (.c (.bool false)))⟩,
 ⟨some 4, none, .val (.mv (.t 226))⟩] [4]) (.ret))
abbrev k7_33 : MC :=
 (.seq ((.seq (.reg [
 ⟨some 23, none, .val (.mv (.c (.int .i64 0)))⟩] [16, 17, 18, 23]) k7_31)) k7_32)
abbrev k7_34 : MC :=
 (.seq ((.seq (.reg [
 ⟨some 178, none, .val (.mv (.t 21))⟩,
 ⟨some 179, none, .val (.not (.t 178))⟩] [16, 17, 18, 179]) k7_25)) k7_33)
abbrev k7_35 : MC :=
 (.seq ((.seq (.reg [
 ⟨some 22, none, .val (.mv (.c (.int .i64 0)))⟩] [16, 17, 18, 21, 22]) k7_24)) k7_34)
abbrev k7_36 : MC :=
 (.seq (.reg [
 ⟨some 154, none, .val (.mv (.t 20))⟩,
 ⟨some 155, none, .val (.bin .eql .num (.t 154) (.c (.int .i64 0)))⟩,
 ⟨some 21, none, .val (.mv (.t 155))⟩] [16, 17, 18, 21]) k7_35)
abbrev k7_37 : MC :=
 (.seq (.reg [
 ⟨some 149, none, .val (.mv (.t 1))⟩,
 ⟨some 150, none, .call 33 [(.t 149)]⟩,
 ⟨some 148, none, .val (.mv (.t 150))⟩,
 ⟨some 151, none, .val (.ext (.t 148) 0)⟩,
 ⟨some 152, none, .val (.ext (.t 148) 1)⟩,
 ⟨some 153, none, .val (.ext (.t 148) 2)⟩,
 ⟨some 18, none, .val (.mv (.t 151))⟩,
 ⟨some 19, none, .val (.mv (.t 152))⟩,
 ⟨some 20, none, .val (.mv (.t 153))⟩] [16, 17, 18, 20]) k7_36)
abbrev k7_38 : MC :=
 (.seq (.reg [
 ⟨some 144, none, .val (.mv (.t 1))⟩,
 ⟨some 145, none, .call 32 [(.t 144)]⟩,
 ⟨some 143, none, .val (.mv (.t 145))⟩,
 ⟨some 146, none, .val (.ext (.t 143) 0)⟩,
 ⟨some 147, none, .val (.ext (.t 143) 1)⟩,
 ⟨some 16, none, .val (.mv (.t 146))⟩,
 ⟨some 17, none, .val (.mv (.t 147))⟩] [1, 16, 17]) k7_37)
abbrev k7_39 : MC :=
 (.seq ((.seq (.reg [
 ⟨some 15, none, .val (.mv (.c (.int .i64 0)))⟩] [1, 6, 12, 13, 14, 15]) k7_19)) k7_38)
abbrev k7_40 : MC :=
 (.seq (.reg [
 ⟨some 109, none, .val (.mv (.t 9))⟩,
 ⟨some 110, none, .call 32 [(.t 109)]⟩,
 ⟨some 108, none, .val (.mv (.t 110))⟩,
 ⟨some 111, none, .val (.ext (.t 108) 0)⟩,
 ⟨some 112, none, .val (.ext (.t 108) 1)⟩,
 ⟨some 13, none, .val (.mv (.t 111))⟩,
 ⟨some 14, none, .val (.mv (.t 112))⟩] [1, 6, 12, 13, 14]) k7_39)
abbrev k7_41 : MC :=
 (.seq ((.seq (.reg [
 ⟨some 82, none, .val (.mv (.t 12))⟩,
 ⟨some 83, none, .val (.bin .neq .num (.t 82) (.c (.int .i64 0)))⟩,
 ⟨some 84, none, .val (.mv (.t 83))⟩,
 ⟨some 85, (some (84, true)), .val (.mv (.t 9))⟩,
 ⟨some 86, (some (84, true)), .val (.len .sl (.t 85))⟩,
 ⟨some 87, (some (84, true)), .val (.bin .neq .num (.t 86) (.c (.int .i64 0)))⟩,
 ⟨some 88, (some (84, true)), .val (.mv (.t 87))⟩,
 ⟨some 89, (some (88, false)), .val (.mv (.t 10))⟩,
 ⟨some 90, (some (88, false)), .val (.bin .neq .num (.t 89) (.c (.int .i64 3)))⟩,
 ⟨some 91, (some (84, true)), .val (.pick (.t 88) (.c (.bool true)) (.t 90))⟩,
 ⟨some 92, none, .val (.pick (.t 84) (.t 91) (.c (.bool false)))⟩,
 ⟨some 93, none, .val (.mv (.t 92))⟩,
 ⟨some 94, (some (93, false)), .val (.mv (.t 12))⟩,
 ⟨some 95, (some (93, false)), .val (.bin .eql .num (.t 94) (.c (.int .i64 0)))⟩,
 ⟨some 96, (some (93, false)), .val (.mv (.t 95))⟩,
 ⟨some 97, (some (96, true)), .val (.mv (.t 9))⟩,
 ⟨some 98, (some (96, true)), .val (.b2s (.t 97))⟩,
 ⟨some 99, (some (96, true)), .val (.mv (.t 11))⟩,
 ⟨some 100, (some (96, true)), .val (.b2s (.t 99))⟩,
 ⟨some 101, (some (96, true)), .val (.bin .neq .num (.t 98) (.t 100))⟩,
 ⟨some 102, (some (96, true)), .val (.mv (.t 101))⟩,
 ⟨some 103, (some (102, false)), .val (.mv (.t 10))⟩,
 ⟨some 104, (some (102, false)), .val (.bin .neq .num (.t 103) (.c (.int .i64 0)))⟩,
 ⟨some 105, (some (96, true)), .val (.pick (.t 102) (.c (.bool true)) (.t 104))⟩,
 ⟨some 106, (some (93, false)), .val (.pick (.t 96) (.t 105) (.c (.bool false)))⟩,
 ⟨some 107, none, .val (.pick (.t 93) (.c (.bool true)) (.t 106))⟩] [1, 6, 9, 12, 107]) k7_13)) k7_40)
abbrev k7_42 : MC :=
 (.seq (.reg [
 ⟨some 78, none, .val (.mv (.t 5))⟩,
 ⟨some 79, none, .call 31 [(.t 78)]⟩,
 ⟨some 77, none, .val (.mv (.t 79))⟩,
 ⟨some 80, none, .val (.ext (.t 77) 0)⟩,
 ⟨some 81, none, .val (.ext (.t 77) 1)⟩,
 ⟨some 11, none, .val (.mv (.t 80))⟩,
 ⟨some 12, none, .val (.mv (.t 81))⟩] [1, 6, 9, 10, 11, 12]) k7_41)
abbrev k7_43 : MC :=
 (.seq (.reg [
 ⟨some 73, none, .val (.mv (.t 0))⟩,
 ⟨some 74, none, .call 30 [(.t 73)]⟩,
 ⟨some 72, none, .val (.mv (.t 74))⟩,
 ⟨some 75, none, .val (.ext (.t 72) 0)⟩,
 ⟨some 76, none, .val (.ext (.t 72) 1)⟩,
 ⟨some 9, none, .val (.mv (.t 75))⟩,
 ⟨some 10, none, .val (.mv (.t 76))⟩] [1, 5, 6, 9, 10]) k7_42)
abbrev k7_44 : MC :=
 (.seq ((.seq (.reg [
 ⟨some 7, none, .val (.mv (.c (.int .i64 1)))⟩] [0, 1, 5, 6, 7]) k7_12)) k7_43)
abbrev k7_45 : MC :=
 (.seq (.reg [
 ⟨some 6, none, .val (.mv (.c .nilSl))⟩] [0, 1, 5, 6]) k7_44)
abbrev k7_46 : MC :=
 (.seq (.reg [
 ⟨some 5, none, .val (.mv (.c .nilSl))⟩] [0, 1, 5]) k7_45)
abbrev k7_47 : MC :=
 (.seq ((.seq (.reg [
 ⟨some 24, none, .val (.mv (.t 0))⟩,
 ⟨some 25, none, .call 15 [(.t 24), (.c .nilSl)]⟩,
 ⟨some 26, none, .val (.mv (.t 25))⟩,
 ⟨some 27, (some (26, false)), .val (.mv (.t 1))⟩,
 ⟨some 28, (some (26, false)), .val (.len .sl (.t 27))⟩,
 ⟨some 29, (some (26, false)), .val (.bin .gtr .num (.t 28) (.c (.int .i64 500)))⟩,
 ⟨some 30, none, .val (.pick (.t 26) (.c (.bool true)) (.t 29))⟩,
 ⟨some 31, none, .val (.mv (.t 30))⟩,
 ⟨some 32, (some (31, false)), .call 16 []⟩,
 ⟨some 33, (some (31, false)), .val (.not (.t 32))⟩,
 ⟨some 34, none, .val (.pick (.t 31) (.c (.bool true)) (.t 33))⟩] [0, 1, 34]) k7_0)) k7_46)
abbrev k7 : MC :=
 (.seq (.reg [
 ⟨some 4, none, .val (.mv (.c (.bool false)))⟩] [0, 1]) k7_47)
theorem c7 : Try.f7.body.bind (mcOf Try.prog (List.contains [] ·) (List.getD [([], [0, 1]), ([], [0, 1, 34]), ([], [4]), ([], [0, 1, 5]), ([], [0, 1, 5, 6]), ([], [0, 1, 5, 6, 7]), ([], [0, 1, 5, 6, 7, 37]), ([], [0, 1, 5, 6, 7]), ([], [0, 1, 5, 6, 7, 8]), ([], [0, 1, 5, 6, 7, 8, 43]), ([], [0, 1, 5, 6, 7, 8]), ([], [0, 1, 5, 6, 7, 8, 53]), ([], [0, 1, 5, 6, 7, 8]), ([], [0, 1, 5, 6, 7, 8]), ([], [1, 5, 6, 9, 10]), ([], [1, 6, 9, 10, 11, 12]), ([], [1, 6, 9, 12, 107]), ([], [4]), ([], [1, 6, 12, 13, 14]), ([], [1, 6, 12, 13, 14, 15]), ([], [1, 6, 12, 13, 14, 15, 120]), ([], [1, 6, 12, 13, 14, 15]), ([0, 0, 0, 0, 0, 0, 0, 0, 0, 0, 0, 0, 0, 0, 0, 0, 0, 0, 0, 0], [1, 6, 12, 13, 14, 15, 142]), ([], [4]), ([], [1, 16, 17]), ([], [16, 17, 18, 20]), ([], [16, 17, 18, 21]), ([], [16, 17, 18, 21, 22]), ([], [16, 17, 18, 21, 22, 159]), ([], [16, 17, 18, 21, 22]), ([], [16, 17, 18, 21, 22]), ([], [16, 17, 18, 179]), ([], [4]), ([], [16, 17, 18, 23]), ([], [16, 17, 18, 23, 190]), ([], [16, 17, 18, 23]), ([0, 0, 0, 0, 0, 0, 0, 0, 0, 0, 0, 0, 0, 0, 0, 0, 0, 0, 0, 0, 0, 0, 0, 0, 0], [16, 17, 18, 23, 217]), ([], [4]), ([], [4])] · ([], [])) 227) = some k7 := by kernel_rfl
theorem r7 : rvsOf Try.prog Try.f7.results.toList = some [.tmp 4] := by kernel_rfl
abbrev dcQ (H : AH) : AExit → A → AH → Prop := Body [RV.tmp 4] fun o H' => (∃ u, o = Out.ret u ∧ ∀ (s : St) (x : Value), s.val u x → s.val (V.bool true) x) ∧ H.le H'
theorem dcodes_B {b : List UInt8} {tb : Tok} {H G : AH} (hb : b.length ≤ 500) (hle : H.le G) : AM Try.prog Try.f7.ntmps k7_38 (dcQ H) [(1, .sl 1 (byteCells b) tb)] G := by
  have dc := fun H => ddecode_calls (b := b) (t := tb) (by omega) H
  have rc := fun H => rdecode_calls (b := b) (t := tb) (by omega) H
  have h64 := dec_le b
  have hR : decD b = if (decide ((decS b).2.2 = 0) && (decS b).1.all okN) = true then ((decS b).1.map fn, 0) else ([], 4) := by
    unfold decD
    by_cases h1 : (decS b).2.2 = 0 <;> cases h2 : (decS b).1.all okN <;> simp [h1]
  generalize decD b = D at *
  generalize decS b = E at *
  obtain ⟨L, at_, e⟩ := E
  simp only at hR h64 rc
  repeat' (first | with_reducible (first | refine am_seq ?_ | refine am_block ?_) | ((with_reducible apply am_cond); (case hb => rfl); all_goals (intro hc; (try simp only [reduceCtorEq, bD, beq_iff_eq] at hc); (try (exfalso; omega)))) | ((first | with_reducible (first | refine am_reg ?_ | refine am_drw ?_ | refine am_skip ?_ | refine am_exit ?_ | refine am_ret ?_ | refine vc_intro ?_ | refine need_elems (by assumption) ?_ | refine vlen_acc (by assumption) ?_ | refine need_bytes (by assumption) ?_ | refine call_of (dc) ?_ | refine qcall_of (dc) ?_ | refine call_of (rc) ?_ | refine qcall_of (rc) ?_ | refine need_lk ?_) | ((with_reducible (first | apply gd_not | apply gd_of | apply gq_not | apply gq_of | apply pickB_of)) <;> intro hc <;> (try simp -implicitDefEqProofs (disch := omega) only [go_sem, hc, wrap_id]) <;> (try simp only [reduceCtorEq, bD, beq_iff_eq] at hc) <;> (try (exfalso; omega))) | done) <;> (try simp -implicitDefEqProofs (disch := omega) only [go_sem, wrap_id])))
  refine am_loop (fun n st H' => ∃ i : Nat, i + n = L.length ∧ st = [(16, .sl 2 (ntsE D.1) .no), (17, .int .i64 D.2), (18, .sl 4 (fldsE L) .no), (21, .bool (decide (e = 0) && (L.take i).all okN)), (22, .int .i64 i)] ∧ H' = G) ?_ L.length ⟨0, by omega, by simp, rfl⟩
  rintro n st G2 ⟨i, hi, rfl, rfl⟩
  by_cases hlt : i < L.length
  · have e0 : L.take (i + 1) = L.take i ++ [L[i]] := List.take_succ_eq_append_getElem hlt
    have hget : L[i]? = some L[i] := get_of_lt hlt
    have e2 : (decide (e = 0) && (L.take (i + 1)).all okN) = ((decide (e = 0) && (L.take i).all okN) && okN L[i]) := by rw [e0, List.all_append]; simp [Bool.and_assoc]
    rw [okN] at e2
    generalize L[i] = x at *
    generalize (decide (e = 0) && (L.take i).all okN) = r at *
    cases r <;> cases hby : x.by_ <;> simp only [hby, Bool.false_and, Bool.true_and, Bool.and_false] at e2
    all_goals repeat' (first | with_reducible (first | refine am_seq ?_ | refine am_block ?_) | ((with_reducible apply am_cond); (case hb => rfl); all_goals (intro hc; (try simp only [reduceCtorEq, bD, beq_iff_eq] at hc); (try (exfalso; omega)))) | ((first | with_reducible (first | refine am_reg ?_ | refine am_drw ?_ | refine am_skip ?_ | refine am_exit ?_ | refine am_ret ?_ | refine vc_intro ?_ | refine need_elems (by assumption) ?_ | refine vlen_acc (by assumption) ?_ | refine need_bytes (by assumption) ?_ | refine need_lk ?_) | ((with_reducible (first | apply gd_not | apply gd_of | apply gq_not | apply gq_of | apply pickB_of)) <;> intro hc <;> (try simp -implicitDefEqProofs (disch := omega) only [go_sem, hc, wrap_id, hget, hby]) <;> (try simp only [reduceCtorEq, bD, beq_iff_eq] at hc) <;> (try (exfalso; omega))) | done) <;> (try simp -implicitDefEqProofs (disch := omega) only [go_sem, wrap_id, hget, hby])))
    all_goals exact ⟨n - 1, by omega, i + 1, by omega, by rw [e2]; rfl⟩
  · rw [List.take_of_length_le (by omega)]
    generalize (decide (e = 0) && L.all okN) = r at *
    cases r
    · rw [if_neg (by simp)] at hR
      subst hR
      repeat' (first | with_reducible (first | refine am_seq ?_ | refine am_block ?_) | ((with_reducible apply am_cond); (case hb => rfl); all_goals (intro hc; (try simp only [reduceCtorEq, bD, beq_iff_eq] at hc); (try (exfalso; omega)))) | ((first | with_reducible (first | refine am_reg ?_ | refine am_drw ?_ | refine am_skip ?_ | refine am_exit ?_ | refine am_ret ?_ | refine vc_intro ?_ | refine need_elems (by assumption) ?_ | refine vlen_acc (by assumption) ?_ | refine need_bytes (by assumption) ?_ | refine need_lk ?_) | ((with_reducible (first | apply gd_not | apply gd_of | apply gq_not | apply gq_of | apply pickB_of)) <;> intro hc <;> (try simp -implicitDefEqProofs (disch := omega) only [go_sem, hc, wrap_id]) <;> (try simp only [reduceCtorEq, bD, beq_iff_eq] at hc) <;> (try (exfalso; omega))) | done) <;> (try simp -implicitDefEqProofs (disch := omega) only [go_sem, wrap_id])))
      all_goals exact drop_end (fun _ _ h => h) hle
    · rw [if_pos rfl] at hR
      subst hR
      repeat' (first | with_reducible (first | refine am_seq ?_ | refine am_block ?_) | ((with_reducible apply am_cond); (case hb => rfl); all_goals (intro hc; (try simp only [reduceCtorEq, bD, beq_iff_eq] at hc); (try (exfalso; omega)))) | ((first | with_reducible (first | refine am_reg ?_ | refine am_drw ?_ | refine am_skip ?_ | refine am_exit ?_ | refine am_ret ?_ | refine vc_intro ?_ | refine need_elems (by assumption) ?_ | refine vlen_acc (by assumption) ?_ | refine need_bytes (by assumption) ?_ | refine need_lk ?_) | ((with_reducible (first | apply gd_not | apply gd_of | apply gq_not | apply gq_of | apply pickB_of)) <;> intro hc <;> (try simp -implicitDefEqProofs (disch := omega) only [go_sem, hc, wrap_id]) <;> (try simp only [reduceCtorEq, bD, beq_iff_eq] at hc) <;> (try (exfalso; omega))) | done) <;> (try simp -implicitDefEqProofs (disch := omega) only [go_sem, wrap_id])))
      refine am_loop (fun n st H' => ∃ i : Nat, i + n = L.length ∧ st = [(16, .sl 2 (ntsE (L.map fn)) .no), (17, .int .i64 0), (18, .sl 4 (fldsE L) .no), (23, .int .i64 i)] ∧ H' = G2) ?_ L.length ⟨0, by omega, rfl, rfl⟩
      rintro n2 st G3 ⟨j, hj, rfl, rfl⟩
      by_cases hlt2 : j < L.length
      · have hget : L[j]? = some L[j] := get_of_lt hlt2
        generalize L[j] = x at *
        repeat' (first | with_reducible (first | refine am_seq ?_ | refine am_block ?_) | ((with_reducible apply am_cond); (case hb => rfl); all_goals (intro hc; (try simp only [reduceCtorEq, bD, beq_iff_eq] at hc); (try (exfalso; omega)))) | ((first | with_reducible (first | refine am_reg ?_ | refine am_drw ?_ | refine am_skip ?_ | refine am_exit ?_ | refine am_ret ?_ | refine vc_intro ?_ | refine need_elems (by assumption) ?_ | refine vlen_acc (by assumption) ?_ | refine need_bytes (by assumption) ?_ | refine need_lk ?_) | ((with_reducible (first | apply gd_not | apply gd_of | apply gq_not | apply gq_of | apply pickB_of)) <;> intro hc <;> (try simp -implicitDefEqProofs (disch := omega) only [go_sem, hc, wrap_id, hget, List.length_map, List.getElem?_map, fn]) <;> (try simp only [reduceCtorEq, bD, beq_iff_eq] at hc) <;> (try (exfalso; omega))) | done) <;> (try simp -implicitDefEqProofs (disch := omega) only [go_sem, wrap_id, hget, List.length_map, List.getElem?_map, fn])))
        · rename_i hc; exact absurd hc (by simp)
        · exact ⟨n2 - 1, by omega, j + 1, by omega, rfl⟩
      · repeat' (first | with_reducible (first | refine am_seq ?_ | refine am_block ?_) | ((with_reducible apply am_cond); (case hb => rfl); all_goals (intro hc; (try simp only [reduceCtorEq, bD, beq_iff_eq] at hc); (try (exfalso; omega)))) | ((first | with_reducible (first | refine am_reg ?_ | refine am_drw ?_ | refine am_skip ?_ | refine am_exit ?_ | refine am_ret ?_ | refine vc_intro ?_ | refine need_elems (by assumption) ?_ | refine vlen_acc (by assumption) ?_ | refine need_bytes (by assumption) ?_ | refine need_lk ?_) | ((with_reducible (first | apply gd_not | apply gd_of | apply gq_not | apply gq_of | apply pickB_of)) <;> intro hc <;> (try simp -implicitDefEqProofs (disch := omega) only [go_sem, hc, wrap_id, List.length_map]) <;> (try simp only [reduceCtorEq, bD, beq_iff_eq] at hc) <;> (try (exfalso; omega))) | done) <;> (try simp -implicitDefEqProofs (disch := omega) only [go_sem, wrap_id, List.length_map])))
        all_goals exact drop_end (fun _ _ h => h) hle
theorem fn_nf (x : Nt) : fn (nf x) = x := by
  obtain ⟨e, s⟩ := x
  cases e <;> simp [fn, nf, tagI]
theorem okN_nf (x : Nt) : okN (nf x) = true := by
  obtain ⟨e, s⟩ := x
  cases e <;> simp [okN, nf, tagI]
theorem decD_enc {l : List Nt} (hb : ∀ x ∈ l, x.txt.length < 1000000) (hz : (encS (l.map nf)).2 = 0) : decD (encS (l.map nf)).1 = (l, 0) := by
  have h := dec_enc (l := l.map nf) (fun f hf => by
    obtain ⟨x, hx, rfl⟩ := List.mem_map.1 hf
    have := hb x hx
    exact ⟨by simp [nf], by simp only [nf]; omega⟩) hz
  have h2 : (l.map nf).all okN = true := by
    rw [List.all_map, List.all_eq_true]; exact fun x _ => okN_nf x
  have h3 : (l.map nf).map fn = l := by
    rw [List.map_map]; exact (List.map_congr_left (fun x _ => fn_nf x)).trans (List.map_id l)
  rw [decD, h, if_neg (by simp only [h2]; simp), h3]
theorem dcodes_M {l : List Nt} {b : List UInt8} {t tb : Tok} {H G : AH} (hl : l.length ≤ 30) (hx : ∀ x ∈ l, x.txt.length ≤ 300) (hb : b.length ≤ 500) (hle : H.le G) :
    AM Try.prog Try.f7.ntmps k7_43 (dcQ H) [(0, .sl 2 (ntsE l) t), (1, .sl 1 (byteCells b) tb), (5, .sl 4 (fldsE ((stb l).map nf)) .no), (6, .sl 2 (ntsE (stb l)) .no)] G := by
  have ec := fun G => dencode_calls (l := l) (t := t) (by omega) (fun x h => by have := hx x h; omega) G
  have hxs : ∀ x ∈ stb l, x.txt.length ≤ 300 := fun x h => by
    rcases List.mem_append.1 h with h | h
    · exact hx x (List.mem_filter.1 h).1
    · exact hx x (List.mem_filter.1 h).1
  have rc := fun G => rencode_calls (l := (stb l).map nf) (t := .no) (by rw [List.length_map, stb_length]; omega) (fun f hf => by
    obtain ⟨x, hx, rfl⟩ := List.mem_map.1 hf
    have := hxs x hx
    exact ⟨by simp [nf], by simp only [nf]; omega⟩) G
  have hel := enc_len ((stb l).map nf)
  have hdc := decD_enc (l := stb l) (fun x hx => by have := hxs x hx; omega)
  unfold encD at ec
  have hsl : (stb l).length ≤ 30 := by rw [stb_length]; omega
  generalize stb l = L at *
  by_cases hz : (encS (L.map nf)).2 = 0
  · have dc := fun G => ddecode_calls (b := (encS (L.map nf)).1) (t := .no) (by omega) G
    rw [hdc hz] at dc
    rw [if_neg (by rw [hz]; simp)] at ec
    rw [hz] at rc
    generalize (encS (L.map nf)).1 = c at *
    simp only at ec rc dc
    repeat' (first | with_reducible (first | refine am_seq ?_ | refine am_block ?_) | ((with_reducible apply am_cond); (case hb => rfl); all_goals (intro hc; (try simp only [reduceCtorEq, bD, beq_iff_eq] at hc); (try (exfalso; omega)))) | ((first | with_reducible (first | refine am_reg ?_ | refine am_drw ?_ | refine am_skip ?_ | refine am_exit ?_ | refine am_ret ?_ | refine vc_intro ?_ | refine need_elems (by assumption) ?_ | refine vlen_acc (by assumption) ?_ | refine need_bytes (by assumption) ?_ | refine call_of (ec) ?_ | refine qcall_of (ec) ?_ | refine call_of (rc) ?_ | refine qcall_of (rc) ?_ | refine call_of (dc) ?_ | refine qcall_of (dc) ?_ | refine need_lk ?_) | ((with_reducible (first | apply gd_not | apply gd_of | apply gq_not | apply gq_of | apply pickB_of)) <;> intro hc <;> (try simp -implicitDefEqProofs (disch := omega) only [go_sem, hc, wrap_id, bne_self_eq_false]) <;> (try simp only [reduceCtorEq, bD, beq_iff_eq] at hc) <;> (try (exfalso; omega))) | done) <;> (try simp -implicitDefEqProofs (disch := omega) only [go_sem, wrap_id, bne_self_eq_false])))
    refine am_loop (fun n st H' => ∃ i : Nat, i + n = L.length ∧ st = [(1, .sl 1 (byteCells b) tb), (6, .sl 2 (ntsE L) .no), (12, .int .i64 0), (13, .sl 2 (ntsE L) .no), (14, .int .i64 0), (15, .int .i64 i)] ∧ H.le H') ?_ L.length ⟨0, by omega, rfl, by first | exact hle | assumption⟩
    rintro n st G2 ⟨i, hi, rfl, hle2⟩
    by_cases hlt : i < L.length
    · have hget : L[i]? = some L[i] := get_of_lt hlt
      generalize L[i] = x at *
      repeat' (first | with_reducible (first | refine am_seq ?_ | refine am_block ?_) | ((with_reducible apply am_cond); (case hb => rfl); all_goals (intro hc; (try simp only [reduceCtorEq, bD, beq_iff_eq] at hc); (try (exfalso; omega)))) | ((first | with_reducible (first | refine am_reg ?_ | refine am_drw ?_ | refine am_skip ?_ | refine am_exit ?_ | refine am_ret ?_ | refine vc_intro ?_ | refine need_elems (by assumption) ?_ | refine vlen_acc (by assumption) ?_ | refine need_bytes (by assumption) ?_ | refine need_lk ?_) | ((with_reducible (first | apply gd_not | apply gd_of | apply gq_not | apply gq_of | apply pickB_of)) <;> intro hc <;> (try simp -implicitDefEqProofs (disch := omega) only [go_sem, hc, wrap_id, hget]) <;> (try simp only [reduceCtorEq, bD, beq_iff_eq] at hc) <;> (try (exfalso; omega))) | done) <;> (try simp -implicitDefEqProofs (disch := omega) only [go_sem, wrap_id, hget])))
      · rename_i hc; exact absurd hc (by simp)
      · exact ⟨n - 1, by omega, i + 1, by omega, rfl, hle2⟩
    · repeat' (first | (((with_reducible refine AM.sub (dcodes_B (tb := tb) hb hle2) ?_); exact sup_get _ ⟨rfl, trivial⟩)) | with_reducible (first | refine am_seq ?_ | refine am_block ?_) | ((with_reducible apply am_cond); (case hb => rfl); all_goals (intro hc; (try simp only [reduceCtorEq, bD, beq_iff_eq] at hc); (try (exfalso; omega)))) | ((first | with_reducible (first | refine am_reg ?_ | refine am_drw ?_ | refine am_skip ?_ | refine am_exit ?_ | refine am_ret ?_ | refine vc_intro ?_ | refine need_elems (by assumption) ?_ | refine vlen_acc (by assumption) ?_ | refine need_bytes (by assumption) ?_ | refine need_lk ?_) | ((with_reducible (first | apply gd_not | apply gd_of | apply gq_not | apply gq_of | apply pickB_of)) <;> intro hc <;> (try simp -implicitDefEqProofs (disch := omega) only [go_sem, hc, wrap_id]) <;> (try simp only [reduceCtorEq, bD, beq_iff_eq] at hc) <;> (try (exfalso; omega))) | done) <;> (try simp -implicitDefEqProofs (disch := omega) only [go_sem, wrap_id])))
  · have dc := fun G => ddecode_calls (b := []) (t := .no) (by simp) G
    rw [if_pos hz] at ec
    generalize decD [] = D at *
    simp only [byteCells, List.map_nil] at ec dc
    repeat' (first | with_reducible (first | refine am_seq ?_ | refine am_block ?_) | ((with_reducible apply am_cond); (case hb => rfl); all_goals (intro hc; (try simp only [reduceCtorEq, bD, beq_iff_eq] at hc); (try (exfalso; omega)))) | ((first | with_reducible (first | refine am_reg ?_ | refine am_drw ?_ | refine am_skip ?_ | refine am_exit ?_ | refine am_ret ?_ | refine vc_intro ?_ | refine need_elems (by assumption) ?_ | refine vlen_acc (by assumption) ?_ | refine need_bytes (by assumption) ?_ | refine call_of (ec) ?_ | refine qcall_of (ec) ?_ | refine call_of (rc) ?_ | refine qcall_of (rc) ?_ | refine call_of (dc) ?_ | refine qcall_of (dc) ?_ | refine need_lk ?_) | ((with_reducible (first | apply gd_not | apply gd_of | apply gq_not | apply gq_of | apply pickB_of)) <;> intro hc <;> (try simp -implicitDefEqProofs (disch := omega) only [go_sem, hc, wrap_id, hz]) <;> (try simp only [reduceCtorEq, bD, beq_iff_eq] at hc) <;> (try (exfalso; omega))) | done) <;> (try simp -implicitDefEqProofs (disch := omega) only [go_sem, wrap_id, hz])))
    refine am_loop (fun n st H' => st = [(1, .sl 1 (byteCells b) tb), (6, .sl 2 (ntsE L) .no), (12, .int .i64 (encS (L.map nf)).2), (13, .sl 2 (ntsE D.1) .no), (14, .int .i64 D.2), (15, .int .i64 0)] ∧ H.le H') ?_ 0 ⟨rfl, by first | exact hle | assumption⟩
    rintro n st G2 ⟨rfl, hle2⟩
    repeat' (first | (((with_reducible refine AM.sub (dcodes_B (tb := tb) hb hle2) ?_); exact sup_get _ ⟨rfl, trivial⟩)) | with_reducible (first | refine am_seq ?_ | refine am_block ?_) | ((with_reducible apply am_cond); (case hb => rfl); all_goals (intro hc; (try simp only [reduceCtorEq, bD, beq_iff_eq] at hc); (try (exfalso; omega)))) | ((first | with_reducible (first | refine am_reg ?_ | refine am_drw ?_ | refine am_skip ?_ | refine am_exit ?_ | refine am_ret ?_ | refine vc_intro ?_ | refine need_elems (by assumption) ?_ | refine vlen_acc (by assumption) ?_ | refine need_bytes (by assumption) ?_ | refine need_lk ?_) | ((with_reducible (first | apply gd_not | apply gd_of | apply gq_not | apply gq_of | apply pickB_of)) <;> intro hc <;> (try simp -implicitDefEqProofs (disch := omega) only [go_sem, hc, wrap_id, hz]) <;> (try simp only [reduceCtorEq, bD, beq_iff_eq] at hc) <;> (try (exfalso; omega))) | done) <;> (try simp -implicitDefEqProofs (disch := omega) only [go_sem, wrap_id, hz])))
theorem vapp_acc2 {H0 H : AH} {sz sz2 b : Nat} {es fs es2 : List (List V)} {v w : V} {K : V → AH → Prop} (h : AccP H0 sz es v H) (h2 : AccP H0 sz2 es2 w H) (hne : sz ≠ sz2) (hb : (es.length + fs.length) * b ≤ 140737488355328)
    (hk : ∀ v2 H2, AccP H0 sz (es ++ fs) v2 H2 → AccP H0 sz2 es2 w H2 → K v2 H2) : vapp H sz b fs K v := by
  obtain ⟨hl2, h2⟩ := h2
  have keep : ∀ (i : Nat) (p : AObj), (H i = none ∨ (H i = some (.top sz es.length) ∧ H0 i = none)) → AccP H0 sz2 es2 w (H.put i p) := fun i p hi => by
    have hi0 : H0 i = none := by
      rcases hi with hi | hi
      · exact none_of_le hl2 hi
      · exact hi.2
    refine ⟨AH.le_put hl2 hi0 _, ?_⟩
    rcases h2 with h2 | ⟨k, h3, h4, h5⟩
    · exact .inl h2
    · refine .inr ⟨k, h3, h4, ?_⟩
      have hki : k ≠ i := by
        rintro rfl
        rcases hi with hi | hi
        · rw [hi] at h5; cases h5
        · rw [hi.1] at h5
          simp only [Option.some.injEq, AObj.top.injEq] at h5
          exact hne h5.1
      exact look_ne hki h5
  rcases h with ⟨hl, ⟨rfl, rfl⟩ | ⟨k, hn, rfl, ht⟩⟩
  · exact ⟨by simpa using hb, fun i hi => hk _ _ (AccP.fresh hl hi) (keep i _ (.inl hi))⟩
  · simp only [vapp, ht, need_some]
    exact ⟨⟨trivial, trivial, trivial, hb⟩, hk _ _ ⟨AH.le_put hl hn _, .inr ⟨k, hn, rfl, by rw [AH.put_same, List.length_append]⟩⟩ (keep k _ (.inr ⟨ht, hn⟩))⟩
def selT (T : Int) (l : List Nt) : List Nt := l.filter (fun x => x.err == decide (T = 1))
def preT (T : Int) (l : List Nt) : List Nt := if T = 1 then [] else if T = 2 then ers l else stb l
theorem preT_next (T : Int) (l : List Nt) (h : T = 1 ∨ T = 2) : preT T l ++ selT T l = preT (T + 1) l := by
  rcases h with rfl | rfl
  · have : selT 1 l = ers l := List.filter_congr (fun x _ => by cases x.err <;> rfl)
    rw [this]; rfl
  · have : selT 2 l = wns l := List.filter_congr (fun x _ => by cases x.err <;> rfl)
    rw [this]; rfl
theorem selT_snoc {T : Int} {l : List Nt} {i : Nat} (h : i < l.length) : selT T (l.take (i + 1)) = selT T (l.take i) ++ (if (l[i].err == decide (T = 1)) = true then [l[i]] else []) := by
  rw [List.take_succ_eq_append_getElem h, selT, List.filter_append]
  cases hh : (l[i].err == decide (T = 1)) <;> simp [selT, hh]
theorem dcodes_calls {l : List Nt} {b : List UInt8} {t tb : Tok} (hl : l.length < 9223372036854775808) (hbl : b.length < 9223372036854775808) (H : AH) :
    ACalls Try.prog 7 [.sl 2 (ntsE l) t, .sl 1 (byteCells b) tb] H (fun o H' => o = .ret (.bool true) ∧ H' = H) := by
  refine ACalls.drop ?_
  refine acalls Try.func7 c7 r7 (by simp [Try.ntmps7]) ?_
  have gc := fun G => ACalls.sub (fun s => .cons (fun _ h => h) (.cons nil_arg .nil)) (great_calls (l := l) (ss := []) (t := t) (k := .no) hl (by simp) G)
  cases hg : greatN l []
  · obtain ⟨s1, s2⟩ : l.length ≤ 30 ∧ ∀ x ∈ l, x.txt.length ≤ 300 := by
      simp only [greatN, Bool.or_eq_false_iff, List.any_eq_false, decide_eq_true_eq, decide_eq_false_iff_not] at hg
      exact ⟨by omega, fun x hx => by have := hg.1.1.1 x hx; omega⟩
    by_cases hb : b.length ≤ 500
    · have hb2 : ¬ ((b.length : Int) > 500) := by omega
      repeat' (first | with_reducible (first | refine am_seq ?_ | refine am_block ?_) | ((with_reducible apply am_cond); (case hb => rfl); all_goals (intro hc; (try simp only [reduceCtorEq, bD, beq_iff_eq] at hc); (try (exfalso; omega)))) | ((first | with_reducible (first | refine am_reg ?_ | refine am_drw ?_ | refine am_skip ?_ | refine am_exit ?_ | refine am_ret ?_ | refine vc_intro ?_ | refine need_elems (by assumption) ?_ | refine vlen_acc (by assumption) ?_ | refine need_bytes (by assumption) ?_ | refine call_of (gc) ?_ | refine qcall_of (gc) ?_ | refine call_of (awake_calls) ?_ | refine qcall_of (awake_calls) ?_ | refine need_lk ?_) | ((with_reducible (first | apply gd_not | apply gd_of | apply gq_not | apply gq_of | apply pickB_of)) <;> intro hc <;> (try simp -implicitDefEqProofs (disch := omega) only [go_sem, hc, wrap_id, hg, hb2]) <;> (try simp only [reduceCtorEq, bD, beq_iff_eq] at hc) <;> (try (exfalso; omega))) | ((with_reducible refine alloc_intro (fun ko hko => ?_)) <;> (try have hne := fresh_ne (by assumption) hko) <;> (try have hnk := fresh_ne hk hko) <;> (try have hnk2 := fresh_ne hk2 hko) <;> (try simp only [AH.put_none] at hko)) | ((with_reducible (first | refine vapp_accL (by assumption) ?_ (fun v2 H2 hacc hlec => ?_) | refine vapp_accL (AccP.mono (by assumption) (AccP.le (by assumption))) ?_ (fun v2 H2 hacc hlec => ?_) | refine vapp_accL (AccP.new (by assumption) (by assumption) _) ?_ (fun v2 H2 hacc hlec => ?_))); · simp only [byteCells_length, List.length_cons, List.length_nil, List.length_map, List.length_append, ntsE_length, fldsE_length]; omega) | done) <;> (try simp -implicitDefEqProofs (disch := omega) only [go_sem, wrap_id, hg, hb2])))
      refine am_loop (fun n st H' => ∃ (T : Int) (v w : V), (T = 1 ∨ T = 2 ∨ T = 3) ∧ n = (3 - T).toNat ∧ st = [(0, .sl 2 (ntsE l) t), (1, .sl 1 (byteCells b) tb), (5, v), (6, w), (7, .int .i64 T)] ∧ AccP H 4 (fldsE ((preT T l).map nf)) v H' ∧ AccP H 2 (ntsE (preT T l)) w H') ?_ 2 ⟨1, .nilSl, .nilSl, .inl rfl, rfl, rfl, AccP.nil _ _, AccP.nil _ _⟩
      rintro n st G ⟨T, v, w, hT, rfl, rfl, hv, hw⟩
      by_cases hT3 : T = 3
      · subst hT3
        have hp3 : preT 3 l = stb l := rfl
        rw [hp3] at hv hw
        have dm := dcodes_M (t := t) (tb := tb) s1 s2 hb hv.le
        have dm2 : AM Try.prog Try.f7.ntmps k7_43 (dcQ H) [(0, .sl 2 (ntsE l) t), (1, .sl 1 (byteCells b) tb), (5, v), (6, w)] G := AM.subA dm (fun s => .cons (fun _ h => h) (.cons (fun _ h => h) (.cons (hv.sub s) (.cons (hw.sub s) .nil))))
        repeat' (first | (((with_reducible refine AM.sub dm2 ?_); exact sup_get _ ⟨rfl, rfl, rfl, rfl, trivial⟩)) | with_reducible (first | refine am_seq ?_ | refine am_block ?_) | ((with_reducible apply am_cond); (case hb => rfl); all_goals (intro hc; (try simp only [reduceCtorEq, bD, beq_iff_eq] at hc); (try (exfalso; omega)))) | ((first | with_reducible (first | refine am_reg ?_ | refine am_drw ?_ | refine am_skip ?_ | refine am_exit ?_ | refine am_ret ?_ | refine vc_intro ?_ | refine need_elems (by assumption) ?_ | refine vlen_acc (by assumption) ?_ | refine need_bytes (by assumption) ?_ | refine need_lk ?_) | ((with_reducible (first | apply gd_not | apply gd_of | apply gq_not | apply gq_of | apply pickB_of)) <;> intro hc <;> (try simp -implicitDefEqProofs (disch := omega) only [go_sem, hc, wrap_id]) <;> (try simp only [reduceCtorEq, bD, beq_iff_eq] at hc) <;> (try (exfalso; omega))) | ((with_reducible refine alloc_intro (fun ko hko => ?_)) <;> (try have hne := fresh_ne (by assumption) hko) <;> (try have hnk := fresh_ne hk hko) <;> (try have hnk2 := fresh_ne hk2 hko) <;> (try simp only [AH.put_none] at hko)) | ((with_reducible (first | refine vapp_accL (by assumption) ?_ (fun v2 H2 hacc hlec => ?_) | refine vapp_accL (AccP.mono (by assumption) (AccP.le (by assumption))) ?_ (fun v2 H2 hacc hlec => ?_) | refine vapp_accL (AccP.new (by assumption) (by assumption) _) ?_ (fun v2 H2 hacc hlec => ?_))); · simp only [byteCells_length, List.length_cons, List.length_nil, List.length_map, List.length_append, ntsE_length, fldsE_length]; omega) | done) <;> (try simp -implicitDefEqProofs (disch := omega) only [go_sem, wrap_id])))
      · have hT2 : T = 1 ∨ T = 2 := by omega
        have hT9 : T ≤ 2 := by omega
        have hnx := preT_next T l hT2
        have hpl : (preT T l).length ≤ 30 := by
          unfold preT
          split
          · simp
          · split
            · exact Nat.le_trans (List.length_filter_le _ _) s1
            · rw [stb_length]; exact s1
        repeat' (first | with_reducible (first | refine am_seq ?_ | refine am_block ?_) | ((with_reducible apply am_cond); (case hb => rfl); all_goals (intro hc; (try simp only [reduceCtorEq, bD, beq_iff_eq] at hc); (try (exfalso; omega)))) | ((first | with_reducible (first | refine am_reg ?_ | refine am_drw ?_ | refine am_skip ?_ | refine am_exit ?_ | refine am_ret ?_ | refine vc_intro ?_ | refine need_elems (by assumption) ?_ | refine vlen_acc (by assumption) ?_ | refine need_bytes (by assumption) ?_ | refine need_lk ?_) | ((with_reducible (first | apply gd_not | apply gd_of | apply gq_not | apply gq_of | apply pickB_of)) <;> intro hc <;> (try simp -implicitDefEqProofs (disch := omega) only [go_sem, hc, wrap_id, hT9]) <;> (try simp only [reduceCtorEq, bD, beq_iff_eq] at hc) <;> (try (exfalso; omega))) | ((with_reducible refine alloc_intro (fun ko hko => ?_)) <;> (try have hne := fresh_ne (by assumption) hko) <;> (try have hnk := fresh_ne hk hko) <;> (try have hnk2 := fresh_ne hk2 hko) <;> (try simp only [AH.put_none] at hko)) | ((with_reducible (first | refine vapp_accL (by assumption) ?_ (fun v2 H2 hacc hlec => ?_) | refine vapp_accL (AccP.mono (by assumption) (AccP.le (by assumption))) ?_ (fun v2 H2 hacc hlec => ?_) | refine vapp_accL (AccP.new (by assumption) (by assumption) _) ?_ (fun v2 H2 hacc hlec => ?_))); · simp only [byteCells_length, List.length_cons, List.length_nil, List.length_map, List.length_append, ntsE_length, fldsE_length]; omega) | done) <;> (try simp -implicitDefEqProofs (disch := omega) only [go_sem, wrap_id, hT9])))
        refine am_loop (fun n st H' => ∃ (i : Nat) (v w : V), i + n = l.length ∧ st = [(0, .sl 2 (ntsE l) t), (1, .sl 1 (byteCells b) tb), (5, v), (6, w), (7, .int .i64 T), (8, .int .i64 i)] ∧ AccP H 4 (fldsE ((preT T l ++ selT T (l.take i)).map nf)) v H' ∧ AccP H 2 (ntsE (preT T l ++ selT T (l.take i))) w H') ?_ l.length ⟨0, v, w, by omega, rfl, by simpa [selT] using hv, by simpa [selT] using hw⟩
        rintro n2 st2 G2 ⟨i, v2, w2, hi, rfl, hv2, hw2⟩
        by_cases hlt : i < l.length
        · have hx := s2 _ (List.getElem_mem hlt)
          have hsn := selT_snoc (T := T) hlt
          have hget : l[i]? = some l[i] := get_of_lt hlt
          have hsl : (preT T l ++ selT T (l.take i)).length ≤ 60 := by
            have h1 : (selT T (l.take i)).length ≤ (l.take i).length := List.length_filter_le _ _
            have h2 : (l.take i).length ≤ l.length := by rw [List.length_take]; omega
            rw [List.length_append]; omega
          generalize l[i] = x at *
          cases hq : (x.err == decide (T = 1))
          · rw [hq, if_neg (by simp), List.append_nil] at hsn
            repeat' (first | with_reducible (first | refine am_seq ?_ | refine am_block ?_) | ((with_reducible apply am_cond); (case hb => rfl); all_goals (intro hc; (try simp only [reduceCtorEq, bD, beq_iff_eq] at hc); (try (exfalso; omega)))) | ((first | with_reducible (first | refine am_reg ?_ | refine am_drw ?_ | refine am_skip ?_ | refine am_exit ?_ | refine am_ret ?_ | refine vc_intro ?_ | refine need_elems (by assumption) ?_ | refine vlen_acc (by assumption) ?_ | refine need_bytes (by assumption) ?_ | refine need_lk ?_) | ((with_reducible (first | apply gd_not | apply gd_of | apply gq_not | apply gq_of | apply pickB_of)) <;> intro hc <;> (try simp -implicitDefEqProofs (disch := omega) only [go_sem, hc, wrap_id, hget, hq]) <;> (try simp only [reduceCtorEq, bD, beq_iff_eq] at hc) <;> (try (exfalso; omega))) | ((with_reducible refine alloc_intro (fun ko hko => ?_)) <;> (try have hne := fresh_ne (by assumption) hko) <;> (try have hnk := fresh_ne hk hko) <;> (try have hnk2 := fresh_ne hk2 hko) <;> (try simp only [AH.put_none] at hko)) | ((with_reducible (first | refine vapp_accL (by assumption) ?_ (fun v2 H2 hacc hlec => ?_) | refine vapp_accL (AccP.mono (by assumption) (AccP.le (by assumption))) ?_ (fun v2 H2 hacc hlec => ?_) | refine vapp_accL (AccP.new (by assumption) (by assumption) _) ?_ (fun v2 H2 hacc hlec => ?_))); · simp only [byteCells_length, List.length_cons, List.length_nil, List.length_map, List.length_append, ntsE_length, fldsE_length]; omega) | done) <;> (try simp -implicitDefEqProofs (disch := omega) only [go_sem, wrap_id, hget, hq])))
            all_goals exact ⟨n2 - 1, by omega, i + 1, v2, w2, by omega, rfl, by rw [hsn]; exact hv2, by rw [hsn]; exact hw2⟩
          · rw [hq, if_pos rfl] at hsn
            have hsn2 : preT T l ++ selT T (l.take (i + 1)) = (preT T l ++ selT T (l.take i)) ++ [x] := by rw [hsn, List.append_assoc]
            repeat' (first | with_reducible (first | refine am_seq ?_ | refine am_block ?_) | ((with_reducible apply am_cond); (case hb => rfl); all_goals (intro hc; (try simp only [reduceCtorEq, bD, beq_iff_eq] at hc); (try (exfalso; omega)))) | ((first | with_reducible (first | refine am_reg ?_ | refine am_drw ?_ | refine am_skip ?_ | refine am_exit ?_ | refine am_ret ?_ | refine vc_intro ?_ | refine need_elems (by assumption) ?_ | refine vlen_acc (by assumption) ?_ | refine need_bytes (by assumption) ?_ | refine need_lk ?_) | ((with_reducible (first | apply gd_not | apply gd_of | apply gq_not | apply gq_of | apply pickB_of)) <;> intro hc <;> (try simp -implicitDefEqProofs (disch := omega) only [go_sem, hc, wrap_id, hget, hq]) <;> (try simp only [reduceCtorEq, bD, beq_iff_eq] at hc) <;> (try (exfalso; omega))) | ((with_reducible refine alloc_intro (fun ko hko => ?_)) <;> (try have hne := fresh_ne (by assumption) hko) <;> (try have hnk := fresh_ne hk hko) <;> (try have hnk2 := fresh_ne hk2 hko) <;> (try simp only [AH.put_none] at hko)) | ((with_reducible (first | refine vapp_accL (by assumption) ?_ (fun v2 H2 hacc hlec => ?_) | refine vapp_accL (AccP.mono (by assumption) (AccP.le (by assumption))) ?_ (fun v2 H2 hacc hlec => ?_) | refine vapp_accL (AccP.new (by assumption) (by assumption) _) ?_ (fun v2 H2 hacc hlec => ?_))); · simp only [byteCells_length, List.length_cons, List.length_nil, List.length_map, List.length_append, ntsE_length, fldsE_length]; omega) | done) <;> (try simp -implicitDefEqProofs (disch := omega) only [go_sem, wrap_id, hget, hq])))
            have hTI : tagI x = T := by
              unfold tagI
              rcases hT2 with rfl | rfl <;> cases he : x.err <;> simp_all
            have hC : fldsE [nf x] = [[V.int IntKind.i64 T, V.bool true, V.int IntKind.u64 0, V.sl 1 (byteCells x.txt) Tok.no]] := by rw [← hTI]; rfl
            rw [← hC]
            refine vapp_acc2 hv2 hw2 (by decide) (by simp only [fldsE_length, List.length_map, List.length_cons, List.length_nil]; omega) (fun v3 H3 hv3 hw3 => ?_)
            rw [← fldsE_append, ← List.map_singleton, ← List.map_append, ← hsn2] at hv3
            repeat' (first | with_reducible (first | refine am_seq ?_ | refine am_block ?_) | ((with_reducible apply am_cond); (case hb => rfl); all_goals (intro hc; (try simp only [reduceCtorEq, bD, beq_iff_eq] at hc); (try (exfalso; omega)))) | ((first | with_reducible (first | refine am_reg ?_ | refine am_drw ?_ | refine am_skip ?_ | refine am_exit ?_ | refine am_ret ?_ | refine vc_intro ?_ | refine need_elems (by assumption) ?_ | refine vlen_acc (by assumption) ?_ | refine need_bytes (by assumption) ?_ | refine need_lk ?_) | ((with_reducible (first | apply gd_not | apply gd_of | apply gq_not | apply gq_of | apply pickB_of)) <;> intro hc <;> (try simp -implicitDefEqProofs (disch := omega) only [go_sem, hc, wrap_id, hget]) <;> (try simp only [reduceCtorEq, bD, beq_iff_eq] at hc) <;> (try (exfalso; omega))) | ((with_reducible refine alloc_intro (fun ko hko => ?_)) <;> (try have hne := fresh_ne (by assumption) hko) <;> (try have hnk := fresh_ne hk hko) <;> (try have hnk2 := fresh_ne hk2 hko) <;> (try simp only [AH.put_none] at hko)) | ((with_reducible (first | refine vapp_accL (by assumption) ?_ (fun v2 H2 hacc hlec => ?_) | refine vapp_accL (AccP.mono (by assumption) (AccP.le (by assumption))) ?_ (fun v2 H2 hacc hlec => ?_) | refine vapp_accL (AccP.new (by assumption) (by assumption) _) ?_ (fun v2 H2 hacc hlec => ?_))); · simp only [byteCells_length, List.length_cons, List.length_nil, List.length_map, List.length_append, ntsE_length, fldsE_length]; omega) | done) <;> (try simp -implicitDefEqProofs (disch := omega) only [go_sem, wrap_id, hget])))
            all_goals refine vapp_acc2 (fs := ntsE [x]) hw3 hv3 (by decide) (by simp only [ntsE_length, List.length_cons, List.length_nil]; omega) (fun w3 H4 hw4 hv4 => ?_)
            rw [← ntsE_append, ← hsn2] at hw4
            repeat' (first | with_reducible (first | refine am_seq ?_ | refine am_block ?_) | ((with_reducible apply am_cond); (case hb => rfl); all_goals (intro hc; (try simp only [reduceCtorEq, bD, beq_iff_eq] at hc); (try (exfalso; omega)))) | ((first | with_reducible (first | refine am_reg ?_ | refine am_drw ?_ | refine am_skip ?_ | refine am_exit ?_ | refine am_ret ?_ | refine vc_intro ?_ | refine need_elems (by assumption) ?_ | refine vlen_acc (by assumption) ?_ | refine need_bytes (by assumption) ?_ | refine need_lk ?_) | ((with_reducible (first | apply gd_not | apply gd_of | apply gq_not | apply gq_of | apply pickB_of)) <;> intro hc <;> (try simp -implicitDefEqProofs (disch := omega) only [go_sem, hc, wrap_id]) <;> (try simp only [reduceCtorEq, bD, beq_iff_eq] at hc) <;> (try (exfalso; omega))) | ((with_reducible refine alloc_intro (fun ko hko => ?_)) <;> (try have hne := fresh_ne (by assumption) hko) <;> (try have hnk := fresh_ne hk hko) <;> (try have hnk2 := fresh_ne hk2 hko) <;> (try simp only [AH.put_none] at hko)) | ((with_reducible (first | refine vapp_accL (by assumption) ?_ (fun v2 H2 hacc hlec => ?_) | refine vapp_accL (AccP.mono (by assumption) (AccP.le (by assumption))) ?_ (fun v2 H2 hacc hlec => ?_) | refine vapp_accL (AccP.new (by assumption) (by assumption) _) ?_ (fun v2 H2 hacc hlec => ?_))); · simp only [byteCells_length, List.length_cons, List.length_nil, List.length_map, List.length_append, ntsE_length, fldsE_length]; omega) | done) <;> (try simp -implicitDefEqProofs (disch := omega) only [go_sem, wrap_id])))
            all_goals exact ⟨n2 - 1, by omega, i + 1, v3, w3, by omega, rfl, hv4, hw4⟩
        · rw [List.take_of_length_le (by omega), hnx] at hv2 hw2
          repeat' (first | with_reducible (first | refine am_seq ?_ | refine am_block ?_) | ((with_reducible apply am_cond); (case hb => rfl); all_goals (intro hc; (try simp only [reduceCtorEq, bD, beq_iff_eq] at hc); (try (exfalso; omega)))) | ((first | with_reducible (first | refine am_reg ?_ | refine am_drw ?_ | refine am_skip ?_ | refine am_exit ?_ | refine am_ret ?_ | refine vc_intro ?_ | refine need_elems (by assumption) ?_ | refine vlen_acc (by assumption) ?_ | refine need_bytes (by assumption) ?_ | refine need_lk ?_) | ((with_reducible (first | apply gd_not | apply gd_of | apply gq_not | apply gq_of | apply pickB_of)) <;> intro hc <;> (try simp -implicitDefEqProofs (disch := omega) only [go_sem, hc, wrap_id]) <;> (try simp only [reduceCtorEq, bD, beq_iff_eq] at hc) <;> (try (exfalso; omega))) | ((with_reducible refine alloc_intro (fun ko hko => ?_)) <;> (try have hne := fresh_ne (by assumption) hko) <;> (try have hnk := fresh_ne hk hko) <;> (try have hnk2 := fresh_ne hk2 hko) <;> (try simp only [AH.put_none] at hko)) | ((with_reducible (first | refine vapp_accL (by assumption) ?_ (fun v2 H2 hacc hlec => ?_) | refine vapp_accL (AccP.mono (by assumption) (AccP.le (by assumption))) ?_ (fun v2 H2 hacc hlec => ?_) | refine vapp_accL (AccP.new (by assumption) (by assumption) _) ?_ (fun v2 H2 hacc hlec => ?_))); · simp only [byteCells_length, List.length_cons, List.length_nil, List.length_map, List.length_append, ntsE_length, fldsE_length]; omega) | done) <;> (try simp -implicitDefEqProofs (disch := omega) only [go_sem, wrap_id])))
          all_goals exact ⟨(3 - (T + 1)).toNat, by omega, T + 1, v2, w2, by omega, rfl, rfl, hv2, hw2⟩
    · have hb2 : (500 : Int) < (b.length : Int) := by omega
      repeat' (first | with_reducible (first | refine am_seq ?_ | refine am_block ?_) | ((with_reducible apply am_cond); (case hb => rfl); all_goals (intro hc; (try simp only [reduceCtorEq, bD, beq_iff_eq] at hc); (try (exfalso; omega)))) | ((first | with_reducible (first | refine am_reg ?_ | refine am_drw ?_ | refine am_skip ?_ | refine am_exit ?_ | refine am_ret ?_ | refine vc_intro ?_ | refine need_elems (by assumption) ?_ | refine vlen_acc (by assumption) ?_ | refine need_bytes (by assumption) ?_ | refine call_of (gc) ?_ | refine qcall_of (gc) ?_ | refine call_of (awake_calls) ?_ | refine qcall_of (awake_calls) ?_ | refine need_lk ?_) | ((with_reducible (first | apply gd_not | apply gd_of | apply gq_not | apply gq_of | apply pickB_of)) <;> intro hc <;> (try simp -implicitDefEqProofs (disch := omega) only [go_sem, hc, wrap_id, hg, hb2]) <;> (try simp only [reduceCtorEq, bD, beq_iff_eq] at hc) <;> (try (exfalso; omega))) | ((with_reducible refine alloc_intro (fun ko hko => ?_)) <;> (try have hne := fresh_ne (by assumption) hko) <;> (try have hnk := fresh_ne hk hko) <;> (try have hnk2 := fresh_ne hk2 hko) <;> (try simp only [AH.put_none] at hko)) | ((with_reducible (first | refine vapp_accL (by assumption) ?_ (fun v2 H2 hacc hlec => ?_) | refine vapp_accL (AccP.mono (by assumption) (AccP.le (by assumption))) ?_ (fun v2 H2 hacc hlec => ?_) | refine vapp_accL (AccP.new (by assumption) (by assumption) _) ?_ (fun v2 H2 hacc hlec => ?_))); · simp only [byteCells_length, List.length_cons, List.length_nil, List.length_map, List.length_append, ntsE_length, fldsE_length]; omega) | done) <;> (try simp -implicitDefEqProofs (disch := omega) only [go_sem, wrap_id, hg, hb2])))
      all_goals exact end_same
  · repeat' (first | with_reducible (first | refine am_seq ?_ | refine am_block ?_) | ((with_reducible apply am_cond); (case hb => rfl); all_goals (intro hc; (try simp only [reduceCtorEq, bD, beq_iff_eq] at hc); (try (exfalso; omega)))) | ((first | with_reducible (first | refine am_reg ?_ | refine am_drw ?_ | refine am_skip ?_ | refine am_exit ?_ | refine am_ret ?_ | refine vc_intro ?_ | refine need_elems (by assumption) ?_ | refine vlen_acc (by assumption) ?_ | refine need_bytes (by assumption) ?_ | refine call_of (gc) ?_ | refine qcall_of (gc) ?_ | refine call_of (awake_calls) ?_ | refine qcall_of (awake_calls) ?_ | refine need_lk ?_) | ((with_reducible (first | apply gd_not | apply gd_of | apply gq_not | apply gq_of | apply pickB_of)) <;> intro hc <;> (try simp -implicitDefEqProofs (disch := omega) only [go_sem, hc, wrap_id, hg]) <;> (try simp only [reduceCtorEq, bD, beq_iff_eq] at hc) <;> (try (exfalso; omega))) | ((with_reducible refine alloc_intro (fun ko hko => ?_)) <;> (try have hne := fresh_ne (by assumption) hko) <;> (try have hnk := fresh_ne hk hko) <;> (try have hnk2 := fresh_ne hk2 hko) <;> (try simp only [AH.put_none] at hko)) | ((with_reducible (first | refine vapp_accL (by assumption) ?_ (fun v2 H2 hacc hlec => ?_) | refine vapp_accL (AccP.mono (by assumption) (AccP.le (by assumption))) ?_ (fun v2 H2 hacc hlec => ?_) | refine vapp_accL (AccP.new (by assumption) (by assumption) _) ?_ (fun v2 H2 hacc hlec => ?_))); · simp only [byteCells_length, List.length_cons, List.length_nil, List.length_map, List.length_append, ntsE_length, fldsE_length]; omega) | done) <;> (try simp -implicitDefEqProofs (disch := omega) only [go_sem, wrap_id, hg])))
    all_goals exact end_same
end Go.Proofs.Ytjlphncecdlmcaa
