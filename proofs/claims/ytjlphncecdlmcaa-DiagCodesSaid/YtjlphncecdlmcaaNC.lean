/- Of the walks of this seat: contracts of functions of the given program, proved over the abstract values of the texts Vm. Conditions: as each theorem says. -/
import Derived.Test.YtjlphncecdlmcaaNB
import Derived.Test.YtjlphncecdlmcaaM1
import Derived.Test.YtjlphncecdlmcaaNA
import Derived.Test.YtjlphncecdlmcaaVm36
set_option linter.unusedVariables false
set_option linter.unusedSimpArgs false
namespace Go.Proofs.Ytjlphncecdlmcaa
open Go.Vm
attribute [local go_sem] eq_self decide_true decide_false AH.put_ne
attribute [local go_sem_proc] Nat.reduceBEq Nat.reduceAdd Nat.reduceSub Nat.reduceMul Nat.reduceEqDiff Nat.reduceLeDiff Nat.reduceLT Int.reduceLE Int.reduceLT Int.reduceToNat Int.reduceAdd Int.reduceEq Int.reduceNeg
attribute [local go_sem] List.drop_zero toNat_succ Nat.sub_zero Int.toNat_natCast Option.map_some Int.natCast_nonneg decide_eq_true_eq decide_eq_false_iff_not
/- slices.symMergeCmpFunc[flange/diag.Note] -/
abbrev k139_0 : MC :=
 .cond (.t 33) (.skip) (.exit 0)
abbrev k139_1 : MC :=
 .cond (.t 50) (.reg [
 ⟨some 51, none, .val (.mv (.t 12))⟩,
 ⟨some 52, none, .val (.bin .add .num (.t 51) (.c (.int .i64 1)))⟩,
 ⟨some 10, none, .val (.mv (.t 52))⟩] [0, 1, 4, 10, 11]) (.reg [
 ⟨some 53, none, .val (.mv (.t 12))⟩,
 ⟨some 11, none, .val (.mv (.t 53))⟩] [0, 1, 4, 10, 11])
abbrev k139_2 : MC :=
 (.seq (.drw [
 ⟨some 40, none, .val (.mv (.t 4))⟩,
 ⟨some 41, none, .val (.mv (.t 0))⟩,
 ⟨some 42, none, .val (.mv (.t 12))⟩,
 ⟨some 43, none, .val (.iaddr 2 (.t 41) (.t 42))⟩,
 ⟨some 44, none, .val (.load true 2 (.t 43))⟩,
 ⟨some 45, none, .val (.mv (.t 0))⟩,
 ⟨some 46, none, .val (.mv (.t 1))⟩,
 ⟨some 47, none, .val (.iaddr 2 (.t 45) (.t 46))⟩,
 ⟨some 48, none, .val (.load true 2 (.t 47))⟩] [
 ⟨some 49, none, .callv (.t 40) [(.t 44), (.t 48)]⟩,
 ⟨some 50, none, .val (.bin .lss .num (.t 49) (.c (.int .i64 0)))⟩] [0, 1, 4, 10, 11, 12, 50]) k139_1)
abbrev k139_3 : MC :=
 .block 1 ((.seq (.reg [
 ⟨some 34, none, .val (.mv (.t 10))⟩,
 ⟨some 35, none, .val (.mv (.t 11))⟩,
 ⟨some 36, none, .val (.bin .add .num (.t 34) (.t 35))⟩,
 ⟨some 37, none, .val (.i2i .u64 (.t 36))⟩,
 ⟨some 38, none, .val (.bin .shr .num (.t 37) (.c (.int .u64 1)))⟩,
 ⟨some 39, none, .val (.i2i .i64 (.t 38))⟩,
 ⟨some 12, none, .val (.mv (.t 39))⟩] [0, 1, 4, 10, 11, 12]) k139_2))
abbrev k139_4 : MC :=
 (.seq ((.seq (.reg [
 ⟨some 31, none, .val (.mv (.t 10))⟩,
 ⟨some 32, none, .val (.mv (.t 11))⟩,
 ⟨some 33, none, .val (.bin .lss .num (.t 31) (.t 32))⟩] [0, 1, 4, 10, 11, 33]) k139_0)) k139_3)
abbrev k139_5 : MC :=
 .cond (.t 58) (.skip) (.exit 2)
abbrev k139_6 : MC :=
 .reg [
 ⟨some 59, none, .val (.mv (.t 13))⟩,
 ⟨some 60, none, .val (.bin .add .num (.t 59) (.c (.int .i64 1)))⟩,
 ⟨some 13, none, .val (.mv (.t 60))⟩] [0, 10, 13]
abbrev k139_7 : MC :=
 (.seq (.block 3 (.drw [
 ⟨some 61, none, .val (.mv (.t 0))⟩,
 ⟨some 62, none, .val (.mv (.t 13))⟩,
 ⟨some 63, none, .val (.mv (.t 0))⟩,
 ⟨some 64, none, .val (.mv (.t 13))⟩,
 ⟨some 65, none, .val (.bin .add .num (.t 64) (.c (.int .i64 1)))⟩,
 ⟨some 66, none, .val (.mv (.t 0))⟩,
 ⟨some 67, none, .val (.mv (.t 13))⟩,
 ⟨some 68, none, .val (.bin .add .num (.t 67) (.c (.int .i64 1)))⟩,
 ⟨some 69, none, .val (.iaddr 2 (.t 66) (.t 68))⟩,
 ⟨some 70, none, .val (.load true 2 (.t 69))⟩,
 ⟨some 71, none, .val (.mv (.t 0))⟩,
 ⟨some 72, none, .val (.mv (.t 13))⟩,
 ⟨some 73, none, .val (.iaddr 2 (.t 71) (.t 72))⟩,
 ⟨some 74, none, .val (.load true 2 (.t 73))⟩,
 ⟨some 75, none, .val (.iaddr 2 (.t 61) (.t 62))⟩,
 ⟨some 76, none, .val (.iaddr 2 (.t 63) (.t 65))⟩] [
 ⟨none, none, .store 2 (.t 75) (.t 70)⟩,
 ⟨none, none, .store 2 (.t 76) (.t 74)⟩] [0, 10, 13])) k139_6)
abbrev k139_8 : MC :=
 (.seq ((.seq (.reg [
 ⟨some 55, none, .val (.mv (.t 13))⟩,
 ⟨some 56, none, .val (.mv (.t 10))⟩,
 ⟨some 57, none, .val (.bin .sub .num (.t 56) (.c (.int .i64 1)))⟩,
 ⟨some 58, none, .val (.bin .lss .num (.t 55) (.t 57))⟩] [0, 10, 13, 58]) k139_5)) k139_7)
abbrev k139_9 : MC :=
 .block 2 (.loop k139_8)
abbrev k139_10 : MC :=
 (.seq ((.seq (.reg [
 ⟨some 54, none, .val (.mv (.t 1))⟩,
 ⟨some 13, none, .val (.mv (.t 54))⟩] [0, 10, 13]) k139_9)) (.ret))
abbrev k139_11 : MC :=
 (.seq (.block 0 (.loop k139_4)) k139_10)
abbrev k139_12 : MC :=
 (.seq (.reg [
 ⟨some 30, none, .val (.mv (.t 3))⟩,
 ⟨some 11, none, .val (.mv (.t 30))⟩] [0, 1, 4, 10, 11]) k139_11)
abbrev k139_13 : MC :=
 .cond (.t 28) ((.seq (.reg [
 ⟨some 29, none, .val (.mv (.t 2))⟩,
 ⟨some 10, none, .val (.mv (.t 29))⟩] [0, 1, 3, 4, 10]) k139_12)) (.skip)
abbrev k139_14 : MC :=
 .cond (.t 85) (.skip) (.exit 4)
abbrev k139_15 : MC :=
 .cond (.t 103) (.reg [
 ⟨some 104, none, .val (.mv (.t 16))⟩,
 ⟨some 105, none, .val (.bin .add .num (.t 104) (.c (.int .i64 1)))⟩,
 ⟨some 14, none, .val (.mv (.t 105))⟩] [0, 2, 4, 14, 15]) (.reg [
 ⟨some 106, none, .val (.mv (.t 16))⟩,
 ⟨some 15, none, .val (.mv (.t 106))⟩] [0, 2, 4, 14, 15])
abbrev k139_16 : MC :=
 (.seq (.drw [
 ⟨some 92, none, .val (.mv (.t 4))⟩,
 ⟨some 93, none, .val (.mv (.t 0))⟩,
 ⟨some 94, none, .val (.mv (.t 2))⟩,
 ⟨some 95, none, .val (.iaddr 2 (.t 93) (.t 94))⟩,
 ⟨some 96, none, .val (.load true 2 (.t 95))⟩,
 ⟨some 97, none, .val (.mv (.t 0))⟩,
 ⟨some 98, none, .val (.mv (.t 16))⟩,
 ⟨some 99, none, .val (.iaddr 2 (.t 97) (.t 98))⟩,
 ⟨some 100, none, .val (.load true 2 (.t 99))⟩] [
 ⟨some 101, none, .callv (.t 92) [(.t 96), (.t 100)]⟩,
 ⟨some 102, none, .val (.bin .lss .num (.t 101) (.c (.int .i64 0)))⟩,
 ⟨some 103, none, .val (.not (.t 102))⟩] [0, 2, 4, 14, 15, 16, 103]) k139_15)
abbrev k139_17 : MC :=
 .block 5 ((.seq (.reg [
 ⟨some 86, none, .val (.mv (.t 14))⟩,
 ⟨some 87, none, .val (.mv (.t 15))⟩,
 ⟨some 88, none, .val (.bin .add .num (.t 86) (.t 87))⟩,
 ⟨some 89, none, .val (.i2i .u64 (.t 88))⟩,
 ⟨some 90, none, .val (.bin .shr .num (.t 89) (.c (.int .u64 1)))⟩,
 ⟨some 91, none, .val (.i2i .i64 (.t 90))⟩,
 ⟨some 16, none, .val (.mv (.t 91))⟩] [0, 2, 4, 14, 15, 16]) k139_16))
abbrev k139_18 : MC :=
 (.seq ((.seq (.reg [
 ⟨some 83, none, .val (.mv (.t 14))⟩,
 ⟨some 84, none, .val (.mv (.t 15))⟩,
 ⟨some 85, none, .val (.bin .lss .num (.t 83) (.t 84))⟩] [0, 2, 4, 14, 15, 85]) k139_14)) k139_17)
abbrev k139_19 : MC :=
 .cond (.t 110) (.skip) (.exit 6)
abbrev k139_20 : MC :=
 .reg [
 ⟨some 111, none, .val (.mv (.t 17))⟩,
 ⟨some 112, none, .val (.bin .sub .num (.t 111) (.c (.int .i64 1)))⟩,
 ⟨some 17, none, .val (.mv (.t 112))⟩] [0, 14, 17]
abbrev k139_21 : MC :=
 (.seq (.block 7 (.drw [
 ⟨some 113, none, .val (.mv (.t 0))⟩,
 ⟨some 114, none, .val (.mv (.t 17))⟩,
 ⟨some 115, none, .val (.mv (.t 0))⟩,
 ⟨some 116, none, .val (.mv (.t 17))⟩,
 ⟨some 117, none, .val (.bin .sub .num (.t 116) (.c (.int .i64 1)))⟩,
 ⟨some 118, none, .val (.mv (.t 0))⟩,
 ⟨some 119, none, .val (.mv (.t 17))⟩,
 ⟨some 120, none, .val (.bin .sub .num (.t 119) (.c (.int .i64 1)))⟩,
 ⟨some 121, none, .val (.iaddr 2 (.t 118) (.t 120))⟩,
 ⟨some 122, none, .val (.load true 2 (.t 121))⟩,
 ⟨some 123, none, .val (.mv (.t 0))⟩,
 ⟨some 124, none, .val (.mv (.t 17))⟩,
 ⟨some 125, none, .val (.iaddr 2 (.t 123) (.t 124))⟩,
 ⟨some 126, none, .val (.load true 2 (.t 125))⟩,
 ⟨some 127, none, .val (.iaddr 2 (.t 113) (.t 114))⟩,
 ⟨some 128, none, .val (.iaddr 2 (.t 115) (.t 117))⟩] [
 ⟨none, none, .store 2 (.t 127) (.t 122)⟩,
 ⟨none, none, .store 2 (.t 128) (.t 126)⟩] [0, 14, 17])) k139_20)
abbrev k139_22 : MC :=
 (.seq ((.seq (.reg [
 ⟨some 108, none, .val (.mv (.t 17))⟩,
 ⟨some 109, none, .val (.mv (.t 14))⟩,
 ⟨some 110, none, .val (.bin .gtr .num (.t 108) (.t 109))⟩] [0, 14, 17, 110]) k139_19)) k139_21)
abbrev k139_23 : MC :=
 .block 6 (.loop k139_22)
abbrev k139_24 : MC :=
 (.seq ((.seq (.reg [
 ⟨some 107, none, .val (.mv (.t 2))⟩,
 ⟨some 17, none, .val (.mv (.t 107))⟩] [0, 14, 17]) k139_23)) (.ret))
abbrev k139_25 : MC :=
 (.seq (.block 4 (.loop k139_18)) k139_24)
abbrev k139_26 : MC :=
 (.seq (.reg [
 ⟨some 82, none, .val (.mv (.t 2))⟩,
 ⟨some 15, none, .val (.mv (.t 82))⟩] [0, 2, 4, 14, 15]) k139_25)
abbrev k139_27 : MC :=
 .cond (.t 80) ((.seq (.reg [
 ⟨some 81, none, .val (.mv (.t 1))⟩,
 ⟨some 14, none, .val (.mv (.t 81))⟩] [0, 2, 4, 14]) k139_26)) (.skip)
abbrev k139_28 : MC :=
 .reg [
 ⟨some 144, none, .val (.mv (.t 18))⟩,
 ⟨some 21, none, .val (.mv (.t 144))⟩] [0, 1, 2, 3, 4, 18, 19, 20, 21]
abbrev k139_29 : MC :=
 .reg [
 ⟨some 146, none, .val (.mv (.t 2))⟩,
 ⟨some 21, none, .val (.mv (.t 146))⟩] [0, 1, 2, 3, 4, 18, 19, 20, 21]
abbrev k139_30 : MC :=
 .cond (.t 140) ((.seq (.reg [
 ⟨some 141, none, .val (.mv (.t 19))⟩,
 ⟨some 142, none, .val (.mv (.t 3))⟩,
 ⟨some 143, none, .val (.bin .sub .num (.t 141) (.t 142))⟩,
 ⟨some 20, none, .val (.mv (.t 143))⟩] [0, 1, 2, 3, 4, 18, 19, 20]) k139_28)) ((.seq (.reg [
 ⟨some 145, none, .val (.mv (.t 1))⟩,
 ⟨some 20, none, .val (.mv (.t 145))⟩] [0, 1, 2, 3, 4, 18, 19, 20]) k139_29))
abbrev k139_31 : MC :=
 .cond (.t 151) (.skip) (.exit 8)
abbrev k139_32 : MC :=
 .cond (.t 171) (.reg [
 ⟨some 172, none, .val (.mv (.t 23))⟩,
 ⟨some 173, none, .val (.bin .add .num (.t 172) (.c (.int .i64 1)))⟩,
 ⟨some 20, none, .val (.mv (.t 173))⟩] [0, 1, 2, 3, 4, 18, 19, 20, 21, 22]) (.reg [
 ⟨some 174, none, .val (.mv (.t 23))⟩,
 ⟨some 21, none, .val (.mv (.t 174))⟩] [0, 1, 2, 3, 4, 18, 19, 20, 21, 22])
abbrev k139_33 : MC :=
 (.seq (.drw [
 ⟨some 158, none, .val (.mv (.t 4))⟩,
 ⟨some 159, none, .val (.mv (.t 0))⟩,
 ⟨some 160, none, .val (.mv (.t 22))⟩,
 ⟨some 161, none, .val (.mv (.t 23))⟩,
 ⟨some 162, none, .val (.bin .sub .num (.t 160) (.t 161))⟩,
 ⟨some 163, none, .val (.iaddr 2 (.t 159) (.t 162))⟩,
 ⟨some 164, none, .val (.load true 2 (.t 163))⟩,
 ⟨some 165, none, .val (.mv (.t 0))⟩,
 ⟨some 166, none, .val (.mv (.t 23))⟩,
 ⟨some 167, none, .val (.iaddr 2 (.t 165) (.t 166))⟩,
 ⟨some 168, none, .val (.load true 2 (.t 167))⟩] [
 ⟨some 169, none, .callv (.t 158) [(.t 164), (.t 168)]⟩,
 ⟨some 170, none, .val (.bin .lss .num (.t 169) (.c (.int .i64 0)))⟩,
 ⟨some 171, none, .val (.not (.t 170))⟩] [0, 1, 2, 3, 4, 18, 19, 20, 21, 22, 23, 171]) k139_32)
abbrev k139_34 : MC :=
 .block 9 ((.seq (.reg [
 ⟨some 152, none, .val (.mv (.t 20))⟩,
 ⟨some 153, none, .val (.mv (.t 21))⟩,
 ⟨some 154, none, .val (.bin .add .num (.t 152) (.t 153))⟩,
 ⟨some 155, none, .val (.i2i .u64 (.t 154))⟩,
 ⟨some 156, none, .val (.bin .shr .num (.t 155) (.c (.int .u64 1)))⟩,
 ⟨some 157, none, .val (.i2i .i64 (.t 156))⟩,
 ⟨some 23, none, .val (.mv (.t 157))⟩] [0, 1, 2, 3, 4, 18, 19, 20, 21, 22, 23]) k139_33))
abbrev k139_35 : MC :=
 (.seq ((.seq (.reg [
 ⟨some 149, none, .val (.mv (.t 20))⟩,
 ⟨some 150, none, .val (.mv (.t 21))⟩,
 ⟨some 151, none, .val (.bin .lss .num (.t 149) (.t 150))⟩] [0, 1, 2, 3, 4, 18, 19, 20, 21, 22, 151]) k139_31)) k139_34)
abbrev k139_36 : MC :=
 .cond (.t 185) (.reg [
 ⟨some 186, none, .val (.mv (.t 0))⟩,
 ⟨some 187, none, .val (.mv (.t 20))⟩,
 ⟨some 188, none, .val (.mv (.t 2))⟩,
 ⟨some 189, none, .val (.mv (.t 24))⟩,
 ⟨some 190, none, .val (.mv (.t 4))⟩,
 ⟨some 191, none, .call 154 [(.t 186), (.t 187), (.t 188), (.t 189), (.t 190)]⟩] [0, 1, 3, 4, 18, 20, 24]) (.skip)
abbrev k139_37 : MC :=
 .cond (.t 199) (.reg [
 ⟨some 200, none, .val (.mv (.t 0))⟩,
 ⟨some 201, none, .val (.mv (.t 1))⟩,
 ⟨some 202, none, .val (.mv (.t 20))⟩,
 ⟨some 203, none, .val (.mv (.t 18))⟩,
 ⟨some 204, none, .val (.mv (.t 4))⟩,
 ⟨some 205, none, .call 139 [(.t 200), (.t 201), (.t 202), (.t 203), (.t 204)]⟩] [0, 3, 4, 18, 24]) (.skip)
abbrev k139_38 : MC :=
 .cond (.t 213) (.reg [
 ⟨some 214, none, .val (.mv (.t 0))⟩,
 ⟨some 215, none, .val (.mv (.t 18))⟩,
 ⟨some 216, none, .val (.mv (.t 24))⟩,
 ⟨some 217, none, .val (.mv (.t 3))⟩,
 ⟨some 218, none, .val (.mv (.t 4))⟩,
 ⟨some 219, none, .call 139 [(.t 214), (.t 215), (.t 216), (.t 217), (.t 218)]⟩] []) (.skip)
abbrev k139_39 : MC :=
 (.seq (.reg [
 ⟨some 206, none, .val (.mv (.t 18))⟩,
 ⟨some 207, none, .val (.mv (.t 24))⟩,
 ⟨some 208, none, .val (.bin .lss .num (.t 206) (.t 207))⟩,
 ⟨some 209, none, .val (.mv (.t 208))⟩,
 ⟨some 210, (some (209, true)), .val (.mv (.t 24))⟩,
 ⟨some 211, (some (209, true)), .val (.mv (.t 3))⟩,
 ⟨some 212, (some (209, true)), .val (.bin .lss .num (.t 210) (.t 211))⟩,
 ⟨some 213, none, .val (.pick (.t 209) (.t 212) (.c (.bool false)))⟩] [0, 3, 4, 18, 24, 213]) k139_38)
abbrev k139_40 : MC :=
 (.seq ((.seq (.reg [
 ⟨some 192, none, .val (.mv (.t 1))⟩,
 ⟨some 193, none, .val (.mv (.t 20))⟩,
 ⟨some 194, none, .val (.bin .lss .num (.t 192) (.t 193))⟩,
 ⟨some 195, none, .val (.mv (.t 194))⟩,
 ⟨some 196, (some (195, true)), .val (.mv (.t 20))⟩,
 ⟨some 197, (some (195, true)), .val (.mv (.t 18))⟩,
 ⟨some 198, (some (195, true)), .val (.bin .lss .num (.t 196) (.t 197))⟩,
 ⟨some 199, none, .val (.pick (.t 195) (.t 198) (.c (.bool false)))⟩] [0, 1, 3, 4, 18, 20, 24, 199]) k139_37)) k139_39)
abbrev k139_41 : MC :=
 (.seq ((.seq (.reg [
 ⟨some 178, none, .val (.mv (.t 20))⟩,
 ⟨some 179, none, .val (.mv (.t 2))⟩,
 ⟨some 180, none, .val (.bin .lss .num (.t 178) (.t 179))⟩,
 ⟨some 181, none, .val (.mv (.t 180))⟩,
 ⟨some 182, (some (181, true)), .val (.mv (.t 2))⟩,
 ⟨some 183, (some (181, true)), .val (.mv (.t 24))⟩,
 ⟨some 184, (some (181, true)), .val (.bin .lss .num (.t 182) (.t 183))⟩,
 ⟨some 185, none, .val (.pick (.t 181) (.t 184) (.c (.bool false)))⟩] [0, 1, 2, 3, 4, 18, 20, 24, 185]) k139_36)) k139_40)
abbrev k139_42 : MC :=
 (.seq (.reg [
 ⟨some 175, none, .val (.mv (.t 19))⟩,
 ⟨some 176, none, .val (.mv (.t 20))⟩,
 ⟨some 177, none, .val (.bin .sub .num (.t 175) (.t 176))⟩,
 ⟨some 24, none, .val (.mv (.t 177))⟩] [0, 1, 2, 3, 4, 18, 20, 24]) k139_41)
abbrev k139_43 : MC :=
 (.seq (.block 8 (.loop k139_35)) k139_42)
abbrev k139_44 : MC :=
 (.seq (.reg [
 ⟨some 147, none, .val (.mv (.t 19))⟩,
 ⟨some 148, none, .val (.bin .sub .num (.t 147) (.c (.int .i64 1)))⟩,
 ⟨some 22, none, .val (.mv (.t 148))⟩] [0, 1, 2, 3, 4, 18, 19, 20, 21, 22]) k139_43)
abbrev k139_45 : MC :=
 (.seq ((.seq (.reg [
 ⟨some 138, none, .val (.mv (.t 2))⟩,
 ⟨some 139, none, .val (.mv (.t 18))⟩,
 ⟨some 140, none, .val (.bin .gtr .num (.t 138) (.t 139))⟩] [0, 1, 2, 3, 4, 18, 19, 140]) k139_30)) k139_44)
abbrev k139_46 : MC :=
 (.seq (.reg [
 ⟨some 20, none, .val (.mv (.c (.int .i64 0)))⟩,
 ⟨some 21, none, .val (.mv (.c (.int .i64 0)))⟩] [0, 1, 2, 3, 4, 18, 19]) k139_45)
abbrev k139_47 : MC :=
 (.seq (.reg [
 ⟨some 135, none, .val (.mv (.t 18))⟩,
 ⟨some 136, none, .val (.mv (.t 2))⟩,
 ⟨some 137, none, .val (.bin .add .num (.t 135) (.t 136))⟩,
 ⟨some 19, none, .val (.mv (.t 137))⟩] [0, 1, 2, 3, 4, 18, 19]) k139_46)
abbrev k139_48 : MC :=
 (.seq (.reg [
 ⟨some 129, none, .val (.mv (.t 1))⟩,
 ⟨some 130, none, .val (.mv (.t 3))⟩,
 ⟨some 131, none, .val (.bin .add .num (.t 129) (.t 130))⟩,
 ⟨some 132, none, .val (.i2i .u64 (.t 131))⟩,
 ⟨some 133, none, .val (.bin .shr .num (.t 132) (.c (.int .u64 1)))⟩,
 ⟨some 134, none, .val (.i2i .i64 (.t 133))⟩,
 ⟨some 18, none, .val (.mv (.t 134))⟩] [0, 1, 2, 3, 4, 18]) k139_47)
abbrev k139_49 : MC :=
 (.seq ((.seq (.reg [
 ⟨some 77, none, .val (.mv (.t 3))⟩,
 ⟨some 78, none, .val (.mv (.t 2))⟩,
 ⟨some 79, none, .val (.bin .sub .num (.t 77) (.t 78))⟩,
 ⟨some 80, none, .val (.bin .eql .num (.t 79) (.c (.int .i64 1)))⟩] [0, 1, 2, 3, 4, 80]) k139_27)) k139_48)
abbrev k139 : MC :=
 (.seq ((.seq (.reg [
 ⟨some 25, none, .val (.mv (.t 2))⟩,
 ⟨some 26, none, .val (.mv (.t 1))⟩,
 ⟨some 27, none, .val (.bin .sub .num (.t 25) (.t 26))⟩,
 ⟨some 28, none, .val (.bin .eql .num (.t 27) (.c (.int .i64 1)))⟩] [0, 1, 2, 3, 4, 28]) k139_13)) k139_49)
theorem c139 : Try.f139.body.bind (mcOf Try.prog (List.contains [] ·) (List.getD [([], [0, 1, 2, 3, 4, 28]), ([], [0, 1, 3, 4, 10]), ([], [0, 1, 4, 10, 11]), ([], [0, 1, 4, 10, 11, 33]), ([], [0, 1, 4, 10, 11, 12]), ([0, 0, 0, 0, 0, 0, 0, 0, 0, 2, 2], [0, 1, 4, 10, 11, 12, 50]), ([], [0, 1, 4, 10, 11]), ([], [0, 1, 4, 10, 11]), ([], [0, 10, 13]), ([], [0, 10, 13, 58]), ([], [0, 10, 13]), ([0, 0, 0, 0, 0, 0, 0, 0, 0, 0, 0, 0, 0, 0, 0, 2, 0, 2], [0, 10, 13]), ([], [0, 1, 2, 3, 4, 80]), ([], [0, 2, 4, 14]), ([], [0, 2, 4, 14, 15]), ([], [0, 2, 4, 14, 15, 85]), ([], [0, 2, 4, 14, 15, 16]), ([0, 0, 0, 0, 0, 0, 0, 0, 0, 2, 2, 2], [0, 2, 4, 14, 15, 16, 103]), ([], [0, 2, 4, 14, 15]), ([], [0, 2, 4, 14, 15]), ([], [0, 14, 17]), ([], [0, 14, 17, 110]), ([], [0, 14, 17]), ([0, 0, 0, 0, 0, 0, 0, 0, 0, 0, 0, 0, 0, 0, 0, 2, 0, 2], [0, 14, 17]), ([], [0, 1, 2, 3, 4, 18]), ([], [0, 1, 2, 3, 4, 18, 19]), ([], [0, 1, 2, 3, 4, 18, 19]), ([], [0, 1, 2, 3, 4, 18, 19, 140]), ([], [0, 1, 2, 3, 4, 18, 19, 20]), ([], [0, 1, 2, 3, 4, 18, 19, 20, 21]), ([], [0, 1, 2, 3, 4, 18, 19, 20]), ([], [0, 1, 2, 3, 4, 18, 19, 20, 21]), ([], [0, 1, 2, 3, 4, 18, 19, 20, 21, 22]), ([], [0, 1, 2, 3, 4, 18, 19, 20, 21, 22, 151]), ([], [0, 1, 2, 3, 4, 18, 19, 20, 21, 22, 23]), ([0, 0, 0, 0, 0, 0, 0, 0, 0, 0, 0, 2, 2, 2], [0, 1, 2, 3, 4, 18, 19, 20, 21, 22, 23, 171]), ([], [0, 1, 2, 3, 4, 18, 19, 20, 21, 22]), ([], [0, 1, 2, 3, 4, 18, 19, 20, 21, 22]), ([], [0, 1, 2, 3, 4, 18, 20, 24]), ([], [0, 1, 2, 3, 4, 18, 20, 24, 185]), ([], [0, 1, 3, 4, 18, 20, 24]), ([], [0, 1, 3, 4, 18, 20, 24, 199]), ([], [0, 3, 4, 18, 24]), ([], [0, 3, 4, 18, 24, 213]), ([], [])] · ([], [])) 220) = some k139 := by kernel_rfl
theorem r139 : rvsOf Try.prog Try.f139.results.toList = some [] := by kernel_rfl
theorem half {i j c : Nat} (h : (i + j) / 2 = c) (hb : i + j < 4611686018427387904) : IntKind.i64.wrap ((IntKind.u64.wrap ((i : Int) + (j : Int))).fdiv (2 ^ min 1 64)) = (c : Int) := by
  rw [u64_id (by omega) (by omega), show (2 : Int) ^ min 1 64 = 2 by decide, show (i : Int) + (j : Int) = ((i + j : Nat) : Int) by omega]
  rw [Int.fdiv_eq_ediv_of_nonneg _ (by omega), wrap_id _ (by omega) (by omega)]
  omega
theorem mem_take_succ {l : List Nt} {n : Nat} {p : Nt → Prop} (hn : n < l.length) (h : ∀ y ∈ l.take n, p y) (h2 : p l[n]) : ∀ y ∈ l.take (n + 1), p y := by
  rw [List.take_succ_eq_append_getElem hn]
  intro y hy
  rcases List.mem_append.1 hy with hy | hy
  · exact h y hy
  · rw [List.mem_singleton] at hy; rw [hy]; exact h2
theorem srn_take {l : List Nt} (h : SrN l) {n : Nat} (hn : n < l.length) (h2 : l[n].err = true) : ∀ y ∈ l.take (n + 1), y.err = true := by
  refine mem_take_succ hn (srn_ahead (A := l.take n) (B := l.drop n) (by rw [List.take_append_drop]; exact h) ⟨l[n], ?_, h2⟩) h2
  rw [List.drop_eq_getElem_cons hn]; exact List.mem_cons_self
theorem srn_drop {l : List Nt} (h : SrN l) {n : Nat} (hn : n < l.length) (h2 : l[n].err = false) : ∀ y ∈ l.drop n, y.err = false := by
  rw [List.drop_eq_getElem_cons hn]
  intro y hy
  rcases List.mem_cons.1 hy with rfl | hy
  · exact h2
  · refine srn_after (A := l.take (n + 1)) (B := l.drop (n + 1)) (by rw [List.take_append_drop]; exact h) ⟨l[n], ?_, h2⟩ y hy
    rw [List.take_succ_eq_append_getElem hn]; exact List.mem_append_right _ (List.mem_singleton_self _)
theorem sym_A {P S L Y : List Nt} {x : Nt} {N k : Nat} {a m b : Int} {H : AH} (ha : a = (P.length : Nat)) (hm : m = (P.length + 1 : Nat)) (hb : b = (P.length + 1 + Y.length : Nat)) (hY : 0 < Y.length) (hS : SrN Y) (hL : L = P ++ x :: Y ++ S) (hN : L.length = N) (hs : N ≤ 1000) (hk : H k = some (ntO L)) :
    ACalls Try.prog 139 [.msl k 2 0 N, .int .i64 a, .int .i64 m, .int .i64 b, cmpV] H (fun o H' => o = .ret unitV ∧ H' = H.put k (ntO (P ++ stb ([x] ++ Y) ++ S))) := by
  have hlen : P.length + 1 + Y.length + S.length = N := by rw [hL] at hN; simp at hN; omega
  have e1 : m - a = 1 := by omega
  refine acalls Try.func139 c139 r139 (by simp [Try.ntmps139]) ?_
  repeat' (first | with_reducible (first | refine am_seq ?_ | refine am_block ?_) | ((with_reducible apply am_cond); (case hb => rfl); all_goals (intro hc; (try simp only [reduceCtorEq, bD, beq_iff_eq] at hc); (try (exfalso; omega)))) | ((first | with_reducible (first | refine am_reg ?_ | refine am_drw ?_ | refine am_skip ?_ | refine am_exit ?_ | refine am_ret ?_ | refine vc_intro ?_ | refine need_elems (by assumption) ?_ | refine vlen_acc (by assumption) ?_ | refine need_bytes (by assumption) ?_ | refine need_lk ?_) | ((with_reducible (first | apply gd_not | apply gd_of | apply gq_not | apply gq_of | apply pickB_of)) <;> intro hc <;> (try simp -implicitDefEqProofs (disch := omega) only [go_sem, hc, wrap_id, e1]) <;> (try simp only [reduceCtorEq, bD, beq_iff_eq] at hc) <;> (try (exfalso; omega))) | done) <;> (try simp -implicitDefEqProofs (disch := omega) only [go_sem, wrap_id, e1])))
  refine am_loop (fun n st H' => ∃ p q : Nat, p ≤ q ∧ q ≤ Y.length ∧ n = q - p ∧ (∀ y ∈ Y.take p, y.err = true ∧ x.err = false) ∧ (∀ y ∈ Y.drop q, ¬ (y.err = true ∧ x.err = false)) ∧ st = [(0, .msl k 2 0 N), (1, .int .i64 a), (4, cmpV), (10, .int .i64 ((P.length + 1 + p : Nat) : Int)), (11, .int .i64 ((P.length + 1 + q : Nat) : Int))] ∧ H' = H) ?_ Y.length ⟨0, Y.length, by omega, by omega, by omega, by simp, by simp, by rw [hm, hb], rfl⟩
  rintro n st G ⟨p, q, hpq, hq, rfl, h1, h2, rfl, rfl⟩
  by_cases hlt : p < q
  · have hc1 : ((P.length + 1 + p : Nat) : Int) < ((P.length + 1 + q : Nat) : Int) := by omega
    have hr : (p + q) / 2 < Y.length := by omega
    have g1 : L[P.length + 1 + (p + q) / 2]? = some Y[(p + q) / 2] := by
      rw [hL, List.append_assoc, List.getElem?_append_right (by omega), show P.length + 1 + (p + q) / 2 - P.length = (p + q) / 2 + 1 by omega, List.cons_append, List.getElem?_cons_succ, List.getElem?_append_left hr, List.getElem?_eq_getElem hr]
    have g2 : L[P.length]? = some x := by
      rw [hL, List.append_assoc, List.getElem?_append_right (by omega), Nat.sub_self]; rfl
    have p1 := ntsF_pick g1
    have p2 := ntsF_pick g2
    rw [ha]
    have hh := half (i := P.length + 1 + p) (j := P.length + 1 + q) (c := P.length + 1 + (p + q) / 2) (by omega) (by omega)
    have hcm := enc1_calls Y[(p + q) / 2] x
    by_cases hxy : tagI Y[(p + q) / 2] - tagI x < 0
    · repeat' (first | with_reducible (first | refine am_seq ?_ | refine am_block ?_) | ((with_reducible apply am_cond); (case hb => rfl); all_goals (intro hc; (try simp only [reduceCtorEq, bD, beq_iff_eq] at hc); (try (exfalso; omega)))) | ((first | with_reducible (first | refine am_reg ?_ | refine am_drw ?_ | refine am_skip ?_ | refine am_exit ?_ | refine am_ret ?_ | refine vc_intro ?_ | refine need_elems (by assumption) ?_ | refine vlen_acc (by assumption) ?_ | refine need_bytes (by assumption) ?_ | refine call_of (hcm) ?_ | refine qcall_of (hcm) ?_ | refine need_lk ?_) | ((with_reducible (first | apply gd_not | apply gd_of | apply gq_not | apply gq_of | apply pickB_of)) <;> intro hc <;> (try simp -implicitDefEqProofs (disch := omega) only [go_sem, hc, hh, wrap_id, hc1, p1, p2, hxy, ntsF_len, hN, ent_enc1, true_and, List.nil_append, List.append_nil, List.cons_append]) <;> (try simp only [reduceCtorEq, bD, beq_iff_eq] at hc) <;> (try (exfalso; omega))) | done) <;> (try simp -implicitDefEqProofs (disch := omega) only [go_sem, hh, wrap_id, hc1, p1, p2, hxy, ntsF_len, hN, ent_enc1, true_and, List.nil_append, List.append_nil, List.cons_append])))
      obtain ⟨t1, t2⟩ := (tag_lt _ _).1 hxy
      all_goals exact ⟨q - ((p + q) / 2 + 1), by omega, (p + q) / 2 + 1, q, by omega, by omega, rfl, fun y hy => ⟨srn_take hS hr t1 y hy, t2⟩, h2, rfl⟩
    · repeat' (first | with_reducible (first | refine am_seq ?_ | refine am_block ?_) | ((with_reducible apply am_cond); (case hb => rfl); all_goals (intro hc; (try simp only [reduceCtorEq, bD, beq_iff_eq] at hc); (try (exfalso; omega)))) | ((first | with_reducible (first | refine am_reg ?_ | refine am_drw ?_ | refine am_skip ?_ | refine am_exit ?_ | refine am_ret ?_ | refine vc_intro ?_ | refine need_elems (by assumption) ?_ | refine vlen_acc (by assumption) ?_ | refine need_bytes (by assumption) ?_ | refine call_of (hcm) ?_ | refine qcall_of (hcm) ?_ | refine need_lk ?_) | ((with_reducible (first | apply gd_not | apply gd_of | apply gq_not | apply gq_of | apply pickB_of)) <;> intro hc <;> (try simp -implicitDefEqProofs (disch := omega) only [go_sem, hc, hh, wrap_id, hc1, p1, p2, hxy, ntsF_len, hN, ent_enc1, true_and, List.nil_append, List.append_nil, List.cons_append]) <;> (try simp only [reduceCtorEq, bD, beq_iff_eq] at hc) <;> (try (exfalso; omega))) | done) <;> (try simp -implicitDefEqProofs (disch := omega) only [go_sem, hh, wrap_id, hc1, p1, p2, hxy, ntsF_len, hN, ent_enc1, true_and, List.nil_append, List.append_nil, List.cons_append])))
      all_goals refine ⟨(p + q) / 2 - p, by omega, p, (p + q) / 2, by omega, by omega, rfl, h1, fun y hy hh => ?_, rfl⟩
      all_goals refine hxy ((tag_lt _ _).2 ⟨?_, hh.2⟩)
      all_goals (cases he : Y[(p + q) / 2].err <;> first | rfl | (have := srn_drop hS hr he y hy; rw [hh.1] at this; cases this))
  · have e : q = p := by omega
    subst e
    have hcl : ¬ ((P.length + 1 + q : Nat) : Int) < ((P.length + 1 + q : Nat) : Int) := by omega
    obtain ⟨Y1, Y2, rfl, rfl⟩ : ∃ Y1 Y2 : List Nt, Y = Y1 ++ Y2 ∧ q = Y1.length := ⟨Y.take q, Y.drop q, (List.take_append_drop _ _).symm, by rw [List.length_take]; omega⟩
    rw [List.take_left' rfl] at h1
    rw [List.drop_left' rfl] at h2
    rw [stb_cons h1 h2 hS]
    rw [List.length_append] at hlen
    repeat' (first | with_reducible (first | refine am_seq ?_ | refine am_block ?_) | ((with_reducible apply am_cond); (case hb => rfl); all_goals (intro hc; (try simp only [reduceCtorEq, bD, beq_iff_eq] at hc); (try (exfalso; omega)))) | ((first | with_reducible (first | refine am_reg ?_ | refine am_drw ?_ | refine am_skip ?_ | refine am_exit ?_ | refine am_ret ?_ | refine vc_intro ?_ | refine need_elems (by assumption) ?_ | refine vlen_acc (by assumption) ?_ | refine need_bytes (by assumption) ?_ | refine need_lk ?_) | ((with_reducible (first | apply gd_not | apply gd_of | apply gq_not | apply gq_of | apply pickB_of)) <;> intro hc <;> (try simp -implicitDefEqProofs (disch := omega) only [go_sem, hc, wrap_id, hcl]) <;> (try simp only [reduceCtorEq, bD, beq_iff_eq] at hc) <;> (try (exfalso; omega))) | done) <;> (try simp -implicitDefEqProofs (disch := omega) only [go_sem, wrap_id, hcl])))
    refine am_loop (fun n st H' => ∃ i : Nat, i ≤ Y1.length ∧ n = Y1.length - i ∧ st = [(0, .msl k 2 0 N), (10, .int .i64 ((P.length + 1 + Y1.length : Nat) : Int)), (13, .int .i64 ((P.length + i : Nat) : Int))] ∧ H' = G.put k (ntO ((P ++ Y1.take i) ++ x :: (Y1.drop i ++ Y2 ++ S)))) ?_ Y1.length ⟨0, by omega, by omega, by rw [ha]; rfl, by rw [put_self]; rw [hk, hL]; simp⟩
    rintro n st H' ⟨i, hi, rfl, rfl, rfl⟩
    have em : ((P.length + 1 + Y1.length : Nat) : Int) - 1 = ((P.length + Y1.length : Nat) : Int) := by omega
    by_cases hl : i < Y1.length
    · have hc2 : ((P.length + i : Nat) : Int) < ((P.length + Y1.length : Nat) : Int) := by omega
      have ep : ((P.length + i : Nat) : Int) + 1 = ((P.length + i + 1 : Nat) : Int) := by omega
      have hd : Y1.drop i = Y1[i] :: Y1.drop (i + 1) := List.drop_eq_getElem_cons hl
      have ht : Y1.take (i + 1) = Y1.take i ++ [Y1[i]] := List.take_succ_eq_append_getElem hl
      have hx : (P ++ Y1.take i).length = P.length + i := by simp; omega
      have hcur : (P ++ Y1.take i) ++ x :: (Y1.drop i ++ Y2 ++ S) = (P ++ Y1.take i) ++ x :: [] ++ Y1[i] :: (Y1.drop (i + 1) ++ Y2 ++ S) := by rw [hd]; simp only [List.append_assoc, List.cons_append, List.nil_append]
      have hnext : (P ++ Y1.take (i + 1)) ++ x :: (Y1.drop (i + 1) ++ Y2 ++ S) = (P ++ Y1.take i) ++ Y1[i] :: [] ++ x :: (Y1.drop (i + 1) ++ Y2 ++ S) := by rw [ht]; simp only [List.append_assoc, List.cons_append, List.nil_append]
      have g1 := get2a (P ++ Y1.take i) [] (Y1.drop (i + 1) ++ Y2 ++ S) x Y1[i]
      have g2 := get2b (P ++ Y1.take i) [] (Y1.drop (i + 1) ++ Y2 ++ S) x Y1[i]
      have g3 := set2 (P ++ Y1.take i) [] (Y1.drop (i + 1) ++ Y2 ++ S) x Y1[i]
      rw [← hnext] at g3
      rw [← hcur, hx] at g1
      rw [← hcur, hx, List.length_nil, Nat.add_zero] at g2
      rw [← hcur, hx, List.length_nil, Nat.add_zero] at g3
      have hcl : ((P ++ Y1.take i) ++ x :: (Y1.drop i ++ Y2 ++ S)).length = N := by
        rw [List.length_append, hx]; simp; omega
      generalize ((P ++ Y1.take i) ++ x :: (Y1.drop i ++ Y2 ++ S)) = cur at *
      generalize Y1[i] = y at *
      have p1 := ntsF_pick g1
      have p2 := ntsF_pick g2
      have s1 := ntsF_set (l := cur) (i := P.length + i) y (by omega)
      have s2 := ntsF_set (l := cur.set (P.length + i) y) (i := P.length + i + 1) x (by rw [List.length_set]; omega)
      rw [g3] at s2
      repeat' (first | with_reducible (first | refine am_seq ?_ | refine am_block ?_) | ((with_reducible apply am_cond); (case hb => rfl); all_goals (intro hc; (try simp only [reduceCtorEq, bD, beq_iff_eq] at hc); (try (exfalso; omega)))) | ((first | with_reducible (first | refine am_reg ?_ | refine am_drw ?_ | refine am_skip ?_ | refine am_exit ?_ | refine am_ret ?_ | refine vc_intro ?_ | refine need_elems (by assumption) ?_ | refine vlen_acc (by assumption) ?_ | refine need_bytes (by assumption) ?_ | refine need_lk ?_) | ((with_reducible (first | apply gd_not | apply gd_of | apply gq_not | apply gq_of | apply pickB_of)) <;> intro hc <;> (try simp -implicitDefEqProofs (disch := omega) only [go_sem, hc, wrap_id, em, ep, hc2, p1, p2, Nat.zero_add, AH.put_same, AH.put_put, s1, s2, ntsF_len, List.length_set, hcl]) <;> (try simp only [reduceCtorEq, bD, beq_iff_eq] at hc) <;> (try (exfalso; omega))) | done) <;> (try simp -implicitDefEqProofs (disch := omega) only [go_sem, wrap_id, em, ep, hc2, p1, p2, Nat.zero_add, AH.put_same, AH.put_put, s1, s2, ntsF_len, List.length_set, hcl])))
      all_goals exact ⟨Y1.length - (i + 1), by omega, i + 1, by omega, rfl, rfl, rfl⟩
    · have hc2 : ¬ ((P.length + i : Nat) : Int) < ((P.length + Y1.length : Nat) : Int) := by omega
      repeat' (first | with_reducible (first | refine am_seq ?_ | refine am_block ?_) | ((with_reducible apply am_cond); (case hb => rfl); all_goals (intro hc; (try simp only [reduceCtorEq, bD, beq_iff_eq] at hc); (try (exfalso; omega)))) | ((first | with_reducible (first | refine am_reg ?_ | refine am_drw ?_ | refine am_skip ?_ | refine am_exit ?_ | refine am_ret ?_ | refine vc_intro ?_ | refine need_elems (by assumption) ?_ | refine vlen_acc (by assumption) ?_ | refine need_bytes (by assumption) ?_ | refine need_lk ?_) | ((with_reducible (first | apply gd_not | apply gd_of | apply gq_not | apply gq_of | apply pickB_of)) <;> intro hc <;> (try simp -implicitDefEqProofs (disch := omega) only [go_sem, hc, wrap_id, em, hc2]) <;> (try simp only [reduceCtorEq, bD, beq_iff_eq] at hc) <;> (try (exfalso; omega))) | done) <;> (try simp -implicitDefEqProofs (disch := omega) only [go_sem, wrap_id, em, hc2])))
      all_goals exact ⟨rfl, by rw [List.take_of_length_le (by omega), List.drop_eq_nil_of_le (by omega)]; simp⟩
end Go.Proofs.Ytjlphncecdlmcaa
namespace Go.Proofs.Ytjlphncecdlmcaa
open Go.Vm
attribute [local go_sem] eq_self decide_true decide_false AH.put_ne
attribute [local go_sem_proc] Nat.reduceBEq Nat.reduceAdd Nat.reduceSub Nat.reduceMul Nat.reduceEqDiff Nat.reduceLeDiff Nat.reduceLT Int.reduceLE Int.reduceLT Int.reduceToNat Int.reduceAdd Int.reduceEq Int.reduceNeg
attribute [local go_sem] List.drop_zero toNat_succ Nat.sub_zero Int.toNat_natCast Option.map_some Int.natCast_nonneg decide_eq_true_eq decide_eq_false_iff_not
theorem sym_B {P S L X : List Nt} {y : Nt} {N k : Nat} {a m b : Int} {H : AH} (ha : a = (P.length : Nat)) (hm : m = (P.length + X.length : Nat)) (hb : b = (P.length + X.length + 1 : Nat)) (hX : 2 ≤ X.length) (hS : SrN X) (hL : L = P ++ X ++ y :: S) (hN : L.length = N) (hs : N ≤ 1000) (hk : H k = some (ntO L)) :
    ACalls Try.prog 139 [.msl k 2 0 N, .int .i64 a, .int .i64 m, .int .i64 b, cmpV] H (fun o H' => o = .ret unitV ∧ H' = H.put k (ntO (P ++ stb (X ++ [y]) ++ S))) := by
  have hlen : P.length + X.length + 1 + S.length = N := by rw [hL] at hN; simp at hN; omega
  have e1 : ¬ m - a = 1 := by omega
  have e2 : b - m = 1 := by omega
  refine acalls Try.func139 c139 r139 (by simp [Try.ntmps139]) ?_
  repeat' (first | with_reducible (first | refine am_seq ?_ | refine am_block ?_) | ((with_reducible apply am_cond); (case hb => rfl); all_goals (intro hc; (try simp only [reduceCtorEq, bD, beq_iff_eq] at hc); (try (exfalso; omega)))) | ((first | with_reducible (first | refine am_reg ?_ | refine am_drw ?_ | refine am_skip ?_ | refine am_exit ?_ | refine am_ret ?_ | refine vc_intro ?_ | refine need_elems (by assumption) ?_ | refine vlen_acc (by assumption) ?_ | refine need_bytes (by assumption) ?_ | refine need_lk ?_) | ((with_reducible (first | apply gd_not | apply gd_of | apply gq_not | apply gq_of | apply pickB_of)) <;> intro hc <;> (try simp -implicitDefEqProofs (disch := omega) only [go_sem, hc, wrap_id, e1, e2]) <;> (try simp only [reduceCtorEq, bD, beq_iff_eq] at hc) <;> (try (exfalso; omega))) | done) <;> (try simp -implicitDefEqProofs (disch := omega) only [go_sem, wrap_id, e1, e2])))
  refine am_loop (fun n st H' => ∃ p q : Nat, p ≤ q ∧ q ≤ X.length ∧ n = q - p ∧ (∀ z ∈ X.take p, ¬ (y.err = true ∧ z.err = false)) ∧ (∀ z ∈ X.drop q, y.err = true ∧ z.err = false) ∧ st = [(0, .msl k 2 0 N), (2, .int .i64 m), (4, cmpV), (14, .int .i64 ((P.length + p : Nat) : Int)), (15, .int .i64 ((P.length + q : Nat) : Int))] ∧ H' = H) ?_ X.length ⟨0, X.length, by omega, by omega, by omega, by simp, by simp, by rw [ha, hm]; rfl, rfl⟩
  rintro n st G ⟨p, q, hpq, hq, rfl, h1, h2, rfl, rfl⟩
  by_cases hlt : p < q
  · have hc1 : ((P.length + p : Nat) : Int) < ((P.length + q : Nat) : Int) := by omega
    have hr : (p + q) / 2 < X.length := by omega
    have g1 : L[P.length + (p + q) / 2]? = some X[(p + q) / 2] := by
      rw [hL, List.getElem?_append_left (by rw [List.length_append]; omega), List.getElem?_append_right (by omega), show P.length + (p + q) / 2 - P.length = (p + q) / 2 by omega, List.getElem?_eq_getElem hr]
    have g2 : L[P.length + X.length]? = some y := by
      rw [hL, List.getElem?_append_right (by rw [List.length_append]; omega), List.length_append, Nat.sub_self]; rfl
    have p1 := ntsF_pick g1
    have p2 := ntsF_pick g2
    rw [hm]
    have hh := half (i := P.length + p) (j := P.length + q) (c := P.length + (p + q) / 2) (by omega) (by omega)
    have hcm := enc1_calls y X[(p + q) / 2]
    by_cases hxy : tagI y - tagI X[(p + q) / 2] < 0
    · repeat' (first | with_reducible (first | refine am_seq ?_ | refine am_block ?_) | ((with_reducible apply am_cond); (case hb => rfl); all_goals (intro hc; (try simp only [reduceCtorEq, bD, beq_iff_eq] at hc); (try (exfalso; omega)))) | ((first | with_reducible (first | refine am_reg ?_ | refine am_drw ?_ | refine am_skip ?_ | refine am_exit ?_ | refine am_ret ?_ | refine vc_intro ?_ | refine need_elems (by assumption) ?_ | refine vlen_acc (by assumption) ?_ | refine need_bytes (by assumption) ?_ | refine call_of (hcm) ?_ | refine qcall_of (hcm) ?_ | refine need_lk ?_) | ((with_reducible (first | apply gd_not | apply gd_of | apply gq_not | apply gq_of | apply pickB_of)) <;> intro hc <;> (try simp -implicitDefEqProofs (disch := omega) only [go_sem, hc, hh, wrap_id, hc1, p1, p2, hxy, ntsF_len, hN, ent_enc1, true_and, List.nil_append, List.append_nil, List.cons_append, Bool.not_true]) <;> (try simp only [reduceCtorEq, bD, beq_iff_eq] at hc) <;> (try (exfalso; omega))) | done) <;> (try simp -implicitDefEqProofs (disch := omega) only [go_sem, hh, wrap_id, hc1, p1, p2, hxy, ntsF_len, hN, ent_enc1, true_and, List.nil_append, List.append_nil, List.cons_append, Bool.not_true])))
      obtain ⟨t1, t2⟩ := (tag_lt _ _).1 hxy
      all_goals exact ⟨(p + q) / 2 - p, by omega, p, (p + q) / 2, by omega, by omega, rfl, h1, fun z hz => ⟨t1, srn_drop hS hr t2 z hz⟩, rfl⟩
    · repeat' (first | with_reducible (first | refine am_seq ?_ | refine am_block ?_) | ((with_reducible apply am_cond); (case hb => rfl); all_goals (intro hc; (try simp only [reduceCtorEq, bD, beq_iff_eq] at hc); (try (exfalso; omega)))) | ((first | with_reducible (first | refine am_reg ?_ | refine am_drw ?_ | refine am_skip ?_ | refine am_exit ?_ | refine am_ret ?_ | refine vc_intro ?_ | refine need_elems (by assumption) ?_ | refine vlen_acc (by assumption) ?_ | refine need_bytes (by assumption) ?_ | refine call_of (hcm) ?_ | refine qcall_of (hcm) ?_ | refine need_lk ?_) | ((with_reducible (first | apply gd_not | apply gd_of | apply gq_not | apply gq_of | apply pickB_of)) <;> intro hc <;> (try simp -implicitDefEqProofs (disch := omega) only [go_sem, hc, hh, wrap_id, hc1, p1, p2, hxy, ntsF_len, hN, ent_enc1, true_and, List.nil_append, List.append_nil, List.cons_append, Bool.not_false]) <;> (try simp only [reduceCtorEq, bD, beq_iff_eq] at hc) <;> (try (exfalso; omega))) | done) <;> (try simp -implicitDefEqProofs (disch := omega) only [go_sem, hh, wrap_id, hc1, p1, p2, hxy, ntsF_len, hN, ent_enc1, true_and, List.nil_append, List.append_nil, List.cons_append, Bool.not_false])))
      all_goals refine ⟨q - ((p + q) / 2 + 1), by omega, (p + q) / 2 + 1, q, by omega, by omega, rfl, fun z hz hh => ?_, h2, rfl⟩
      all_goals refine hxy ((tag_lt _ _).2 ⟨hh.1, ?_⟩)
      all_goals (cases he : X[(p + q) / 2].err <;> first | rfl | (have := srn_take hS hr he z hz; rw [hh.2] at this; cases this))
  · have e : q = p := by omega
    subst e
    have hcl : ¬ ((P.length + q : Nat) : Int) < ((P.length + q : Nat) : Int) := by omega
    obtain ⟨X1, X2, rfl, rfl⟩ : ∃ X1 X2 : List Nt, X = X1 ++ X2 ∧ q = X1.length := ⟨X.take q, X.drop q, (List.take_append_drop _ _).symm, by rw [List.length_take]; omega⟩
    rw [List.take_left' rfl] at h1
    rw [List.drop_left' rfl] at h2
    rw [stb_snoc h1 h2 hS]
    rw [List.length_append] at hlen hm
    repeat' (first | with_reducible (first | refine am_seq ?_ | refine am_block ?_) | ((with_reducible apply am_cond); (case hb => rfl); all_goals (intro hc; (try simp only [reduceCtorEq, bD, beq_iff_eq] at hc); (try (exfalso; omega)))) | ((first | with_reducible (first | refine am_reg ?_ | refine am_drw ?_ | refine am_skip ?_ | refine am_exit ?_ | refine am_ret ?_ | refine vc_intro ?_ | refine need_elems (by assumption) ?_ | refine vlen_acc (by assumption) ?_ | refine need_bytes (by assumption) ?_ | refine need_lk ?_) | ((with_reducible (first | apply gd_not | apply gd_of | apply gq_not | apply gq_of | apply pickB_of)) <;> intro hc <;> (try simp -implicitDefEqProofs (disch := omega) only [go_sem, hc, wrap_id, hcl]) <;> (try simp only [reduceCtorEq, bD, beq_iff_eq] at hc) <;> (try (exfalso; omega))) | done) <;> (try simp -implicitDefEqProofs (disch := omega) only [go_sem, wrap_id, hcl])))
    refine am_loop (fun n st H' => ∃ U V : List Nt, X2 = U ++ V ∧ n = U.length ∧ st = [(0, .msl k 2 0 N), (14, .int .i64 ((P.length + X1.length : Nat) : Int)), (17, .int .i64 ((P.length + X1.length + U.length : Nat) : Int))] ∧ H' = G.put k (ntO ((P ++ X1 ++ U) ++ y :: (V ++ S)))) ?_ X2.length ⟨X2, [], by simp, rfl, by rw [hm, Nat.add_assoc], by rw [put_self]; rw [hk, hL]; simp⟩
    rintro n st H' ⟨U, V, rfl, rfl, rfl, rfl⟩
    rw [List.length_append] at hlen
    rcases List.eq_nil_or_concat U with rfl | ⟨U0, u, rfl⟩
    · have hc2 : ¬ ((P.length + X1.length + ([] : List Nt).length : Nat) : Int) > ((P.length + X1.length : Nat) : Int) := by simp
      repeat' (first | with_reducible (first | refine am_seq ?_ | refine am_block ?_) | ((with_reducible apply am_cond); (case hb => rfl); all_goals (intro hc; (try simp only [reduceCtorEq, bD, beq_iff_eq] at hc); (try (exfalso; omega)))) | ((first | with_reducible (first | refine am_reg ?_ | refine am_drw ?_ | refine am_skip ?_ | refine am_exit ?_ | refine am_ret ?_ | refine vc_intro ?_ | refine need_elems (by assumption) ?_ | refine vlen_acc (by assumption) ?_ | refine need_bytes (by assumption) ?_ | refine need_lk ?_) | ((with_reducible (first | apply gd_not | apply gd_of | apply gq_not | apply gq_of | apply pickB_of)) <;> intro hc <;> (try simp -implicitDefEqProofs (disch := omega) only [go_sem, hc, wrap_id, List.length_nil, Nat.add_zero, Int.lt_irrefl]) <;> (try simp only [reduceCtorEq, bD, beq_iff_eq] at hc) <;> (try (exfalso; omega))) | done) <;> (try simp -implicitDefEqProofs (disch := omega) only [go_sem, wrap_id, List.length_nil, Nat.add_zero, Int.lt_irrefl])))
      all_goals exact ⟨rfl, by simp⟩
    · rw [List.concat_eq_append] at *
      have hul : (U0 ++ [u]).length = U0.length + 1 := by simp
      rw [hul] at hlen
      have hq9 : P.length + X1.length + (U0 ++ [u]).length = P.length + X1.length + U0.length + 1 := by rw [hul]; rfl
      rw [hq9, hul]
      have hc2 : ((P.length + X1.length : Nat) : Int) < ((P.length + X1.length + U0.length + 1 : Nat) : Int) := by omega
      have em : ((P.length + X1.length + U0.length + 1 : Nat) : Int) - 1 = ((P.length + X1.length + U0.length : Nat) : Int) := by omega
      have hx : (P ++ X1 ++ U0).length = P.length + X1.length + U0.length := by simp; omega
      have hcur : (P ++ X1 ++ (U0 ++ [u])) ++ y :: (V ++ S) = (P ++ X1 ++ U0) ++ u :: [] ++ y :: (V ++ S) := by simp only [List.append_assoc, List.cons_append, List.nil_append]
      have hnext : (P ++ X1 ++ U0) ++ y :: ((u :: V) ++ S) = (P ++ X1 ++ U0) ++ y :: [] ++ u :: (V ++ S) := by simp only [List.append_assoc, List.cons_append, List.nil_append]
      have g1 := get2a (P ++ X1 ++ U0) [] (V ++ S) u y
      have g2 := get2b (P ++ X1 ++ U0) [] (V ++ S) u y
      have g3 := set2 (P ++ X1 ++ U0) [] (V ++ S) u y
      rw [← hnext] at g3
      rw [← hcur, hx] at g1
      rw [← hcur, hx, List.length_nil, Nat.add_zero] at g2
      rw [← hcur, hx, List.length_nil, Nat.add_zero, List.set_comm _ _ (by omega)] at g3
      have hcl2 : ((P ++ X1 ++ (U0 ++ [u])) ++ y :: (V ++ S)).length = N := by
        rw [hcur]; simp; omega
      generalize ((P ++ X1 ++ (U0 ++ [u])) ++ y :: (V ++ S)) = cur at *
      have p1 := ntsF_pick g1
      have p2 := ntsF_pick g2
      have s1 := ntsF_set (l := cur) (i := P.length + X1.length + U0.length + 1) u (by omega)
      have s2 := ntsF_set (l := cur.set (P.length + X1.length + U0.length + 1) u) (i := P.length + X1.length + U0.length) y (by rw [List.length_set]; omega)
      rw [g3] at s2
      repeat' (first | with_reducible (first | refine am_seq ?_ | refine am_block ?_) | ((with_reducible apply am_cond); (case hb => rfl); all_goals (intro hc; (try simp only [reduceCtorEq, bD, beq_iff_eq] at hc); (try (exfalso; omega)))) | ((first | with_reducible (first | refine am_reg ?_ | refine am_drw ?_ | refine am_skip ?_ | refine am_exit ?_ | refine am_ret ?_ | refine vc_intro ?_ | refine need_elems (by assumption) ?_ | refine vlen_acc (by assumption) ?_ | refine need_bytes (by assumption) ?_ | refine need_lk ?_) | ((with_reducible (first | apply gd_not | apply gd_of | apply gq_not | apply gq_of | apply pickB_of)) <;> intro hc <;> (try simp -implicitDefEqProofs (disch := omega) only [go_sem, hc, wrap_id, em, hc2, p1, p2, Nat.zero_add, AH.put_same, AH.put_put, s1, s2, ntsF_len, List.length_set, hcl2]) <;> (try simp only [reduceCtorEq, bD, beq_iff_eq] at hc) <;> (try (exfalso; omega))) | done) <;> (try simp -implicitDefEqProofs (disch := omega) only [go_sem, wrap_id, em, hc2, p1, p2, Nat.zero_add, AH.put_same, AH.put_put, s1, s2, ntsF_len, List.length_set, hcl2])))
      all_goals exact ⟨U0.length, by omega, U0, u :: V, by simp, rfl, rfl, rfl⟩
end Go.Proofs.Ytjlphncecdlmcaa
