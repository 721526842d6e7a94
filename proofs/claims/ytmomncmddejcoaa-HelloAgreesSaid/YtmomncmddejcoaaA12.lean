/- Of the walks of this seat: contracts of functions of the given program, proved over the abstract values of the texts Vm. Conditions: as each theorem says. -/
import Derived.Test.YtmomncmddejcoaaL3
set_option linter.unusedVariables false
set_option linter.unusedSimpArgs false
namespace Go.Proofs.Ytmomncmddejcoaa
open Go.Vm
attribute [local go_sem] strsE_get strsE_length intsE_get intsE_length Int.toNat_natCast Option.map_some Int.natCast_nonneg decide_eq_true_eq decide_eq_false_iff_not
/- flange/flangelaw21.HelloAgrees -/
def k3_0 : MC :=
  .cond (.t 33) ((.seq (.reg [
     ⟨(some 34), none, .call 13 []⟩,
     ⟨(some 6), none, .val (.mv (.t 34))⟩] [6]) .ret)) (.skip)

def k3_1 : MC :=
  .cond (.t 44) (.reg [
     ⟨(some 45), none, .val (.load true 2 (.t 4))⟩,
     ⟨(some 46), none, .call 15 [(.t 45)]⟩,
     ⟨(some 9), none, .val (.mv (.t 46))⟩] [2, 3, 4, 7, 8, 9]) (.skip)

def k3_2 : MC :=
  .cond (.t 51) (.skip) (.exit 0)

def k3_3 : MC :=
  .cond (.t 58) (.skip) (.exit 2)

def k3_4 : MC :=
  .cond (.t 71) (.reg [
     ⟨(some 72), none, .val (.mv (.t 10))⟩,
     ⟨(some 73), none, .val (.faddr 0 (.t 3))⟩,
     ⟨(some 74), none, .val (.load false 1 (.t 73))⟩,
     ⟨(some 75), none, .val (.mv (.t 11))⟩,
     ⟨(some 76), none, .val (.iaddr 1 (.t 74) (.t 75))⟩,
     ⟨(some 77), none, .val (.load false 1 (.t 76))⟩,
     ⟨(some 78), none, .val (.mx true (.t 72) (.t 77))⟩,
     ⟨(some 10), none, .val (.mv (.t 78))⟩] [2, 3, 4, 7, 8, 9, 10, 11, 12]) (.skip)

def k3_5 : MC :=
  .reg [
    ⟨(some 59), none, .val (.mv (.t 12))⟩,
    ⟨(some 60), none, .val (.bin .add .num (.t 59) (.c (.int .i64 1)))⟩,
    ⟨(some 12), none, .val (.mv (.t 60))⟩] [2, 3, 4, 7, 8, 9, 10, 11, 12]

def k3_6 : MC :=
  (.seq (.block 3 ((.seq (.drw [
     ⟨(some 61), none, .val (.faddr 0 (.t 3))⟩,
     ⟨(some 62), none, .val (.load false 1 (.t 61))⟩,
     ⟨(some 63), none, .val (.mv (.t 11))⟩,
     ⟨(some 64), none, .val (.iaddr 1 (.t 62) (.t 63))⟩,
     ⟨(some 65), none, .val (.load false 1 (.t 64))⟩,
     ⟨(some 66), none, .val (.faddr 0 (.t 4))⟩,
     ⟨(some 67), none, .val (.load false 1 (.t 66))⟩,
     ⟨(some 68), none, .val (.mv (.t 12))⟩,
     ⟨(some 69), none, .val (.iaddr 1 (.t 67) (.t 68))⟩,
     ⟨(some 70), none, .val (.load false 1 (.t 69))⟩,
     ⟨(some 71), none, .val (.bin .eql .num (.t 65) (.t 70))⟩] [
] [2, 3, 4, 7, 8, 9, 10, 11, 12, 71]) k3_4))) k3_5)

def k3_7 : MC :=
  (.seq ((.seq (.reg [
    ⟨(some 54), none, .val (.mv (.t 12))⟩,
    ⟨(some 55), none, .val (.faddr 0 (.t 4))⟩,
    ⟨(some 56), none, .val (.load false 1 (.t 55))⟩,
    ⟨(some 57), none, .val (.len .sl (.t 56))⟩,
    ⟨(some 58), none, .val (.bin .lss .num (.t 54) (.t 57))⟩] [2, 3, 4, 7, 8, 9, 10, 11, 12, 58]) k3_3)) k3_6)

def k3_8 : MC :=
  .block 2 (.loop k3_7)

def k3_9 : MC :=
  .reg [
    ⟨(some 52), none, .val (.mv (.t 11))⟩,
    ⟨(some 53), none, .val (.bin .add .num (.t 52) (.c (.int .i64 1)))⟩,
    ⟨(some 11), none, .val (.mv (.t 53))⟩] [2, 3, 4, 7, 8, 9, 10, 11]

def k3_10 : MC :=
  (.seq (.block 1 ((.seq (.reg [
     ⟨(some 12), none, .val (.mv (.c (.int .i64 0)))⟩] [2, 3, 4, 7, 8, 9, 10, 11, 12]) k3_8))) k3_9)

def k3_11 : MC :=
  (.seq ((.seq (.reg [
    ⟨(some 47), none, .val (.mv (.t 11))⟩,
    ⟨(some 48), none, .val (.faddr 0 (.t 3))⟩,
    ⟨(some 49), none, .val (.load false 1 (.t 48))⟩,
    ⟨(some 50), none, .val (.len .sl (.t 49))⟩,
    ⟨(some 51), none, .val (.bin .lss .num (.t 47) (.t 50))⟩] [2, 3, 4, 7, 8, 9, 10, 11, 51]) k3_2)) k3_10)

def k3_12 : MC :=
  .block 0 (.loop k3_11)

def k3_13 : MC :=
  .cond (.t 84) (.reg [
     ⟨(some 9), none, .val (.mv (.c (.int .i64 8)))⟩] [2, 3, 4, 7, 8, 9, 10]) (.skip)

def k3_14 : MC :=
  .cond (.t 86) ((.seq (.reg [
     ⟨(some 87), none, .val (.faddr 0 (.t 7))⟩,
     ⟨(some 88), none, .val (.load false 1 (.t 87))⟩,
     ⟨(some 89), none, .val (.bin .eql .num (.t 88) (.c (.int .i64 0)))⟩,
     ⟨(some 90), none, .val (.mv (.t 89))⟩,
     ⟨(some 91), (some (90, true)), .val (.faddr 1 (.t 7))⟩,
     ⟨(some 92), (some (90, true)), .val (.load false 1 (.t 91))⟩,
     ⟨(some 93), (some (90, true)), .val (.len .sl (.t 92))⟩,
     ⟨(some 94), (some (90, true)), .val (.bin .eql .num (.t 93) (.c (.int .i64 0)))⟩,
     ⟨(some 95), none, .val (.pick (.t 90) (.t 94) (.c (.bool false)))⟩,
     ⟨(some 96), none, .val (.mv (.t 95))⟩,
     ⟨(some 97), (some (96, true)), .val (.mv (.t 8))⟩,
     ⟨(some 98), (some (96, true)), .val (.mv (.t 9))⟩,
     ⟨(some 99), (some (96, true)), .val (.bin .eql .num (.t 97) (.t 98))⟩,
     ⟨(some 100), none, .val (.pick (.t 96) (.t 99) (.c (.bool false)))⟩,
     ⟨(some 6), none, .val (.mv (.t 100))⟩] [6]) .ret)) (.skip)

def k3_15 : MC :=
  .cond (.t 111) (.skip) (.exit 4)

def k3_16 : MC :=
  .cond (.t 118) (.skip) (.exit 6)

def k3_17 : MC :=
  .cond (.t 131) (.exit 7) (.skip)

def k3_18 : MC :=
  .cond (.t 149) ((.seq (.reg [
     ⟨(some 6), none, .val (.mv (.c (.bool false)))⟩] [6]) .ret)) (.skip)

def k3_19 : MC :=
  .reg [
    ⟨(some 152), none, .val (.mv (.t 16))⟩,
    ⟨(some 153), none, .val (.mv (.t 152))⟩,
    ⟨(some 154), (some (153, false)), .val (.faddr 1 (.t 3))⟩,
    ⟨(some 155), (some (153, false)), .val (.load false 1 (.t 154))⟩,
    ⟨(some 156), (some (153, false)), .val (.mv (.t 17))⟩,
    ⟨(some 157), (some (153, false)), .val (.iaddr 1 (.t 155) (.t 156))⟩,
    ⟨(some 158), (some (153, false)), .val (.load false 1 (.t 157))⟩,
    ⟨(some 159), (some (153, false)), .val (.mv (.t 2))⟩,
    ⟨(some 160), (some (153, false)), .val (.bin .eql .num (.t 158) (.t 159))⟩,
    ⟨(some 161), none, .val (.pick (.t 153) (.c (.bool true)) (.t 160))⟩,
    ⟨(some 16), none, .val (.mv (.t 161))⟩] [2, 3, 4, 7, 8, 10, 13, 14, 15, 16, 17, 18]

def k3_20 : MC :=
  (.seq (.reg [
    ⟨(some 150), none, .val (.mv (.t 15))⟩,
    ⟨(some 151), none, .val (.bin .add .num (.t 150) (.c (.int .i64 1)))⟩,
    ⟨(some 15), none, .val (.mv (.t 151))⟩] [2, 3, 4, 7, 8, 10, 13, 14, 15, 16, 17, 18]) k3_19)

def k3_21 : MC :=
  (.seq ((.seq (.drw [
    ⟨(some 132), none, .val (.mv (.t 15))⟩,
    ⟨(some 133), none, .val (.faddr 1 (.t 7))⟩,
    ⟨(some 134), none, .val (.load false 1 (.t 133))⟩,
    ⟨(some 135), none, .val (.len .sl (.t 134))⟩,
    ⟨(some 136), none, .val (.bin .geq .num (.t 132) (.t 135))⟩,
    ⟨(some 137), none, .val (.mv (.t 136))⟩,
    ⟨(some 138), (some (137, false)), .val (.faddr 1 (.t 7))⟩,
    ⟨(some 139), (some (137, false)), .val (.load false 1 (.t 138))⟩,
    ⟨(some 140), (some (137, false)), .val (.mv (.t 15))⟩,
    ⟨(some 141), (some (137, false)), .val (.iaddr 1 (.t 139) (.t 140))⟩,
    ⟨(some 142), (some (137, false)), .val (.load false 1 (.t 141))⟩,
    ⟨(some 143), (some (137, false)), .val (.faddr 1 (.t 3))⟩,
    ⟨(some 144), (some (137, false)), .val (.load false 1 (.t 143))⟩,
    ⟨(some 145), (some (137, false)), .val (.mv (.t 17))⟩,
    ⟨(some 146), (some (137, false)), .val (.iaddr 1 (.t 144) (.t 145))⟩,
    ⟨(some 147), (some (137, false)), .val (.load false 1 (.t 146))⟩,
    ⟨(some 148), (some (137, false)), .val (.bin .neq .num (.t 142) (.t 147))⟩,
    ⟨(some 149), none, .val (.pick (.t 137) (.c (.bool true)) (.t 148))⟩] [
] [2, 3, 4, 7, 8, 10, 13, 14, 15, 16, 17, 18, 149]) k3_18)) k3_20)

def k3_22 : MC :=
  .reg [
    ⟨(some 119), none, .val (.mv (.t 18))⟩,
    ⟨(some 120), none, .val (.bin .add .num (.t 119) (.c (.int .i64 1)))⟩,
    ⟨(some 18), none, .val (.mv (.t 120))⟩] [2, 3, 4, 7, 8, 10, 13, 14, 15, 16, 17, 18]

def k3_23 : MC :=
  (.seq (.block 7 ((.seq ((.seq (.drw [
     ⟨(some 121), none, .val (.faddr 1 (.t 3))⟩,
     ⟨(some 122), none, .val (.load false 1 (.t 121))⟩,
     ⟨(some 123), none, .val (.mv (.t 17))⟩,
     ⟨(some 124), none, .val (.iaddr 1 (.t 122) (.t 123))⟩,
     ⟨(some 125), none, .val (.load false 1 (.t 124))⟩,
     ⟨(some 126), none, .val (.faddr 1 (.t 4))⟩,
     ⟨(some 127), none, .val (.load false 1 (.t 126))⟩,
     ⟨(some 128), none, .val (.mv (.t 18))⟩,
     ⟨(some 129), none, .val (.iaddr 1 (.t 127) (.t 128))⟩,
     ⟨(some 130), none, .val (.load false 1 (.t 129))⟩,
     ⟨(some 131), none, .val (.bin .neq .num (.t 125) (.t 130))⟩] [
] [2, 3, 4, 7, 8, 10, 13, 14, 15, 16, 17, 18, 131]) k3_17)) k3_21))) k3_22)

def k3_24 : MC :=
  (.seq ((.seq (.reg [
    ⟨(some 114), none, .val (.mv (.t 18))⟩,
    ⟨(some 115), none, .val (.faddr 1 (.t 4))⟩,
    ⟨(some 116), none, .val (.load false 1 (.t 115))⟩,
    ⟨(some 117), none, .val (.len .sl (.t 116))⟩,
    ⟨(some 118), none, .val (.bin .lss .num (.t 114) (.t 117))⟩] [2, 3, 4, 7, 8, 10, 13, 14, 15, 16, 17, 18, 118]) k3_16)) k3_23)

def k3_25 : MC :=
  .block 6 (.loop k3_24)

def k3_26 : MC :=
  .reg [
    ⟨(some 112), none, .val (.mv (.t 17))⟩,
    ⟨(some 113), none, .val (.bin .add .num (.t 112) (.c (.int .i64 1)))⟩,
    ⟨(some 17), none, .val (.mv (.t 113))⟩] [2, 3, 4, 7, 8, 10, 13, 14, 15, 16, 17]

def k3_27 : MC :=
  (.seq (.block 5 ((.seq (.reg [
     ⟨(some 18), none, .val (.mv (.c (.int .i64 0)))⟩] [2, 3, 4, 7, 8, 10, 13, 14, 15, 16, 17, 18]) k3_25))) k3_26)

def k3_28 : MC :=
  (.seq ((.seq (.reg [
    ⟨(some 107), none, .val (.mv (.t 17))⟩,
    ⟨(some 108), none, .val (.faddr 1 (.t 3))⟩,
    ⟨(some 109), none, .val (.load false 1 (.t 108))⟩,
    ⟨(some 110), none, .val (.len .sl (.t 109))⟩,
    ⟨(some 111), none, .val (.bin .lss .num (.t 107) (.t 110))⟩] [2, 3, 4, 7, 8, 10, 13, 14, 15, 16, 17, 111]) k3_15)) k3_27)

def k3_29 : MC :=
  .block 4 (.loop k3_28)

def k3_30 : MC :=
  (.seq (.reg [
    ⟨(some 162), none, .val (.mv (.t 8))⟩,
    ⟨(some 163), none, .val (.bin .eql .num (.t 162) (.c (.int .i64 0)))⟩,
    ⟨(some 164), none, .val (.mv (.t 163))⟩,
    ⟨(some 165), (some (164, true)), .val (.mv (.t 14))⟩,
    ⟨(some 166), (some (164, true)), .val (.bin .eql .num (.t 165) (.c (.int .i64 0)))⟩,
    ⟨(some 167), none, .val (.pick (.t 164) (.t 166) (.c (.bool false)))⟩,
    ⟨(some 168), none, .val (.mv (.t 167))⟩,
    ⟨(some 169), (some (168, true)), .val (.faddr 0 (.t 7))⟩,
    ⟨(some 170), (some (168, true)), .val (.load false 1 (.t 169))⟩,
    ⟨(some 171), (some (168, true)), .val (.mv (.t 10))⟩,
    ⟨(some 172), (some (168, true)), .val (.bin .eql .num (.t 170) (.t 171))⟩,
    ⟨(some 173), none, .val (.pick (.t 168) (.t 172) (.c (.bool false)))⟩,
    ⟨(some 174), none, .val (.mv (.t 173))⟩,
    ⟨(some 175), (some (174, true)), .val (.faddr 0 (.t 13))⟩,
    ⟨(some 176), (some (174, true)), .val (.load false 1 (.t 175))⟩,
    ⟨(some 177), (some (174, true)), .val (.mv (.t 10))⟩,
    ⟨(some 178), (some (174, true)), .val (.bin .eql .num (.t 176) (.t 177))⟩,
    ⟨(some 179), none, .val (.pick (.t 174) (.t 178) (.c (.bool false)))⟩,
    ⟨(some 180), none, .val (.mv (.t 179))⟩,
    ⟨(some 181), (some (180, true)), .val (.mv (.t 15))⟩,
    ⟨(some 182), (some (180, true)), .val (.faddr 1 (.t 7))⟩,
    ⟨(some 183), (some (180, true)), .val (.load false 1 (.t 182))⟩,
    ⟨(some 184), (some (180, true)), .val (.len .sl (.t 183))⟩,
    ⟨(some 185), (some (180, true)), .val (.bin .eql .num (.t 181) (.t 184))⟩,
    ⟨(some 186), none, .val (.pick (.t 180) (.t 185) (.c (.bool false)))⟩,
    ⟨(some 187), none, .val (.mv (.t 186))⟩,
    ⟨(some 188), (some (187, true)), .val (.faddr 1 (.t 13))⟩,
    ⟨(some 189), (some (187, true)), .val (.load false 1 (.t 188))⟩,
    ⟨(some 190), (some (187, true)), .val (.len .sl (.t 189))⟩,
    ⟨(some 191), (some (187, true)), .val (.mv (.t 15))⟩,
    ⟨(some 192), (some (187, true)), .val (.bin .eql .num (.t 190) (.t 191))⟩,
    ⟨(some 193), none, .val (.pick (.t 187) (.t 192) (.c (.bool false)))⟩,
    ⟨(some 194), none, .val (.mv (.t 193))⟩,
    ⟨(some 195), (some (194, true)), .val (.load true 2 (.t 7))⟩,
    ⟨(some 196), (some (194, true)), .val (.mv (.t 2))⟩,
    ⟨(some 197), (some (194, true)), .call 16 [(.t 195), (.t 196)]⟩,
    ⟨(some 198), (some (194, true)), .val (.mv (.t 16))⟩,
    ⟨(some 199), (some (194, true)), .val (.bin .eql .bool (.t 197) (.t 198))⟩,
    ⟨(some 200), none, .val (.pick (.t 194) (.t 199) (.c (.bool false)))⟩,
    ⟨(some 201), none, .val (.mv (.t 200))⟩,
    ⟨(some 202), (some (201, true)), .val (.load true 2 (.t 13))⟩,
    ⟨(some 203), (some (201, true)), .val (.mv (.t 2))⟩,
    ⟨(some 204), (some (201, true)), .call 16 [(.t 202), (.t 203)]⟩,
    ⟨(some 205), (some (201, true)), .val (.mv (.t 16))⟩,
    ⟨(some 206), (some (201, true)), .val (.bin .eql .bool (.t 204) (.t 205))⟩,
    ⟨(some 207), none, .val (.pick (.t 201) (.t 206) (.c (.bool false)))⟩,
    ⟨(some 6), none, .val (.mv (.t 207))⟩] [6]) .ret)

def k3_31 : MC :=
  (.seq ((.seq (.reg [
    ⟨(some 17), none, .val (.mv (.c (.int .i64 0)))⟩] [2, 3, 4, 7, 8, 10, 13, 14, 15, 16, 17]) k3_29)) k3_30)

def k3_32 : MC :=
  (.seq (.reg [
    ⟨(some 16), none, .val (.mv (.c (.bool false)))⟩] [2, 3, 4, 7, 8, 10, 13, 14, 15, 16]) k3_31)

def k3_33 : MC :=
  (.seq (.reg [
    ⟨(some 15), none, .val (.mv (.c (.int .i64 0)))⟩] [2, 3, 4, 7, 8, 10, 13, 14, 15]) k3_32)

def k3_34 : MC :=
  (.seq (.reg [
    ⟨(some 102), none, .val (.load true 2 (.t 4))⟩,
    ⟨(some 103), none, .val (.load true 2 (.t 3))⟩,
    ⟨(some 104), none, .call 14 [(.t 102), (.t 103)]⟩,
    ⟨(some 101), none, .val (.mv (.t 104))⟩,
    ⟨(some 105), none, .val (.ext (.t 101) 0)⟩,
    ⟨(some 106), none, .val (.ext (.t 101) 1)⟩,
    ⟨(some 13), none, .zalloc [(.int .i64 0), .nilSl]⟩,
    ⟨none, none, .store 2 (.t 13) (.t 105)⟩,
    ⟨(some 14), none, .val (.mv (.t 106))⟩] [2, 3, 4, 7, 8, 10, 13, 14]) k3_33)

def k3_35 : MC :=
  (.seq ((.seq (.reg [
    ⟨(some 85), none, .val (.mv (.t 9))⟩,
    ⟨(some 86), none, .val (.bin .neq .num (.t 85) (.c (.int .i64 0)))⟩] [2, 3, 4, 7, 8, 9, 10, 86]) k3_14)) k3_34)

def k3_36 : MC :=
  (.seq ((.seq (.reg [
    ⟨(some 79), none, .val (.mv (.t 9))⟩,
    ⟨(some 80), none, .val (.bin .eql .num (.t 79) (.c (.int .i64 0)))⟩,
    ⟨(some 81), none, .val (.mv (.t 80))⟩,
    ⟨(some 82), (some (81, true)), .val (.mv (.t 10))⟩,
    ⟨(some 83), (some (81, true)), .val (.bin .eql .num (.t 82) (.c (.int .i64 0)))⟩,
    ⟨(some 84), none, .val (.pick (.t 81) (.t 83) (.c (.bool false)))⟩] [2, 3, 4, 7, 8, 9, 10, 84]) k3_13)) k3_35)

def k3_37 : MC :=
  (.seq ((.seq (.reg [
    ⟨(some 11), none, .val (.mv (.c (.int .i64 0)))⟩] [2, 3, 4, 7, 8, 9, 10, 11]) k3_12)) k3_36)

def k3_38 : MC :=
  (.seq (.reg [
    ⟨(some 10), none, .val (.mv (.c (.int .i64 0)))⟩] [2, 3, 4, 7, 8, 9, 10]) k3_37)

def k3_39 : MC :=
  (.seq ((.seq (.reg [
    ⟨(some 43), none, .val (.mv (.t 9))⟩,
    ⟨(some 44), none, .val (.bin .eql .num (.t 43) (.c (.int .i64 0)))⟩] [2, 3, 4, 7, 8, 9, 44]) k3_1)) k3_38)

def k3_40 : MC :=
  (.seq (.reg [
    ⟨(some 41), none, .val (.load true 2 (.t 3))⟩,
    ⟨(some 42), none, .call 15 [(.t 41)]⟩,
    ⟨(some 9), none, .val (.mv (.t 42))⟩] [2, 3, 4, 7, 8, 9]) k3_39)

def k3_41 : MC :=
  (.seq (.reg [
    ⟨(some 36), none, .val (.load true 2 (.t 3))⟩,
    ⟨(some 37), none, .val (.load true 2 (.t 4))⟩,
    ⟨(some 38), none, .call 14 [(.t 36), (.t 37)]⟩,
    ⟨(some 35), none, .val (.mv (.t 38))⟩,
    ⟨(some 39), none, .val (.ext (.t 35) 0)⟩,
    ⟨(some 40), none, .val (.ext (.t 35) 1)⟩,
    ⟨(some 7), none, .zalloc [(.int .i64 0), .nilSl]⟩,
    ⟨none, none, .store 2 (.t 7) (.t 39)⟩,
    ⟨(some 8), none, .val (.mv (.t 40))⟩] [2, 3, 4, 7, 8]) k3_40)

def k3_42 : MC :=
  (.seq ((.seq (.reg [
    ⟨(some 19), none, .val (.load true 2 (.t 3))⟩,
    ⟨(some 20), none, .call 12 [(.t 19)]⟩,
    ⟨(some 21), none, .val (.mv (.t 20))⟩,
    ⟨(some 22), (some (21, false)), .val (.load true 2 (.t 4))⟩,
    ⟨(some 23), (some (21, false)), .call 12 [(.t 22)]⟩,
    ⟨(some 24), none, .val (.pick (.t 21) (.c (.bool true)) (.t 23))⟩,
    ⟨(some 25), none, .val (.mv (.t 24))⟩,
    ⟨(some 26), (some (25, false)), .val (.mv (.t 2))⟩,
    ⟨(some 27), (some (25, false)), .val (.len .str (.t 26))⟩,
    ⟨(some 28), (some (25, false)), .val (.bin .gtr .num (.t 27) (.c (.int .i64 60)))⟩,
    ⟨(some 29), none, .val (.pick (.t 25) (.c (.bool true)) (.t 28))⟩,
    ⟨(some 30), none, .val (.mv (.t 29))⟩,
    ⟨(some 31), (some (30, false)), .call 13 []⟩,
    ⟨(some 32), (some (30, false)), .val (.not (.t 31))⟩,
    ⟨(some 33), none, .val (.pick (.t 30) (.c (.bool true)) (.t 32))⟩] [2, 3, 4, 33]) k3_0)) k3_41)
def k3 : MC :=
  (.seq (.reg [
    ⟨(some 3), none, .boxi (.t 0)⟩,
    ⟨(some 4), none, .boxi (.t 1)⟩,
    ⟨(some 6), none, .val (.mv (.c (.bool false)))⟩] [2, 3, 4]) k3_42)
theorem c3 : Try.f3.body.bind (mcOf Try.prog (List.contains [3, 4] ·) (List.getD [(0, [2, 3, 4]), (0, [2, 3, 4, 33]), (0, [6]), (0, [2, 3, 4, 7, 8]), (0, [2, 3, 4, 7, 8, 9]), (0, [2, 3, 4, 7, 8, 9, 44]), (0, [2, 3, 4, 7, 8, 9]), (0, [2, 3, 4, 7, 8, 9, 10]), (0, [2, 3, 4, 7, 8, 9, 10, 11]), (0, [2, 3, 4, 7, 8, 9, 10, 11, 51]), (0, [2, 3, 4, 7, 8, 9, 10, 11]), (0, [2, 3, 4, 7, 8, 9, 10, 11, 12]), (0, [2, 3, 4, 7, 8, 9, 10, 11, 12, 58]), (0, [2, 3, 4, 7, 8, 9, 10, 11, 12]), (11, [2, 3, 4, 7, 8, 9, 10, 11, 12, 71]), (0, [2, 3, 4, 7, 8, 9, 10, 11, 12]), (0, [2, 3, 4, 7, 8, 9, 10, 84]), (0, [2, 3, 4, 7, 8, 9, 10]), (0, [2, 3, 4, 7, 8, 9, 10, 86]), (0, [6]), (0, [2, 3, 4, 7, 8, 10, 13, 14]), (0, [2, 3, 4, 7, 8, 10, 13, 14, 15]), (0, [2, 3, 4, 7, 8, 10, 13, 14, 15, 16]), (0, [2, 3, 4, 7, 8, 10, 13, 14, 15, 16, 17]), (0, [2, 3, 4, 7, 8, 10, 13, 14, 15, 16, 17, 111]), (0, [2, 3, 4, 7, 8, 10, 13, 14, 15, 16, 17]), (0, [2, 3, 4, 7, 8, 10, 13, 14, 15, 16, 17, 18]), (0, [2, 3, 4, 7, 8, 10, 13, 14, 15, 16, 17, 18, 118]), (0, [2, 3, 4, 7, 8, 10, 13, 14, 15, 16, 17, 18]), (11, [2, 3, 4, 7, 8, 10, 13, 14, 15, 16, 17, 18, 131]), (18, [2, 3, 4, 7, 8, 10, 13, 14, 15, 16, 17, 18, 149]), (0, [6]), (0, [2, 3, 4, 7, 8, 10, 13, 14, 15, 16, 17, 18]), (0, [2, 3, 4, 7, 8, 10, 13, 14, 15, 16, 17, 18]), (0, [6])] · (0, [])) 208) = some k3 := by kernel_rfl
theorem r3 : rvsOf Try.prog Try.f3.results.toList = some [.tmp 6] := by kernel_rfl

set_option maxRecDepth 4000 in
theorem hello_agrees_calls (va : List Int) (sa : List (List UInt8)) (vb : List Int) (sb : List (List UInt8)) (skill : List UInt8) (tv ts uv us : Tok) (hl : sa.length < 9223372036854775808) (hl2 : sb.length < 9223372036854775808) (H : AH) :
    ACalls Try.prog 3 [.agg [.sl 1 (intsE va) tv, .sl 1 (strsE sa) ts], .agg [.sl 1 (intsE vb) uv, .sl 1 (strsE sb) us], .str skill] H (fun o H' => o = .ret (.bool true) ∧ H' = H) := by
  refine ACalls.drop ?_
  refine acalls Try.func3 c3 r3 (by simp [Try.ntmps3]) ?_
  repeat (first | refine am_seq ?_ | (refine am_reg ?_; simp -implicitDefEqProofs (disch := omega) only [go_sem, eq_self, decide_true, decide_false, Nat.reduceBEq, Nat.reduceAdd, Nat.reduceSub, Nat.reduceMul, Nat.reduceEqDiff, Nat.reduceLeDiff, Nat.reduceLT, Int.reduceLE, Int.reduceLT, Int.reduceToNat, Int.reduceAdd, Int.reduceEq, Int.reduceNeg]) | (refine am_drw ?_; simp -implicitDefEqProofs (disch := omega) only [go_sem, eq_self, decide_true, decide_false, Nat.reduceBEq, Nat.reduceAdd, Nat.reduceSub, Nat.reduceMul, Nat.reduceEqDiff, Nat.reduceLeDiff, Nat.reduceLT, Int.reduceLE, Int.reduceLT, Int.reduceToNat, Int.reduceAdd, Int.reduceEq, Int.reduceNeg]) | refine am_block ?_)
  refine call_of (great_calls va sa tv ts hl) ?_
  try simp -implicitDefEqProofs (disch := omega) only [go_sem, eq_self, decide_true, decide_false, Nat.reduceBEq, Nat.reduceAdd, Nat.reduceSub, Nat.reduceMul, Nat.reduceEqDiff, Nat.reduceLeDiff, Nat.reduceLT, Int.reduceLE, Int.reduceLT, Int.reduceToNat, Int.reduceAdd, Int.reduceEq, Int.reduceNeg]
  have early : AM Try.prog Try.f3.ntmps k3_0 (SQ Try.prog Try.f3.ntmps k3_41 (Body [RV.tmp 6] fun o H' => (∃ u, o = Out.ret u ∧ ∀ (s : St) (x : Value), s.val u x → s.val (V.bool true) x) ∧ H.le H'))
    [(2, .str skill), (3, .rptr [.sl 1 (intsE va) tv, .sl 1 (strsE sa) ts] 0), (4, .rptr [.sl 1 (intsE vb) uv, .sl 1 (strsE sb) us] 0), (33, .bool true)] H := by
    refine am_cond rfl (fun hc => ?_) (fun hc => ?_) <;> (try simp -implicitDefEqProofs (disch := omega) only [go_sem, eq_self, decide_true, decide_false, Nat.reduceBEq, Nat.reduceAdd, Nat.reduceSub, Nat.reduceMul, Nat.reduceEqDiff, Nat.reduceLeDiff, Nat.reduceLT, Int.reduceLE, Int.reduceLT, Int.reduceToNat, Int.reduceAdd, Int.reduceEq, Int.reduceNeg] at hc)
    repeat (first | refine am_seq ?_ | (refine am_reg ?_; simp -implicitDefEqProofs (disch := omega) only [go_sem, eq_self, decide_true, decide_false, Nat.reduceBEq, Nat.reduceAdd, Nat.reduceSub, Nat.reduceMul, Nat.reduceEqDiff, Nat.reduceLeDiff, Nat.reduceLT, Int.reduceLE, Int.reduceLT, Int.reduceToNat, Int.reduceAdd, Int.reduceEq, Int.reduceNeg]) | (refine am_drw ?_; simp -implicitDefEqProofs (disch := omega) only [go_sem, eq_self, decide_true, decide_false, Nat.reduceBEq, Nat.reduceAdd, Nat.reduceSub, Nat.reduceMul, Nat.reduceEqDiff, Nat.reduceLeDiff, Nat.reduceLT, Int.reduceLE, Int.reduceLT, Int.reduceToNat, Int.reduceAdd, Int.reduceEq, Int.reduceNeg]) | refine am_block ?_)
    refine call_of awake_calls ?_
    try simp -implicitDefEqProofs (disch := omega) only [go_sem, eq_self, decide_true, decide_false, Nat.reduceBEq, Nat.reduceAdd, Nat.reduceSub, Nat.reduceMul, Nat.reduceEqDiff, Nat.reduceLeDiff, Nat.reduceLT, Int.reduceLE, Int.reduceLT, Int.reduceToNat, Int.reduceAdd, Int.reduceEq, Int.reduceNeg]
    refine am_ret ?_
    simp -implicitDefEqProofs (disch := omega) only [go_sem, eq_self, decide_true, decide_false, Nat.reduceBEq, Nat.reduceAdd, Nat.reduceSub, Nat.reduceMul, Nat.reduceEqDiff, Nat.reduceLeDiff, Nat.reduceLT, Int.reduceLE, Int.reduceLT, Int.reduceToNat, Int.reduceAdd, Int.reduceEq, Int.reduceNeg]
    exact ⟨⟨_, rfl, fun s x h => h⟩, AH.le_refl _⟩
  refine gd_not (fun ha => ?_) (fun ha => ?_) <;> simp -implicitDefEqProofs (disch := omega) only [go_sem, eq_self, decide_true, decide_false, Nat.reduceBEq, Nat.reduceAdd, Nat.reduceSub, Nat.reduceMul, Nat.reduceEqDiff, Nat.reduceLeDiff, Nat.reduceLT, Int.reduceLE, Int.reduceLT, Int.reduceToNat, Int.reduceAdd, Int.reduceEq, Int.reduceNeg, ha]
  case refine_2 => exact early
  refine call_of (great_calls vb sb uv us hl2) ?_
  try simp -implicitDefEqProofs (disch := omega) only [go_sem, eq_self, decide_true, decide_false, Nat.reduceBEq, Nat.reduceAdd, Nat.reduceSub, Nat.reduceMul, Nat.reduceEqDiff, Nat.reduceLeDiff, Nat.reduceLT, Int.reduceLE, Int.reduceLT, Int.reduceToNat, Int.reduceAdd, Int.reduceEq, Int.reduceNeg]
  refine gd_not (fun hb => ?_) (fun hb => ?_) <;> simp -implicitDefEqProofs (disch := omega) only [go_sem, eq_self, decide_true, decide_false, Nat.reduceBEq, Nat.reduceAdd, Nat.reduceSub, Nat.reduceMul, Nat.reduceEqDiff, Nat.reduceLeDiff, Nat.reduceLT, Int.reduceLE, Int.reduceLT, Int.reduceToNat, Int.reduceAdd, Int.reduceEq, Int.reduceNeg, hb]
  case refine_2 => exact early
  refine gd_not (fun hs => ?_) (fun hs => ?_) <;> simp -implicitDefEqProofs (disch := omega) only [go_sem, eq_self, decide_true, decide_false, Nat.reduceBEq, Nat.reduceAdd, Nat.reduceSub, Nat.reduceMul, Nat.reduceEqDiff, Nat.reduceLeDiff, Nat.reduceLT, Int.reduceLE, Int.reduceLT, Int.reduceToNat, Int.reduceAdd, Int.reduceEq, Int.reduceNeg, hs]
  case refine_2 => exact early
  refine call_of awake_calls ?_
  try simp -implicitDefEqProofs (disch := omega) only [go_sem, eq_self, decide_true, decide_false, Nat.reduceBEq, Nat.reduceAdd, Nat.reduceSub, Nat.reduceMul, Nat.reduceEqDiff, Nat.reduceLeDiff, Nat.reduceLT, Int.reduceLE, Int.reduceLT, Int.reduceToNat, Int.reduceAdd, Int.reduceEq, Int.reduceNeg]
  clear early
  obtain ⟨v1, s1, s2⟩ := great_le ha
  obtain ⟨v3, s3, s4⟩ := great_le hb
  refine am_cond rfl (fun hc => ?_) (fun hc => ?_) <;> (try simp -implicitDefEqProofs (disch := omega) only [go_sem, eq_self, decide_true, decide_false, Nat.reduceBEq, Nat.reduceAdd, Nat.reduceSub, Nat.reduceMul, Nat.reduceEqDiff, Nat.reduceLeDiff, Nat.reduceLT, Int.reduceLE, Int.reduceLT, Int.reduceToNat, Int.reduceAdd, Int.reduceEq, Int.reduceNeg] at hc)
  refine am_skip ?_
  simp -implicitDefEqProofs (disch := omega) only [go_sem, eq_self, decide_true, decide_false, Nat.reduceBEq, Nat.reduceAdd, Nat.reduceSub, Nat.reduceMul, Nat.reduceEqDiff, Nat.reduceLeDiff, Nat.reduceLT, Int.reduceLE, Int.reduceLT, Int.reduceToNat, Int.reduceAdd, Int.reduceEq, Int.reduceNeg]
  repeat (first | refine am_seq ?_ | (refine am_reg ?_; simp -implicitDefEqProofs (disch := omega) only [go_sem, eq_self, decide_true, decide_false, Nat.reduceBEq, Nat.reduceAdd, Nat.reduceSub, Nat.reduceMul, Nat.reduceEqDiff, Nat.reduceLeDiff, Nat.reduceLT, Int.reduceLE, Int.reduceLT, Int.reduceToNat, Int.reduceAdd, Int.reduceEq, Int.reduceNeg]) | (refine am_drw ?_; simp -implicitDefEqProofs (disch := omega) only [go_sem, eq_self, decide_true, decide_false, Nat.reduceBEq, Nat.reduceAdd, Nat.reduceSub, Nat.reduceMul, Nat.reduceEqDiff, Nat.reduceLeDiff, Nat.reduceLT, Int.reduceLE, Int.reduceLT, Int.reduceToNat, Int.reduceAdd, Int.reduceEq, Int.reduceNeg]) | refine am_block ?_)
  refine call_of (agree_calls va sa vb sb tv ts uv us (by omega) (by omega) (fun s h => by have := s2 s h; omega) (by omega) (by omega) (fun s h => by have := s4 s h; omega)) ?_
  try simp -implicitDefEqProofs (disch := omega) only [go_sem, eq_self, decide_true, decide_false, Nat.reduceBEq, Nat.reduceAdd, Nat.reduceSub, Nat.reduceMul, Nat.reduceEqDiff, Nat.reduceLeDiff, Nat.reduceLT, Int.reduceLE, Int.reduceLT, Int.reduceToNat, Int.reduceAdd, Int.reduceEq, Int.reduceNeg]
  intro k hk
  repeat (first | refine am_seq ?_ | (refine am_reg ?_; simp -implicitDefEqProofs (disch := omega) only [go_sem, eq_self, decide_true, decide_false, Nat.reduceBEq, Nat.reduceAdd, Nat.reduceSub, Nat.reduceMul, Nat.reduceEqDiff, Nat.reduceLeDiff, Nat.reduceLT, Int.reduceLE, Int.reduceLT, Int.reduceToNat, Int.reduceAdd, Int.reduceEq, Int.reduceNeg]) | (refine am_drw ?_; simp -implicitDefEqProofs (disch := omega) only [go_sem, eq_self, decide_true, decide_false, Nat.reduceBEq, Nat.reduceAdd, Nat.reduceSub, Nat.reduceMul, Nat.reduceEqDiff, Nat.reduceLeDiff, Nat.reduceLT, Int.reduceLE, Int.reduceLT, Int.reduceToNat, Int.reduceAdd, Int.reduceEq, Int.reduceNeg]) | refine am_block ?_)
  refine call_of (lright_calls va sa tv ts (by omega) (by omega) (fun s h => by have := s2 s h; omega)) ?_
  try simp -implicitDefEqProofs (disch := omega) only [go_sem, eq_self, decide_true, decide_false, Nat.reduceBEq, Nat.reduceAdd, Nat.reduceSub, Nat.reduceMul, Nat.reduceEqDiff, Nat.reduceLeDiff, Nat.reduceLT, Int.reduceLE, Int.reduceLT, Int.reduceToNat, Int.reduceAdd, Int.reduceEq, Int.reduceNeg]
  repeat (first | refine am_seq ?_ | (refine am_reg ?_; simp -implicitDefEqProofs (disch := omega) only [go_sem, eq_self, decide_true, decide_false, Nat.reduceBEq, Nat.reduceAdd, Nat.reduceSub, Nat.reduceMul, Nat.reduceEqDiff, Nat.reduceLeDiff, Nat.reduceLT, Int.reduceLE, Int.reduceLT, Int.reduceToNat, Int.reduceAdd, Int.reduceEq, Int.reduceNeg]) | (refine am_drw ?_; simp -implicitDefEqProofs (disch := omega) only [go_sem, eq_self, decide_true, decide_false, Nat.reduceBEq, Nat.reduceAdd, Nat.reduceSub, Nat.reduceMul, Nat.reduceEqDiff, Nat.reduceLeDiff, Nat.reduceLT, Int.reduceLE, Int.reduceLT, Int.reduceToNat, Int.reduceAdd, Int.reduceEq, Int.reduceNeg]) | refine am_block ?_)
  have mid : ∀ no : Int, no = (if wrong va sa = 0 then wrong vb sb else wrong va sa) → AM Try.prog Try.f3.ntmps k3_38
      (Body [RV.tmp 6] fun o H' => (∃ u, o = Out.ret u ∧ ∀ (s : St) (x : Value), s.val u x → s.val (V.bool true) x) ∧ H.le H')
    [(2, V.str skill), (3, V.rptr [V.sl 1 (intsE va) tv, V.sl 1 (strsE sa) ts] 0),
      (4, V.rptr [V.sl 1 (intsE vb) uv, V.sl 1 (strsE sb) us] 0), (7, V.ptr k 0),
      (8, V.int IntKind.i64 (agreeS va sa vb sb).snd.snd), (9, V.int IntKind.i64 no)]
    (H.put k (AObj.cells [V.int IntKind.i64 (agreeS va sa vb sb).fst, V.sl 1 (strsE (agreeS va sa vb sb).snd.fst) Tok.no])) := by
    intro no hno
    repeat (first | refine am_seq ?_ | (refine am_reg ?_; simp -implicitDefEqProofs (disch := omega) only [go_sem, eq_self, decide_true, decide_false, Nat.reduceBEq, Nat.reduceAdd, Nat.reduceSub, Nat.reduceMul, Nat.reduceEqDiff, Nat.reduceLeDiff, Nat.reduceLT, Int.reduceLE, Int.reduceLT, Int.reduceToNat, Int.reduceAdd, Int.reduceEq, Int.reduceNeg]) | (refine am_drw ?_; simp -implicitDefEqProofs (disch := omega) only [go_sem, eq_self, decide_true, decide_false, Nat.reduceBEq, Nat.reduceAdd, Nat.reduceSub, Nat.reduceMul, Nat.reduceEqDiff, Nat.reduceLeDiff, Nat.reduceLT, Int.reduceLE, Int.reduceLT, Int.reduceToNat, Int.reduceAdd, Int.reduceEq, Int.reduceNeg]) | refine am_block ?_)
    refine am_loop (fun n a H' => H' = H.put k (AObj.cells [V.int IntKind.i64 (agreeS va sa vb sb).fst, V.sl 1 (strsE (agreeS va sa vb sb).snd.fst) Tok.no]) ∧ ∃ i : Nat, i + n = va.length ∧ a = [(2, V.str skill), (3, V.rptr [V.sl 1 (intsE va) tv, V.sl 1 (strsE sa) ts] 0),
      (4, V.rptr [V.sl 1 (intsE vb) uv, V.sl 1 (strsE sb) us] 0), (7, V.ptr k 0),
      (8, V.int IntKind.i64 (agreeS va sa vb sb).snd.snd), (9, V.int IntKind.i64 no), (10, V.int IntKind.i64 (verS (va.take i) vb)), (11, V.int IntKind.i64 i)]) ?_ va.length ⟨rfl, 0, by simp, by simp [verS, bothL]⟩
    rintro n a H' ⟨rfl, i, hi, rfl⟩
    repeat (first | refine am_seq ?_ | (refine am_reg ?_; simp -implicitDefEqProofs (disch := omega) only [go_sem, eq_self, decide_true, decide_false, Nat.reduceBEq, Nat.reduceAdd, Nat.reduceSub, Nat.reduceMul, Nat.reduceEqDiff, Nat.reduceLeDiff, Nat.reduceLT, Int.reduceLE, Int.reduceLT, Int.reduceToNat, Int.reduceAdd, Int.reduceEq, Int.reduceNeg]) | (refine am_drw ?_; simp -implicitDefEqProofs (disch := omega) only [go_sem, eq_self, decide_true, decide_false, Nat.reduceBEq, Nat.reduceAdd, Nat.reduceSub, Nat.reduceMul, Nat.reduceEqDiff, Nat.reduceLeDiff, Nat.reduceLT, Int.reduceLE, Int.reduceLT, Int.reduceToNat, Int.reduceAdd, Int.reduceEq, Int.reduceNeg]) | refine am_block ?_)
    refine am_cond rfl (fun hc => ?_) (fun hc => ?_) <;> (try simp -implicitDefEqProofs (disch := omega) only [go_sem, eq_self, decide_true, decide_false, Nat.reduceBEq, Nat.reduceAdd, Nat.reduceSub, Nat.reduceMul, Nat.reduceEqDiff, Nat.reduceLeDiff, Nat.reduceLT, Int.reduceLE, Int.reduceLT, Int.reduceToNat, Int.reduceAdd, Int.reduceEq, Int.reduceNeg] at hc)
    · have hlt : i < va.length := by omega
      refine am_skip ?_
      simp -implicitDefEqProofs (disch := omega) only [go_sem, eq_self, decide_true, decide_false, Nat.reduceBEq, Nat.reduceAdd, Nat.reduceSub, Nat.reduceMul, Nat.reduceEqDiff, Nat.reduceLeDiff, Nat.reduceLT, Int.reduceLE, Int.reduceLT, Int.reduceToNat, Int.reduceAdd, Int.reduceEq, Int.reduceNeg]
      repeat (first | refine am_seq ?_ | (refine am_reg ?_; simp -implicitDefEqProofs (disch := omega) only [go_sem, eq_self, decide_true, decide_false, Nat.reduceBEq, Nat.reduceAdd, Nat.reduceSub, Nat.reduceMul, Nat.reduceEqDiff, Nat.reduceLeDiff, Nat.reduceLT, Int.reduceLE, Int.reduceLT, Int.reduceToNat, Int.reduceAdd, Int.reduceEq, Int.reduceNeg]) | (refine am_drw ?_; simp -implicitDefEqProofs (disch := omega) only [go_sem, eq_self, decide_true, decide_false, Nat.reduceBEq, Nat.reduceAdd, Nat.reduceSub, Nat.reduceMul, Nat.reduceEqDiff, Nat.reduceLeDiff, Nat.reduceLT, Int.reduceLE, Int.reduceLT, Int.reduceToNat, Int.reduceAdd, Int.reduceEq, Int.reduceNeg]) | refine am_block ?_)
      refine am_loop (fun n2 a H' => H' = H.put k (AObj.cells [V.int IntKind.i64 (agreeS va sa vb sb).fst, V.sl 1 (strsE (agreeS va sa vb sb).snd.fst) Tok.no]) ∧ ∃ j : Nat, j + n2 = vb.length ∧ a = [(2, V.str skill), (3, V.rptr [V.sl 1 (intsE va) tv, V.sl 1 (strsE sa) ts] 0),
        (4, V.rptr [V.sl 1 (intsE vb) uv, V.sl 1 (strsE sb) us] 0), (7, V.ptr k 0),
        (8, V.int IntKind.i64 (agreeS va sa vb sb).snd.snd), (9, V.int IntKind.i64 no), (10, V.int IntKind.i64 (if va[i] ∈ vb.take j then max (verS (va.take i) vb) va[i] else verS (va.take i) vb)), (11, V.int IntKind.i64 i), (12, V.int IntKind.i64 j)]) ?_ vb.length ⟨rfl, 0, by simp, by simp⟩
      rintro n2 a H' ⟨rfl, j, hj, rfl⟩
      repeat (first | refine am_seq ?_ | (refine am_reg ?_; simp -implicitDefEqProofs (disch := omega) only [go_sem, eq_self, decide_true, decide_false, Nat.reduceBEq, Nat.reduceAdd, Nat.reduceSub, Nat.reduceMul, Nat.reduceEqDiff, Nat.reduceLeDiff, Nat.reduceLT, Int.reduceLE, Int.reduceLT, Int.reduceToNat, Int.reduceAdd, Int.reduceEq, Int.reduceNeg]) | (refine am_drw ?_; simp -implicitDefEqProofs (disch := omega) only [go_sem, eq_self, decide_true, decide_false, Nat.reduceBEq, Nat.reduceAdd, Nat.reduceSub, Nat.reduceMul, Nat.reduceEqDiff, Nat.reduceLeDiff, Nat.reduceLT, Int.reduceLE, Int.reduceLT, Int.reduceToNat, Int.reduceAdd, Int.reduceEq, Int.reduceNeg]) | refine am_block ?_)
      refine am_cond rfl (fun hc => ?_) (fun hc => ?_) <;> (try simp -implicitDefEqProofs (disch := omega) only [go_sem, eq_self, decide_true, decide_false, Nat.reduceBEq, Nat.reduceAdd, Nat.reduceSub, Nat.reduceMul, Nat.reduceEqDiff, Nat.reduceLeDiff, Nat.reduceLT, Int.reduceLE, Int.reduceLT, Int.reduceToNat, Int.reduceAdd, Int.reduceEq, Int.reduceNeg] at hc)
      · have hlt2 : j < vb.length := by omega
        refine am_skip ?_
        simp -implicitDefEqProofs (disch := omega) only [go_sem, eq_self, decide_true, decide_false, Nat.reduceBEq, Nat.reduceAdd, Nat.reduceSub, Nat.reduceMul, Nat.reduceEqDiff, Nat.reduceLeDiff, Nat.reduceLT, Int.reduceLE, Int.reduceLT, Int.reduceToNat, Int.reduceAdd, Int.reduceEq, Int.reduceNeg]
        repeat (first | refine am_seq ?_ | (refine am_reg ?_; simp -implicitDefEqProofs (disch := omega) only [go_sem, eq_self, decide_true, decide_false, Nat.reduceBEq, Nat.reduceAdd, Nat.reduceSub, Nat.reduceMul, Nat.reduceEqDiff, Nat.reduceLeDiff, Nat.reduceLT, Int.reduceLE, Int.reduceLT, Int.reduceToNat, Int.reduceAdd, Int.reduceEq, Int.reduceNeg, get_of_lt hlt, get_of_lt hlt2]) | (refine am_drw ?_; simp -implicitDefEqProofs (disch := omega) only [go_sem, eq_self, decide_true, decide_false, Nat.reduceBEq, Nat.reduceAdd, Nat.reduceSub, Nat.reduceMul, Nat.reduceEqDiff, Nat.reduceLeDiff, Nat.reduceLT, Int.reduceLE, Int.reduceLT, Int.reduceToNat, Int.reduceAdd, Int.reduceEq, Int.reduceNeg, get_of_lt hlt, get_of_lt hlt2]) | refine am_block ?_)
        have e : va[i] ∈ vb.take (j + 1) ↔ (va[i] ∈ vb.take j ∨ va[i] = vb[j]) := by
          rw [List.take_add_one, get_of_lt hlt2, Option.toList_some, List.mem_append, List.mem_singleton]
        refine am_cond rfl (fun hc => ?_) (fun hc => ?_) <;> (try simp -implicitDefEqProofs (disch := omega) only [go_sem, eq_self, decide_true, decide_false, Nat.reduceBEq, Nat.reduceAdd, Nat.reduceSub, Nat.reduceMul, Nat.reduceEqDiff, Nat.reduceLeDiff, Nat.reduceLT, Int.reduceLE, Int.reduceLT, Int.reduceToNat, Int.reduceAdd, Int.reduceEq, Int.reduceNeg] at hc)
        · repeat (first | refine am_seq ?_ | (refine am_reg ?_; simp -implicitDefEqProofs (disch := omega) only [go_sem, eq_self, decide_true, decide_false, Nat.reduceBEq, Nat.reduceAdd, Nat.reduceSub, Nat.reduceMul, Nat.reduceEqDiff, Nat.reduceLeDiff, Nat.reduceLT, Int.reduceLE, Int.reduceLT, Int.reduceToNat, Int.reduceAdd, Int.reduceEq, Int.reduceNeg, get_of_lt hlt, wrap_id]) | (refine am_drw ?_; simp -implicitDefEqProofs (disch := omega) only [go_sem, eq_self, decide_true, decide_false, Nat.reduceBEq, Nat.reduceAdd, Nat.reduceSub, Nat.reduceMul, Nat.reduceEqDiff, Nat.reduceLeDiff, Nat.reduceLT, Int.reduceLE, Int.reduceLT, Int.reduceToNat, Int.reduceAdd, Int.reduceEq, Int.reduceNeg, get_of_lt hlt, wrap_id]) | refine am_block ?_)
          refine ⟨n2 - 1, by omega, j + 1, by omega, ?_⟩
          rw [if_pos (e.2 (.inr hc))]
          split <;> simp [Int.max_assoc]
        · refine am_skip ?_
          simp -implicitDefEqProofs (disch := omega) only [go_sem, eq_self, decide_true, decide_false, Nat.reduceBEq, Nat.reduceAdd, Nat.reduceSub, Nat.reduceMul, Nat.reduceEqDiff, Nat.reduceLeDiff, Nat.reduceLT, Int.reduceLE, Int.reduceLT, Int.reduceToNat, Int.reduceAdd, Int.reduceEq, Int.reduceNeg]
          repeat (first | refine am_seq ?_ | (refine am_reg ?_; simp -implicitDefEqProofs (disch := omega) only [go_sem, eq_self, decide_true, decide_false, Nat.reduceBEq, Nat.reduceAdd, Nat.reduceSub, Nat.reduceMul, Nat.reduceEqDiff, Nat.reduceLeDiff, Nat.reduceLT, Int.reduceLE, Int.reduceLT, Int.reduceToNat, Int.reduceAdd, Int.reduceEq, Int.reduceNeg, wrap_id]) | (refine am_drw ?_; simp -implicitDefEqProofs (disch := omega) only [go_sem, eq_self, decide_true, decide_false, Nat.reduceBEq, Nat.reduceAdd, Nat.reduceSub, Nat.reduceMul, Nat.reduceEqDiff, Nat.reduceLeDiff, Nat.reduceLT, Int.reduceLE, Int.reduceLT, Int.reduceToNat, Int.reduceAdd, Int.reduceEq, Int.reduceNeg, wrap_id]) | refine am_block ?_)
          refine ⟨n2 - 1, by omega, j + 1, by omega, ?_⟩
          simp only [e, hc, or_false]
          simp
      · refine am_exit ?_
        simp -implicitDefEqProofs (disch := omega) only [go_sem, eq_self, decide_true, decide_false, Nat.reduceBEq, Nat.reduceAdd, Nat.reduceSub, Nat.reduceMul, Nat.reduceEqDiff, Nat.reduceLeDiff, Nat.reduceLT, Int.reduceLE, Int.reduceLT, Int.reduceToNat, Int.reduceAdd, Int.reduceEq, Int.reduceNeg]
        rw [List.take_of_length_le (l := vb) (by omega)]
        repeat (first | refine am_seq ?_ | (refine am_reg ?_; simp -implicitDefEqProofs (disch := omega) only [go_sem, eq_self, decide_true, decide_false, Nat.reduceBEq, Nat.reduceAdd, Nat.reduceSub, Nat.reduceMul, Nat.reduceEqDiff, Nat.reduceLeDiff, Nat.reduceLT, Int.reduceLE, Int.reduceLT, Int.reduceToNat, Int.reduceAdd, Int.reduceEq, Int.reduceNeg, wrap_id]) | (refine am_drw ?_; simp -implicitDefEqProofs (disch := omega) only [go_sem, eq_self, decide_true, decide_false, Nat.reduceBEq, Nat.reduceAdd, Nat.reduceSub, Nat.reduceMul, Nat.reduceEqDiff, Nat.reduceLeDiff, Nat.reduceLT, Int.reduceLE, Int.reduceLT, Int.reduceToNat, Int.reduceAdd, Int.reduceEq, Int.reduceNeg, wrap_id]) | refine am_block ?_)
        refine ⟨n - 1, by omega, i + 1, by omega, ?_⟩
        rw [verS_step va vb i hlt]
        simp
    · refine am_exit ?_
      simp -implicitDefEqProofs (disch := omega) only [go_sem, eq_self, decide_true, decide_false, Nat.reduceBEq, Nat.reduceAdd, Nat.reduceSub, Nat.reduceMul, Nat.reduceEqDiff, Nat.reduceLeDiff, Nat.reduceLT, Int.reduceLE, Int.reduceLT, Int.reduceToNat, Int.reduceAdd, Int.reduceEq, Int.reduceNeg]
      rw [List.take_of_length_le (by omega)]
      repeat (first | refine am_seq ?_ | (refine am_reg ?_; simp -implicitDefEqProofs (disch := omega) only [go_sem, eq_self, decide_true, decide_false, Nat.reduceBEq, Nat.reduceAdd, Nat.reduceSub, Nat.reduceMul, Nat.reduceEqDiff, Nat.reduceLeDiff, Nat.reduceLT, Int.reduceLE, Int.reduceLT, Int.reduceToNat, Int.reduceAdd, Int.reduceEq, Int.reduceNeg]) | (refine am_drw ?_; simp -implicitDefEqProofs (disch := omega) only [go_sem, eq_self, decide_true, decide_false, Nat.reduceBEq, Nat.reduceAdd, Nat.reduceSub, Nat.reduceMul, Nat.reduceEqDiff, Nat.reduceLeDiff, Nat.reduceLT, Int.reduceLE, Int.reduceLT, Int.reduceToNat, Int.reduceAdd, Int.reduceEq, Int.reduceNeg]) | refine am_block ?_)
      clear hi hc
      have bad : ∀ no2 : Int, agreeS va sa vb sb = (0, [], no2) → AM Try.prog Try.f3.ntmps k3_14
        (SQ Try.prog Try.f3.ntmps k3_34
          (Body [RV.tmp 6] fun o H' => (∃ u, o = Out.ret u ∧ ∀ (s : St) (x : Value), s.val u x → s.val (V.bool true) x) ∧ H.le H'))
        [(2, V.str skill), (3, V.rptr [V.sl 1 (intsE va) tv, V.sl 1 (strsE sa) ts] 0),
          (4, V.rptr [V.sl 1 (intsE vb) uv, V.sl 1 (strsE sb) us] 0), (7, V.ptr k 0),
          (8, V.int IntKind.i64 (agreeS va sa vb sb).snd.snd), (9, V.int IntKind.i64 no2), (10, V.int IntKind.i64 (verS va vb)), (86, V.bool true)]
        (H.put k (AObj.cells [V.int IntKind.i64 (agreeS va sa vb sb).fst, V.sl 1 (strsE (agreeS va sa vb sb).snd.fst) Tok.no])) := by
        intro no2 he
        rw [he]
        refine am_cond rfl (fun hc => ?_) (fun hc => ?_) <;> (try simp -implicitDefEqProofs (disch := omega) only [go_sem, eq_self, decide_true, decide_false, Nat.reduceBEq, Nat.reduceAdd, Nat.reduceSub, Nat.reduceMul, Nat.reduceEqDiff, Nat.reduceLeDiff, Nat.reduceLT, Int.reduceLE, Int.reduceLT, Int.reduceToNat, Int.reduceAdd, Int.reduceEq, Int.reduceNeg] at hc)
        repeat (first | refine am_seq ?_ | (refine am_reg ?_; simp -implicitDefEqProofs (disch := omega) only [go_sem, eq_self, decide_true, decide_false, Nat.reduceBEq, Nat.reduceAdd, Nat.reduceSub, Nat.reduceMul, Nat.reduceEqDiff, Nat.reduceLeDiff, Nat.reduceLT, Int.reduceLE, Int.reduceLT, Int.reduceToNat, Int.reduceAdd, Int.reduceEq, Int.reduceNeg, List.length_nil]) | (refine am_drw ?_; simp -implicitDefEqProofs (disch := omega) only [go_sem, eq_self, decide_true, decide_false, Nat.reduceBEq, Nat.reduceAdd, Nat.reduceSub, Nat.reduceMul, Nat.reduceEqDiff, Nat.reduceLeDiff, Nat.reduceLT, Int.reduceLE, Int.reduceLT, Int.reduceToNat, Int.reduceAdd, Int.reduceEq, Int.reduceNeg, List.length_nil]) | refine am_block ?_)
        refine am_ret ?_
        simp -implicitDefEqProofs (disch := omega) only [go_sem, eq_self, decide_true, decide_false, Nat.reduceBEq, Nat.reduceAdd, Nat.reduceSub, Nat.reduceMul, Nat.reduceEqDiff, Nat.reduceLeDiff, Nat.reduceLT, Int.reduceLE, Int.reduceLT, Int.reduceToNat, Int.reduceAdd, Int.reduceEq, Int.reduceNeg]
        exact ⟨⟨_, rfl, fun s x h => h⟩, AH.le_put (AH.le_refl _) hk _⟩
      refine gd_of (fun hn => ?_) (fun hn => ?_) <;> simp -implicitDefEqProofs (disch := omega) only [go_sem, eq_self, decide_true, decide_false, Nat.reduceBEq, Nat.reduceAdd, Nat.reduceSub, Nat.reduceMul, Nat.reduceEqDiff, Nat.reduceLeDiff, Nat.reduceLT, Int.reduceLE, Int.reduceLT, Int.reduceToNat, Int.reduceAdd, Int.reduceEq, Int.reduceNeg, hn]
      all_goals refine am_cond rfl (fun hc => ?_) (fun hc => ?_) <;> (try simp -implicitDefEqProofs (disch := omega) only [go_sem, eq_self, decide_true, decide_false, Nat.reduceBEq, Nat.reduceAdd, Nat.reduceSub, Nat.reduceMul, Nat.reduceEqDiff, Nat.reduceLeDiff, Nat.reduceLT, Int.reduceLE, Int.reduceLT, Int.reduceToNat, Int.reduceAdd, Int.reduceEq, Int.reduceNeg] at hc)
      · simp only [decide_eq_true_eq] at hn
        obtain ⟨wa, wb⟩ := no_zero hno hn
        repeat (first | refine am_seq ?_ | (refine am_reg ?_; simp -implicitDefEqProofs (disch := omega) only [go_sem, eq_self, decide_true, decide_false, Nat.reduceBEq, Nat.reduceAdd, Nat.reduceSub, Nat.reduceMul, Nat.reduceEqDiff, Nat.reduceLeDiff, Nat.reduceLT, Int.reduceLE, Int.reduceLT, Int.reduceToNat, Int.reduceAdd, Int.reduceEq, Int.reduceNeg]) | (refine am_drw ?_; simp -implicitDefEqProofs (disch := omega) only [go_sem, eq_self, decide_true, decide_false, Nat.reduceBEq, Nat.reduceAdd, Nat.reduceSub, Nat.reduceMul, Nat.reduceEqDiff, Nat.reduceLeDiff, Nat.reduceLT, Int.reduceLE, Int.reduceLT, Int.reduceToNat, Int.reduceAdd, Int.reduceEq, Int.reduceNeg]) | refine am_block ?_)
        exact bad 8 (agree_none wa wb hc)
      · simp only [decide_eq_true_eq] at hn
        obtain ⟨wa, wb⟩ := no_zero hno hn
        have hver : verS va vb ≠ 0 := hc
        clear hc
        refine am_skip ?_
        simp -implicitDefEqProofs (disch := omega) only [go_sem, eq_self, decide_true, decide_false, Nat.reduceBEq, Nat.reduceAdd, Nat.reduceSub, Nat.reduceMul, Nat.reduceEqDiff, Nat.reduceLeDiff, Nat.reduceLT, Int.reduceLE, Int.reduceLT, Int.reduceToNat, Int.reduceAdd, Int.reduceEq, Int.reduceNeg]
        repeat (first | refine am_seq ?_ | (refine am_reg ?_; simp -implicitDefEqProofs (disch := omega) only [go_sem, eq_self, decide_true, decide_false, Nat.reduceBEq, Nat.reduceAdd, Nat.reduceSub, Nat.reduceMul, Nat.reduceEqDiff, Nat.reduceLeDiff, Nat.reduceLT, Int.reduceLE, Int.reduceLT, Int.reduceToNat, Int.reduceAdd, Int.reduceEq, Int.reduceNeg, hn]) | (refine am_drw ?_; simp -implicitDefEqProofs (disch := omega) only [go_sem, eq_self, decide_true, decide_false, Nat.reduceBEq, Nat.reduceAdd, Nat.reduceSub, Nat.reduceMul, Nat.reduceEqDiff, Nat.reduceLeDiff, Nat.reduceLT, Int.reduceLE, Int.reduceLT, Int.reduceToNat, Int.reduceAdd, Int.reduceEq, Int.reduceNeg, hn]) | refine am_block ?_)
        refine am_cond rfl (fun hc => ?_) (fun hc => ?_) <;> (try simp -implicitDefEqProofs (disch := omega) only [go_sem, eq_self, decide_true, decide_false, Nat.reduceBEq, Nat.reduceAdd, Nat.reduceSub, Nat.reduceMul, Nat.reduceEqDiff, Nat.reduceLeDiff, Nat.reduceLT, Int.reduceLE, Int.reduceLT, Int.reduceToNat, Int.reduceAdd, Int.reduceEq, Int.reduceNeg] at hc)
        refine am_skip ?_
        simp -implicitDefEqProofs (disch := omega) only [go_sem, eq_self, decide_true, decide_false, Nat.reduceBEq, Nat.reduceAdd, Nat.reduceSub, Nat.reduceMul, Nat.reduceEqDiff, Nat.reduceLeDiff, Nat.reduceLT, Int.reduceLE, Int.reduceLT, Int.reduceToNat, Int.reduceAdd, Int.reduceEq, Int.reduceNeg]
        rw [agree_ok wa wb hver]
        repeat (first | refine am_seq ?_ | (refine am_reg ?_; simp -implicitDefEqProofs (disch := omega) only [go_sem, eq_self, decide_true, decide_false, Nat.reduceBEq, Nat.reduceAdd, Nat.reduceSub, Nat.reduceMul, Nat.reduceEqDiff, Nat.reduceLeDiff, Nat.reduceLT, Int.reduceLE, Int.reduceLT, Int.reduceToNat, Int.reduceAdd, Int.reduceEq, Int.reduceNeg]) | (refine am_drw ?_; simp -implicitDefEqProofs (disch := omega) only [go_sem, eq_self, decide_true, decide_false, Nat.reduceBEq, Nat.reduceAdd, Nat.reduceSub, Nat.reduceMul, Nat.reduceEqDiff, Nat.reduceLeDiff, Nat.reduceLT, Int.reduceLE, Int.reduceLT, Int.reduceToNat, Int.reduceAdd, Int.reduceEq, Int.reduceNeg]) | refine am_block ?_)
        obtain ⟨wa1, wa2, wa3, wa4, wa5⟩ := wrong_zero wa
        obtain ⟨wb1, wb2, wb3, wb4, wb5⟩ := wrong_zero wb
        refine call_of (agree_calls vb sb va sa uv us tv ts (by omega) (by omega) (fun s h => by have := s4 s h; omega) (by omega) (by omega) (fun s h => by have := s2 s h; omega)) ?_
        rw [agree_ok wb wa (by rw [ver_comm wa4 wb4]; exact hver), ver_comm wa4 wb4, skills_comm wa5 wb5]
        try simp -implicitDefEqProofs (disch := omega) only [go_sem, eq_self, decide_true, decide_false, Nat.reduceBEq, Nat.reduceAdd, Nat.reduceSub, Nat.reduceMul, Nat.reduceEqDiff, Nat.reduceLeDiff, Nat.reduceLT, Int.reduceLE, Int.reduceLT, Int.reduceToNat, Int.reduceAdd, Int.reduceEq, Int.reduceNeg]
        intro k2 hk2
        repeat (first | refine am_seq ?_ | (refine am_reg ?_; simp -implicitDefEqProofs (disch := omega) only [go_sem, eq_self, decide_true, decide_false, Nat.reduceBEq, Nat.reduceAdd, Nat.reduceSub, Nat.reduceMul, Nat.reduceEqDiff, Nat.reduceLeDiff, Nat.reduceLT, Int.reduceLE, Int.reduceLT, Int.reduceToNat, Int.reduceAdd, Int.reduceEq, Int.reduceNeg]) | (refine am_drw ?_; simp -implicitDefEqProofs (disch := omega) only [go_sem, eq_self, decide_true, decide_false, Nat.reduceBEq, Nat.reduceAdd, Nat.reduceSub, Nat.reduceMul, Nat.reduceEqDiff, Nat.reduceLeDiff, Nat.reduceLT, Int.reduceLE, Int.reduceLT, Int.reduceToNat, Int.reduceAdd, Int.reduceEq, Int.reduceNeg]) | refine am_block ?_)
        have hnd := ok_nodup wb5
        generalize hHH : (H.put k (AObj.cells [V.int IntKind.i64 (verS va vb), V.sl 1 (strsE (bothL sa sb)) Tok.no])).put k2 (AObj.cells [V.int IntKind.i64 (verS va vb), V.sl 1 (strsE (bothL sa sb)) Tok.no]) = HH
        have hne : k ≠ k2 := by rintro rfl; rw [AH.put_same] at hk2; cases hk2
        have hk1 : HH k = some (AObj.cells [V.int IntKind.i64 (verS va vb), V.sl 1 (strsE (bothL sa sb)) Tok.no]) := by rw [← hHH, AH.put_ne _ _ hne, AH.put_same]
        have hk3 : HH k2 = some (AObj.cells [V.int IntKind.i64 (verS va vb), V.sl 1 (strsE (bothL sa sb)) Tok.no]) := by rw [← hHH, AH.put_same]
        have hle : H.le HH := by rw [← hHH]; exact AH.le_put (AH.le_put (AH.le_refl _) hk _) (none_of_le (AH.le_put (AH.le_refl _) hk _) hk2) _
        clear hHH bad hno
        refine am_loop (fun n a H' => H' = HH ∧ ∃ i : Nat, i + n = sa.length ∧ a = [(2, V.str skill), (3, V.rptr [V.sl 1 (intsE va) tv, V.sl 1 (strsE sa) ts] 0),
          (4, V.rptr [V.sl 1 (intsE vb) uv, V.sl 1 (strsE sb) us] 0), (7, V.ptr k 0), (8, V.int IntKind.i64 0), (10, V.int IntKind.i64 (verS va vb)), (13, V.ptr k2 0), (14, V.int IntKind.i64 0),
          (15, V.int IntKind.i64 (bothL (sa.take i) sb).length), (16, V.bool (decide (skill ∈ bothL (sa.take i) sb))), (17, V.int IntKind.i64 i)]) ?_ sa.length ⟨rfl, 0, by simp, by simp [bothL]⟩
        rintro n a H' ⟨rfl, i, hi, rfl⟩
        repeat (first | refine am_seq ?_ | (refine am_reg ?_; simp -implicitDefEqProofs (disch := omega) only [go_sem, eq_self, decide_true, decide_false, Nat.reduceBEq, Nat.reduceAdd, Nat.reduceSub, Nat.reduceMul, Nat.reduceEqDiff, Nat.reduceLeDiff, Nat.reduceLT, Int.reduceLE, Int.reduceLT, Int.reduceToNat, Int.reduceAdd, Int.reduceEq, Int.reduceNeg]) | (refine am_drw ?_; simp -implicitDefEqProofs (disch := omega) only [go_sem, eq_self, decide_true, decide_false, Nat.reduceBEq, Nat.reduceAdd, Nat.reduceSub, Nat.reduceMul, Nat.reduceEqDiff, Nat.reduceLeDiff, Nat.reduceLT, Int.reduceLE, Int.reduceLT, Int.reduceToNat, Int.reduceAdd, Int.reduceEq, Int.reduceNeg]) | refine am_block ?_)
        refine am_cond rfl (fun hc => ?_) (fun hc => ?_) <;> (try simp -implicitDefEqProofs (disch := omega) only [go_sem, eq_self, decide_true, decide_false, Nat.reduceBEq, Nat.reduceAdd, Nat.reduceSub, Nat.reduceMul, Nat.reduceEqDiff, Nat.reduceLeDiff, Nat.reduceLT, Int.reduceLE, Int.reduceLT, Int.reduceToNat, Int.reduceAdd, Int.reduceEq, Int.reduceNeg] at hc)
        · have hlt : i < sa.length := by omega
          have hbl := both_le sa sb i
          refine am_skip ?_
          simp -implicitDefEqProofs (disch := omega) only [go_sem, eq_self, decide_true, decide_false, Nat.reduceBEq, Nat.reduceAdd, Nat.reduceSub, Nat.reduceMul, Nat.reduceEqDiff, Nat.reduceLeDiff, Nat.reduceLT, Int.reduceLE, Int.reduceLT, Int.reduceToNat, Int.reduceAdd, Int.reduceEq, Int.reduceNeg]
          repeat (first | refine am_seq ?_ | (refine am_reg ?_; simp -implicitDefEqProofs (disch := omega) only [go_sem, eq_self, decide_true, decide_false, Nat.reduceBEq, Nat.reduceAdd, Nat.reduceSub, Nat.reduceMul, Nat.reduceEqDiff, Nat.reduceLeDiff, Nat.reduceLT, Int.reduceLE, Int.reduceLT, Int.reduceToNat, Int.reduceAdd, Int.reduceEq, Int.reduceNeg]) | (refine am_drw ?_; simp -implicitDefEqProofs (disch := omega) only [go_sem, eq_self, decide_true, decide_false, Nat.reduceBEq, Nat.reduceAdd, Nat.reduceSub, Nat.reduceMul, Nat.reduceEqDiff, Nat.reduceLeDiff, Nat.reduceLT, Int.reduceLE, Int.reduceLT, Int.reduceToNat, Int.reduceAdd, Int.reduceEq, Int.reduceNeg]) | refine am_block ?_)
          refine am_loop (fun n2 a H2 => H2 = H' ∧ ∃ j : Nat, j + n2 = sb.length ∧ a = [(2, V.str skill), (3, V.rptr [V.sl 1 (intsE va) tv, V.sl 1 (strsE sa) ts] 0),
            (4, V.rptr [V.sl 1 (intsE vb) uv, V.sl 1 (strsE sb) us] 0), (7, V.ptr k 0), (8, V.int IntKind.i64 0), (10, V.int IntKind.i64 (verS va vb)), (13, V.ptr k2 0), (14, V.int IntKind.i64 0),
            (15, V.int IntKind.i64 ((bothL (sa.take i) sb).length + (if sa[i] ∈ sb.take j then 1 else 0))), (16, V.bool (decide (skill ∈ bothL (sa.take i) sb) || (decide (sa[i] ∈ sb.take j) && decide (sa[i] = skill)))), (17, V.int IntKind.i64 i), (18, V.int IntKind.i64 j)]) ?_ sb.length ⟨rfl, 0, by simp, by simp⟩
          rintro n2 a H2 ⟨rfl, j, hj, rfl⟩
          repeat (first | refine am_seq ?_ | (refine am_reg ?_; simp -implicitDefEqProofs (disch := omega) only [go_sem, eq_self, decide_true, decide_false, Nat.reduceBEq, Nat.reduceAdd, Nat.reduceSub, Nat.reduceMul, Nat.reduceEqDiff, Nat.reduceLeDiff, Nat.reduceLT, Int.reduceLE, Int.reduceLT, Int.reduceToNat, Int.reduceAdd, Int.reduceEq, Int.reduceNeg]) | (refine am_drw ?_; simp -implicitDefEqProofs (disch := omega) only [go_sem, eq_self, decide_true, decide_false, Nat.reduceBEq, Nat.reduceAdd, Nat.reduceSub, Nat.reduceMul, Nat.reduceEqDiff, Nat.reduceLeDiff, Nat.reduceLT, Int.reduceLE, Int.reduceLT, Int.reduceToNat, Int.reduceAdd, Int.reduceEq, Int.reduceNeg]) | refine am_block ?_)
          refine am_cond rfl (fun hc => ?_) (fun hc => ?_) <;> (try simp -implicitDefEqProofs (disch := omega) only [go_sem, eq_self, decide_true, decide_false, Nat.reduceBEq, Nat.reduceAdd, Nat.reduceSub, Nat.reduceMul, Nat.reduceEqDiff, Nat.reduceLeDiff, Nat.reduceLT, Int.reduceLE, Int.reduceLT, Int.reduceToNat, Int.reduceAdd, Int.reduceEq, Int.reduceNeg] at hc)
          · have hlt2 : j < sb.length := by omega
            have e : sa[i] ∈ sb.take (j + 1) ↔ (sa[i] ∈ sb.take j ∨ sa[i] = sb[j]) := by
              rw [List.take_add_one, get_of_lt hlt2, Option.toList_some, List.mem_append, List.mem_singleton]
            refine am_skip ?_
            simp -implicitDefEqProofs (disch := omega) only [go_sem, eq_self, decide_true, decide_false, Nat.reduceBEq, Nat.reduceAdd, Nat.reduceSub, Nat.reduceMul, Nat.reduceEqDiff, Nat.reduceLeDiff, Nat.reduceLT, Int.reduceLE, Int.reduceLT, Int.reduceToNat, Int.reduceAdd, Int.reduceEq, Int.reduceNeg]
            repeat (first | refine am_seq ?_ | (refine am_reg ?_; simp -implicitDefEqProofs (disch := omega) only [go_sem, eq_self, decide_true, decide_false, Nat.reduceBEq, Nat.reduceAdd, Nat.reduceSub, Nat.reduceMul, Nat.reduceEqDiff, Nat.reduceLeDiff, Nat.reduceLT, Int.reduceLE, Int.reduceLT, Int.reduceToNat, Int.reduceAdd, Int.reduceEq, Int.reduceNeg, get_of_lt hlt, get_of_lt hlt2]) | (refine am_drw ?_; simp -implicitDefEqProofs (disch := omega) only [go_sem, eq_self, decide_true, decide_false, Nat.reduceBEq, Nat.reduceAdd, Nat.reduceSub, Nat.reduceMul, Nat.reduceEqDiff, Nat.reduceLeDiff, Nat.reduceLT, Int.reduceLE, Int.reduceLT, Int.reduceToNat, Int.reduceAdd, Int.reduceEq, Int.reduceNeg, get_of_lt hlt, get_of_lt hlt2]) | refine am_block ?_)
            refine am_cond rfl (fun hc => ?_) (fun hc => ?_) <;> (try simp -implicitDefEqProofs (disch := omega) only [go_sem, eq_self, decide_true, decide_false, Nat.reduceBEq, Nat.reduceAdd, Nat.reduceSub, Nat.reduceMul, Nat.reduceEqDiff, Nat.reduceLeDiff, Nat.reduceLT, Int.reduceLE, Int.reduceLT, Int.reduceToNat, Int.reduceAdd, Int.reduceEq, Int.reduceNeg] at hc)
            · refine am_exit ?_
              simp -implicitDefEqProofs (disch := omega) only [go_sem, eq_self, decide_true, decide_false, Nat.reduceBEq, Nat.reduceAdd, Nat.reduceSub, Nat.reduceMul, Nat.reduceEqDiff, Nat.reduceLeDiff, Nat.reduceLT, Int.reduceLE, Int.reduceLT, Int.reduceToNat, Int.reduceAdd, Int.reduceEq, Int.reduceNeg]
              repeat (first | refine am_seq ?_ | (refine am_reg ?_; simp -implicitDefEqProofs (disch := omega) only [go_sem, eq_self, decide_true, decide_false, Nat.reduceBEq, Nat.reduceAdd, Nat.reduceSub, Nat.reduceMul, Nat.reduceEqDiff, Nat.reduceLeDiff, Nat.reduceLT, Int.reduceLE, Int.reduceLT, Int.reduceToNat, Int.reduceAdd, Int.reduceEq, Int.reduceNeg, wrap_id]) | (refine am_drw ?_; simp -implicitDefEqProofs (disch := omega) only [go_sem, eq_self, decide_true, decide_false, Nat.reduceBEq, Nat.reduceAdd, Nat.reduceSub, Nat.reduceMul, Nat.reduceEqDiff, Nat.reduceLeDiff, Nat.reduceLT, Int.reduceLE, Int.reduceLT, Int.reduceToNat, Int.reduceAdd, Int.reduceEq, Int.reduceNeg, wrap_id]) | refine am_block ?_)
              refine ⟨n2 - 1, by omega, j + 1, by omega, ?_⟩
              have : sa[i] ∈ sb.take (j + 1) ↔ sa[i] ∈ sb.take j := by rw [e]; simp; intro h; simp [h] at hc
              simp [this]
            · refine am_skip ?_
              simp -implicitDefEqProofs (disch := omega) only [go_sem, eq_self, decide_true, decide_false, Nat.reduceBEq, Nat.reduceAdd, Nat.reduceSub, Nat.reduceMul, Nat.reduceEqDiff, Nat.reduceLeDiff, Nat.reduceLT, Int.reduceLE, Int.reduceLT, Int.reduceToNat, Int.reduceAdd, Int.reduceEq, Int.reduceNeg]
              have hmem : sa[i] ∈ sb := by
                have : sa[i] = sb[j] := by first | exact hc.symm | exact hc | simpa using hc
                rw [this]; exact List.getElem_mem _
              have hnt : sa[i] ∉ sb.take j := by
                have : sa[i] = sb[j] := by first | exact hc.symm | exact hc | simpa using hc
                rw [this]; exact nodup_not_take hnd hlt2
              have hat := both_at hlt hmem
              have hblt : (bothL (sa.take i) sb).length < (bothL sa sb).length := (List.getElem?_eq_some_iff.1 hat).1
              rw [if_neg hnt]
              have hin : sa[i] ∈ sb.take (j + 1) := e.2 (.inr (by first | exact hc.symm | exact hc | simpa using hc))
              repeat' (first | refine am_seq ?_ | (refine am_reg ?_; simp -implicitDefEqProofs (disch := omega) only [go_sem, eq_self, decide_true, decide_false, Nat.reduceBEq, Nat.reduceAdd, Nat.reduceSub, Nat.reduceMul, Nat.reduceEqDiff, Nat.reduceLeDiff, Nat.reduceLT, Int.reduceLE, Int.reduceLT, Int.reduceToNat, Int.reduceAdd, Int.reduceEq, Int.reduceNeg, hk1, Int.toNat_natCast, hat, Int.add_zero, get_of_lt hlt, wrap_id]) | (refine am_drw ?_; simp -implicitDefEqProofs (disch := omega) only [go_sem, eq_self, decide_true, decide_false, Nat.reduceBEq, Nat.reduceAdd, Nat.reduceSub, Nat.reduceMul, Nat.reduceEqDiff, Nat.reduceLeDiff, Nat.reduceLT, Int.reduceLE, Int.reduceLT, Int.reduceToNat, Int.reduceAdd, Int.reduceEq, Int.reduceNeg, hk1, Int.toNat_natCast, hat, Int.add_zero, get_of_lt hlt, wrap_id]) | refine am_block ?_ | (refine am_skip ?_; simp -implicitDefEqProofs (disch := omega) only [go_sem, eq_self, decide_true, decide_false, Nat.reduceBEq, Nat.reduceAdd, Nat.reduceSub, Nat.reduceMul, Nat.reduceEqDiff, Nat.reduceLeDiff, Nat.reduceLT, Int.reduceLE, Int.reduceLT, Int.reduceToNat, Int.reduceAdd, Int.reduceEq, Int.reduceNeg, hk1, Int.toNat_natCast, hat, Int.add_zero, get_of_lt hlt, wrap_id]) | (refine am_exit ?_; simp -implicitDefEqProofs (disch := omega) only [go_sem, eq_self, decide_true, decide_false, Nat.reduceBEq, Nat.reduceAdd, Nat.reduceSub, Nat.reduceMul, Nat.reduceEqDiff, Nat.reduceLeDiff, Nat.reduceLT, Int.reduceLE, Int.reduceLT, Int.reduceToNat, Int.reduceAdd, Int.reduceEq, Int.reduceNeg, hk1, Int.toNat_natCast, hat, Int.add_zero, get_of_lt hlt, wrap_id]) | (refine am_ret ?_; try simp -implicitDefEqProofs (disch := omega) only [go_sem, eq_self, decide_true, decide_false, Nat.reduceBEq, Nat.reduceAdd, Nat.reduceSub, Nat.reduceMul, Nat.reduceEqDiff, Nat.reduceLeDiff, Nat.reduceLT, Int.reduceLE, Int.reduceLT, Int.reduceToNat, Int.reduceAdd, Int.reduceEq, Int.reduceNeg, hk1, Int.toNat_natCast, hat, Int.add_zero, get_of_lt hlt, wrap_id]) | (refine am_cond rfl (fun hc => ?_) (fun hc => ?_) <;> (try simp -implicitDefEqProofs (disch := omega) only [go_sem, eq_self, decide_true, decide_false, Nat.reduceBEq, Nat.reduceAdd, Nat.reduceSub, Nat.reduceMul, Nat.reduceEqDiff, Nat.reduceLeDiff, Nat.reduceLT, Int.reduceLE, Int.reduceLT, Int.reduceToNat, Int.reduceAdd, Int.reduceEq, Int.reduceNeg, hk1, Int.toNat_natCast, hat, Int.add_zero, get_of_lt hlt, wrap_id] at hc)) | (with_reducible refine gd_not (fun hc => ?_) (fun hc => ?_) <;> simp -implicitDefEqProofs (disch := omega) only [go_sem, eq_self, decide_true, decide_false, Nat.reduceBEq, Nat.reduceAdd, Nat.reduceSub, Nat.reduceMul, Nat.reduceEqDiff, Nat.reduceLeDiff, Nat.reduceLT, Int.reduceLE, Int.reduceLT, Int.reduceToNat, Int.reduceAdd, Int.reduceEq, Int.reduceNeg, hc, hk1, Int.toNat_natCast, hat, Int.add_zero, get_of_lt hlt, wrap_id] <;> (try simp only [decide_eq_true_eq, decide_eq_false_iff_not, Bool.or_eq_true, Bool.and_eq_true, Bool.or_eq_false_iff, Bool.not_eq_true] at hc)) | (with_reducible refine gd_of (fun hc => ?_) (fun hc => ?_) <;> simp -implicitDefEqProofs (disch := omega) only [go_sem, eq_self, decide_true, decide_false, Nat.reduceBEq, Nat.reduceAdd, Nat.reduceSub, Nat.reduceMul, Nat.reduceEqDiff, Nat.reduceLeDiff, Nat.reduceLT, Int.reduceLE, Int.reduceLT, Int.reduceToNat, Int.reduceAdd, Int.reduceEq, Int.reduceNeg, hc, hk1, Int.toNat_natCast, hat, Int.add_zero, get_of_lt hlt, wrap_id] <;> (try simp only [decide_eq_true_eq, decide_eq_false_iff_not, Bool.or_eq_true, Bool.and_eq_true, Bool.or_eq_false_iff, Bool.not_eq_true] at hc)) | (with_reducible refine gq_not (fun hc => ?_) (fun hc => ?_) <;> simp -implicitDefEqProofs (disch := omega) only [go_sem, eq_self, decide_true, decide_false, Nat.reduceBEq, Nat.reduceAdd, Nat.reduceSub, Nat.reduceMul, Nat.reduceEqDiff, Nat.reduceLeDiff, Nat.reduceLT, Int.reduceLE, Int.reduceLT, Int.reduceToNat, Int.reduceAdd, Int.reduceEq, Int.reduceNeg, hc, hk1, Int.toNat_natCast, hat, Int.add_zero, get_of_lt hlt, wrap_id] <;> (try simp only [decide_eq_true_eq, decide_eq_false_iff_not, Bool.or_eq_true, Bool.and_eq_true, Bool.or_eq_false_iff, Bool.not_eq_true] at hc)) | (with_reducible refine gq_of (fun hc => ?_) (fun hc => ?_) <;> simp -implicitDefEqProofs (disch := omega) only [go_sem, eq_self, decide_true, decide_false, Nat.reduceBEq, Nat.reduceAdd, Nat.reduceSub, Nat.reduceMul, Nat.reduceEqDiff, Nat.reduceLeDiff, Nat.reduceLT, Int.reduceLE, Int.reduceLT, Int.reduceToNat, Int.reduceAdd, Int.reduceEq, Int.reduceNeg, hc, hk1, Int.toNat_natCast, hat, Int.add_zero, get_of_lt hlt, wrap_id] <;> (try simp only [decide_eq_true_eq, decide_eq_false_iff_not, Bool.or_eq_true, Bool.and_eq_true, Bool.or_eq_false_iff, Bool.not_eq_true] at hc)) | (with_reducible refine pickB_of (fun hc => ?_) (fun hc => ?_) <;> simp -implicitDefEqProofs (disch := omega) only [go_sem, eq_self, decide_true, decide_false, Nat.reduceBEq, Nat.reduceAdd, Nat.reduceSub, Nat.reduceMul, Nat.reduceEqDiff, Nat.reduceLeDiff, Nat.reduceLT, Int.reduceLE, Int.reduceLT, Int.reduceToNat, Int.reduceAdd, Int.reduceEq, Int.reduceNeg, hc, hk1, Int.toNat_natCast, hat, Int.add_zero, get_of_lt hlt, wrap_id] <;> (try simp only [decide_eq_true_eq, decide_eq_false_iff_not, Bool.or_eq_true, Bool.and_eq_true, Bool.or_eq_false_iff, Bool.not_eq_true] at hc)))
              all_goals first
                | (refine ⟨n2 - 1, by omega, j + 1, by omega, ?_⟩; simp_all; done)
                | (exfalso; omega)
                | skip
          · refine am_exit ?_
            simp -implicitDefEqProofs (disch := omega) only [go_sem, eq_self, decide_true, decide_false, Nat.reduceBEq, Nat.reduceAdd, Nat.reduceSub, Nat.reduceMul, Nat.reduceEqDiff, Nat.reduceLeDiff, Nat.reduceLT, Int.reduceLE, Int.reduceLT, Int.reduceToNat, Int.reduceAdd, Int.reduceEq, Int.reduceNeg]
            rw [List.take_of_length_le (l := sb) (by omega)]
            repeat (first | refine am_seq ?_ | (refine am_reg ?_; simp -implicitDefEqProofs (disch := omega) only [go_sem, eq_self, decide_true, decide_false, Nat.reduceBEq, Nat.reduceAdd, Nat.reduceSub, Nat.reduceMul, Nat.reduceEqDiff, Nat.reduceLeDiff, Nat.reduceLT, Int.reduceLE, Int.reduceLT, Int.reduceToNat, Int.reduceAdd, Int.reduceEq, Int.reduceNeg, wrap_id]) | (refine am_drw ?_; simp -implicitDefEqProofs (disch := omega) only [go_sem, eq_self, decide_true, decide_false, Nat.reduceBEq, Nat.reduceAdd, Nat.reduceSub, Nat.reduceMul, Nat.reduceEqDiff, Nat.reduceLeDiff, Nat.reduceLT, Int.reduceLE, Int.reduceLT, Int.reduceToNat, Int.reduceAdd, Int.reduceEq, Int.reduceNeg, wrap_id]) | refine am_block ?_)
            refine ⟨n - 1, by omega, i + 1, by omega, ?_⟩
            rw [both_step sa sb i hlt]
            by_cases hm : sa[i] ∈ sb <;> simp [hm, eq_comm]
        · refine am_exit ?_
          simp -implicitDefEqProofs (disch := omega) only [go_sem, eq_self, decide_true, decide_false, Nat.reduceBEq, Nat.reduceAdd, Nat.reduceSub, Nat.reduceMul, Nat.reduceEqDiff, Nat.reduceLeDiff, Nat.reduceLT, Int.reduceLE, Int.reduceLT, Int.reduceToNat, Int.reduceAdd, Int.reduceEq, Int.reduceNeg]
          rw [List.take_of_length_le (by omega)]
          have hbl : (bothL sa sb).length ≤ sa.length := by unfold bothL; exact List.length_filter_le _ _
          repeat' (first | refine am_seq ?_ | (refine am_reg ?_; simp -implicitDefEqProofs (disch := omega) only [go_sem, eq_self, decide_true, decide_false, Nat.reduceBEq, Nat.reduceAdd, Nat.reduceSub, Nat.reduceMul, Nat.reduceEqDiff, Nat.reduceLeDiff, Nat.reduceLT, Int.reduceLE, Int.reduceLT, Int.reduceToNat, Int.reduceAdd, Int.reduceEq, Int.reduceNeg, hk1, hk3, beq_self_eq_true]) | (refine am_drw ?_; simp -implicitDefEqProofs (disch := omega) only [go_sem, eq_self, decide_true, decide_false, Nat.reduceBEq, Nat.reduceAdd, Nat.reduceSub, Nat.reduceMul, Nat.reduceEqDiff, Nat.reduceLeDiff, Nat.reduceLT, Int.reduceLE, Int.reduceLT, Int.reduceToNat, Int.reduceAdd, Int.reduceEq, Int.reduceNeg, hk1, hk3, beq_self_eq_true]) | refine am_block ?_ | (refine am_skip ?_; simp -implicitDefEqProofs (disch := omega) only [go_sem, eq_self, decide_true, decide_false, Nat.reduceBEq, Nat.reduceAdd, Nat.reduceSub, Nat.reduceMul, Nat.reduceEqDiff, Nat.reduceLeDiff, Nat.reduceLT, Int.reduceLE, Int.reduceLT, Int.reduceToNat, Int.reduceAdd, Int.reduceEq, Int.reduceNeg, hk1, hk3, beq_self_eq_true]) | (refine am_exit ?_; simp -implicitDefEqProofs (disch := omega) only [go_sem, eq_self, decide_true, decide_false, Nat.reduceBEq, Nat.reduceAdd, Nat.reduceSub, Nat.reduceMul, Nat.reduceEqDiff, Nat.reduceLeDiff, Nat.reduceLT, Int.reduceLE, Int.reduceLT, Int.reduceToNat, Int.reduceAdd, Int.reduceEq, Int.reduceNeg, hk1, hk3, beq_self_eq_true]) | (refine am_ret ?_; try simp -implicitDefEqProofs (disch := omega) only [go_sem, eq_self, decide_true, decide_false, Nat.reduceBEq, Nat.reduceAdd, Nat.reduceSub, Nat.reduceMul, Nat.reduceEqDiff, Nat.reduceLeDiff, Nat.reduceLT, Int.reduceLE, Int.reduceLT, Int.reduceToNat, Int.reduceAdd, Int.reduceEq, Int.reduceNeg, hk1, hk3, beq_self_eq_true]) | (refine am_cond rfl (fun hc => ?_) (fun hc => ?_) <;> (try simp -implicitDefEqProofs (disch := omega) only [go_sem, eq_self, decide_true, decide_false, Nat.reduceBEq, Nat.reduceAdd, Nat.reduceSub, Nat.reduceMul, Nat.reduceEqDiff, Nat.reduceLeDiff, Nat.reduceLT, Int.reduceLE, Int.reduceLT, Int.reduceToNat, Int.reduceAdd, Int.reduceEq, Int.reduceNeg, hk1, hk3, beq_self_eq_true] at hc)) | (with_reducible refine gd_not (fun hc => ?_) (fun hc => ?_) <;> simp -implicitDefEqProofs (disch := omega) only [go_sem, eq_self, decide_true, decide_false, Nat.reduceBEq, Nat.reduceAdd, Nat.reduceSub, Nat.reduceMul, Nat.reduceEqDiff, Nat.reduceLeDiff, Nat.reduceLT, Int.reduceLE, Int.reduceLT, Int.reduceToNat, Int.reduceAdd, Int.reduceEq, Int.reduceNeg, hc, hk1, hk3, beq_self_eq_true] <;> (try simp only [decide_eq_true_eq, decide_eq_false_iff_not, Bool.or_eq_true, Bool.and_eq_true, Bool.or_eq_false_iff, Bool.not_eq_true] at hc)) | (with_reducible refine gd_of (fun hc => ?_) (fun hc => ?_) <;> simp -implicitDefEqProofs (disch := omega) only [go_sem, eq_self, decide_true, decide_false, Nat.reduceBEq, Nat.reduceAdd, Nat.reduceSub, Nat.reduceMul, Nat.reduceEqDiff, Nat.reduceLeDiff, Nat.reduceLT, Int.reduceLE, Int.reduceLT, Int.reduceToNat, Int.reduceAdd, Int.reduceEq, Int.reduceNeg, hc, hk1, hk3, beq_self_eq_true] <;> (try simp only [decide_eq_true_eq, decide_eq_false_iff_not, Bool.or_eq_true, Bool.and_eq_true, Bool.or_eq_false_iff, Bool.not_eq_true] at hc)) | (with_reducible refine gq_not (fun hc => ?_) (fun hc => ?_) <;> simp -implicitDefEqProofs (disch := omega) only [go_sem, eq_self, decide_true, decide_false, Nat.reduceBEq, Nat.reduceAdd, Nat.reduceSub, Nat.reduceMul, Nat.reduceEqDiff, Nat.reduceLeDiff, Nat.reduceLT, Int.reduceLE, Int.reduceLT, Int.reduceToNat, Int.reduceAdd, Int.reduceEq, Int.reduceNeg, hc, hk1, hk3, beq_self_eq_true] <;> (try simp only [decide_eq_true_eq, decide_eq_false_iff_not, Bool.or_eq_true, Bool.and_eq_true, Bool.or_eq_false_iff, Bool.not_eq_true] at hc)) | (with_reducible refine gq_of (fun hc => ?_) (fun hc => ?_) <;> simp -implicitDefEqProofs (disch := omega) only [go_sem, eq_self, decide_true, decide_false, Nat.reduceBEq, Nat.reduceAdd, Nat.reduceSub, Nat.reduceMul, Nat.reduceEqDiff, Nat.reduceLeDiff, Nat.reduceLT, Int.reduceLE, Int.reduceLT, Int.reduceToNat, Int.reduceAdd, Int.reduceEq, Int.reduceNeg, hc, hk1, hk3, beq_self_eq_true] <;> (try simp only [decide_eq_true_eq, decide_eq_false_iff_not, Bool.or_eq_true, Bool.and_eq_true, Bool.or_eq_false_iff, Bool.not_eq_true] at hc)) | (with_reducible refine pickB_of (fun hc => ?_) (fun hc => ?_) <;> simp -implicitDefEqProofs (disch := omega) only [go_sem, eq_self, decide_true, decide_false, Nat.reduceBEq, Nat.reduceAdd, Nat.reduceSub, Nat.reduceMul, Nat.reduceEqDiff, Nat.reduceLeDiff, Nat.reduceLT, Int.reduceLE, Int.reduceLT, Int.reduceToNat, Int.reduceAdd, Int.reduceEq, Int.reduceNeg, hc, hk1, hk3, beq_self_eq_true] <;> (try simp only [decide_eq_true_eq, decide_eq_false_iff_not, Bool.or_eq_true, Bool.and_eq_true, Bool.or_eq_false_iff, Bool.not_eq_true] at hc)) | (refine call_of (has_calls _ _ _ _ (by omega)) ?_; try simp -implicitDefEqProofs (disch := omega) only [go_sem, eq_self, decide_true, decide_false, Nat.reduceBEq, Nat.reduceAdd, Nat.reduceSub, Nat.reduceMul, Nat.reduceEqDiff, Nat.reduceLeDiff, Nat.reduceLT, Int.reduceLE, Int.reduceLT, Int.reduceToNat, Int.reduceAdd, Int.reduceEq, Int.reduceNeg, hk1, hk3, beq_self_eq_true]) | (refine qcall_of (has_calls _ _ _ _ (by omega)) ?_; try simp -implicitDefEqProofs (disch := omega) only [go_sem, eq_self, decide_true, decide_false, Nat.reduceBEq, Nat.reduceAdd, Nat.reduceSub, Nat.reduceMul, Nat.reduceEqDiff, Nat.reduceLeDiff, Nat.reduceLT, Int.reduceLE, Int.reduceLT, Int.reduceToNat, Int.reduceAdd, Int.reduceEq, Int.reduceNeg, hk1, hk3, beq_self_eq_true]))
          all_goals first
            | exact ⟨⟨_, rfl, fun s x h => h⟩, hle⟩
            | (exfalso; omega)
            | skip
      · simp only [decide_eq_false_iff_not] at hn
        refine am_skip ?_
        simp -implicitDefEqProofs (disch := omega) only [go_sem, eq_self, decide_true, decide_false, Nat.reduceBEq, Nat.reduceAdd, Nat.reduceSub, Nat.reduceMul, Nat.reduceEqDiff, Nat.reduceLeDiff, Nat.reduceLT, Int.reduceLE, Int.reduceLT, Int.reduceToNat, Int.reduceAdd, Int.reduceEq, Int.reduceNeg]
        repeat (first | refine am_seq ?_ | (refine am_reg ?_; simp -implicitDefEqProofs (disch := omega) only [go_sem, eq_self, decide_true, decide_false, Nat.reduceBEq, Nat.reduceAdd, Nat.reduceSub, Nat.reduceMul, Nat.reduceEqDiff, Nat.reduceLeDiff, Nat.reduceLT, Int.reduceLE, Int.reduceLT, Int.reduceToNat, Int.reduceAdd, Int.reduceEq, Int.reduceNeg, hn, Bool.not_false]) | (refine am_drw ?_; simp -implicitDefEqProofs (disch := omega) only [go_sem, eq_self, decide_true, decide_false, Nat.reduceBEq, Nat.reduceAdd, Nat.reduceSub, Nat.reduceMul, Nat.reduceEqDiff, Nat.reduceLeDiff, Nat.reduceLT, Int.reduceLE, Int.reduceLT, Int.reduceToNat, Int.reduceAdd, Int.reduceEq, Int.reduceNeg, hn, Bool.not_false]) | refine am_block ?_)
        exact bad no (agree_wrong hno hn)
  refine am_cond rfl (fun hc => ?_) (fun hc => ?_) <;> (try simp -implicitDefEqProofs (disch := omega) only [go_sem, eq_self, decide_true, decide_false, Nat.reduceBEq, Nat.reduceAdd, Nat.reduceSub, Nat.reduceMul, Nat.reduceEqDiff, Nat.reduceLeDiff, Nat.reduceLT, Int.reduceLE, Int.reduceLT, Int.reduceToNat, Int.reduceAdd, Int.reduceEq, Int.reduceNeg] at hc)
  · repeat (first | refine am_seq ?_ | (refine am_reg ?_; simp -implicitDefEqProofs (disch := omega) only [go_sem, eq_self, decide_true, decide_false, Nat.reduceBEq, Nat.reduceAdd, Nat.reduceSub, Nat.reduceMul, Nat.reduceEqDiff, Nat.reduceLeDiff, Nat.reduceLT, Int.reduceLE, Int.reduceLT, Int.reduceToNat, Int.reduceAdd, Int.reduceEq, Int.reduceNeg]) | (refine am_drw ?_; simp -implicitDefEqProofs (disch := omega) only [go_sem, eq_self, decide_true, decide_false, Nat.reduceBEq, Nat.reduceAdd, Nat.reduceSub, Nat.reduceMul, Nat.reduceEqDiff, Nat.reduceLeDiff, Nat.reduceLT, Int.reduceLE, Int.reduceLT, Int.reduceToNat, Int.reduceAdd, Int.reduceEq, Int.reduceNeg]) | refine am_block ?_)
    refine call_of (lright_calls vb sb uv us (by omega) (by omega) (fun s h => by have := s4 s h; omega)) ?_
    try simp -implicitDefEqProofs (disch := omega) only [go_sem, eq_self, decide_true, decide_false, Nat.reduceBEq, Nat.reduceAdd, Nat.reduceSub, Nat.reduceMul, Nat.reduceEqDiff, Nat.reduceLeDiff, Nat.reduceLT, Int.reduceLE, Int.reduceLT, Int.reduceToNat, Int.reduceAdd, Int.reduceEq, Int.reduceNeg]
    refine mid _ ?_
    rw [if_pos hc]
  · refine am_skip ?_
    simp -implicitDefEqProofs (disch := omega) only [go_sem, eq_self, decide_true, decide_false, Nat.reduceBEq, Nat.reduceAdd, Nat.reduceSub, Nat.reduceMul, Nat.reduceEqDiff, Nat.reduceLeDiff, Nat.reduceLT, Int.reduceLE, Int.reduceLT, Int.reduceToNat, Int.reduceAdd, Int.reduceEq, Int.reduceNeg]
    exact AM.sub (mid _ (by rw [if_neg hc])) (fun t v h => get_append (m := [(44, _)]) h)
end Go.Proofs.Ytmomncmddejcoaa
