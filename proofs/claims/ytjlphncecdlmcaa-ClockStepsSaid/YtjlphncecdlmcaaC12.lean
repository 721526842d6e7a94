/- Of the walks of this seat: contracts of functions of the given program, proved over the abstract values of the texts Vm. Conditions: as each theorem says. -/
import Derived.Test.YtjlphncecdlmcaaC11
set_option linter.unusedVariables false
set_option linter.unusedSimpArgs false
namespace Go.Proofs.Ytjlphncecdlmcaa
open Go.Vm Go.Sort
attribute [local go_sem] List.drop_zero toNat_succ Nat.sub_zero Int.toNat_natCast Option.map_some Int.natCast_nonneg decide_eq_true_eq decide_eq_false_iff_not
/- flange/flangelaw14.ClockRings -/
abbrev k10_0 : MC :=
  .cond (.t 23) ((.seq (.reg [
     ⟨(some 24), none, .call 34 []⟩,
     ⟨(some 2), none, .val (.mv (.t 24))⟩] [2]) (.ret))) (.skip)

abbrev k10_1 : MC :=
  .cond (.t 29) (.skip) (.exit 0)

abbrev k10_2 : MC :=
  .cond (.t 39) ((.seq (.reg [
     ⟨(some 2), none, .val (.mv (.c (.bool true)))⟩] [2]) (.ret))) (.skip)

abbrev k10_3 : MC :=
  .cond (.t 135) ((.seq (.reg [
     ⟨(some 2), none, .val (.mv (.c (.bool false)))⟩] [2]) (.ret))) (.skip)

abbrev k10_4 : MC :=
  .cond (.t 119) ((.seq ((.seq (.reg [
     ⟨(some 120), none, .val (.faddr 2 (.t 7))⟩,
     ⟨(some 121), none, .val (.load false 1 (.t 120))⟩,
     ⟨(some 122), none, .val (.bin .lss .num (.t 121) (.c (.int .i64 0)))⟩,
     ⟨(some 123), none, .val (.mv (.t 122))⟩,
     ⟨(some 124), (some (123, true)), .val (.mv (.t 9))⟩,
     ⟨(some 125), (some (123, true)), .val (.bin .neq .num (.t 124) (.c (.int .i64 1)))⟩,
     ⟨(some 126), none, .val (.pick (.t 123) (.t 125) (.c (.bool false)))⟩,
     ⟨(some 127), none, .val (.mv (.t 126))⟩,
     ⟨(some 128), (some (127, false)), .val (.faddr 2 (.t 7))⟩,
     ⟨(some 129), (some (127, false)), .val (.load false 1 (.t 128))⟩,
     ⟨(some 130), (some (127, false)), .val (.bin .geq .num (.t 129) (.c (.int .i64 0)))⟩,
     ⟨(some 131), (some (127, false)), .val (.mv (.t 130))⟩,
     ⟨(some 132), (some (131, true)), .val (.mv (.t 9))⟩,
     ⟨(some 133), (some (131, true)), .val (.bin .neq .num (.t 132) (.c (.int .i64 10)))⟩,
     ⟨(some 134), (some (127, false)), .val (.pick (.t 131) (.t 133) (.c (.bool false)))⟩,
     ⟨(some 135), none, .val (.pick (.t 127) (.c (.bool true)) (.t 134))⟩] [0, 3, 4, 5, 6, 7, 135]) k10_3)) (.exit 2))) (.skip)

abbrev k10_5 : MC :=
  .cond (.t 137) (.reg [
     ⟨(some 138), none, .val (.mv (.t 4))⟩,
     ⟨(some 139), none, .val (.mv (.t 8))⟩,
     ⟨(some 140), none, .call 42 [(.t 138), (.t 139)]⟩,
     ⟨(some 4), none, .val (.mv (.t 140))⟩] [0, 3, 4, 5, 6, 7, 9]) (.skip)

abbrev k10_6 : MC :=
  .cond (.t 153) ((.seq (.reg [
     ⟨(some 2), none, .val (.mv (.c (.bool false)))⟩] [2]) (.ret))) (.skip)

abbrev k10_7 : MC :=
  (.seq (.reg [
    ⟨(some 152), none, .val (.mv (.t 9))⟩,
    ⟨(some 153), none, .val (.bin .neq .num (.t 152) (.c (.int .i64 0)))⟩] [0, 3, 4, 5, 6, 7, 153]) k10_6)

abbrev k10_8 : MC :=
  (.seq (.drw [
    ⟨(some 141), none, .val (.mv (.t 4))⟩,
    ⟨(some 142), none, .val (.faddr 1 (.t 7))⟩,
    ⟨(some 143), none, .val (.load false 1 (.t 142))⟩,
    ⟨(some 144), none, .val (.mv (.t 5))⟩,
    ⟨(some 145), none, .val (.faddr 2 (.t 7))⟩,
    ⟨(some 146), none, .val (.load false 1 (.t 145))⟩,
    ⟨(some 147), none, .call 44 [(.t 146)]⟩,
    ⟨(some 148), none, .val (.bin .add .num (.t 144) (.t 147))⟩,
    ⟨(some 149), none, .call 44 [(.t 148)]⟩,
    ⟨(some 150), none, .build [(.str []), (.int .i64 0)] [(0, 1, (.t 143)), (1, 1, (.t 149))]⟩,
    ⟨(some 151), none, .call 43 [(.t 141), (.t 150)]⟩,
    ⟨(some 4), none, .val (.mv (.t 151))⟩] [
] [0, 3, 4, 5, 6, 7, 9]) k10_7)

abbrev k10_9 : MC :=
  (.seq ((.seq (.reg [
    ⟨(some 136), none, .val (.mv (.t 8))⟩,
    ⟨(some 137), none, .val (.bin .geq .num (.t 136) (.c (.int .i64 0)))⟩] [0, 3, 4, 5, 6, 7, 8, 9, 137]) k10_5)) k10_8)

abbrev k10_10 : MC :=
  (.seq ((.seq (.reg [
    ⟨(some 108), none, .val (.faddr 2 (.t 7))⟩,
    ⟨(some 109), none, .val (.load false 1 (.t 108))⟩,
    ⟨(some 110), none, .val (.bin .lss .num (.t 109) (.c (.int .i64 0)))⟩,
    ⟨(some 111), none, .val (.mv (.t 110))⟩,
    ⟨(some 112), (some (111, false)), .val (.mv (.t 8))⟩,
    ⟨(some 113), (some (111, false)), .val (.bin .lss .num (.t 112) (.c (.int .i64 0)))⟩,
    ⟨(some 114), (some (111, false)), .val (.mv (.t 113))⟩,
    ⟨(some 115), (some (114, true)), .val (.mv (.t 4))⟩,
    ⟨(some 116), (some (114, true)), .val (.len .sl (.t 115))⟩,
    ⟨(some 117), (some (114, true)), .val (.bin .eql .num (.t 116) (.c (.int .i64 32)))⟩,
    ⟨(some 118), (some (111, false)), .val (.pick (.t 114) (.t 117) (.c (.bool false)))⟩,
    ⟨(some 119), none, .val (.pick (.t 111) (.c (.bool true)) (.t 118))⟩] [0, 3, 4, 5, 6, 7, 8, 9, 119]) k10_4)) k10_9)

abbrev k10_11 : MC :=
  .cond (.t 162) ((.seq (.reg [
     ⟨(some 2), none, .val (.mv (.c (.bool false)))⟩] [2]) (.ret))) (.skip)

abbrev k10_12 : MC :=
  .cond (.t 164) (.reg [
     ⟨(some 165), none, .val (.mv (.t 4))⟩,
     ⟨(some 166), none, .val (.mv (.t 8))⟩,
     ⟨(some 167), none, .call 42 [(.t 165), (.t 166)]⟩,
     ⟨(some 4), none, .val (.mv (.t 167))⟩] [0, 3, 4, 5, 6, 7]) (.skip)

abbrev k10_13 : MC :=
  (.seq (.reg [
    ⟨(some 163), none, .val (.mv (.t 8))⟩,
    ⟨(some 164), none, .val (.bin .geq .num (.t 163) (.c (.int .i64 0)))⟩] [0, 3, 4, 5, 6, 7, 8, 164]) k10_12)

abbrev k10_14 : MC :=
  .cond (.t 74) (.skip) (.exit 3)

abbrev k10_15 : MC :=
  .cond (.t 90) ((.seq (.reg [
     ⟨(some 2), none, .val (.mv (.c (.bool false)))⟩] [2]) (.ret))) (.skip)

abbrev k10_16 : MC :=
  .reg [
    ⟨(some 91), none, .val (.mv (.t 11))⟩,
    ⟨(some 92), none, .val (.bin .add .num (.t 91) (.c (.int .i64 1)))⟩,
    ⟨(some 11), none, .val (.mv (.t 92))⟩] [0, 3, 4, 5, 6, 7, 10, 11]

abbrev k10_17 : MC :=
  .block 4 ((.seq ((.seq (.drw [
     ⟨(some 75), none, .val (.mv (.t 11))⟩,
     ⟨(some 76), none, .val (.mv (.t 10))⟩,
     ⟨(some 77), none, .val (.len .sl (.t 76))⟩,
     ⟨(some 78), none, .val (.bin .geq .num (.t 75) (.t 77))⟩,
     ⟨(some 79), none, .val (.mv (.t 78))⟩,
     ⟨(some 80), (some (79, false)), .val (.mv (.t 10))⟩,
     ⟨(some 81), (some (79, false)), .val (.mv (.t 11))⟩,
     ⟨(some 82), (some (79, false)), .val (.iaddr 1 (.t 80) (.t 81))⟩,
     ⟨(some 83), (some (79, false)), .val (.load false 1 (.t 82))⟩,
     ⟨(some 84), (some (79, false)), .val (.mv (.t 4))⟩,
     ⟨(some 85), (some (79, false)), .val (.mv (.t 11))⟩,
     ⟨(some 86), (some (79, false)), .val (.iaddr 2 (.t 84) (.t 85))⟩,
     ⟨(some 87), (some (79, false)), .val (.faddr 0 (.t 86))⟩,
     ⟨(some 88), (some (79, false)), .val (.load false 1 (.t 87))⟩,
     ⟨(some 89), (some (79, false)), .val (.bin .neq .num (.t 83) (.t 88))⟩,
     ⟨(some 90), none, .val (.pick (.t 79) (.c (.bool true)) (.t 89))⟩] [
] [0, 3, 4, 5, 6, 7, 10, 11, 90]) k10_15)) k10_16))

abbrev k10_18 : MC :=
  (.seq ((.seq (.reg [
    ⟨(some 57), none, .val (.faddr 2 (.t 7))⟩,
    ⟨(some 58), none, .val (.load false 1 (.t 57))⟩,
    ⟨(some 59), none, .val (.bin .gtr .num (.t 58) (.c (.int .i64 0)))⟩,
    ⟨(some 60), none, .val (.mv (.t 59))⟩,
    ⟨(some 61), (some (60, true)), .val (.mv (.t 11))⟩,
    ⟨(some 62), (some (60, true)), .val (.mv (.t 4))⟩,
    ⟨(some 63), (some (60, true)), .val (.len .sl (.t 62))⟩,
    ⟨(some 64), (some (60, true)), .val (.bin .lss .num (.t 61) (.t 63))⟩,
    ⟨(some 65), none, .val (.pick (.t 60) (.t 64) (.c (.bool false)))⟩,
    ⟨(some 66), none, .val (.mv (.t 65))⟩,
    ⟨(some 67), (some (66, true)), .val (.mv (.t 4))⟩,
    ⟨(some 68), (some (66, true)), .val (.mv (.t 11))⟩,
    ⟨(some 69), (some (66, true)), .val (.iaddr 2 (.t 67) (.t 68))⟩,
    ⟨(some 70), (some (66, true)), .val (.faddr 1 (.t 69))⟩,
    ⟨(some 71), (some (66, true)), .val (.load false 1 (.t 70))⟩,
    ⟨(some 72), (some (66, true)), .val (.mv (.t 5))⟩,
    ⟨(some 73), (some (66, true)), .val (.bin .leq .num (.t 71) (.t 72))⟩,
    ⟨(some 74), none, .val (.pick (.t 66) (.t 73) (.c (.bool false)))⟩] [0, 3, 4, 5, 6, 7, 10, 11, 74]) k10_14)) k10_17)

abbrev k10_19 : MC :=
  .cond (.t 96) ((.seq (.reg [
     ⟨(some 2), none, .val (.mv (.c (.bool false)))⟩] [2]) (.ret))) (.skip)

abbrev k10_20 : MC :=
  .reg [
    ⟨(some 97), none, .val (.mv (.t 4))⟩,
    ⟨(some 98), none, .val (.mv (.t 11))⟩,
    ⟨(some 99), none, .val (.slc (some 2) (.t 97) (some (.t 98)) none none)⟩,
    ⟨(some 4), none, .val (.mv (.t 99))⟩] [0, 3, 4, 5, 6, 7]

abbrev k10_21 : MC :=
  (.seq ((.seq (.reg [
    ⟨(some 93), none, .val (.mv (.t 11))⟩,
    ⟨(some 94), none, .val (.mv (.t 10))⟩,
    ⟨(some 95), none, .val (.len .sl (.t 94))⟩,
    ⟨(some 96), none, .val (.bin .neq .num (.t 93) (.t 95))⟩] [0, 3, 4, 5, 6, 7, 11, 96]) k10_19)) k10_20)

abbrev k10_22 : MC :=
  (.seq (.block 3 (.loop k10_18)) k10_21)

abbrev k10_23 : MC :=
  (.seq (.reg [
    ⟨(some 11), none, .val (.mv (.c (.int .i64 0)))⟩] [0, 3, 4, 5, 6, 7, 10, 11]) k10_22)

abbrev k10_24 : MC :=
  (.seq (.reg [
    ⟨(some 53), none, .val (.mv (.t 3))⟩,
    ⟨(some 54), none, .val (.faddr 2 (.t 7))⟩,
    ⟨(some 55), none, .val (.load false 1 (.t 54))⟩,
    ⟨(some 56), none, .call 37 [(.t 53), (.t 55)]⟩,
    ⟨(some 10), none, .val (.mv (.t 56))⟩] [0, 3, 4, 5, 6, 7, 10]) k10_23)

abbrev k10_25 : MC :=
  .cond (.t 154) ((.seq ((.seq (.reg [
     ⟨(some 156), none, .val (.mv (.t 3))⟩,
     ⟨(some 157), none, .val (.faddr 1 (.t 7))⟩,
     ⟨(some 158), none, .val (.load false 1 (.t 157))⟩,
     ⟨(some 159), none, .call 45 [(.t 156), (.t 158)]⟩,
     ⟨(some 160), none, .val (.mv (.t 8))⟩,
     ⟨(some 161), none, .val (.bin .geq .num (.t 160) (.c (.int .i64 0)))⟩,
     ⟨(some 162), none, .val (.bin .neq .bool (.t 159) (.t 161))⟩] [0, 3, 4, 5, 6, 7, 8, 162]) k10_11)) k10_13)) ((.seq (.reg [
     ⟨(some 47), none, .val (.mv (.t 5))⟩,
     ⟨(some 48), none, .val (.faddr 2 (.t 7))⟩,
     ⟨(some 49), none, .val (.load false 1 (.t 48))⟩,
     ⟨(some 50), none, .call 44 [(.t 49)]⟩,
     ⟨(some 51), none, .val (.bin .add .num (.t 47) (.t 50))⟩,
     ⟨(some 52), none, .call 44 [(.t 51)]⟩,
     ⟨(some 5), none, .val (.mv (.t 52))⟩] [0, 3, 4, 5, 6, 7]) k10_24))

abbrev k10_26 : MC :=
  .cond (.t 100) ((.seq (.reg [
     ⟨(some 102), none, .val (.mv (.t 3))⟩,
     ⟨(some 103), none, .val (.faddr 1 (.t 7))⟩,
     ⟨(some 104), none, .val (.load false 1 (.t 103))⟩,
     ⟨(some 105), none, .val (.faddr 2 (.t 7))⟩,
     ⟨(some 106), none, .val (.load false 1 (.t 105))⟩,
     ⟨(some 107), none, .call 36 [(.t 102), (.t 104), (.t 106)]⟩,
     ⟨(some 9), none, .val (.mv (.t 107))⟩] [0, 3, 4, 5, 6, 7, 8, 9]) k10_10)) ((.seq (.reg [
     ⟨(some 155), none, .val (.bin .eql .num (.t 46) (.c (.int .u8 1)))⟩,
     ⟨(some 154), none, .val (.mv (.t 155))⟩] [0, 3, 4, 5, 6, 7, 8, 154]) k10_25))

abbrev k10_27 : MC :=
  .block 2 ((.seq (.reg [
     ⟨(some 101), none, .val (.bin .eql .num (.t 46) (.c (.int .u8 0)))⟩,
     ⟨(some 100), none, .val (.mv (.t 101))⟩] [0, 3, 4, 5, 6, 7, 8, 46, 100]) k10_26))

abbrev k10_28 : MC :=
  .cond (.t 220) ((.seq (.reg [
     ⟨(some 2), none, .val (.mv (.c (.bool false)))⟩] [2]) (.ret))) (.skip)

abbrev k10_29 : MC :=
  .cond (.t 237) ((.seq (.reg [
     ⟨(some 2), none, .val (.mv (.c (.bool false)))⟩] [2]) (.ret))) (.skip)

abbrev k10_30 : MC :=
  (.seq (.reg [
    ⟨(some 221), none, .val (.mv (.t 14))⟩,
    ⟨(some 222), none, .val (.mv (.t 221))⟩,
    ⟨(some 223), (some (222, true)), .val (.mv (.t 12))⟩,
    ⟨(some 224), (some (222, true)), .val (.mv (.t 4))⟩,
    ⟨(some 225), (some (222, true)), .val (.iaddr 2 (.t 224) (.c (.int .i64 0)))⟩,
    ⟨(some 226), (some (222, true)), .val (.faddr 0 (.t 225))⟩,
    ⟨(some 227), (some (222, true)), .val (.load false 1 (.t 226))⟩,
    ⟨(some 228), (some (222, true)), .val (.bin .neq .num (.t 223) (.t 227))⟩,
    ⟨(some 229), (some (222, true)), .val (.mv (.t 228))⟩,
    ⟨(some 230), (some (229, false)), .val (.mv (.t 13))⟩,
    ⟨(some 231), (some (229, false)), .val (.mv (.t 4))⟩,
    ⟨(some 232), (some (229, false)), .val (.iaddr 2 (.t 231) (.c (.int .i64 0)))⟩,
    ⟨(some 233), (some (229, false)), .val (.faddr 1 (.t 232))⟩,
    ⟨(some 234), (some (229, false)), .val (.load false 1 (.t 233))⟩,
    ⟨(some 235), (some (229, false)), .val (.bin .neq .num (.t 230) (.t 234))⟩,
    ⟨(some 236), (some (222, true)), .val (.pick (.t 229) (.c (.bool true)) (.t 235))⟩,
    ⟨(some 237), none, .val (.pick (.t 222) (.t 236) (.c (.bool false)))⟩] [0, 3, 4, 5, 6, 237]) k10_29)

abbrev k10_31 : MC :=
  (.seq ((.seq (.reg [
    ⟨(some 185), none, .val (.mv (.t 3))⟩,
    ⟨(some 186), none, .call 38 [(.t 185)]⟩,
    ⟨(some 187), none, .val (.mv (.t 5))⟩,
    ⟨(some 188), none, .val (.bin .neq .num (.t 186) (.t 187))⟩,
    ⟨(some 189), none, .val (.mv (.t 188))⟩,
    ⟨(some 190), (some (189, false)), .val (.mv (.t 3))⟩,
    ⟨(some 191), (some (189, false)), .call 39 [(.t 190)]⟩,
    ⟨(some 192), (some (189, false)), .val (.mv (.t 4))⟩,
    ⟨(some 193), (some (189, false)), .val (.len .sl (.t 192))⟩,
    ⟨(some 194), (some (189, false)), .val (.bin .neq .num (.t 191) (.t 193))⟩,
    ⟨(some 195), none, .val (.pick (.t 189) (.c (.bool true)) (.t 194))⟩,
    ⟨(some 196), none, .val (.mv (.t 195))⟩,
    ⟨(some 197), (some (196, false)), .val (.mv (.t 14))⟩,
    ⟨(some 198), (some (196, false)), .val (.mv (.t 4))⟩,
    ⟨(some 199), (some (196, false)), .val (.len .sl (.t 198))⟩,
    ⟨(some 200), (some (196, false)), .val (.bin .gtr .num (.t 199) (.c (.int .i64 0)))⟩,
    ⟨(some 201), (some (196, false)), .val (.bin .neq .bool (.t 197) (.t 200))⟩,
    ⟨(some 202), none, .val (.pick (.t 196) (.c (.bool true)) (.t 201))⟩,
    ⟨(some 203), none, .val (.mv (.t 202))⟩,
    ⟨(some 204), (some (203, false)), .val (.mv (.t 16))⟩,
    ⟨(some 205), (some (203, false)), .val (.mv (.t 8))⟩,
    ⟨(some 206), (some (203, false)), .val (.bin .geq .num (.t 205) (.c (.int .i64 0)))⟩,
    ⟨(some 207), (some (203, false)), .val (.bin .neq .bool (.t 204) (.t 206))⟩,
    ⟨(some 208), none, .val (.pick (.t 203) (.c (.bool true)) (.t 207))⟩,
    ⟨(some 209), none, .val (.mv (.t 208))⟩,
    ⟨(some 210), (some (209, false)), .val (.mv (.t 16))⟩,
    ⟨(some 211), (some (209, false)), .val (.mv (.t 210))⟩,
    ⟨(some 212), (some (211, true)), .val (.mv (.t 15))⟩,
    ⟨(some 213), (some (211, true)), .val (.mv (.t 4))⟩,
    ⟨(some 214), (some (211, true)), .val (.mv (.t 8))⟩,
    ⟨(some 215), (some (211, true)), .val (.iaddr 2 (.t 213) (.t 214))⟩,
    ⟨(some 216), (some (211, true)), .val (.faddr 1 (.t 215))⟩,
    ⟨(some 217), (some (211, true)), .val (.load false 1 (.t 216))⟩,
    ⟨(some 218), (some (211, true)), .val (.bin .neq .num (.t 212) (.t 217))⟩,
    ⟨(some 219), (some (209, false)), .val (.pick (.t 211) (.t 218) (.c (.bool false)))⟩,
    ⟨(some 220), none, .val (.pick (.t 209) (.c (.bool true)) (.t 219))⟩] [0, 3, 4, 5, 6, 12, 13, 14, 220]) k10_28)) k10_30)

abbrev k10_32 : MC :=
  (.seq (.reg [
    ⟨(some 181), none, .val (.mv (.t 4))⟩,
    ⟨(some 182), none, .val (.faddr 1 (.t 7))⟩,
    ⟨(some 183), none, .val (.load false 1 (.t 182))⟩,
    ⟨(some 184), none, .call 41 [(.t 181), (.t 183)]⟩,
    ⟨(some 8), none, .val (.mv (.t 184))⟩] [0, 3, 4, 5, 6, 8, 12, 13, 14, 15, 16]) k10_31)

abbrev k10_33 : MC :=
  (.seq (.reg [
    ⟨(some 175), none, .val (.mv (.t 3))⟩,
    ⟨(some 176), none, .val (.faddr 1 (.t 7))⟩,
    ⟨(some 177), none, .val (.load false 1 (.t 176))⟩,
    ⟨(some 178), none, .call 46 [(.t 175), (.t 177)]⟩,
    ⟨(some 174), none, .val (.mv (.t 178))⟩,
    ⟨(some 179), none, .val (.ext (.t 174) 0)⟩,
    ⟨(some 180), none, .val (.ext (.t 174) 1)⟩,
    ⟨(some 15), none, .val (.mv (.t 179))⟩,
    ⟨(some 16), none, .val (.mv (.t 180))⟩] [0, 3, 4, 5, 6, 7, 12, 13, 14, 15, 16]) k10_32)

abbrev k10_34 : MC :=
  (.seq (.reg [
    ⟨(some 169), none, .val (.mv (.t 3))⟩,
    ⟨(some 170), none, .call 40 [(.t 169)]⟩,
    ⟨(some 168), none, .val (.mv (.t 170))⟩,
    ⟨(some 171), none, .val (.ext (.t 168) 0)⟩,
    ⟨(some 172), none, .val (.ext (.t 168) 1)⟩,
    ⟨(some 173), none, .val (.ext (.t 168) 2)⟩,
    ⟨(some 12), none, .val (.mv (.t 171))⟩,
    ⟨(some 13), none, .val (.mv (.t 172))⟩,
    ⟨(some 14), none, .val (.mv (.t 173))⟩] [0, 3, 4, 5, 6, 7, 12, 13, 14]) k10_33)

abbrev k10_35 : MC :=
  (.seq ((.seq (.reg [
    ⟨(some 44), none, .val (.faddr 0 (.t 7))⟩,
    ⟨(some 45), none, .val (.load false 1 (.t 44))⟩,
    ⟨(some 46), none, .val (.bin .rem .num (.t 45) (.c (.int .u8 3)))⟩] [0, 3, 4, 5, 6, 7, 8, 46]) k10_27)) k10_34)

abbrev k10_36 : MC :=
  (.seq (.reg [
    ⟨(some 40), none, .val (.mv (.t 4))⟩,
    ⟨(some 41), none, .val (.faddr 1 (.t 7))⟩,
    ⟨(some 42), none, .val (.load false 1 (.t 41))⟩,
    ⟨(some 43), none, .call 41 [(.t 40), (.t 42)]⟩,
    ⟨(some 8), none, .val (.mv (.t 43))⟩] [0, 3, 4, 5, 6, 7, 8]) k10_35)

abbrev k10_37 : MC :=
  (.seq ((.seq (.reg [
    ⟨(some 36), none, .val (.faddr 1 (.t 7))⟩,
    ⟨(some 37), none, .val (.load false 1 (.t 36))⟩,
    ⟨(some 38), none, .val (.len .str (.t 37))⟩,
    ⟨(some 39), none, .val (.bin .gtr .num (.t 38) (.c (.int .i64 60)))⟩] [0, 3, 4, 5, 6, 7, 39]) k10_2)) k10_36)

abbrev k10_38 : MC :=
  .reg [
    ⟨(some 30), none, .val (.mv (.t 6))⟩,
    ⟨(some 31), none, .val (.bin .add .num (.t 30) (.c (.int .i64 1)))⟩,
    ⟨(some 6), none, .val (.mv (.t 31))⟩] [0, 3, 4, 5, 6]

abbrev k10_39 : MC :=
  (.seq (.block 1 ((.seq (.reg [
     ⟨(some 32), none, .val (.mv (.t 0))⟩,
     ⟨(some 33), none, .val (.mv (.t 6))⟩,
     ⟨(some 34), none, .val (.iaddr 3 (.t 32) (.t 33))⟩,
     ⟨(some 35), none, .val (.load true 3 (.t 34))⟩,
     ⟨(some 7), none, .zalloc [(.int .u8 0), (.str []), (.int .i64 0)]⟩,
     ⟨none, none, .store 3 (.t 7) (.t 35)⟩] [0, 3, 4, 5, 6, 7]) k10_37))) k10_38)

abbrev k10_40 : MC :=
  (.seq ((.seq (.reg [
    ⟨(some 26), none, .val (.mv (.t 6))⟩,
    ⟨(some 27), none, .val (.mv (.t 0))⟩,
    ⟨(some 28), none, .val (.len .sl (.t 27))⟩,
    ⟨(some 29), none, .val (.bin .lss .num (.t 26) (.t 28))⟩] [0, 3, 4, 5, 6, 29]) k10_1)) k10_39)

abbrev k10_41 : MC :=
  .block 0 (.loop k10_40)

abbrev k10_42 : MC :=
  (.seq (.reg [
    ⟨(some 2), none, .val (.mv (.c (.bool true)))⟩] [2]) (.ret))

abbrev k10_43 : MC :=
  (.seq ((.seq (.reg [
    ⟨(some 6), none, .val (.mv (.c (.int .i64 0)))⟩] [0, 3, 4, 5, 6]) k10_41)) k10_42)

abbrev k10_44 : MC :=
  (.seq (.reg [
    ⟨(some 5), none, .val (.mv (.c (.int .i64 0)))⟩] [0, 3, 4, 5]) k10_43)

abbrev k10_45 : MC :=
  (.seq (.reg [
    ⟨(some 4), none, .val (.mv (.c .nilSl))⟩] [0, 3, 4]) k10_44)

abbrev k10_46 : MC :=
  (.seq (.reg [
    ⟨(some 25), none, .call 35 []⟩,
    ⟨(some 3), none, .val (.mv (.t 25))⟩] [0, 3]) k10_45)

abbrev k10_47 : MC :=
  (.seq ((.seq (.reg [
    ⟨(some 17), none, .val (.mv (.t 0))⟩,
    ⟨(some 18), none, .val (.len .sl (.t 17))⟩,
    ⟨(some 19), none, .val (.bin .gtr .num (.t 18) (.c (.int .i64 60)))⟩,
    ⟨(some 20), none, .val (.mv (.t 19))⟩,
    ⟨(some 21), (some (20, false)), .call 34 []⟩,
    ⟨(some 22), (some (20, false)), .val (.not (.t 21))⟩,
    ⟨(some 23), none, .val (.pick (.t 20) (.c (.bool true)) (.t 22))⟩] [0, 23]) k10_0)) k10_46)
abbrev k10 : MC :=
  (.seq (.reg [
    ⟨(some 2), none, .val (.mv (.c (.bool false)))⟩] [0]) k10_47)
theorem c10 : Try.f10.body.bind (mcOf Try.prog (List.contains [] ·) (List.getD [([], [0]), ([], [0, 23]), ([], [2]), ([], [0, 3]), ([], [0, 3, 4]), ([], [0, 3, 4, 5]), ([], [0, 3, 4, 5, 6]), ([], [0, 3, 4, 5, 6, 29]), ([], [0, 3, 4, 5, 6]), ([], [0, 3, 4, 5, 6, 7]), ([], [0, 3, 4, 5, 6, 7, 39]), ([], [2]), ([], [0, 3, 4, 5, 6, 7, 8]), ([], [0, 3, 4, 5, 6, 7, 8, 46]), ([], [0, 3, 4, 5, 6, 7]), ([], [0, 3, 4, 5, 6, 7, 10]), ([], [0, 3, 4, 5, 6, 7, 10, 11]), ([], [0, 3, 4, 5, 6, 7, 10, 11, 74]), ([0, 0, 0, 0, 0, 0, 0, 0, 0, 0, 0, 0, 0, 0, 0, 0], [0, 3, 4, 5, 6, 7, 10, 11, 90]), ([], [2]), ([], [0, 3, 4, 5, 6, 7, 10, 11]), ([], [0, 3, 4, 5, 6, 7, 11, 96]), ([], [2]), ([], [0, 3, 4, 5, 6, 7]), ([], [0, 3, 4, 5, 6, 7, 8, 46, 100]), ([], [0, 3, 4, 5, 6, 7, 8, 9]), ([], [0, 3, 4, 5, 6, 7, 8, 9, 119]), ([], [0, 3, 4, 5, 6, 7, 135]), ([], [2]), ([], [0, 3, 4, 5, 6, 7, 8, 9, 137]), ([], [0, 3, 4, 5, 6, 7, 9]), ([0, 0, 0, 0, 0, 0, 0, 0, 0, 0, 0, 0], [0, 3, 4, 5, 6, 7, 9]), ([], [0, 3, 4, 5, 6, 7, 153]), ([], [2]), ([], [0, 3, 4, 5, 6, 7, 8, 154]), ([], [0, 3, 4, 5, 6, 7, 8, 162]), ([], [2]), ([], [0, 3, 4, 5, 6, 7, 8, 164]), ([], [0, 3, 4, 5, 6, 7]), ([], [0, 3, 4, 5, 6, 7, 12, 13, 14]), ([], [0, 3, 4, 5, 6, 7, 12, 13, 14, 15, 16]), ([], [0, 3, 4, 5, 6, 8, 12, 13, 14, 15, 16]), ([], [0, 3, 4, 5, 6, 12, 13, 14, 220]), ([], [2]), ([], [0, 3, 4, 5, 6, 237]), ([], [2]), ([], [2])] · ([], [])) 238) = some k10 := by kernel_rfl
theorem r10 : rvsOf Try.prog Try.f10.results.toList = some [.tmp 2] := by kernel_rfl

structure Ac where
  kind : Nat
  name : List UInt8
  n : Int
def acE (l : List Ac) : List (List V) := l.map fun x => [.int .u8 x.kind, .str x.name, .int .i64 x.n]
theorem acE_length (r : List Ac) : (acE r).length = r.length := by simp [acE]
theorem acE_get {r : List Ac} {i : Nat} (h : i < r.length) : (acE r)[i]? = some [.int .u8 r[i].kind, .str r[i].name, .int .i64 r[i].n] := by simp [acE, h]
abbrev crF (H : AH) : Out → AH → Prop := fun o H' => (∃ u, o = .ret u ∧ ∀ (s : St) x, s.val u x → s.val (.bool true) x) ∧ H.le H'
abbrev crI (acts : List Ac) (t : Tok) (k m : Nat) (H : AH) : Nat → A → AH → Prop := fun n a H' => ∃ (i : Nat) (l r : List Al) (now : Int), i + n = acts.length ∧ a = [(0, .sl 3 (acE acts) t), (3, .ptr k 0), (4, .sl 2 (itE r) .no), (5, .int .i64 now), (6, .int .i64 i)] ∧ AlH H' k m now l ∧ Rel l r ∧ r.length ≤ 32 ∧ 0 ≤ now ∧ now ≤ 1152921504606846976 ∧ H.le H' ∧ H k = none ∧ H m = none
abbrev crQ (acts : List Ac) (t : Tok) (k m : Nat) (H : AH) (n : Nat) : AExit → A → AH → Prop := LQ (crI acts t k m H) n (BQ 0 (SQ Try.prog Try.f10.ntmps k10_42 (Body [RV.tmp 2] (crF H))))
theorem fnd_some {n : List UInt8} : ∀ {r : List Al} {j : Nat}, fnd n r = some j → ∃ h : j < r.length, r[j].1 = n
  | [], j, h => by simp [fnd] at h
  | x :: r, j, h => by
    rw [fnd] at h
    by_cases e : x.1 = n
    · rw [if_pos e] at h; cases h; exact ⟨by simp, e⟩
    · rw [if_neg e] at h
      cases q : fnd n r with
      | none => rw [q] at h; cases h
      | some i =>
        rw [q] at h; cases h
        obtain ⟨h1, h2⟩ := fnd_some q
        exact ⟨by simp; exact h1, by simpa using h2⟩
theorem fnd_none {n : List UInt8} : ∀ {r : List Al}, fnd n r = none → ∀ x ∈ r, x.1 ≠ n
  | [], _ => by simp
  | x :: r, h => by
    rw [fnd] at h
    by_cases e : x.1 = n
    · rw [if_pos e] at h; cases h
    · rw [if_neg e] at h
      have q : fnd n r = none := by simpa using h
      intro y hy
      rcases List.mem_cons.1 hy with rfl | hy
      · exact e
      · exact fnd_none q y hy
theorem Rel.at_some {l r : List Al} (h : Rel l r) {n : List UInt8} {j : Nat} (hj : fnd n r = some j) : ∃ hl : j < r.length, alF n l = some r[j].2 := by
  obtain ⟨h1, h2⟩ := fnd_some hj
  refine ⟨h1, ?_⟩
  rw [← h2]; exact h.look_mem (List.getElem_mem h1)
theorem Rel.at_none {l r : List Al} (h : Rel l r) {n : List UInt8} (hj : fnd n r = none) : alF n l = none := by
  rw [h.look]
  cases q : alF n r with
  | none => rfl
  | some t => exact absurd rfl (fnd_none hj _ ((alF_mem h.nod2).1 q))
theorem cr_chk {acts : List Ac} {t : Tok} {k m ko : Nat} {H H' : AH} {n i : Nat} {l r : List Al} {now : Int} (hlt : i < acts.length) (h60 : acts.length ≤ 60) (hi : i + n = acts.length) (ha : AlH H' k m now l) (hr : Rel l r) (h32 : r.length ≤ 32) (h0 : 0 ≤ now) (h1 : now ≤ 1152921504606846976) (hle : H.le H') (hk : H k = none) (hm : H m = none) (hko : H' ko = some (.cells [.int .u8 acts[i].kind, .str acts[i].name, .int .i64 acts[i].n])) :
    AM Try.prog Try.f10.ntmps k10_34 (BQ 1 (SQ Try.prog Try.f10.ntmps k10_38 (crQ acts t k m H n))) [(0, .sl 3 (acE acts) t), (3, .ptr k 0), (4, .sl 2 (itE r) .no), (5, .int .i64 now), (6, .int .i64 i), (7, .ptr ko 0)] H' := by
  have qn := nextX ha (by have := hr.len; omega)
  have qa := atX (n := acts[i].name) ha
  have qf := fun H => find_calls (r := r) (n := acts[i].name) (t := .no) (by omega) H
  have ql := lenX ha
  rw [hr.len] at ql
  have fin : crI acts t k m H (n - 1) [(0, .sl 3 (acE acts) t), (3, .ptr k 0), (4, .sl 2 (itE r) .no), (5, .int .i64 now), (6, .int .i64 (i + 1))] H' := ⟨i + 1, l, r, now, by omega, rfl, ha, hr, h32, h0, h1, hle, hk, hm⟩
  have hn := hr.names
  cases hf : fnd acts[i].name r with
  | none =>
    have e1 := hr.at_none hf
    rw [e1] at qa
    simp only [fndI, hf, Option.map_none, Option.getD_none] at qf qa
    cases r with
    | nil =>
      rw [hn] at qn
      repeat' (first | with_reducible refine am_seq ?_ | with_reducible refine am_block ?_ | ((with_reducible apply am_cond); (case hb => rfl); all_goals (intro hc; (try simp only [reduceCtorEq, decide_eq_true_eq, decide_eq_false_iff_not, Bool.or_eq_true, Bool.and_eq_true, Bool.or_eq_false_iff, Bool.not_eq_true', Bool.not_eq_false', beq_iff_eq] at hc); (try (exfalso; omega)))) | ((first | with_reducible refine am_reg ?_ | with_reducible refine am_drw ?_ | with_reducible refine am_drx ?_ | with_reducible refine am_skip ?_ | with_reducible refine am_exit ?_ | with_reducible refine am_ret ?_ | with_reducible refine And.intro (by first | exact AH.lec_refl _ | assumption | exact AccP.lec (by assumption) | omega) ?_ | with_reducible refine isnE_of (fun hc => ?_) (fun hc => ?_) (fun hc => ?_) | ((first | with_reducible refine gd_not (fun hc => ?_) (fun hc => ?_) | with_reducible refine gd_of (fun hc => ?_) (fun hc => ?_) | with_reducible refine gq_not (fun hc => ?_) (fun hc => ?_) | with_reducible refine gq_of (fun hc => ?_) (fun hc => ?_) | with_reducible refine pickB_of (fun hc => ?_) (fun hc => ?_)) <;> (try simp -implicitDefEqProofs (disch := omega) only [go_sem, eq_self, decide_true, decide_false, Nat.reduceBEq, Nat.reduceAdd, Nat.reduceSub, Nat.reduceMul, Nat.reduceEqDiff, Nat.reduceLeDiff, Nat.reduceLT, Int.reduceLE, Int.reduceLT, Int.reduceToNat, Int.reduceAdd, Int.reduceEq, Int.reduceNeg, AH.put_ne, hc, wrap_id, hko, itE_length, Option.getD_none, Option.isSome_none, List.map_nil, List.headD_nil, List.head?_nil, Option.elim_none, List.length_nil]) <;> (try simp only [reduceCtorEq, decide_eq_true_eq, decide_eq_false_iff_not, Bool.or_eq_true, Bool.and_eq_true, Bool.or_eq_false_iff, Bool.not_eq_true', Bool.not_eq_false', beq_iff_eq] at hc) <;> (try (exfalso; omega))) | ((with_reducible refine alloc_intro (fun ko hko => ?_)) <;> (try have hne := fresh_ne (by assumption) hko) <;> (try have hnk := fresh_ne hk hko) <;> (try have hnk2 := fresh_ne hk2 hko) <;> (try simp only [AH.put_none] at hko)) | ((first | (with_reducible refine vapp_accL (by assumption) ?_ (fun v2 H2 hacc hlec => ?_)) | (with_reducible refine vapp_accL (AccP.mono (by assumption) (AccP.le (by assumption))) ?_ (fun v2 H2 hacc hlec => ?_)) | (with_reducible refine vapp_accL (AccP.new (by assumption) (by assumption) _) ?_ (fun v2 H2 hacc hlec => ?_))); · simp only [byteCells_length, List.length_cons, List.length_nil, List.length_map, List.length_append, itE_length, List.length_take, List.length_drop]; omega) | with_reducible refine need_elems (by assumption) ?_ | with_reducible refine vlen_acc (by assumption) ?_ | with_reducible refine need_bytes (by assumption) ?_ | with_reducible refine call_turn (qn) ?_ | with_reducible refine call_turn (qa) ?_ | (first | with_reducible refine call_of (qf) ?_ | with_reducible refine qcall_of (qf) ?_) | with_reducible refine call_turn (ql) ?_ | with_reducible refine call_turn (nowX ha) ?_ | with_reducible refine need_look (by assumption) ?_ | with_reducible refine need_look (look_put (by assumption) (by assumption)) ?_ | with_reducible refine need_look (look_lec (by assumption) (by assumption)) ?_ | with_reducible refine need_look (look_put (AH.put_same _ _ _) (by assumption)) ?_ | with_reducible refine need_look (look_lec (AH.put_same _ _ _) (by assumption)) ?_ | with_reducible refine need_look (look_put (look_put (by assumption) (by assumption)) (by assumption)) ?_ | with_reducible refine need_look (look_lec (look_put (by assumption) (by assumption)) (by assumption)) ?_ | with_reducible refine need_look (look_put (look_lec (by assumption) (by assumption)) (by assumption)) ?_ | with_reducible refine need_look (look_lec (look_lec (by assumption) (by assumption)) (by assumption)) ?_ | with_reducible refine need_look (look_put (look_put (AH.put_same _ _ _) (by assumption)) (by assumption)) ?_ | with_reducible refine need_look (look_lec (look_put (AH.put_same _ _ _) (by assumption)) (by assumption)) ?_ | with_reducible refine need_look (look_put (look_lec (AH.put_same _ _ _) (by assumption)) (by assumption)) ?_ | with_reducible refine need_look (look_lec (look_lec (AH.put_same _ _ _) (by assumption)) (by assumption)) ?_) <;> (try simp -implicitDefEqProofs (disch := omega) only [go_sem, eq_self, decide_true, decide_false, Nat.reduceBEq, Nat.reduceAdd, Nat.reduceSub, Nat.reduceMul, Nat.reduceEqDiff, Nat.reduceLeDiff, Nat.reduceLT, Int.reduceLE, Int.reduceLT, Int.reduceToNat, Int.reduceAdd, Int.reduceEq, Int.reduceNeg, AH.put_ne, wrap_id, hko, itE_length, Option.getD_none, Option.isSome_none, List.map_nil, List.headD_nil, List.head?_nil, Option.elim_none, List.length_nil])))
      all_goals exact ⟨n - 1, by omega, fin⟩
    | cons p r =>
      have e2 : alF p.1 l = some p.2 := hr.look_mem List.mem_cons_self
      rw [hn] at qn
      simp only [List.map_cons, List.headD_cons, List.head?_cons, Option.elim_some, e2, Option.getD_some, Option.isSome_some] at qn
      have e3 : (itE (p :: r))[0]? = some [.str p.1, .int .i64 p.2] := rfl
      have e5 : decide ((0 : Int) < ((r.length + 1 : Nat) : Int)) = true := by simp only [decide_eq_true_eq]; omega
      repeat' (first | with_reducible refine am_seq ?_ | with_reducible refine am_block ?_ | ((with_reducible apply am_cond); (case hb => rfl); all_goals (intro hc; (try simp only [reduceCtorEq, decide_eq_true_eq, decide_eq_false_iff_not, Bool.or_eq_true, Bool.and_eq_true, Bool.or_eq_false_iff, Bool.not_eq_true', Bool.not_eq_false', beq_iff_eq] at hc); (try (exfalso; omega)))) | ((first | with_reducible refine am_reg ?_ | with_reducible refine am_drw ?_ | with_reducible refine am_drx ?_ | with_reducible refine am_skip ?_ | with_reducible refine am_exit ?_ | with_reducible refine am_ret ?_ | with_reducible refine And.intro (by first | exact AH.lec_refl _ | assumption | exact AccP.lec (by assumption) | omega) ?_ | with_reducible refine isnE_of (fun hc => ?_) (fun hc => ?_) (fun hc => ?_) | ((first | with_reducible refine gd_not (fun hc => ?_) (fun hc => ?_) | with_reducible refine gd_of (fun hc => ?_) (fun hc => ?_) | with_reducible refine gq_not (fun hc => ?_) (fun hc => ?_) | with_reducible refine gq_of (fun hc => ?_) (fun hc => ?_) | with_reducible refine pickB_of (fun hc => ?_) (fun hc => ?_)) <;> (try simp -implicitDefEqProofs (disch := omega) only [go_sem, eq_self, decide_true, decide_false, Nat.reduceBEq, Nat.reduceAdd, Nat.reduceSub, Nat.reduceMul, Nat.reduceEqDiff, Nat.reduceLeDiff, Nat.reduceLT, Int.reduceLE, Int.reduceLT, Int.reduceToNat, Int.reduceAdd, Int.reduceEq, Int.reduceNeg, AH.put_ne, hc, wrap_id, hko, itE_length, e3, e5, List.length_cons, Option.getD_none, Option.isSome_none]) <;> (try simp only [reduceCtorEq, decide_eq_true_eq, decide_eq_false_iff_not, Bool.or_eq_true, Bool.and_eq_true, Bool.or_eq_false_iff, Bool.not_eq_true', Bool.not_eq_false', beq_iff_eq] at hc) <;> (try (exfalso; omega))) | ((with_reducible refine alloc_intro (fun ko hko => ?_)) <;> (try have hne := fresh_ne (by assumption) hko) <;> (try have hnk := fresh_ne hk hko) <;> (try have hnk2 := fresh_ne hk2 hko) <;> (try simp only [AH.put_none] at hko)) | ((first | (with_reducible refine vapp_accL (by assumption) ?_ (fun v2 H2 hacc hlec => ?_)) | (with_reducible refine vapp_accL (AccP.mono (by assumption) (AccP.le (by assumption))) ?_ (fun v2 H2 hacc hlec => ?_)) | (with_reducible refine vapp_accL (AccP.new (by assumption) (by assumption) _) ?_ (fun v2 H2 hacc hlec => ?_))); · simp only [byteCells_length, List.length_cons, List.length_nil, List.length_map, List.length_append, itE_length, List.length_take, List.length_drop]; omega) | with_reducible refine need_elems (by assumption) ?_ | with_reducible refine vlen_acc (by assumption) ?_ | with_reducible refine need_bytes (by assumption) ?_ | with_reducible refine call_turn (qn) ?_ | with_reducible refine call_turn (qa) ?_ | (first | with_reducible refine call_of (qf) ?_ | with_reducible refine qcall_of (qf) ?_) | with_reducible refine call_turn (ql) ?_ | with_reducible refine call_turn (nowX ha) ?_ | with_reducible refine need_look (by assumption) ?_ | with_reducible refine need_look (look_put (by assumption) (by assumption)) ?_ | with_reducible refine need_look (look_lec (by assumption) (by assumption)) ?_ | with_reducible refine need_look (look_put (AH.put_same _ _ _) (by assumption)) ?_ | with_reducible refine need_look (look_lec (AH.put_same _ _ _) (by assumption)) ?_ | with_reducible refine need_look (look_put (look_put (by assumption) (by assumption)) (by assumption)) ?_ | with_reducible refine need_look (look_lec (look_put (by assumption) (by assumption)) (by assumption)) ?_ | with_reducible refine need_look (look_put (look_lec (by assumption) (by assumption)) (by assumption)) ?_ | with_reducible refine need_look (look_lec (look_lec (by assumption) (by assumption)) (by assumption)) ?_ | with_reducible refine need_look (look_put (look_put (AH.put_same _ _ _) (by assumption)) (by assumption)) ?_ | with_reducible refine need_look (look_lec (look_put (AH.put_same _ _ _) (by assumption)) (by assumption)) ?_ | with_reducible refine need_look (look_put (look_lec (AH.put_same _ _ _) (by assumption)) (by assumption)) ?_ | with_reducible refine need_look (look_lec (look_lec (AH.put_same _ _ _) (by assumption)) (by assumption)) ?_) <;> (try simp -implicitDefEqProofs (disch := omega) only [go_sem, eq_self, decide_true, decide_false, Nat.reduceBEq, Nat.reduceAdd, Nat.reduceSub, Nat.reduceMul, Nat.reduceEqDiff, Nat.reduceLeDiff, Nat.reduceLT, Int.reduceLE, Int.reduceLT, Int.reduceToNat, Int.reduceAdd, Int.reduceEq, Int.reduceNeg, AH.put_ne, wrap_id, hko, itE_length, e3, e5, List.length_cons, Option.getD_none, Option.isSome_none])))
      all_goals exact ⟨n - 1, by omega, fin⟩
  | some j =>
    obtain ⟨hj, e1⟩ := hr.at_some hf
    rw [e1] at qa
    simp only [fndI, hf, Option.map_some, Option.getD_some, Option.isSome_some] at qf qa
    have e4 := itE_get (r := r) (i := j) hj
    cases r with
    | nil => exact absurd hj (by simp)
    | cons p r =>
      have e2 : alF p.1 l = some p.2 := hr.look_mem List.mem_cons_self
      rw [hn] at qn
      simp only [List.map_cons, List.headD_cons, List.head?_cons, Option.elim_some, e2, Option.getD_some, Option.isSome_some] at qn
      have e3 : (itE (p :: r))[0]? = some [.str p.1, .int .i64 p.2] := rfl
      have e5 : decide ((0 : Int) < ((r.length + 1 : Nat) : Int)) = true := by simp only [decide_eq_true_eq]; omega
      repeat' (first | with_reducible refine am_seq ?_ | with_reducible refine am_block ?_ | ((with_reducible apply am_cond); (case hb => rfl); all_goals (intro hc; (try simp only [reduceCtorEq, decide_eq_true_eq, decide_eq_false_iff_not, Bool.or_eq_true, Bool.and_eq_true, Bool.or_eq_false_iff, Bool.not_eq_true', Bool.not_eq_false', beq_iff_eq] at hc); (try (exfalso; omega)))) | ((first | with_reducible refine am_reg ?_ | with_reducible refine am_drw ?_ | with_reducible refine am_drx ?_ | with_reducible refine am_skip ?_ | with_reducible refine am_exit ?_ | with_reducible refine am_ret ?_ | with_reducible refine And.intro (by first | exact AH.lec_refl _ | assumption | exact AccP.lec (by assumption) | omega) ?_ | with_reducible refine isnE_of (fun hc => ?_) (fun hc => ?_) (fun hc => ?_) | ((first | with_reducible refine gd_not (fun hc => ?_) (fun hc => ?_) | with_reducible refine gd_of (fun hc => ?_) (fun hc => ?_) | with_reducible refine gq_not (fun hc => ?_) (fun hc => ?_) | with_reducible refine gq_of (fun hc => ?_) (fun hc => ?_) | with_reducible refine pickB_of (fun hc => ?_) (fun hc => ?_)) <;> (try simp -implicitDefEqProofs (disch := omega) only [go_sem, eq_self, decide_true, decide_false, Nat.reduceBEq, Nat.reduceAdd, Nat.reduceSub, Nat.reduceMul, Nat.reduceEqDiff, Nat.reduceLeDiff, Nat.reduceLT, Int.reduceLE, Int.reduceLT, Int.reduceToNat, Int.reduceAdd, Int.reduceEq, Int.reduceNeg, AH.put_ne, hc, wrap_id, hko, itE_length, e3, e5, e4, List.length_cons]) <;> (try simp only [reduceCtorEq, decide_eq_true_eq, decide_eq_false_iff_not, Bool.or_eq_true, Bool.and_eq_true, Bool.or_eq_false_iff, Bool.not_eq_true', Bool.not_eq_false', beq_iff_eq] at hc) <;> (try (exfalso; omega))) | ((with_reducible refine alloc_intro (fun ko hko => ?_)) <;> (try have hne := fresh_ne (by assumption) hko) <;> (try have hnk := fresh_ne hk hko) <;> (try have hnk2 := fresh_ne hk2 hko) <;> (try simp only [AH.put_none] at hko)) | ((first | (with_reducible refine vapp_accL (by assumption) ?_ (fun v2 H2 hacc hlec => ?_)) | (with_reducible refine vapp_accL (AccP.mono (by assumption) (AccP.le (by assumption))) ?_ (fun v2 H2 hacc hlec => ?_)) | (with_reducible refine vapp_accL (AccP.new (by assumption) (by assumption) _) ?_ (fun v2 H2 hacc hlec => ?_))); · simp only [byteCells_length, List.length_cons, List.length_nil, List.length_map, List.length_append, itE_length, List.length_take, List.length_drop]; omega) | with_reducible refine need_elems (by assumption) ?_ | with_reducible refine vlen_acc (by assumption) ?_ | with_reducible refine need_bytes (by assumption) ?_ | with_reducible refine call_turn (qn) ?_ | with_reducible refine call_turn (qa) ?_ | (first | with_reducible refine call_of (qf) ?_ | with_reducible refine qcall_of (qf) ?_) | with_reducible refine call_turn (ql) ?_ | with_reducible refine call_turn (nowX ha) ?_ | with_reducible refine need_look (by assumption) ?_ | with_reducible refine need_look (look_put (by assumption) (by assumption)) ?_ | with_reducible refine need_look (look_lec (by assumption) (by assumption)) ?_ | with_reducible refine need_look (look_put (AH.put_same _ _ _) (by assumption)) ?_ | with_reducible refine need_look (look_lec (AH.put_same _ _ _) (by assumption)) ?_ | with_reducible refine need_look (look_put (look_put (by assumption) (by assumption)) (by assumption)) ?_ | with_reducible refine need_look (look_lec (look_put (by assumption) (by assumption)) (by assumption)) ?_ | with_reducible refine need_look (look_put (look_lec (by assumption) (by assumption)) (by assumption)) ?_ | with_reducible refine need_look (look_lec (look_lec (by assumption) (by assumption)) (by assumption)) ?_ | with_reducible refine need_look (look_put (look_put (AH.put_same _ _ _) (by assumption)) (by assumption)) ?_ | with_reducible refine need_look (look_lec (look_put (AH.put_same _ _ _) (by assumption)) (by assumption)) ?_ | with_reducible refine need_look (look_put (look_lec (AH.put_same _ _ _) (by assumption)) (by assumption)) ?_ | with_reducible refine need_look (look_lec (look_lec (AH.put_same _ _ _) (by assumption)) (by assumption)) ?_) <;> (try simp -implicitDefEqProofs (disch := omega) only [go_sem, eq_self, decide_true, decide_false, Nat.reduceBEq, Nat.reduceAdd, Nat.reduceSub, Nat.reduceMul, Nat.reduceEqDiff, Nat.reduceLeDiff, Nat.reduceLT, Int.reduceLE, Int.reduceLT, Int.reduceToNat, Int.reduceAdd, Int.reduceEq, Int.reduceNeg, AH.put_ne, wrap_id, hko, itE_length, e3, e5, e4, List.length_cons])))
      all_goals exact ⟨n - 1, by omega, fin⟩
end Go.Proofs.Ytjlphncecdlmcaa
