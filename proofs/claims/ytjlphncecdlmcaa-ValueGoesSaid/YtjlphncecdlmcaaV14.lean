/- Of the walks of this seat: contracts of functions of the given program, proved over the abstract values of the texts Vm. Conditions: as each theorem says. -/
import Derived.Test.YtjlphncecdlmcaaVC
set_option linter.unusedVariables false
set_option linter.unusedSimpArgs false
namespace Go.Proofs.Ytjlphncecdlmcaa
open Go.Vm Go.Sort
attribute [local go_sem] List.drop_zero toNat_succ Nat.sub_zero Int.toNat_natCast Option.map_some Int.natCast_nonneg decide_eq_true_eq decide_eq_false_iff_not
/- flange/flangelaw04.Unlike -/
abbrev k52_0 : MC :=
  .cond (.t 110) ((.seq (.reg [
     ⟨(some 4), none, .val (.mv (.c (.int .i64 1)))⟩] [4]) (.ret))) (.skip)
abbrev k52_1 : MC :=
  .cond (.t 136) ((.seq (.reg [
     ⟨(some 4), none, .val (.mv (.c (.int .i64 1)))⟩] [4]) (.ret))) (.skip)
abbrev k52_2 : MC :=
  .cond (.t 140) (.skip) (.exit 0)
abbrev k52_3 : MC :=
  .cond (.t 179) (.reg [
     ⟨(some 180), none, .val (.mv (.t 16))⟩,
     ⟨(some 181), none, .val (.bin .add .num (.t 180) (.c (.int .i64 1)))⟩,
     ⟨(some 16), none, .val (.mv (.t 181))⟩] [2, 3, 14, 15, 16, 17]) (.skip)
abbrev k52_4 : MC :=
  (.seq (.drw [
    ⟨(some 156), none, .val (.mv (.t 15))⟩,
    ⟨(some 157), none, .val (.mv (.t 17))⟩,
    ⟨(some 158), none, .val (.iaddr 1 (.t 156) (.t 157))⟩,
    ⟨(some 159), none, .val (.load false 1 (.t 158))⟩,
    ⟨(some 160), none, .val (.faddr 6 (.t 3))⟩,
    ⟨(some 161), none, .val (.load false 1 (.t 160))⟩,
    ⟨(some 162), none, .val (.mv (.t 17))⟩,
    ⟨(some 163), none, .val (.iaddr 1 (.t 161) (.t 162))⟩,
    ⟨(some 164), none, .val (.load false 1 (.t 163))⟩,
    ⟨(some 165), none, .val (.bin .neq .num (.t 159) (.t 164))⟩,
    ⟨(some 166), none, .val (.mv (.t 165))⟩,
    ⟨(some 167), (some (166, false)), .val (.mv (.t 19))⟩,
    ⟨(some 168), (some (166, false)), .val (.not (.t 167))⟩,
    ⟨(some 169), none, .val (.pick (.t 166) (.c (.bool true)) (.t 168))⟩,
    ⟨(some 170), none, .val (.mv (.t 169))⟩,
    ⟨(some 171), (some (170, false)), .val (.load true 1 (.t 18))⟩,
    ⟨(some 172), (some (170, false)), .val (.faddr 5 (.t 3))⟩,
    ⟨(some 173), (some (170, false)), .val (.load false 1 (.t 172))⟩,
    ⟨(some 174), (some (170, false)), .val (.mv (.t 17))⟩,
    ⟨(some 175), (some (170, false)), .val (.iaddr 7 (.t 173) (.t 174))⟩,
    ⟨(some 176), (some (170, false)), .val (.load true 7 (.t 175))⟩,
    ⟨(some 177), (some (170, false)), .call 52 [(.t 171), (.t 176)]⟩,
    ⟨(some 178), (some (170, false)), .val (.bin .gtr .num (.t 177) (.c (.int .i64 0)))⟩,
    ⟨(some 179), none, .val (.pick (.t 170) (.c (.bool true)) (.t 178))⟩] [
] [2, 3, 14, 15, 16, 17, 179]) k52_3)
abbrev k52_5 : MC :=
  .cond (.t 145) ((.seq (.drx [
     ⟨(some 147), none, .val (.load true 1 (.t 2))⟩,
     ⟨(some 148), none, .val (.faddr 6 (.t 3))⟩,
     ⟨(some 149), none, .val (.load false 1 (.t 148))⟩,
     ⟨(some 150), none, .val (.mv (.t 17))⟩,
     ⟨(some 151), none, .val (.iaddr 1 (.t 149) (.t 150))⟩,
     ⟨(some 152), none, .val (.load false 1 (.t 151))⟩,
     ⟨(some 153), none, .call 53 [(.t 147), (.t 152)]⟩,
     ⟨(some 146), none, .val (.mv (.t 153))⟩,
     ⟨(some 154), none, .val (.ext (.t 146) 0)⟩,
     ⟨(some 155), none, .val (.ext (.t 146) 1)⟩,
     ⟨(some 19), none, .val (.mv (.t 155))⟩] [
     ⟨(some 18), none, .zalloc [.nilIface]⟩,
     ⟨none, none, .store 1 (.t 18) (.t 154)⟩] [2, 3, 14, 15, 16, 17, 18, 19]) k52_4)) (.skip)
abbrev k52_6 : MC :=
  .drw [
    ⟨(some 182), none, .val (.mv (.t 16))⟩,
    ⟨(some 183), none, .val (.mv (.t 14))⟩,
    ⟨(some 184), none, .val (.mv (.t 17))⟩,
    ⟨(some 185), none, .val (.iaddr 1 (.t 183) (.t 184))⟩,
    ⟨(some 186), none, .val (.load true 1 (.t 185))⟩,
    ⟨(some 187), none, .val (.faddr 5 (.t 3))⟩,
    ⟨(some 188), none, .val (.load false 1 (.t 187))⟩,
    ⟨(some 189), none, .val (.mv (.t 17))⟩,
    ⟨(some 190), none, .val (.iaddr 7 (.t 188) (.t 189))⟩,
    ⟨(some 191), none, .val (.load true 7 (.t 190))⟩,
    ⟨(some 192), none, .call 52 [(.t 186), (.t 191)]⟩,
    ⟨(some 193), none, .val (.bin .add .num (.t 182) (.t 192))⟩,
    ⟨(some 16), none, .val (.mv (.t 193))⟩] [
] [2, 3, 14, 15, 16, 17]
abbrev k52_7 : MC :=
  .reg [
    ⟨(some 141), none, .val (.mv (.t 17))⟩,
    ⟨(some 142), none, .val (.bin .add .num (.t 141) (.c (.int .i64 1)))⟩,
    ⟨(some 17), none, .val (.mv (.t 142))⟩] [2, 3, 14, 15, 16, 17]
abbrev k52_8 : MC :=
  (.seq (.block 1 ((.seq ((.seq (.reg [
     ⟨(some 143), none, .val (.faddr 0 (.t 3))⟩,
     ⟨(some 144), none, .val (.load false 1 (.t 143))⟩,
     ⟨(some 145), none, .val (.bin .eql .num (.t 144) (.c (.int .i64 7)))⟩] [2, 3, 14, 15, 16, 17, 145]) k52_5)) k52_6))) k52_7)
abbrev k52_9 : MC :=
  (.seq ((.seq (.reg [
    ⟨(some 137), none, .val (.mv (.t 17))⟩,
    ⟨(some 138), none, .val (.mv (.t 14))⟩,
    ⟨(some 139), none, .val (.len .sl (.t 138))⟩,
    ⟨(some 140), none, .val (.bin .lss .num (.t 137) (.t 139))⟩] [2, 3, 14, 15, 16, 17, 140]) k52_2)) k52_8)
abbrev k52_10 : MC :=
  .block 0 (.loop k52_9)
abbrev k52_11 : MC :=
  (.seq (.reg [
    ⟨(some 194), none, .val (.mv (.t 16))⟩,
    ⟨(some 4), none, .val (.mv (.t 194))⟩] [4]) (.ret))
abbrev k52_12 : MC :=
  (.seq ((.seq (.reg [
    ⟨(some 17), none, .val (.mv (.c (.int .i64 0)))⟩] [2, 3, 14, 15, 16, 17]) k52_10)) k52_11)
abbrev k52_13 : MC :=
  (.seq (.reg [
    ⟨(some 16), none, .val (.mv (.c (.int .i64 0)))⟩] [2, 3, 14, 15, 16]) k52_12)
abbrev k52_14 : MC :=
  (.seq ((.seq (.reg [
    ⟨(some 111), none, .val (.faddr 0 (.t 3))⟩,
    ⟨(some 112), none, .val (.load false 1 (.t 111))⟩,
    ⟨(some 113), none, .val (.bin .eql .num (.t 112) (.c (.int .i64 3)))⟩,
    ⟨(some 114), none, .val (.mv (.t 113))⟩,
    ⟨(some 115), (some (114, true)), .val (.mv (.t 7))⟩,
    ⟨(some 116), (some (114, true)), .val (.faddr 2 (.t 3))⟩,
    ⟨(some 117), (some (114, true)), .val (.load false 1 (.t 116))⟩,
    ⟨(some 118), (some (114, true)), .val (.bin .neq .num (.t 115) (.t 117))⟩,
    ⟨(some 119), none, .val (.pick (.t 114) (.t 118) (.c (.bool false)))⟩,
    ⟨(some 120), none, .val (.mv (.t 119))⟩,
    ⟨(some 121), (some (120, false)), .val (.faddr 0 (.t 3))⟩,
    ⟨(some 122), (some (120, false)), .val (.load false 1 (.t 121))⟩,
    ⟨(some 123), (some (120, false)), .val (.bin .eql .num (.t 122) (.c (.int .i64 4)))⟩,
    ⟨(some 124), (some (120, false)), .val (.mv (.t 123))⟩,
    ⟨(some 125), (some (124, true)), .val (.mv (.t 9))⟩,
    ⟨(some 126), (some (124, true)), .val (.faddr 2 (.t 3))⟩,
    ⟨(some 127), (some (124, true)), .val (.load false 1 (.t 126))⟩,
    ⟨(some 128), (some (124, true)), .val (.bin .neq .num (.t 125) (.t 127))⟩,
    ⟨(some 129), (some (124, true)), .val (.mv (.t 128))⟩,
    ⟨(some 130), (some (129, false)), .val (.mv (.t 10))⟩,
    ⟨(some 131), (some (129, false)), .val (.faddr 3 (.t 3))⟩,
    ⟨(some 132), (some (129, false)), .val (.load false 1 (.t 131))⟩,
    ⟨(some 133), (some (129, false)), .val (.bin .neq .num (.t 130) (.t 132))⟩,
    ⟨(some 134), (some (124, true)), .val (.pick (.t 129) (.c (.bool true)) (.t 133))⟩,
    ⟨(some 135), (some (120, false)), .val (.pick (.t 124) (.t 134) (.c (.bool false)))⟩,
    ⟨(some 136), none, .val (.pick (.t 120) (.c (.bool true)) (.t 135))⟩] [2, 3, 14, 15, 136]) k52_1)) k52_13)
abbrev k52_15 : MC :=
  (.seq ((.seq (.drw [
    ⟨(some 45), none, .val (.load true 1 (.t 2))⟩,
    ⟨(some 46), none, .call 27 [(.t 45)]⟩,
    ⟨(some 47), none, .val (.faddr 0 (.t 3))⟩,
    ⟨(some 48), none, .val (.load false 1 (.t 47))⟩,
    ⟨(some 49), none, .val (.bin .neq .num (.t 46) (.t 48))⟩,
    ⟨(some 50), none, .val (.mv (.t 49))⟩,
    ⟨(some 51), (some (50, false)), .val (.mv (.t 6))⟩,
    ⟨(some 52), (some (50, false)), .val (.faddr 0 (.t 3))⟩,
    ⟨(some 53), (some (50, false)), .val (.load false 1 (.t 52))⟩,
    ⟨(some 54), (some (50, false)), .val (.bin .eql .num (.t 53) (.c (.int .i64 2)))⟩,
    ⟨(some 55), (some (50, false)), .val (.bin .neq .bool (.t 51) (.t 54))⟩,
    ⟨(some 56), none, .val (.pick (.t 50) (.c (.bool true)) (.t 55))⟩,
    ⟨(some 57), none, .val (.mv (.t 56))⟩,
    ⟨(some 58), (some (57, false)), .val (.mv (.t 8))⟩,
    ⟨(some 59), (some (57, false)), .val (.faddr 0 (.t 3))⟩,
    ⟨(some 60), (some (57, false)), .val (.load false 1 (.t 59))⟩,
    ⟨(some 61), (some (57, false)), .val (.bin .eql .num (.t 60) (.c (.int .i64 3)))⟩,
    ⟨(some 62), (some (57, false)), .val (.bin .neq .bool (.t 58) (.t 61))⟩,
    ⟨(some 63), none, .val (.pick (.t 57) (.c (.bool true)) (.t 62))⟩,
    ⟨(some 64), none, .val (.mv (.t 63))⟩,
    ⟨(some 65), (some (64, false)), .val (.mv (.t 11))⟩,
    ⟨(some 66), (some (64, false)), .val (.faddr 0 (.t 3))⟩,
    ⟨(some 67), (some (64, false)), .val (.load false 1 (.t 66))⟩,
    ⟨(some 68), (some (64, false)), .val (.bin .eql .num (.t 67) (.c (.int .i64 4)))⟩,
    ⟨(some 69), (some (64, false)), .val (.bin .neq .bool (.t 65) (.t 68))⟩,
    ⟨(some 70), none, .val (.pick (.t 64) (.c (.bool true)) (.t 69))⟩,
    ⟨(some 71), none, .val (.mv (.t 70))⟩,
    ⟨(some 72), (some (71, false)), .val (.mv (.t 13))⟩,
    ⟨(some 73), (some (71, false)), .val (.faddr 0 (.t 3))⟩,
    ⟨(some 74), (some (71, false)), .val (.load false 1 (.t 73))⟩,
    ⟨(some 75), (some (71, false)), .val (.bin .eql .num (.t 74) (.c (.int .i64 5)))⟩,
    ⟨(some 76), (some (71, false)), .val (.bin .neq .bool (.t 72) (.t 75))⟩,
    ⟨(some 77), none, .val (.pick (.t 71) (.c (.bool true)) (.t 76))⟩,
    ⟨(some 78), none, .val (.mv (.t 77))⟩,
    ⟨(some 79), (some (78, false)), .val (.mv (.t 5))⟩,
    ⟨(some 80), (some (78, false)), .val (.faddr 0 (.t 3))⟩,
    ⟨(some 81), (some (78, false)), .val (.load false 1 (.t 80))⟩,
    ⟨(some 82), (some (78, false)), .val (.bin .eql .num (.t 81) (.c (.int .i64 2)))⟩,
    ⟨(some 83), (some (78, false)), .val (.mv (.t 82))⟩,
    ⟨(some 84), (some (83, true)), .val (.faddr 1 (.t 3))⟩,
    ⟨(some 85), (some (83, true)), .val (.load false 1 (.t 84))⟩,
    ⟨(some 86), (some (78, false)), .val (.pick (.t 83) (.t 85) (.c (.bool false)))⟩,
    ⟨(some 87), (some (78, false)), .val (.bin .neq .bool (.t 79) (.t 86))⟩,
    ⟨(some 88), none, .val (.pick (.t 78) (.c (.bool true)) (.t 87))⟩,
    ⟨(some 89), none, .val (.mv (.t 88))⟩,
    ⟨(some 90), (some (89, false)), .val (.mv (.t 12))⟩,
    ⟨(some 91), (some (89, false)), .val (.faddr 4 (.t 3))⟩,
    ⟨(some 92), (some (89, false)), .val (.load false 1 (.t 91))⟩,
    ⟨(some 93), (some (89, false)), .val (.bin .neq .num (.t 90) (.t 92))⟩,
    ⟨(some 94), none, .val (.pick (.t 89) (.c (.bool true)) (.t 93))⟩,
    ⟨(some 95), none, .val (.mv (.t 94))⟩,
    ⟨(some 96), (some (95, false)), .val (.mv (.t 14))⟩,
    ⟨(some 97), (some (95, false)), .val (.len .sl (.t 96))⟩,
    ⟨(some 98), (some (95, false)), .val (.faddr 5 (.t 3))⟩,
    ⟨(some 99), (some (95, false)), .val (.load false 1 (.t 98))⟩,
    ⟨(some 100), (some (95, false)), .val (.len .sl (.t 99))⟩,
    ⟨(some 101), (some (95, false)), .val (.bin .neq .num (.t 97) (.t 100))⟩,
    ⟨(some 102), none, .val (.pick (.t 95) (.c (.bool true)) (.t 101))⟩,
    ⟨(some 103), none, .val (.mv (.t 102))⟩,
    ⟨(some 104), (some (103, false)), .val (.mv (.t 15))⟩,
    ⟨(some 105), (some (103, false)), .val (.len .sl (.t 104))⟩,
    ⟨(some 106), (some (103, false)), .val (.faddr 6 (.t 3))⟩,
    ⟨(some 107), (some (103, false)), .val (.load false 1 (.t 106))⟩,
    ⟨(some 108), (some (103, false)), .val (.len .sl (.t 107))⟩,
    ⟨(some 109), (some (103, false)), .val (.bin .neq .num (.t 105) (.t 108))⟩,
    ⟨(some 110), none, .val (.pick (.t 103) (.c (.bool true)) (.t 109))⟩] [
] [2, 3, 7, 9, 10, 14, 15, 110]) k52_0)) k52_14)
abbrev k52_16 : MC :=
  (.seq (.drw [
    ⟨(some 41), none, .val (.load true 1 (.t 2))⟩,
    ⟨(some 42), none, .call 98 [(.t 41)]⟩,
    ⟨(some 43), none, .val (.load true 1 (.t 2))⟩,
    ⟨(some 44), none, .call 99 [(.t 43)]⟩,
    ⟨(some 14), none, .val (.mv (.t 42))⟩,
    ⟨(some 15), none, .val (.mv (.t 44))⟩] [
] [2, 3, 5, 6, 7, 8, 9, 10, 11, 12, 13, 14, 15]) k52_15)
abbrev k52_17 : MC :=
  (.seq (.reg [
    ⟨(some 37), none, .val (.load true 1 (.t 2))⟩,
    ⟨(some 38), none, .call 97 [(.t 37)]⟩,
    ⟨(some 36), none, .val (.mv (.t 38))⟩,
    ⟨(some 39), none, .val (.ext (.t 36) 0)⟩,
    ⟨(some 40), none, .val (.ext (.t 36) 1)⟩,
    ⟨(some 12), none, .val (.mv (.t 39))⟩,
    ⟨(some 13), none, .val (.mv (.t 40))⟩] [2, 3, 5, 6, 7, 8, 9, 10, 11, 12, 13]) k52_16)
abbrev k52_18 : MC :=
  (.seq (.reg [
    ⟨(some 31), none, .val (.load true 1 (.t 2))⟩,
    ⟨(some 32), none, .call 51 [(.t 31)]⟩,
    ⟨(some 30), none, .val (.mv (.t 32))⟩,
    ⟨(some 33), none, .val (.ext (.t 30) 0)⟩,
    ⟨(some 34), none, .val (.ext (.t 30) 1)⟩,
    ⟨(some 35), none, .val (.ext (.t 30) 2)⟩,
    ⟨(some 9), none, .val (.mv (.t 33))⟩,
    ⟨(some 10), none, .val (.mv (.t 34))⟩,
    ⟨(some 11), none, .val (.mv (.t 35))⟩] [2, 3, 5, 6, 7, 8, 9, 10, 11]) k52_17)
abbrev k52_19 : MC :=
  (.seq (.reg [
    ⟨(some 26), none, .val (.load true 1 (.t 2))⟩,
    ⟨(some 27), none, .call 75 [(.t 26)]⟩,
    ⟨(some 25), none, .val (.mv (.t 27))⟩,
    ⟨(some 28), none, .val (.ext (.t 25) 0)⟩,
    ⟨(some 29), none, .val (.ext (.t 25) 1)⟩,
    ⟨(some 7), none, .val (.mv (.t 28))⟩,
    ⟨(some 8), none, .val (.mv (.t 29))⟩] [2, 3, 5, 6, 7, 8]) k52_18)
abbrev k52_20 : MC :=
  (.seq (.reg [
    ⟨(some 21), none, .val (.load true 1 (.t 2))⟩,
    ⟨(some 22), none, .call 96 [(.t 21)]⟩,
    ⟨(some 20), none, .val (.mv (.t 22))⟩,
    ⟨(some 23), none, .val (.ext (.t 20) 0)⟩,
    ⟨(some 24), none, .val (.ext (.t 20) 1)⟩,
    ⟨(some 5), none, .val (.mv (.t 23))⟩,
    ⟨(some 6), none, .val (.mv (.t 24))⟩] [2, 3, 5, 6]) k52_19)
abbrev k52 : MC :=
  (.seq (.reg [
    ⟨(some 2), none, .boxi (.t 0)⟩,
    ⟨(some 3), none, .boxi (.t 1)⟩,
    ⟨(some 4), none, .val (.mv (.c (.int .i64 0)))⟩] [2, 3]) k52_20)
theorem c52 : Try.f52.body.bind (mcOf Try.prog (List.contains [2, 3] ·) (List.getD [([], [2, 3]), ([], [2, 3, 5, 6]), ([], [2, 3, 5, 6, 7, 8]), ([], [2, 3, 5, 6, 7, 8, 9, 10, 11]), ([], [2, 3, 5, 6, 7, 8, 9, 10, 11, 12, 13]), ([0, 0, 0, 0, 0, 0], [2, 3, 5, 6, 7, 8, 9, 10, 11, 12, 13, 14, 15]), ([0, 0, 0, 0, 0, 0, 0, 0, 0, 0, 0, 0, 0, 0, 0, 0, 0, 0, 0, 0, 0, 0, 0, 0, 0, 0, 0, 0, 0, 0, 0, 0, 0, 0, 0, 0, 0, 0, 0, 0, 0, 0, 0, 0, 0, 0, 0, 0, 0, 0, 0, 0, 0, 0, 0, 0, 0, 0, 0, 0, 0, 0, 0, 0, 0, 0], [2, 3, 7, 9, 10, 14, 15, 110]), ([], [4]), ([], [2, 3, 14, 15, 136]), ([], [4]), ([], [2, 3, 14, 15, 16]), ([], [2, 3, 14, 15, 16, 17]), ([], [2, 3, 14, 15, 16, 17, 140]), ([], [2, 3, 14, 15, 16, 17]), ([], [2, 3, 14, 15, 16, 17, 145]), ([0, 0, 0, 0, 0, 0, 0, 0, 0, 0, 1, 4, 0], [2, 3, 14, 15, 16, 17, 18, 19]), ([0, 0, 0, 0, 0, 0, 0, 0, 0, 0, 0, 0, 0, 0, 0, 0, 0, 0, 0, 0, 0, 0, 0, 0], [2, 3, 14, 15, 16, 17, 179]), ([], [2, 3, 14, 15, 16, 17]), ([0, 0, 0, 0, 0, 0, 0, 0, 0, 0, 0, 0, 0], [2, 3, 14, 15, 16, 17]), ([], [4])] · ([], [])) 195) = some k52 := by kernel_rfl
theorem r52 : rvsOf Try.prog Try.f52.results.toList = some [.tmp 4] := by kernel_rfl
inductive Sm : Vl → Rv → Prop where
  | mk (v : Vl) (m : Rv) (hK : v.kind = m.K) (hB : v.isB.1 = (decide (m.K = 2) && m.B)) (hS : v.isT.1 = m.S) (hl : v.items.length = m.L.length) (hk : v.keys = m.Keys) (hN : m.K = 3 → v.isI.1 = m.N)
    (hP : m.K = 4 → v.isP.1 = m.N ∧ v.isP.2.1 = m.M) (hi : ∀ i (h : i < v.items.length) (h2 : i < m.L.length), Sm v.items[i] m.L[i]) : Sm v m
theorem isB_kind (v : Vl) : v.isB.2 = decide (v.kind = 2) := by cases v <;> rfl
theorem isI_kind (v : Vl) : v.isI.2 = decide (v.kind = 3) := by cases v <;> rfl
theorem isP_kind (v : Vl) : v.isP.2.2 = decide (v.kind = 4) := by cases v <;> rfl
theorem isT_kind (v : Vl) : v.isT.2 = decide (v.kind = 5) := by cases v <;> rfl
theorem fnd_some {k : List UInt8} : ∀ {es : List (List UInt8 × Vl)}, k ∈ es.map Prod.fst → ∃ x, fnd k es = some x
  | [], h => by simp at h
  | p :: es, h => by
    rw [fnd]
    split
    · exact ⟨_, rfl⟩
    · rename_i hne
      rw [List.map_cons, List.mem_cons] at h
      rcases h with h | h
      · exact absurd h.symm hne
      · exact fnd_some h
theorem kys_mem (es : List (List UInt8 × Vl)) (k : List UInt8) : k ∈ kys es ↔ k ∈ es.map Prod.fst := (List.mergeSort_perm _ _).mem_iff
theorem items_keys {v : Vl} (h7 : v.kind = 7) : v.items.length = v.keys.length := by
  cases v <;> first | (simp [Vl.kind] at h7; done) | simp [Vl.items, Vl.keys]
theorem at_key {v : Vl} (h7 : v.kind = 7) {i : Nat} (h : i < v.keys.length) (h2 : i < v.items.length) : v.at v.keys[i] = some v.items[i] := by
  cases v with
  | map es =>
    have hm : (kys es)[i] ∈ es.map Prod.fst := (kys_mem es _).1 (List.getElem_mem h)
    obtain ⟨x, hx⟩ := fnd_some hm
    have e : (Vl.map es).items[i] = look es (kys es)[i] := List.getElem_map ..
    rw [e, look]
    show fnd (kys es)[i] es = _
    rw [hx]; rfl
  | _ => simp [Vl.kind] at h7
theorem Ok.items {v : Vl} (h : v.Ok) : ∀ x ∈ v.items, x.Ok := by
  intro x hx
  cases h with
  | list l h1 h2 => exact h2 x hx
  | map es h1 h2 h3 h4 =>
    obtain ⟨k, hk, rfl⟩ := List.mem_map.1 hx
    obtain ⟨y, hy⟩ := fnd_some ((kys_mem es k).1 hk)
    rw [look, hy]
    have : ∀ (es : List (List UInt8 × Vl)), (∀ p ∈ es, p.2.Ok) → fnd k es = some y → y.Ok := by
      intro es
      induction es with
      | nil => intro _ h; cases h
      | cons p es ih =>
        intro ho h
        rw [fnd] at h
        split at h
        · cases h; exact ho p List.mem_cons_self
        · exact ih (fun q hq => ho q (List.mem_cons_of_mem _ hq)) h
    exact this es h4 hy
  | _ => simp [Vl.items] at hx
theorem items_len {v : Vl} (h : v.Ok) : v.items.length * 16 ≤ 100000000000000 := by
  cases h with
  | list l h1 h2 => exact h1
  | map es h1 h2 h3 h4 => rw [Vl.items, List.length_map, kys_length]; exact h1
  | _ => simp [Vl.items]
theorem nodr_lec {H G : AH} {g : Nat} (hg : H g = some .nodr) (hl : H.lec G) : G g = some .nodr := hl _ _ hg (by intros; simp)
theorem le_lec {H H' : AH} (h : H.le H') : H.lec H' := fun k o hk _ => h k o hk
theorem unlike_loop {m : Rv} {v : Vl} (hf : m.L.length * 16 ≤ 100000000000000) (ho : v.Ok) (hK : v.kind = m.K) (hl : v.items.length = m.L.length) (hk : v.keys = m.Keys) (hi : ∀ i (h : i < v.items.length) (h2 : i < m.L.length), Sm v.items[i] m.L[i])
    (ih : ∀ x ∈ m.L, ∀ (v : Vl), Sm v x → v.Ok → ∀ (g : Nat) (H : AH), H g = some .nodr → ACalls Try.prog 52 [.agg [vV v], .agg [.int .i64 x.K, .bool x.B, .int .i64 x.N, .int .i64 x.M, .str x.S, .sl 7 (rvE x.L) .no, .sl 1 (strE x.Keys) .no]] H (fun o H' => o = .ret (.int .i64 0) ∧ H' = H))
    {g : Nat} {H : AH} (hg : H g = some .nodr) :
    AM Try.prog Try.f52.ntmps (.loop k52_9) (BQ 0 (SQ Try.prog Try.f52.ntmps k52_11 (Body [RV.tmp 4] fun o H' => (∃ u, o = Out.ret u ∧ ∀ (s : St) (x : Value), s.val u x → s.val (V.int .i64 0) x) ∧ H.le H')))
      [(2, .rptr [vV v] 0), (3, .rptr [.int .i64 m.K, .bool m.B, .int .i64 m.N, .int .i64 m.M, .str m.S, .sl 7 (rvE m.L) .no, .sl 1 (strE m.Keys) .no] 0), (14, .sl 1 (vE v.items) .no), (15, .sl 1 (strE m.Keys) .no), (16, .int .i64 0), (17, .int .i64 0)] H := by
  refine am_loop (fun n a H' => ∃ i : Nat, i + n = m.L.length ∧ a = [(2, .rptr [vV v] 0), (3, .rptr [.int .i64 m.K, .bool m.B, .int .i64 m.N, .int .i64 m.M, .str m.S, .sl 7 (rvE m.L) .no, .sl 1 (strE m.Keys) .no] 0), (14, .sl 1 (vE v.items) .no), (15, .sl 1 (strE m.Keys) .no), (16, .int .i64 0), (17, .int .i64 i)] ∧ H' g = some .nodr ∧ H.le H') ?_ m.L.length ⟨0, by omega, rfl, hg, AH.le_refl _⟩
  rintro n a H' ⟨i, hin, rfl, hg', hle⟩
  by_cases hlt : i < m.L.length
  · have hlt1 : i < v.items.length := by omega
    have hc1 := ih m.L[i] (List.getElem_mem hlt) v.items[i] (hi i hlt1 hlt) (Ok.items ho _ (List.getElem_mem hlt1))
    by_cases h7 : m.K = 7
    · have hlt2 : i < m.Keys.length := by rw [← hk, ← items_keys (by omega)]; omega
      have hat : v.at m.Keys[i] = some v.items[i] := by
        have := at_key (v := v) (by omega) (i := i) (by rw [hk]; exact hlt2) hlt1
        simpa only [hk] using this
      repeat' (first | with_reducible (first | refine am_seq ?_ | refine am_block ?_) | ((with_reducible apply am_cond); (case hb => rfl); all_goals (intro hc; (try simp only [reduceCtorEq, decide_eq_true_eq, decide_eq_false_iff_not, Bool.or_eq_true, Bool.and_eq_true, Bool.or_eq_false_iff, Bool.not_eq_true', Bool.not_eq_false', beq_iff_eq] at hc); (try (exfalso; omega)))) | ((first | with_reducible (first | refine am_reg ?_ | refine am_drw ?_ | refine am_drx ?_ | refine am_skip ?_ | refine am_exit ?_ | refine am_ret ?_ | refine And.intro (by first | exact AH.lec_refl _ | assumption | exact AccP.lec (by assumption) | omega) ?_ | refine isnE_of (fun hc => ?_) (fun hc => ?_) (fun hc => ?_) | refine need_elems (by assumption) ?_ | refine vlen_acc (by assumption) ?_ | refine need_bytes (by assumption) ?_ | refine call_of (at_calls v _) ?_ | refine qcall_of (at_calls v _) ?_ | refine call_at (fun G hl => hc1 _ _ (nodr_lec hg' hl)) ?_ | refine qcall_at (fun G hl => hc1 _ _ (nodr_lec hg' hl)) ?_ | refine call_of (hc1 _ _ hg') ?_ | refine qcall_of (hc1 _ _ hg') ?_ | refine need_look (by repeat (first | assumption | exact AH.put_same _ _ _ | refine look_put ?_ (by assumption) | refine look_lec ?_ (by assumption))) ?_) | ((with_reducible (first | refine gd_not (fun hc => ?_) (fun hc => ?_) | refine gd_of (fun hc => ?_) (fun hc => ?_) | refine gq_not (fun hc => ?_) (fun hc => ?_) | refine gq_of (fun hc => ?_) (fun hc => ?_) | refine pickB_of (fun hc => ?_) (fun hc => ?_))) <;> (try simp -implicitDefEqProofs (disch := omega) only [go_sem, eq_self, decide_true, decide_false, Nat.reduceBEq, Nat.reduceAdd, Nat.reduceSub, Nat.reduceMul, Nat.reduceEqDiff, Nat.reduceLeDiff, Nat.reduceLT, Int.reduceLE, Int.reduceLT, Int.reduceToNat, Int.reduceAdd, Int.reduceEq, Int.reduceNeg, AH.put_ne, hc, wrap_id, hl, rvE_length, vE_length, strE_len, rvE_get hlt, vE_get hlt1, strE_get hlt2, h7, hat, bne_self_eq_false, Option.getD_some, Option.isSome_some]) <;> (try simp only [reduceCtorEq, decide_eq_true_eq, decide_eq_false_iff_not, Bool.or_eq_true, Bool.and_eq_true, Bool.or_eq_false_iff, Bool.not_eq_true', Bool.not_eq_false', beq_iff_eq] at hc) <;> (try (exfalso; omega))) | ((with_reducible refine alloc_intro (fun ko hko => ?_)) <;> (try have hne := fresh_ne (by assumption) hko) <;> (try have hnk := fresh_ne hk hko) <;> (try have hnk2 := fresh_ne hk2 hko) <;> (try simp only [AH.put_none] at hko)) | ((with_reducible (first | refine vapp_accL (by assumption) ?_ (fun v2 H2 hacc hlec => ?_) | refine vapp_accL (AccP.mono (by assumption) (AccP.le (by assumption))) ?_ (fun v2 H2 hacc hlec => ?_) | refine vapp_accL (AccP.new (by assumption) (by assumption) _) ?_ (fun v2 H2 hacc hlec => ?_))); · simp only [byteCells_length, List.length_cons, List.length_nil, List.length_map, List.length_append]; omega)) <;> (try simp -implicitDefEqProofs (disch := omega) only [go_sem, eq_self, decide_true, decide_false, Nat.reduceBEq, Nat.reduceAdd, Nat.reduceSub, Nat.reduceMul, Nat.reduceEqDiff, Nat.reduceLeDiff, Nat.reduceLT, Int.reduceLE, Int.reduceLT, Int.reduceToNat, Int.reduceAdd, Int.reduceEq, Int.reduceNeg, AH.put_ne, wrap_id, hl, rvE_length, vE_length, strE_len, rvE_get hlt, vE_get hlt1, strE_get hlt2, h7, hat, bne_self_eq_false, Option.getD_some, Option.isSome_some])))
      refine ⟨fun h => h.elim, fun _ => le_lec (AH.le_put (AH.le_refl _) hko _), ?_⟩
      have hg2 : (H'.put ko (.cells [vV v.items[i]])) g = some .nodr := look_put hg' hko
      have hk3 : (H'.put ko (.cells [vV v.items[i]])) ko = some (.cells [vV v.items[i]]) := AH.put_same _ _ _
      repeat' (first | with_reducible (first | refine am_seq ?_ | refine am_block ?_) | ((with_reducible apply am_cond); (case hb => rfl); all_goals (intro hc; (try simp only [reduceCtorEq, decide_eq_true_eq, decide_eq_false_iff_not, Bool.or_eq_true, Bool.and_eq_true, Bool.or_eq_false_iff, Bool.not_eq_true', Bool.not_eq_false', beq_iff_eq] at hc); (try (exfalso; omega)))) | ((first | with_reducible (first | refine am_reg ?_ | refine am_drw ?_ | refine am_drx ?_ | refine am_skip ?_ | refine am_exit ?_ | refine am_ret ?_ | refine And.intro (by first | exact AH.lec_refl _ | assumption | exact AccP.lec (by assumption) | omega) ?_ | refine isnE_of (fun hc => ?_) (fun hc => ?_) (fun hc => ?_) | refine need_elems (by assumption) ?_ | refine vlen_acc (by assumption) ?_ | refine need_bytes (by assumption) ?_ | refine call_at (fun G hl => hc1 _ _ (nodr_lec hg2 hl)) ?_ | refine qcall_at (fun G hl => hc1 _ _ (nodr_lec hg2 hl)) ?_ | refine call_of (hc1 _ _ hg2) ?_ | refine qcall_of (hc1 _ _ hg2) ?_ | refine need_look (by repeat (first | assumption | exact AH.put_same _ _ _ | refine look_put ?_ (by assumption) | refine look_lec ?_ (by assumption))) ?_) | ((with_reducible (first | refine gd_not (fun hc => ?_) (fun hc => ?_) | refine gd_of (fun hc => ?_) (fun hc => ?_) | refine gq_not (fun hc => ?_) (fun hc => ?_) | refine gq_of (fun hc => ?_) (fun hc => ?_) | refine pickB_of (fun hc => ?_) (fun hc => ?_))) <;> (try simp -implicitDefEqProofs (disch := omega) only [go_sem, eq_self, decide_true, decide_false, Nat.reduceBEq, Nat.reduceAdd, Nat.reduceSub, Nat.reduceMul, Nat.reduceEqDiff, Nat.reduceLeDiff, Nat.reduceLT, Int.reduceLE, Int.reduceLT, Int.reduceToNat, Int.reduceAdd, Int.reduceEq, Int.reduceNeg, AH.put_ne, hc, wrap_id, hl, rvE_length, vE_length, strE_len, rvE_get hlt, vE_get hlt1, strE_get hlt2, h7, hat, bne_self_eq_false, AH.put_same]) <;> (try simp only [reduceCtorEq, decide_eq_true_eq, decide_eq_false_iff_not, Bool.or_eq_true, Bool.and_eq_true, Bool.or_eq_false_iff, Bool.not_eq_true', Bool.not_eq_false', beq_iff_eq] at hc) <;> (try (exfalso; omega))) | ((with_reducible refine alloc_intro (fun ko hko => ?_)) <;> (try have hne := fresh_ne (by assumption) hko) <;> (try have hnk := fresh_ne hk hko) <;> (try have hnk2 := fresh_ne hk2 hko) <;> (try simp only [AH.put_none] at hko)) | ((with_reducible (first | refine vapp_accL (by assumption) ?_ (fun v2 H2 hacc hlec => ?_) | refine vapp_accL (AccP.mono (by assumption) (AccP.le (by assumption))) ?_ (fun v2 H2 hacc hlec => ?_) | refine vapp_accL (AccP.new (by assumption) (by assumption) _) ?_ (fun v2 H2 hacc hlec => ?_))); · simp only [byteCells_length, List.length_cons, List.length_nil, List.length_map, List.length_append]; omega)) <;> (try simp -implicitDefEqProofs (disch := omega) only [go_sem, eq_self, decide_true, decide_false, Nat.reduceBEq, Nat.reduceAdd, Nat.reduceSub, Nat.reduceMul, Nat.reduceEqDiff, Nat.reduceLeDiff, Nat.reduceLT, Int.reduceLE, Int.reduceLT, Int.reduceToNat, Int.reduceAdd, Int.reduceEq, Int.reduceNeg, AH.put_ne, wrap_id, hl, rvE_length, vE_length, strE_len, rvE_get hlt, vE_get hlt1, strE_get hlt2, h7, hat, bne_self_eq_false, AH.put_same])))
      all_goals exact ⟨n - 1, by omega, i + 1, by omega, rfl, by first | exact hg' | exact hg2, AH.le_put hle (none_of_le hle hko) _⟩
    · repeat' (first | with_reducible (first | refine am_seq ?_ | refine am_block ?_) | ((with_reducible apply am_cond); (case hb => rfl); all_goals (intro hc; (try simp only [reduceCtorEq, decide_eq_true_eq, decide_eq_false_iff_not, Bool.or_eq_true, Bool.and_eq_true, Bool.or_eq_false_iff, Bool.not_eq_true', Bool.not_eq_false', beq_iff_eq] at hc); (try (exfalso; omega)))) | ((first | with_reducible (first | refine am_reg ?_ | refine am_drw ?_ | refine am_drx ?_ | refine am_skip ?_ | refine am_exit ?_ | refine am_ret ?_ | refine And.intro (by first | exact AH.lec_refl _ | assumption | exact AccP.lec (by assumption) | omega) ?_ | refine isnE_of (fun hc => ?_) (fun hc => ?_) (fun hc => ?_) | refine need_elems (by assumption) ?_ | refine vlen_acc (by assumption) ?_ | refine need_bytes (by assumption) ?_ | refine call_at (fun G hl => hc1 _ _ (nodr_lec hg' hl)) ?_ | refine qcall_at (fun G hl => hc1 _ _ (nodr_lec hg' hl)) ?_ | refine need_look (by repeat (first | assumption | exact AH.put_same _ _ _ | refine look_put ?_ (by assumption) | refine look_lec ?_ (by assumption))) ?_) | ((with_reducible (first | refine gd_not (fun hc => ?_) (fun hc => ?_) | refine gd_of (fun hc => ?_) (fun hc => ?_) | refine gq_not (fun hc => ?_) (fun hc => ?_) | refine gq_of (fun hc => ?_) (fun hc => ?_) | refine pickB_of (fun hc => ?_) (fun hc => ?_))) <;> (try simp -implicitDefEqProofs (disch := omega) only [go_sem, eq_self, decide_true, decide_false, Nat.reduceBEq, Nat.reduceAdd, Nat.reduceSub, Nat.reduceMul, Nat.reduceEqDiff, Nat.reduceLeDiff, Nat.reduceLT, Int.reduceLE, Int.reduceLT, Int.reduceToNat, Int.reduceAdd, Int.reduceEq, Int.reduceNeg, AH.put_ne, hc, wrap_id, hl, rvE_length, vE_length, strE_len, rvE_get hlt, vE_get hlt1, h7, bne_self_eq_false]) <;> (try simp only [reduceCtorEq, decide_eq_true_eq, decide_eq_false_iff_not, Bool.or_eq_true, Bool.and_eq_true, Bool.or_eq_false_iff, Bool.not_eq_true', Bool.not_eq_false', beq_iff_eq] at hc) <;> (try (exfalso; omega))) | ((with_reducible refine alloc_intro (fun ko hko => ?_)) <;> (try have hne := fresh_ne (by assumption) hko) <;> (try have hnk := fresh_ne hk hko) <;> (try have hnk2 := fresh_ne hk2 hko) <;> (try simp only [AH.put_none] at hko)) | ((with_reducible (first | refine vapp_accL (by assumption) ?_ (fun v2 H2 hacc hlec => ?_) | refine vapp_accL (AccP.mono (by assumption) (AccP.le (by assumption))) ?_ (fun v2 H2 hacc hlec => ?_) | refine vapp_accL (AccP.new (by assumption) (by assumption) _) ?_ (fun v2 H2 hacc hlec => ?_))); · simp only [byteCells_length, List.length_cons, List.length_nil, List.length_map, List.length_append]; omega)) <;> (try simp -implicitDefEqProofs (disch := omega) only [go_sem, eq_self, decide_true, decide_false, Nat.reduceBEq, Nat.reduceAdd, Nat.reduceSub, Nat.reduceMul, Nat.reduceEqDiff, Nat.reduceLeDiff, Nat.reduceLT, Int.reduceLE, Int.reduceLT, Int.reduceToNat, Int.reduceAdd, Int.reduceEq, Int.reduceNeg, AH.put_ne, wrap_id, hl, rvE_length, vE_length, strE_len, rvE_get hlt, vE_get hlt1, h7, bne_self_eq_false])))
      all_goals exact ⟨n - 1, by omega, i + 1, by omega, rfl, hg', hle⟩
  · repeat' (first | with_reducible (first | refine am_seq ?_ | refine am_block ?_) | ((with_reducible apply am_cond); (case hb => rfl); all_goals (intro hc; (try simp only [reduceCtorEq, decide_eq_true_eq, decide_eq_false_iff_not, Bool.or_eq_true, Bool.and_eq_true, Bool.or_eq_false_iff, Bool.not_eq_true', Bool.not_eq_false', beq_iff_eq] at hc); (try (exfalso; omega)))) | ((first | with_reducible (first | refine am_reg ?_ | refine am_drw ?_ | refine am_drx ?_ | refine am_skip ?_ | refine am_exit ?_ | refine am_ret ?_ | refine And.intro (by first | exact AH.lec_refl _ | assumption | exact AccP.lec (by assumption) | omega) ?_ | refine isnE_of (fun hc => ?_) (fun hc => ?_) (fun hc => ?_) | refine need_elems (by assumption) ?_ | refine vlen_acc (by assumption) ?_ | refine need_bytes (by assumption) ?_ | refine need_look (by repeat (first | assumption | exact AH.put_same _ _ _ | refine look_put ?_ (by assumption) | refine look_lec ?_ (by assumption))) ?_) | ((with_reducible (first | refine gd_not (fun hc => ?_) (fun hc => ?_) | refine gd_of (fun hc => ?_) (fun hc => ?_) | refine gq_not (fun hc => ?_) (fun hc => ?_) | refine gq_of (fun hc => ?_) (fun hc => ?_) | refine pickB_of (fun hc => ?_) (fun hc => ?_))) <;> (try simp -implicitDefEqProofs (disch := omega) only [go_sem, eq_self, decide_true, decide_false, Nat.reduceBEq, Nat.reduceAdd, Nat.reduceSub, Nat.reduceMul, Nat.reduceEqDiff, Nat.reduceLeDiff, Nat.reduceLT, Int.reduceLE, Int.reduceLT, Int.reduceToNat, Int.reduceAdd, Int.reduceEq, Int.reduceNeg, AH.put_ne, hc, rvE_length, vE_length, strE_len, hl]) <;> (try simp only [reduceCtorEq, decide_eq_true_eq, decide_eq_false_iff_not, Bool.or_eq_true, Bool.and_eq_true, Bool.or_eq_false_iff, Bool.not_eq_true', Bool.not_eq_false', beq_iff_eq] at hc) <;> (try (exfalso; omega))) | ((with_reducible refine alloc_intro (fun ko hko => ?_)) <;> (try have hne := fresh_ne (by assumption) hko) <;> (try have hnk := fresh_ne hk hko) <;> (try have hnk2 := fresh_ne hk2 hko) <;> (try simp only [AH.put_none] at hko)) | ((with_reducible (first | refine vapp_accL (by assumption) ?_ (fun v2 H2 hacc hlec => ?_) | refine vapp_accL (AccP.mono (by assumption) (AccP.le (by assumption))) ?_ (fun v2 H2 hacc hlec => ?_) | refine vapp_accL (AccP.new (by assumption) (by assumption) _) ?_ (fun v2 H2 hacc hlec => ?_))); · simp only [byteCells_length, List.length_cons, List.length_nil, List.length_map, List.length_append]; omega)) <;> (try simp -implicitDefEqProofs (disch := omega) only [go_sem, eq_self, decide_true, decide_false, Nat.reduceBEq, Nat.reduceAdd, Nat.reduceSub, Nat.reduceMul, Nat.reduceEqDiff, Nat.reduceLeDiff, Nat.reduceLT, Int.reduceLE, Int.reduceLT, Int.reduceToNat, Int.reduceAdd, Int.reduceEq, Int.reduceNeg, AH.put_ne, rvE_length, vE_length, strE_len, hl])))
    all_goals (refine drop_end (by (first | exact fun _ _ h => h | (intro s x h; first | exact no_sub _ h | exact nil_no _ h | exact AccP.sub (by assumption) _ _ h | (refine agg_sub rfl ?_ x h; repeat (first | exact .nil | refine .cons (fun _ h => h) ?_ | refine .cons (fun _ h => nil_no _ h) ?_ | refine .cons (fun _ h => no_sub _ h) ?_ | refine .cons (fun _ h => AccP.sub (by assumption) _ _ h) ?_)) | (refine tuple_sub ?_ x h; repeat (first | exact .nil | refine .cons (fun _ h => h) ?_ | refine .cons (fun _ h => nil_no _ h) ?_ | refine .cons (fun _ h => no_sub _ h) ?_ | refine .cons (fun _ h => AccP.sub (by assumption) _ _ h) ?_ | refine .cons (fun _ h => agg_sub rfl (by repeat (first | exact .nil | refine .cons (fun _ h => h) ?_ | refine .cons (fun _ h => nil_no _ h) ?_ | refine .cons (fun _ h => no_sub _ h) ?_ | refine .cons (fun _ h => AccP.sub (by assumption) _ _ h) ?_)) _ h) ?_))))) (by (repeat (first | exact AH.le_refl _ | assumption | exact AccP.le (by assumption) | refine AH.le_put ?_ (by first | assumption | exact none_of_le (by assumption) (by assumption) | exact And.right (by assumption) | exact And.right (And.right (by assumption))) _ | refine AH.le_trans ?_ (AccP.le (by assumption))))))
end Go.Proofs.Ytjlphncecdlmcaa
