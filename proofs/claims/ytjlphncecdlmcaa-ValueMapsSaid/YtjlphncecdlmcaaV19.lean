/- Of the walks of this seat: contracts of functions of the given program, proved over the abstract values of the texts Vm. Conditions: as each theorem says. -/
import Derived.Test.YtjlphncecdlmcaaVD
import Derived.Test.YtjlphncecdlmcaaVE
set_option linter.unusedVariables false
set_option linter.unusedSimpArgs false
namespace Go.Proofs.Ytjlphncecdlmcaa
open Go.Vm Go.Sort
attribute [local go_sem] List.drop_zero toNat_succ Nat.sub_zero Int.toNat_natCast Option.map_some Int.natCast_nonneg decide_eq_true_eq decide_eq_false_iff_not
/- flange/flangelaw04.ValueMaps -/
abbrev k12_0 : MC :=
  .cond (.t 32) ((.seq (.reg [
     ⟨(some 33), none, .call 23 []⟩,
     ⟨(some 8), none, .val (.mv (.t 33))⟩] [8]) (.ret))) (.skip)

abbrev k12_1 : MC :=
  .cond (.t 37) (.skip) (.exit 0)

abbrev k12_2 : MC :=
  .cond (.t 45) ((.seq (.reg [
     ⟨(some 8), none, .val (.mv (.c (.bool true)))⟩] [8]) (.ret))) (.skip)

abbrev k12_3 : MC :=
  .reg [
    ⟨(some 46), none, .val (.mv (.t 9))⟩,
    ⟨(some 47), none, .val (.mv (.t 1))⟩,
    ⟨(some 48), none, .val (.mv (.t 10))⟩,
    ⟨(some 49), none, .val (.iaddr 7 (.t 47) (.t 48))⟩,
    ⟨(some 50), none, .val (.load true 7 (.t 49))⟩,
    ⟨(some 51), none, .call 25 [(.t 50)]⟩,
    ⟨(some 52), none, .call 24 [(.t 51)]⟩,
    ⟨(some 53), none, .bslice 1 1 [.nilIface] [(0, 1, (.t 52))]⟩,
    ⟨(some 54), none, .app 1 16 (.t 46) (.t 53)⟩,
    ⟨(some 9), none, .val (.mv (.t 54))⟩] [0, 1, 2, 3, 9, 10]

abbrev k12_4 : MC :=
  .reg [
    ⟨(some 38), none, .val (.mv (.t 10))⟩,
    ⟨(some 39), none, .val (.bin .add .num (.t 38) (.c (.int .i64 1)))⟩,
    ⟨(some 10), none, .val (.mv (.t 39))⟩] [0, 1, 2, 3, 9, 10]

abbrev k12_5 : MC :=
  (.seq (.block 1 ((.seq ((.seq (.reg [
     ⟨(some 40), none, .val (.mv (.t 1))⟩,
     ⟨(some 41), none, .val (.mv (.t 10))⟩,
     ⟨(some 42), none, .val (.iaddr 7 (.t 40) (.t 41))⟩,
     ⟨(some 43), none, .val (.load true 7 (.t 42))⟩,
     ⟨(some 44), none, .call 22 [(.t 43)]⟩,
     ⟨(some 45), none, .val (.bin .gtr .num (.t 44) (.c (.int .i64 0)))⟩] [0, 1, 2, 3, 9, 10, 45]) k12_2)) k12_3))) k12_4)

abbrev k12_6 : MC :=
  (.seq ((.seq (.reg [
    ⟨(some 34), none, .val (.mv (.t 10))⟩,
    ⟨(some 35), none, .val (.mv (.t 1))⟩,
    ⟨(some 36), none, .val (.len .sl (.t 35))⟩,
    ⟨(some 37), none, .val (.bin .lss .num (.t 34) (.t 36))⟩] [0, 1, 2, 3, 9, 10, 37]) k12_1)) k12_5)

abbrev k12_7 : MC :=
  .block 0 (.loop k12_6)

abbrev k12_8 : MC :=
  .cond (.t 116) ((.seq (.reg [
     ⟨(some 8), none, .val (.mv (.c (.bool false)))⟩] [8]) (.ret))) (.skip)

abbrev k12_9 : MC :=
  .cond (.t 121) ((.seq (.reg [
     ⟨(some 122), none, .val (.load true 1 (.t 11))⟩,
     ⟨(some 123), none, .call 27 [(.t 122)]⟩,
     ⟨(some 124), none, .val (.bin .eql .num (.t 123) (.c (.int .i64 0)))⟩,
     ⟨(some 125), none, .val (.mv (.t 124))⟩,
     ⟨(some 126), (some (125, true)), .val (.mv (.t 12))⟩,
     ⟨(some 127), (some (125, true)), .val (.bin .eql .num (.t 126) (.c (.int .i64 1)))⟩,
     ⟨(some 128), none, .val (.pick (.t 125) (.t 127) (.c (.bool false)))⟩,
     ⟨(some 8), none, .val (.mv (.t 128))⟩] [8]) (.ret))) (.skip)

abbrev k12_10 : MC :=
  .cond (.t 132) (.skip) (.exit 2)

abbrev k12_11 : MC :=
  .cond (.t 137) (.skip) (.exit 4)

abbrev k12_12 : MC :=
  .cond (.t 148) ((.seq (.reg [
     ⟨(some 149), none, .val (.load true 1 (.t 11))⟩,
     ⟨(some 150), none, .call 27 [(.t 149)]⟩,
     ⟨(some 151), none, .val (.bin .eql .num (.t 150) (.c (.int .i64 0)))⟩,
     ⟨(some 152), none, .val (.mv (.t 151))⟩,
     ⟨(some 153), (some (152, true)), .val (.mv (.t 12))⟩,
     ⟨(some 154), (some (152, true)), .val (.bin .eql .num (.t 153) (.c (.int .i64 9)))⟩,
     ⟨(some 155), none, .val (.pick (.t 152) (.t 154) (.c (.bool false)))⟩,
     ⟨(some 8), none, .val (.mv (.t 155))⟩] [8]) (.ret))) (.skip)

abbrev k12_13 : MC :=
  .reg [
    ⟨(some 138), none, .val (.mv (.t 20))⟩,
    ⟨(some 139), none, .val (.bin .add .num (.t 138) (.c (.int .i64 1)))⟩,
    ⟨(some 20), none, .val (.mv (.t 139))⟩] [0, 1, 11, 12, 19, 20]

abbrev k12_14 : MC :=
  (.seq (.block 5 ((.seq (.drw [
     ⟨(some 140), none, .val (.mv (.t 0))⟩,
     ⟨(some 141), none, .val (.mv (.t 19))⟩,
     ⟨(some 142), none, .val (.iaddr 1 (.t 140) (.t 141))⟩,
     ⟨(some 143), none, .val (.load false 1 (.t 142))⟩,
     ⟨(some 144), none, .val (.mv (.t 0))⟩,
     ⟨(some 145), none, .val (.mv (.t 20))⟩,
     ⟨(some 146), none, .val (.iaddr 1 (.t 144) (.t 145))⟩,
     ⟨(some 147), none, .val (.load false 1 (.t 146))⟩,
     ⟨(some 148), none, .val (.bin .eql .num (.t 143) (.t 147))⟩] [
] [0, 1, 11, 12, 19, 20, 148]) k12_12))) k12_13)

abbrev k12_15 : MC :=
  (.seq ((.seq (.reg [
    ⟨(some 135), none, .val (.mv (.t 20))⟩,
    ⟨(some 136), none, .val (.mv (.t 19))⟩,
    ⟨(some 137), none, .val (.bin .lss .num (.t 135) (.t 136))⟩] [0, 1, 11, 12, 19, 20, 137]) k12_11)) k12_14)

abbrev k12_16 : MC :=
  .block 4 (.loop k12_15)

abbrev k12_17 : MC :=
  .reg [
    ⟨(some 133), none, .val (.mv (.t 19))⟩,
    ⟨(some 134), none, .val (.bin .add .num (.t 133) (.c (.int .i64 1)))⟩,
    ⟨(some 19), none, .val (.mv (.t 134))⟩] [0, 1, 11, 12, 19]

abbrev k12_18 : MC :=
  (.seq (.block 3 ((.seq (.reg [
     ⟨(some 20), none, .val (.mv (.c (.int .i64 0)))⟩] [0, 1, 11, 12, 19, 20]) k12_16))) k12_17)

abbrev k12_19 : MC :=
  (.seq ((.seq (.reg [
    ⟨(some 129), none, .val (.mv (.t 19))⟩,
    ⟨(some 130), none, .val (.mv (.t 0))⟩,
    ⟨(some 131), none, .val (.len .sl (.t 130))⟩,
    ⟨(some 132), none, .val (.bin .lss .num (.t 129) (.t 131))⟩] [0, 1, 11, 12, 19, 132]) k12_10)) k12_18)

abbrev k12_20 : MC :=
  .block 2 (.loop k12_19)

abbrev k12_21 : MC :=
  (.seq (.drw [
    ⟨(some 156), none, .val (.mv (.t 12))⟩,
    ⟨(some 157), none, .val (.bin .eql .num (.t 156) (.c (.int .i64 0)))⟩,
    ⟨(some 158), none, .val (.mv (.t 157))⟩,
    ⟨(some 159), (some (158, true)), .val (.load true 1 (.t 11))⟩,
    ⟨(some 160), (some (158, true)), .val (.mv (.t 0))⟩,
    ⟨(some 161), (some (158, true)), .val (.mv (.t 1))⟩,
    ⟨(some 162), (some (158, true)), .build [(.int .i64 0), (.bool false), (.int .i64 0), (.int .i64 0), (.str []), .nilSl, .nilSl] [(0, 1, (.c (.int .i64 7))), (6, 1, (.t 160)), (5, 1, (.t 161))]⟩,
    ⟨(some 163), (some (158, true)), .call 25 [(.t 162)]⟩,
    ⟨(some 164), (some (158, true)), .call 52 [(.t 159), (.t 163)]⟩,
    ⟨(some 165), (some (158, true)), .val (.bin .eql .num (.t 164) (.c (.int .i64 0)))⟩,
    ⟨(some 166), none, .val (.pick (.t 158) (.t 165) (.c (.bool false)))⟩,
    ⟨(some 8), none, .val (.mv (.t 166))⟩] [
] [8]) (.ret))

abbrev k12_22 : MC :=
  (.seq ((.seq (.reg [
    ⟨(some 19), none, .val (.mv (.c (.int .i64 0)))⟩] [0, 1, 11, 12, 19]) k12_20)) k12_21)

abbrev k12_23 : MC :=
  (.seq ((.seq (.reg [
    ⟨(some 117), none, .val (.mv (.t 0))⟩,
    ⟨(some 118), none, .val (.len .sl (.t 117))⟩,
    ⟨(some 119), none, .val (.mv (.t 1))⟩,
    ⟨(some 120), none, .val (.len .sl (.t 119))⟩,
    ⟨(some 121), none, .val (.bin .neq .num (.t 118) (.t 120))⟩] [0, 1, 11, 12, 121]) k12_9)) k12_22)

abbrev k12_24 : MC :=
  (.seq ((.seq (.reg [
    ⟨(some 87), none, .val (.mv (.t 18))⟩,
    ⟨(some 88), none, .val (.mv (.t 15))⟩,
    ⟨(some 89), none, .val (.bin .neq .bool (.t 87) (.t 88))⟩,
    ⟨(some 90), none, .val (.mv (.t 89))⟩,
    ⟨(some 91), (some (90, false)), .val (.mv (.t 14))⟩,
    ⟨(some 92), (some (90, false)), .val (.bin .eql .num (.t 91) (.c (.int .i64 0)))⟩,
    ⟨(some 93), (some (90, false)), .val (.mv (.t 15))⟩,
    ⟨(some 94), (some (90, false)), .val (.bin .neq .bool (.t 92) (.t 93))⟩,
    ⟨(some 95), none, .val (.pick (.t 90) (.c (.bool true)) (.t 94))⟩,
    ⟨(some 96), none, .val (.mv (.t 95))⟩,
    ⟨(some 97), (some (96, false)), .val (.mv (.t 15))⟩,
    ⟨(some 98), (some (96, false)), .val (.mv (.t 97))⟩,
    ⟨(some 99), (some (98, true)), .val (.mv (.t 16))⟩,
    ⟨(some 100), (some (98, true)), .val (.mv (.t 2))⟩,
    ⟨(some 101), (some (98, true)), .val (.bin .neq .num (.t 99) (.t 100))⟩,
    ⟨(some 102), (some (98, true)), .val (.mv (.t 101))⟩,
    ⟨(some 103), (some (102, false)), .val (.mv (.t 17))⟩,
    ⟨(some 104), (some (102, false)), .val (.mv (.t 3))⟩,
    ⟨(some 105), (some (102, false)), .val (.bin .neq .num (.t 103) (.t 104))⟩,
    ⟨(some 106), (some (98, true)), .val (.pick (.t 102) (.c (.bool true)) (.t 105))⟩,
    ⟨(some 107), (some (96, false)), .val (.pick (.t 98) (.t 106) (.c (.bool false)))⟩,
    ⟨(some 108), none, .val (.pick (.t 96) (.c (.bool true)) (.t 107))⟩,
    ⟨(some 109), none, .val (.mv (.t 108))⟩,
    ⟨(some 110), (some (109, false)), .val (.mv (.t 15))⟩,
    ⟨(some 111), (some (109, false)), .val (.not (.t 110))⟩,
    ⟨(some 112), (some (109, false)), .val (.mv (.t 111))⟩,
    ⟨(some 113), (some (112, true)), .val (.mv (.t 14))⟩,
    ⟨(some 114), (some (112, true)), .val (.bin .neq .num (.t 113) (.c (.int .i64 2)))⟩,
    ⟨(some 115), (some (109, false)), .val (.pick (.t 112) (.t 114) (.c (.bool false)))⟩,
    ⟨(some 116), none, .val (.pick (.t 109) (.c (.bool true)) (.t 115))⟩] [0, 1, 11, 12, 116]) k12_8)) k12_23)

abbrev k12_25 : MC :=
  (.seq (.reg [
    ⟨(some 82), none, .val (.load true 1 (.t 13))⟩,
    ⟨(some 83), none, .call 51 [(.t 82)]⟩,
    ⟨(some 81), none, .val (.mv (.t 83))⟩,
    ⟨(some 84), none, .val (.ext (.t 81) 0)⟩,
    ⟨(some 85), none, .val (.ext (.t 81) 1)⟩,
    ⟨(some 86), none, .val (.ext (.t 81) 2)⟩,
    ⟨(some 16), none, .val (.mv (.t 84))⟩,
    ⟨(some 17), none, .val (.mv (.t 85))⟩,
    ⟨(some 18), none, .val (.mv (.t 86))⟩] [0, 1, 2, 3, 11, 12, 14, 15, 16, 17, 18]) k12_24)

abbrev k12_26 : MC :=
  (.seq (.reg [
    ⟨(some 67), none, .val (.mv (.t 2))⟩,
    ⟨(some 68), none, .val (.bin .geq .num (.t 67) (.c (.int .i64 (-9007199254740992))))⟩,
    ⟨(some 69), none, .val (.mv (.t 68))⟩,
    ⟨(some 70), (some (69, true)), .val (.mv (.t 2))⟩,
    ⟨(some 71), (some (69, true)), .val (.bin .leq .num (.t 70) (.c (.int .i64 9007199254740992)))⟩,
    ⟨(some 72), none, .val (.pick (.t 69) (.t 71) (.c (.bool false)))⟩,
    ⟨(some 73), none, .val (.mv (.t 72))⟩,
    ⟨(some 74), (some (73, true)), .val (.mv (.t 3))⟩,
    ⟨(some 75), (some (73, true)), .val (.bin .geq .num (.t 74) (.c (.int .i64 (-9007199254740992))))⟩,
    ⟨(some 76), none, .val (.pick (.t 73) (.t 75) (.c (.bool false)))⟩,
    ⟨(some 77), none, .val (.mv (.t 76))⟩,
    ⟨(some 78), (some (77, true)), .val (.mv (.t 3))⟩,
    ⟨(some 79), (some (77, true)), .val (.bin .leq .num (.t 78) (.c (.int .i64 9007199254740992)))⟩,
    ⟨(some 80), none, .val (.pick (.t 77) (.t 79) (.c (.bool false)))⟩,
    ⟨(some 15), none, .val (.mv (.t 80))⟩] [0, 1, 2, 3, 11, 12, 13, 14, 15]) k12_25)

abbrev k12_27 : MC :=
  (.seq (.reg [
    ⟨(some 62), none, .val (.mv (.t 2))⟩,
    ⟨(some 63), none, .val (.mv (.t 3))⟩,
    ⟨(some 64), none, .call 50 [(.t 62), (.t 63)]⟩,
    ⟨(some 61), none, .val (.mv (.t 64))⟩,
    ⟨(some 65), none, .val (.ext (.t 61) 0)⟩,
    ⟨(some 66), none, .val (.ext (.t 61) 1)⟩,
    ⟨(some 13), none, .zalloc [.nilIface]⟩,
    ⟨none, none, .store 1 (.t 13) (.t 65)⟩,
    ⟨(some 14), none, .val (.mv (.t 66))⟩] [0, 1, 2, 3, 11, 12, 13, 14]) k12_26)

abbrev k12_28 : MC :=
  (.seq (.reg [
    ⟨(some 56), none, .val (.mv (.t 0))⟩,
    ⟨(some 57), none, .val (.mv (.t 9))⟩,
    ⟨(some 58), none, .call 49 [(.t 56), (.t 57)]⟩,
    ⟨(some 55), none, .val (.mv (.t 58))⟩,
    ⟨(some 59), none, .val (.ext (.t 55) 0)⟩,
    ⟨(some 60), none, .val (.ext (.t 55) 1)⟩,
    ⟨(some 11), none, .zalloc [.nilIface]⟩,
    ⟨none, none, .store 1 (.t 11) (.t 59)⟩,
    ⟨(some 12), none, .val (.mv (.t 60))⟩] [0, 1, 2, 3, 11, 12]) k12_27)

abbrev k12_29 : MC :=
  (.seq ((.seq (.reg [
    ⟨(some 10), none, .val (.mv (.c (.int .i64 0)))⟩] [0, 1, 2, 3, 9, 10]) k12_7)) k12_28)

abbrev k12_30 : MC :=
  (.seq (.reg [
    ⟨(some 9), none, .val (.mv (.c .nilSl))⟩] [0, 1, 2, 3, 9]) k12_29)

abbrev k12_31 : MC :=
  (.seq ((.seq (.reg [
    ⟨(some 21), none, .val (.mv (.t 0))⟩,
    ⟨(some 22), none, .val (.len .sl (.t 21))⟩,
    ⟨(some 23), none, .val (.bin .gtr .num (.t 22) (.c (.int .i64 40)))⟩,
    ⟨(some 24), none, .val (.mv (.t 23))⟩,
    ⟨(some 25), (some (24, false)), .val (.mv (.t 1))⟩,
    ⟨(some 26), (some (24, false)), .val (.len .sl (.t 25))⟩,
    ⟨(some 27), (some (24, false)), .val (.bin .gtr .num (.t 26) (.c (.int .i64 40)))⟩,
    ⟨(some 28), none, .val (.pick (.t 24) (.c (.bool true)) (.t 27))⟩,
    ⟨(some 29), none, .val (.mv (.t 28))⟩,
    ⟨(some 30), (some (29, false)), .call 23 []⟩,
    ⟨(some 31), (some (29, false)), .val (.not (.t 30))⟩,
    ⟨(some 32), none, .val (.pick (.t 29) (.c (.bool true)) (.t 31))⟩] [0, 1, 2, 3, 32]) k12_0)) k12_30)
abbrev k12 : MC :=
  (.seq (.reg [
    ⟨(some 8), none, .val (.mv (.c (.bool false)))⟩] [0, 1, 2, 3]) k12_31)
theorem c12 : Try.f12.body.bind (mcOf Try.prog (List.contains [] ·) (List.getD [([], [0, 1, 2, 3]), ([], [0, 1, 2, 3, 32]), ([], [8]), ([], [0, 1, 2, 3, 9]), ([], [0, 1, 2, 3, 9, 10]), ([], [0, 1, 2, 3, 9, 10, 37]), ([], [0, 1, 2, 3, 9, 10]), ([], [0, 1, 2, 3, 9, 10, 45]), ([], [8]), ([], [0, 1, 2, 3, 9, 10]), ([], [0, 1, 2, 3, 11, 12]), ([], [0, 1, 2, 3, 11, 12, 13, 14]), ([], [0, 1, 2, 3, 11, 12, 13, 14, 15]), ([], [0, 1, 2, 3, 11, 12, 14, 15, 16, 17, 18]), ([], [0, 1, 11, 12, 116]), ([], [8]), ([], [0, 1, 11, 12, 121]), ([], [8]), ([], [0, 1, 11, 12, 19]), ([], [0, 1, 11, 12, 19, 132]), ([], [0, 1, 11, 12, 19]), ([], [0, 1, 11, 12, 19, 20]), ([], [0, 1, 11, 12, 19, 20, 137]), ([], [0, 1, 11, 12, 19, 20]), ([0, 0, 0, 0, 0, 0, 0, 0, 0], [0, 1, 11, 12, 19, 20, 148]), ([], [8]), ([0, 0, 0, 0, 0, 0, 0, 0, 0, 0, 0, 0], [8])] · ([], [])) 167) = some k12 := by kernel_rfl
theorem r12 : rvsOf Try.prog Try.f12.results.toList = some [.tmp 8] := by kernel_rfl

def tcV (r : Rv) : Vl := toV (cleanR r)
theorem zip_tc (ks : List (List UInt8)) (l : List Rv) : ks.zip (l.map tcV) = (ks.zip (l.map cleanR)).map fun p => (p.1, toV p.2) := by
  rw [show l.map tcV = (l.map cleanR).map toV by rw [List.map_map]; rfl, List.zip_map_right]; rfl
theorem sm_maps {ks : List (List UInt8)} {l : List Rv} (hl : ks.length = l.length) (hn : ks.Nodup) : Sm (.map (ks.zip (l.map tcV))) (cleanR (.mk 7 false 0 0 [] l ks)) := by
  have hz : ((ks.zip (l.map cleanR)).map Prod.fst).Nodup := by rw [List.map_fst_zip (by rw [List.length_map]; omega)]; exact hn
  rw [zip_tc, cleanR_7 rfl]
  refine smMap hz (entR_perm hz) (entR_srt _) (fun p hp => ?_) _ _ _
  obtain ⟨_, x, hx, e⟩ := entOf_mem (r := .mk 7 false 0 0 [] l ks) hp
  rw [e]; exact sm_clean x
theorem ok_maps {ks : List (List UInt8)} {l : List Rv} (hl : ks.length = l.length) (hn : ks.Nodup) (hks : ∀ k ∈ ks, k.length ≤ 140737488355328) (hf : ∀ x ∈ l, x.Fit) (h40 : l.length ≤ 40) : (Vl.map (ks.zip (l.map tcV))).Ok := by
  refine .map _ (by rw [List.length_zip, List.length_map]; omega) (by rw [List.map_fst_zip (by rw [List.length_map]; omega)]; exact hn) (fun p hp => ?_) (fun p hp => ?_)
  · have := hks p.1 (List.of_mem_zip (show (p.1, p.2) ∈ _ from hp)).1; omega
  · obtain ⟨x, hx, e⟩ := List.mem_map.1 (List.of_mem_zip (show (p.1, p.2) ∈ _ from hp)).2
    rw [← e]; exact ok_clean x (hf x hx)
theorem kind_nul : Vl.nul.kind = 0 := rfl
theorem maps_tail {ks : List (List UInt8)} {l : List Rv} (hks : ∀ k ∈ ks, k.length ≤ 140737488355328) (hf : ∀ x ∈ l, x.Fit) (k40 : ks.length ≤ 40) (h40 : l.length ≤ 40) {g kb : Nat} {H G : AH} (hg : G g = some .nodr)
    (hk : G kb = some (.cells [vV (mapR ks (l.map tcV)).1])) (hle : H.le G) :
    AM Try.prog Try.f12.ntmps k12_23 (Body [RV.tmp 8] fun o H' => (∃ u, o = Out.ret u ∧ ∀ (s : St) (x : Value), s.val u x → s.val (V.bool true) x) ∧ H.le H') [(0, .sl 1 (strE ks) .no), (1, .sl 7 (rvE l) .no), (11, .ptr kb 0), (12, .int .i64 (mapR ks (l.map tcV)).2)] G := by
  by_cases hl : ks.length = l.length
  · have hwhole : (Rv.mk 7 false 0 0 [] l ks).Fit := .mk _ (by show l.length * 96 ≤ _; omega) (by show ks.length * 16 ≤ _; omega) hks (by simp [Rv.S]) hf
    have hcl := clean_calls _ hwhole
    simp only [Rv.K, Rv.B, Rv.N, Rv.M, Rv.S, Rv.L, Rv.Keys] at hcl
    simp only [rvC_eq] at hcl
    repeat' (first | with_reducible refine am_seq ?_ | with_reducible refine am_block ?_ | ((with_reducible apply am_cond); (case hb => rfl); all_goals (intro hc; (try simp only [reduceCtorEq, decide_eq_true_eq, decide_eq_false_iff_not, Bool.or_eq_true, Bool.and_eq_true, Bool.or_eq_false_iff, Bool.not_eq_true', Bool.not_eq_false', beq_iff_eq] at hc); (try (exfalso; omega)))) | ((first | with_reducible refine am_reg ?_ | with_reducible refine am_drw ?_ | with_reducible refine am_drx ?_ | with_reducible refine am_skip ?_ | with_reducible refine am_exit ?_ | with_reducible refine am_ret ?_ | with_reducible refine And.intro (by first | exact AH.lec_refl _ | assumption | exact AccP.lec (by assumption) | omega) ?_ | with_reducible refine isnE_of (fun hc => ?_) (fun hc => ?_) (fun hc => ?_) | ((first | with_reducible refine gd_not (fun hc => ?_) (fun hc => ?_) | with_reducible refine gd_of (fun hc => ?_) (fun hc => ?_) | with_reducible refine gq_not (fun hc => ?_) (fun hc => ?_) | with_reducible refine gq_of (fun hc => ?_) (fun hc => ?_) | with_reducible refine pickB_of (fun hc => ?_) (fun hc => ?_)) <;> (try simp -implicitDefEqProofs (disch := omega) only [go_sem, eq_self, decide_true, decide_false, Nat.reduceBEq, Nat.reduceAdd, Nat.reduceSub, Nat.reduceMul, Nat.reduceEqDiff, Nat.reduceLeDiff, Nat.reduceLT, Int.reduceLE, Int.reduceLT, Int.reduceToNat, Int.reduceAdd, Int.reduceEq, Int.reduceNeg, AH.put_ne, hc, strE_len, rvE_length, hl]) <;> (try simp only [reduceCtorEq, decide_eq_true_eq, decide_eq_false_iff_not, Bool.or_eq_true, Bool.and_eq_true, Bool.or_eq_false_iff, Bool.not_eq_true', Bool.not_eq_false', beq_iff_eq] at hc) <;> (try (exfalso; omega))) | ((with_reducible refine alloc_intro (fun ko hko => ?_)) <;> (try have hne := fresh_ne (by assumption) hko) <;> (try have hnk := fresh_ne hk hko) <;> (try have hnk2 := fresh_ne hk2 hko) <;> (try simp only [AH.put_none] at hko)) | ((first | (with_reducible refine vapp_accL (by assumption) ?_ (fun v2 H2 hacc hlec => ?_)) | (with_reducible refine vapp_accL (AccP.mono (by assumption) (AccP.le (by assumption))) ?_ (fun v2 H2 hacc hlec => ?_)) | (with_reducible refine vapp_accL (AccP.new (by assumption) (by assumption) _) ?_ (fun v2 H2 hacc hlec => ?_))); · simp only [byteCells_length, List.length_cons, List.length_nil, List.length_map, List.length_append, vE_length, mE_length, strE_len, List.length_take, rvE_length, List.length_map]; omega) | with_reducible refine need_elems (by assumption) ?_ | with_reducible refine vlen_acc (by assumption) ?_ | with_reducible refine need_bytes (by assumption) ?_ | with_reducible refine need_look (by assumption) ?_ | with_reducible refine need_look (look_put (by assumption) (by assumption)) ?_ | with_reducible refine need_look (look_lec (by assumption) (by assumption)) ?_ | with_reducible refine need_look (look_put (AH.put_same _ _ _) (by assumption)) ?_ | with_reducible refine need_look (look_lec (AH.put_same _ _ _) (by assumption)) ?_ | with_reducible refine need_look (look_put (look_put (by assumption) (by assumption)) (by assumption)) ?_ | with_reducible refine need_look (look_lec (look_put (by assumption) (by assumption)) (by assumption)) ?_ | with_reducible refine need_look (look_put (look_lec (by assumption) (by assumption)) (by assumption)) ?_ | with_reducible refine need_look (look_lec (look_lec (by assumption) (by assumption)) (by assumption)) ?_ | with_reducible refine need_look (look_put (look_put (AH.put_same _ _ _) (by assumption)) (by assumption)) ?_ | with_reducible refine need_look (look_lec (look_put (AH.put_same _ _ _) (by assumption)) (by assumption)) ?_ | with_reducible refine need_look (look_put (look_lec (AH.put_same _ _ _) (by assumption)) (by assumption)) ?_ | with_reducible refine need_look (look_lec (look_lec (AH.put_same _ _ _) (by assumption)) (by assumption)) ?_) <;> (try simp -implicitDefEqProofs (disch := omega) only [go_sem, eq_self, decide_true, decide_false, Nat.reduceBEq, Nat.reduceAdd, Nat.reduceSub, Nat.reduceMul, Nat.reduceEqDiff, Nat.reduceLeDiff, Nat.reduceLT, Int.reduceLE, Int.reduceLT, Int.reduceToNat, Int.reduceAdd, Int.reduceEq, Int.reduceNeg, AH.put_ne, strE_len, rvE_length, hl])))
    refine am_loop (fun n a H' => ∃ i : Nat, i + n = ks.length ∧ a = [(0, .sl 1 (strE ks) .no), (1, .sl 7 (rvE l) .no), (11, .ptr kb 0), (12, .int .i64 (mapR ks (l.map tcV)).2), (19, .int .i64 i)] ∧ H' = G ∧ (ks.take i).Nodup) ?_ ks.length ⟨0, by omega, rfl, rfl, by simp⟩
    rintro n a G2 ⟨i, hi, rfl, rfl, hnd⟩
    by_cases hlt : i < ks.length
    · repeat' (first | with_reducible refine am_seq ?_ | with_reducible refine am_block ?_ | ((with_reducible apply am_cond); (case hb => rfl); all_goals (intro hc; (try simp only [reduceCtorEq, decide_eq_true_eq, decide_eq_false_iff_not, Bool.or_eq_true, Bool.and_eq_true, Bool.or_eq_false_iff, Bool.not_eq_true', Bool.not_eq_false', beq_iff_eq] at hc); (try (exfalso; omega)))) | ((first | with_reducible refine am_reg ?_ | with_reducible refine am_drw ?_ | with_reducible refine am_drx ?_ | with_reducible refine am_skip ?_ | with_reducible refine am_exit ?_ | with_reducible refine am_ret ?_ | with_reducible refine And.intro (by first | exact AH.lec_refl _ | assumption | exact AccP.lec (by assumption) | omega) ?_ | with_reducible refine isnE_of (fun hc => ?_) (fun hc => ?_) (fun hc => ?_) | ((first | with_reducible refine gd_not (fun hc => ?_) (fun hc => ?_) | with_reducible refine gd_of (fun hc => ?_) (fun hc => ?_) | with_reducible refine gq_not (fun hc => ?_) (fun hc => ?_) | with_reducible refine gq_of (fun hc => ?_) (fun hc => ?_) | with_reducible refine pickB_of (fun hc => ?_) (fun hc => ?_)) <;> (try simp -implicitDefEqProofs (disch := omega) only [go_sem, eq_self, decide_true, decide_false, Nat.reduceBEq, Nat.reduceAdd, Nat.reduceSub, Nat.reduceMul, Nat.reduceEqDiff, Nat.reduceLeDiff, Nat.reduceLT, Int.reduceLE, Int.reduceLT, Int.reduceToNat, Int.reduceAdd, Int.reduceEq, Int.reduceNeg, AH.put_ne, hc, strE_len, rvE_length]) <;> (try simp only [reduceCtorEq, decide_eq_true_eq, decide_eq_false_iff_not, Bool.or_eq_true, Bool.and_eq_true, Bool.or_eq_false_iff, Bool.not_eq_true', Bool.not_eq_false', beq_iff_eq] at hc) <;> (try (exfalso; omega))) | ((with_reducible refine alloc_intro (fun ko hko => ?_)) <;> (try have hne := fresh_ne (by assumption) hko) <;> (try have hnk := fresh_ne hk hko) <;> (try have hnk2 := fresh_ne hk2 hko) <;> (try simp only [AH.put_none] at hko)) | ((first | (with_reducible refine vapp_accL (by assumption) ?_ (fun v2 H2 hacc hlec => ?_)) | (with_reducible refine vapp_accL (AccP.mono (by assumption) (AccP.le (by assumption))) ?_ (fun v2 H2 hacc hlec => ?_)) | (with_reducible refine vapp_accL (AccP.new (by assumption) (by assumption) _) ?_ (fun v2 H2 hacc hlec => ?_))); · simp only [byteCells_length, List.length_cons, List.length_nil, List.length_map, List.length_append, vE_length, mE_length, strE_len, List.length_take, rvE_length, List.length_map]; omega) | with_reducible refine need_elems (by assumption) ?_ | with_reducible refine vlen_acc (by assumption) ?_ | with_reducible refine need_bytes (by assumption) ?_ | with_reducible refine need_look (by assumption) ?_ | with_reducible refine need_look (look_put (by assumption) (by assumption)) ?_ | with_reducible refine need_look (look_lec (by assumption) (by assumption)) ?_ | with_reducible refine need_look (look_put (AH.put_same _ _ _) (by assumption)) ?_ | with_reducible refine need_look (look_lec (AH.put_same _ _ _) (by assumption)) ?_ | with_reducible refine need_look (look_put (look_put (by assumption) (by assumption)) (by assumption)) ?_ | with_reducible refine need_look (look_lec (look_put (by assumption) (by assumption)) (by assumption)) ?_ | with_reducible refine need_look (look_put (look_lec (by assumption) (by assumption)) (by assumption)) ?_ | with_reducible refine need_look (look_lec (look_lec (by assumption) (by assumption)) (by assumption)) ?_ | with_reducible refine need_look (look_put (look_put (AH.put_same _ _ _) (by assumption)) (by assumption)) ?_ | with_reducible refine need_look (look_lec (look_put (AH.put_same _ _ _) (by assumption)) (by assumption)) ?_ | with_reducible refine need_look (look_put (look_lec (AH.put_same _ _ _) (by assumption)) (by assumption)) ?_ | with_reducible refine need_look (look_lec (look_lec (AH.put_same _ _ _) (by assumption)) (by assumption)) ?_) <;> (try simp -implicitDefEqProofs (disch := omega) only [go_sem, eq_self, decide_true, decide_false, Nat.reduceBEq, Nat.reduceAdd, Nat.reduceSub, Nat.reduceMul, Nat.reduceEqDiff, Nat.reduceLeDiff, Nat.reduceLT, Int.reduceLE, Int.reduceLT, Int.reduceToNat, Int.reduceAdd, Int.reduceEq, Int.reduceNeg, AH.put_ne, strE_len, rvE_length])))
      refine am_loop (fun n a H' => ∃ j : Nat, j + n = i ∧ a = [(0, .sl 1 (strE ks) .no), (1, .sl 7 (rvE l) .no), (11, .ptr kb 0), (12, .int .i64 (mapR ks (l.map tcV)).2), (19, .int .i64 i), (20, .int .i64 j)] ∧ H' = G2 ∧ ks[i] ∉ ks.take j) ?_ i ⟨0, by omega, rfl, rfl, by simp⟩
      rintro m a G3 ⟨j, hj, rfl, rfl, hnot⟩
      by_cases hjl : j < i
      · have hjk : j < ks.length := by omega
        by_cases heq : ks[i] = ks[j]
        · have hnn : ¬ ks.Nodup := fun hn => by
            have := List.pairwise_iff_getElem.1 hn j i hjk hlt hjl
            exact this heq.symm
          have e := mapR_twice (l := l.map tcV) (by rw [List.length_map]; exact hl) hnn
          rw [e] at hk
          repeat' (first | with_reducible refine am_seq ?_ | with_reducible refine am_block ?_ | ((with_reducible apply am_cond); (case hb => rfl); all_goals (intro hc; (try simp only [reduceCtorEq, decide_eq_true_eq, decide_eq_false_iff_not, Bool.or_eq_true, Bool.and_eq_true, Bool.or_eq_false_iff, Bool.not_eq_true', Bool.not_eq_false', beq_iff_eq] at hc); (try (exfalso; omega)))) | ((first | with_reducible refine am_reg ?_ | with_reducible refine am_drw ?_ | with_reducible refine am_drx ?_ | with_reducible refine am_skip ?_ | with_reducible refine am_exit ?_ | with_reducible refine am_ret ?_ | with_reducible refine And.intro (by first | exact AH.lec_refl _ | assumption | exact AccP.lec (by assumption) | omega) ?_ | with_reducible refine isnE_of (fun hc => ?_) (fun hc => ?_) (fun hc => ?_) | ((first | with_reducible refine gd_not (fun hc => ?_) (fun hc => ?_) | with_reducible refine gd_of (fun hc => ?_) (fun hc => ?_) | with_reducible refine gq_not (fun hc => ?_) (fun hc => ?_) | with_reducible refine gq_of (fun hc => ?_) (fun hc => ?_) | with_reducible refine pickB_of (fun hc => ?_) (fun hc => ?_)) <;> (try simp -implicitDefEqProofs (disch := omega) only [go_sem, eq_self, decide_true, decide_false, Nat.reduceBEq, Nat.reduceAdd, Nat.reduceSub, Nat.reduceMul, Nat.reduceEqDiff, Nat.reduceLeDiff, Nat.reduceLT, Int.reduceLE, Int.reduceLT, Int.reduceToNat, Int.reduceAdd, Int.reduceEq, Int.reduceNeg, AH.put_ne, hc, wrap_id, strE_len, strE_get hlt, strE_get hjk, heq, e, hk , kind_nul]) <;> (try simp only [reduceCtorEq, decide_eq_true_eq, decide_eq_false_iff_not, Bool.or_eq_true, Bool.and_eq_true, Bool.or_eq_false_iff, Bool.not_eq_true', Bool.not_eq_false', beq_iff_eq] at hc) <;> (try (exfalso; omega))) | ((with_reducible refine alloc_intro (fun ko hko => ?_)) <;> (try have hne := fresh_ne (by assumption) hko) <;> (try have hnk := fresh_ne hk hko) <;> (try have hnk2 := fresh_ne hk2 hko) <;> (try simp only [AH.put_none] at hko)) | ((first | (with_reducible refine vapp_accL (by assumption) ?_ (fun v2 H2 hacc hlec => ?_)) | (with_reducible refine vapp_accL (AccP.mono (by assumption) (AccP.le (by assumption))) ?_ (fun v2 H2 hacc hlec => ?_)) | (with_reducible refine vapp_accL (AccP.new (by assumption) (by assumption) _) ?_ (fun v2 H2 hacc hlec => ?_))); · simp only [byteCells_length, List.length_cons, List.length_nil, List.length_map, List.length_append, vE_length, mE_length, strE_len, List.length_take, rvE_length, List.length_map]; omega) | with_reducible refine need_elems (by assumption) ?_ | with_reducible refine vlen_acc (by assumption) ?_ | with_reducible refine need_bytes (by assumption) ?_ | (first | with_reducible refine call_of (kind_calls .nul) ?_ | with_reducible refine qcall_of (kind_calls .nul) ?_) | with_reducible refine need_look (by assumption) ?_ | with_reducible refine need_look (look_put (by assumption) (by assumption)) ?_ | with_reducible refine need_look (look_lec (by assumption) (by assumption)) ?_ | with_reducible refine need_look (look_put (AH.put_same _ _ _) (by assumption)) ?_ | with_reducible refine need_look (look_lec (AH.put_same _ _ _) (by assumption)) ?_ | with_reducible refine need_look (look_put (look_put (by assumption) (by assumption)) (by assumption)) ?_ | with_reducible refine need_look (look_lec (look_put (by assumption) (by assumption)) (by assumption)) ?_ | with_reducible refine need_look (look_put (look_lec (by assumption) (by assumption)) (by assumption)) ?_ | with_reducible refine need_look (look_lec (look_lec (by assumption) (by assumption)) (by assumption)) ?_ | with_reducible refine need_look (look_put (look_put (AH.put_same _ _ _) (by assumption)) (by assumption)) ?_ | with_reducible refine need_look (look_lec (look_put (AH.put_same _ _ _) (by assumption)) (by assumption)) ?_ | with_reducible refine need_look (look_put (look_lec (AH.put_same _ _ _) (by assumption)) (by assumption)) ?_ | with_reducible refine need_look (look_lec (look_lec (AH.put_same _ _ _) (by assumption)) (by assumption)) ?_) <;> (try simp -implicitDefEqProofs (disch := omega) only [go_sem, eq_self, decide_true, decide_false, Nat.reduceBEq, Nat.reduceAdd, Nat.reduceSub, Nat.reduceMul, Nat.reduceEqDiff, Nat.reduceLeDiff, Nat.reduceLT, Int.reduceLE, Int.reduceLT, Int.reduceToNat, Int.reduceAdd, Int.reduceEq, Int.reduceNeg, AH.put_ne, wrap_id, strE_len, strE_get hlt, strE_get hjk, heq, e, hk , kind_nul])))
          all_goals (refine drop_end (by (first | exact fun _ _ h => h | (intro s x h; first | exact no_sub _ h | exact nil_no _ h | exact AccP.sub (by assumption) _ _ h | (refine agg_sub rfl ?_ x h; repeat (first | exact .nil | refine .cons (fun _ h => h) ?_ | refine .cons (fun _ h => nil_no _ h) ?_ | refine .cons (fun _ h => no_sub _ h) ?_ | refine .cons (fun _ h => AccP.sub (by assumption) _ _ h) ?_)) | (refine tuple_sub ?_ x h; repeat (first | exact .nil | refine .cons (fun _ h => h) ?_ | refine .cons (fun _ h => nil_no _ h) ?_ | refine .cons (fun _ h => no_sub _ h) ?_ | refine .cons (fun _ h => AccP.sub (by assumption) _ _ h) ?_ | refine .cons (fun _ h => agg_sub rfl (by repeat (first | exact .nil | refine .cons (fun _ h => h) ?_ | refine .cons (fun _ h => nil_no _ h) ?_ | refine .cons (fun _ h => no_sub _ h) ?_ | refine .cons (fun _ h => AccP.sub (by assumption) _ _ h) ?_)) _ h) ?_))))) (by (repeat (first | exact AH.le_refl _ | assumption | exact AccP.le (by assumption) | refine AH.le_put ?_ (by first | assumption | exact none_of_le (by assumption) (by assumption) | exact And.right (by assumption) | exact And.right (And.right (by assumption))) _ | refine AH.le_trans ?_ (AccP.le (by assumption))))))
        · repeat' (first | with_reducible refine am_seq ?_ | with_reducible refine am_block ?_ | ((with_reducible apply am_cond); (case hb => rfl); all_goals (intro hc; (try simp only [reduceCtorEq, decide_eq_true_eq, decide_eq_false_iff_not, Bool.or_eq_true, Bool.and_eq_true, Bool.or_eq_false_iff, Bool.not_eq_true', Bool.not_eq_false', beq_iff_eq] at hc); (try (exfalso; omega)))) | ((first | with_reducible refine am_reg ?_ | with_reducible refine am_drw ?_ | with_reducible refine am_drx ?_ | with_reducible refine am_skip ?_ | with_reducible refine am_exit ?_ | with_reducible refine am_ret ?_ | with_reducible refine And.intro (by first | exact AH.lec_refl _ | assumption | exact AccP.lec (by assumption) | omega) ?_ | with_reducible refine isnE_of (fun hc => ?_) (fun hc => ?_) (fun hc => ?_) | ((first | with_reducible refine gd_not (fun hc => ?_) (fun hc => ?_) | with_reducible refine gd_of (fun hc => ?_) (fun hc => ?_) | with_reducible refine gq_not (fun hc => ?_) (fun hc => ?_) | with_reducible refine gq_of (fun hc => ?_) (fun hc => ?_) | with_reducible refine pickB_of (fun hc => ?_) (fun hc => ?_)) <;> (try simp -implicitDefEqProofs (disch := omega) only [go_sem, eq_self, decide_true, decide_false, Nat.reduceBEq, Nat.reduceAdd, Nat.reduceSub, Nat.reduceMul, Nat.reduceEqDiff, Nat.reduceLeDiff, Nat.reduceLT, Int.reduceLE, Int.reduceLT, Int.reduceToNat, Int.reduceAdd, Int.reduceEq, Int.reduceNeg, AH.put_ne, hc, wrap_id, strE_len, strE_get hlt, strE_get hjk, heq]) <;> (try simp only [reduceCtorEq, decide_eq_true_eq, decide_eq_false_iff_not, Bool.or_eq_true, Bool.and_eq_true, Bool.or_eq_false_iff, Bool.not_eq_true', Bool.not_eq_false', beq_iff_eq] at hc) <;> (try (exfalso; omega))) | ((with_reducible refine alloc_intro (fun ko hko => ?_)) <;> (try have hne := fresh_ne (by assumption) hko) <;> (try have hnk := fresh_ne hk hko) <;> (try have hnk2 := fresh_ne hk2 hko) <;> (try simp only [AH.put_none] at hko)) | ((first | (with_reducible refine vapp_accL (by assumption) ?_ (fun v2 H2 hacc hlec => ?_)) | (with_reducible refine vapp_accL (AccP.mono (by assumption) (AccP.le (by assumption))) ?_ (fun v2 H2 hacc hlec => ?_)) | (with_reducible refine vapp_accL (AccP.new (by assumption) (by assumption) _) ?_ (fun v2 H2 hacc hlec => ?_))); · simp only [byteCells_length, List.length_cons, List.length_nil, List.length_map, List.length_append, vE_length, mE_length, strE_len, List.length_take, rvE_length, List.length_map]; omega) | with_reducible refine need_elems (by assumption) ?_ | with_reducible refine vlen_acc (by assumption) ?_ | with_reducible refine need_bytes (by assumption) ?_ | with_reducible refine need_look (by assumption) ?_ | with_reducible refine need_look (look_put (by assumption) (by assumption)) ?_ | with_reducible refine need_look (look_lec (by assumption) (by assumption)) ?_ | with_reducible refine need_look (look_put (AH.put_same _ _ _) (by assumption)) ?_ | with_reducible refine need_look (look_lec (AH.put_same _ _ _) (by assumption)) ?_ | with_reducible refine need_look (look_put (look_put (by assumption) (by assumption)) (by assumption)) ?_ | with_reducible refine need_look (look_lec (look_put (by assumption) (by assumption)) (by assumption)) ?_ | with_reducible refine need_look (look_put (look_lec (by assumption) (by assumption)) (by assumption)) ?_ | with_reducible refine need_look (look_lec (look_lec (by assumption) (by assumption)) (by assumption)) ?_ | with_reducible refine need_look (look_put (look_put (AH.put_same _ _ _) (by assumption)) (by assumption)) ?_ | with_reducible refine need_look (look_lec (look_put (AH.put_same _ _ _) (by assumption)) (by assumption)) ?_ | with_reducible refine need_look (look_put (look_lec (AH.put_same _ _ _) (by assumption)) (by assumption)) ?_ | with_reducible refine need_look (look_lec (look_lec (AH.put_same _ _ _) (by assumption)) (by assumption)) ?_) <;> (try simp -implicitDefEqProofs (disch := omega) only [go_sem, eq_self, decide_true, decide_false, Nat.reduceBEq, Nat.reduceAdd, Nat.reduceSub, Nat.reduceMul, Nat.reduceEqDiff, Nat.reduceLeDiff, Nat.reduceLT, Int.reduceLE, Int.reduceLT, Int.reduceToNat, Int.reduceAdd, Int.reduceEq, Int.reduceNeg, AH.put_ne, wrap_id, strE_len, strE_get hlt, strE_get hjk, heq])))
          all_goals exact ⟨m - 1, by omega, j + 1, by omega, rfl, by rw [List.take_succ_eq_append_getElem hjk, List.mem_append, not_or]; exact ⟨hnot, by simpa using heq⟩⟩
      · repeat' (first | with_reducible refine am_seq ?_ | with_reducible refine am_block ?_ | ((with_reducible apply am_cond); (case hb => rfl); all_goals (intro hc; (try simp only [reduceCtorEq, decide_eq_true_eq, decide_eq_false_iff_not, Bool.or_eq_true, Bool.and_eq_true, Bool.or_eq_false_iff, Bool.not_eq_true', Bool.not_eq_false', beq_iff_eq] at hc); (try (exfalso; omega)))) | ((first | with_reducible refine am_reg ?_ | with_reducible refine am_drw ?_ | with_reducible refine am_drx ?_ | with_reducible refine am_skip ?_ | with_reducible refine am_exit ?_ | with_reducible refine am_ret ?_ | with_reducible refine And.intro (by first | exact AH.lec_refl _ | assumption | exact AccP.lec (by assumption) | omega) ?_ | with_reducible refine isnE_of (fun hc => ?_) (fun hc => ?_) (fun hc => ?_) | ((first | with_reducible refine gd_not (fun hc => ?_) (fun hc => ?_) | with_reducible refine gd_of (fun hc => ?_) (fun hc => ?_) | with_reducible refine gq_not (fun hc => ?_) (fun hc => ?_) | with_reducible refine gq_of (fun hc => ?_) (fun hc => ?_) | with_reducible refine pickB_of (fun hc => ?_) (fun hc => ?_)) <;> (try simp -implicitDefEqProofs (disch := omega) only [go_sem, eq_self, decide_true, decide_false, Nat.reduceBEq, Nat.reduceAdd, Nat.reduceSub, Nat.reduceMul, Nat.reduceEqDiff, Nat.reduceLeDiff, Nat.reduceLT, Int.reduceLE, Int.reduceLT, Int.reduceToNat, Int.reduceAdd, Int.reduceEq, Int.reduceNeg, AH.put_ne, hc, wrap_id, strE_len]) <;> (try simp only [reduceCtorEq, decide_eq_true_eq, decide_eq_false_iff_not, Bool.or_eq_true, Bool.and_eq_true, Bool.or_eq_false_iff, Bool.not_eq_true', Bool.not_eq_false', beq_iff_eq] at hc) <;> (try (exfalso; omega))) | ((with_reducible refine alloc_intro (fun ko hko => ?_)) <;> (try have hne := fresh_ne (by assumption) hko) <;> (try have hnk := fresh_ne hk hko) <;> (try have hnk2 := fresh_ne hk2 hko) <;> (try simp only [AH.put_none] at hko)) | ((first | (with_reducible refine vapp_accL (by assumption) ?_ (fun v2 H2 hacc hlec => ?_)) | (with_reducible refine vapp_accL (AccP.mono (by assumption) (AccP.le (by assumption))) ?_ (fun v2 H2 hacc hlec => ?_)) | (with_reducible refine vapp_accL (AccP.new (by assumption) (by assumption) _) ?_ (fun v2 H2 hacc hlec => ?_))); · simp only [byteCells_length, List.length_cons, List.length_nil, List.length_map, List.length_append, vE_length, mE_length, strE_len, List.length_take, rvE_length, List.length_map]; omega) | with_reducible refine need_elems (by assumption) ?_ | with_reducible refine vlen_acc (by assumption) ?_ | with_reducible refine need_bytes (by assumption) ?_ | with_reducible refine need_look (by assumption) ?_ | with_reducible refine need_look (look_put (by assumption) (by assumption)) ?_ | with_reducible refine need_look (look_lec (by assumption) (by assumption)) ?_ | with_reducible refine need_look (look_put (AH.put_same _ _ _) (by assumption)) ?_ | with_reducible refine need_look (look_lec (AH.put_same _ _ _) (by assumption)) ?_ | with_reducible refine need_look (look_put (look_put (by assumption) (by assumption)) (by assumption)) ?_ | with_reducible refine need_look (look_lec (look_put (by assumption) (by assumption)) (by assumption)) ?_ | with_reducible refine need_look (look_put (look_lec (by assumption) (by assumption)) (by assumption)) ?_ | with_reducible refine need_look (look_lec (look_lec (by assumption) (by assumption)) (by assumption)) ?_ | with_reducible refine need_look (look_put (look_put (AH.put_same _ _ _) (by assumption)) (by assumption)) ?_ | with_reducible refine need_look (look_lec (look_put (AH.put_same _ _ _) (by assumption)) (by assumption)) ?_ | with_reducible refine need_look (look_put (look_lec (AH.put_same _ _ _) (by assumption)) (by assumption)) ?_ | with_reducible refine need_look (look_lec (look_lec (AH.put_same _ _ _) (by assumption)) (by assumption)) ?_) <;> (try simp -implicitDefEqProofs (disch := omega) only [go_sem, eq_self, decide_true, decide_false, Nat.reduceBEq, Nat.reduceAdd, Nat.reduceSub, Nat.reduceMul, Nat.reduceEqDiff, Nat.reduceLeDiff, Nat.reduceLT, Int.reduceLE, Int.reduceLT, Int.reduceToNat, Int.reduceAdd, Int.reduceEq, Int.reduceNeg, AH.put_ne, wrap_id, strE_len])))
        all_goals exact ⟨n - 1, by omega, i + 1, by omega, rfl, by rw [List.take_succ_eq_append_getElem hlt, List.nodup_append]; refine ⟨hnd, by simp, fun a ha b hb e => ?_⟩; simp only [List.mem_singleton] at hb; rw [e, hb] at ha; exact hnot (by rw [show j = i by omega]; exact ha)⟩
    · have hn : ks.Nodup := by rw [List.take_of_length_le (by omega)] at hnd; exact hnd
      have e := mapR_ok (l := l.map tcV) (by rw [List.length_map]; exact hl) hn
      rw [e] at hk
      have hun := unlike_calls _ _ (sm_maps hl hn) (ok_maps hl hn hks hf h40)
      repeat' (first | with_reducible refine am_seq ?_ | with_reducible refine am_block ?_ | ((with_reducible apply am_cond); (case hb => rfl); all_goals (intro hc; (try simp only [reduceCtorEq, decide_eq_true_eq, decide_eq_false_iff_not, Bool.or_eq_true, Bool.and_eq_true, Bool.or_eq_false_iff, Bool.not_eq_true', Bool.not_eq_false', beq_iff_eq] at hc); (try (exfalso; omega)))) | ((first | with_reducible refine am_reg ?_ | with_reducible refine am_drw ?_ | with_reducible refine am_drx ?_ | with_reducible refine am_skip ?_ | with_reducible refine am_exit ?_ | with_reducible refine am_ret ?_ | with_reducible refine And.intro (by first | exact AH.lec_refl _ | assumption | exact AccP.lec (by assumption) | omega) ?_ | with_reducible refine isnE_of (fun hc => ?_) (fun hc => ?_) (fun hc => ?_) | ((first | with_reducible refine gd_not (fun hc => ?_) (fun hc => ?_) | with_reducible refine gd_of (fun hc => ?_) (fun hc => ?_) | with_reducible refine gq_not (fun hc => ?_) (fun hc => ?_) | with_reducible refine gq_of (fun hc => ?_) (fun hc => ?_) | with_reducible refine pickB_of (fun hc => ?_) (fun hc => ?_)) <;> (try simp -implicitDefEqProofs (disch := omega) only [go_sem, eq_self, decide_true, decide_false, Nat.reduceBEq, Nat.reduceAdd, Nat.reduceSub, Nat.reduceMul, Nat.reduceEqDiff, Nat.reduceLeDiff, Nat.reduceLT, Int.reduceLE, Int.reduceLT, Int.reduceToNat, Int.reduceAdd, Int.reduceEq, Int.reduceNeg, AH.put_ne, hc, strE_len, rvE_length, hl, e, hk]) <;> (try simp only [reduceCtorEq, decide_eq_true_eq, decide_eq_false_iff_not, Bool.or_eq_true, Bool.and_eq_true, Bool.or_eq_false_iff, Bool.not_eq_true', Bool.not_eq_false', beq_iff_eq] at hc) <;> (try (exfalso; omega))) | ((with_reducible refine alloc_intro (fun ko hko => ?_)) <;> (try have hne := fresh_ne (by assumption) hko) <;> (try have hnk := fresh_ne hk hko) <;> (try have hnk2 := fresh_ne hk2 hko) <;> (try simp only [AH.put_none] at hko)) | ((first | (with_reducible refine vapp_accL (by assumption) ?_ (fun v2 H2 hacc hlec => ?_)) | (with_reducible refine vapp_accL (AccP.mono (by assumption) (AccP.le (by assumption))) ?_ (fun v2 H2 hacc hlec => ?_)) | (with_reducible refine vapp_accL (AccP.new (by assumption) (by assumption) _) ?_ (fun v2 H2 hacc hlec => ?_))); · simp only [byteCells_length, List.length_cons, List.length_nil, List.length_map, List.length_append, vE_length, mE_length, strE_len, List.length_take, rvE_length, List.length_map]; omega) | with_reducible refine need_elems (by assumption) ?_ | with_reducible refine vlen_acc (by assumption) ?_ | with_reducible refine need_bytes (by assumption) ?_ | (first | with_reducible refine call_of (hcl) ?_ | with_reducible refine qcall_of (hcl) ?_) | (first | with_reducible refine call_at (fun G hl => hun _ _ (nodr_lec hg hl)) ?_ | with_reducible refine qcall_at (fun G hl => hun _ _ (nodr_lec hg hl)) ?_) | with_reducible refine need_look (by assumption) ?_ | with_reducible refine need_look (look_put (by assumption) (by assumption)) ?_ | with_reducible refine need_look (look_lec (by assumption) (by assumption)) ?_ | with_reducible refine need_look (look_put (AH.put_same _ _ _) (by assumption)) ?_ | with_reducible refine need_look (look_lec (AH.put_same _ _ _) (by assumption)) ?_ | with_reducible refine need_look (look_put (look_put (by assumption) (by assumption)) (by assumption)) ?_ | with_reducible refine need_look (look_lec (look_put (by assumption) (by assumption)) (by assumption)) ?_ | with_reducible refine need_look (look_put (look_lec (by assumption) (by assumption)) (by assumption)) ?_ | with_reducible refine need_look (look_lec (look_lec (by assumption) (by assumption)) (by assumption)) ?_ | with_reducible refine need_look (look_put (look_put (AH.put_same _ _ _) (by assumption)) (by assumption)) ?_ | with_reducible refine need_look (look_lec (look_put (AH.put_same _ _ _) (by assumption)) (by assumption)) ?_ | with_reducible refine need_look (look_put (look_lec (AH.put_same _ _ _) (by assumption)) (by assumption)) ?_ | with_reducible refine need_look (look_lec (look_lec (AH.put_same _ _ _) (by assumption)) (by assumption)) ?_) <;> (try simp -implicitDefEqProofs (disch := omega) only [go_sem, eq_self, decide_true, decide_false, Nat.reduceBEq, Nat.reduceAdd, Nat.reduceSub, Nat.reduceMul, Nat.reduceEqDiff, Nat.reduceLeDiff, Nat.reduceLT, Int.reduceLE, Int.reduceLT, Int.reduceToNat, Int.reduceAdd, Int.reduceEq, Int.reduceNeg, AH.put_ne, strE_len, rvE_length, hl, e, hk])))
      all_goals (refine drop_end (by (first | exact fun _ _ h => h | (intro s x h; first | exact no_sub _ h | exact nil_no _ h | exact AccP.sub (by assumption) _ _ h | (refine agg_sub rfl ?_ x h; repeat (first | exact .nil | refine .cons (fun _ h => h) ?_ | refine .cons (fun _ h => nil_no _ h) ?_ | refine .cons (fun _ h => no_sub _ h) ?_ | refine .cons (fun _ h => AccP.sub (by assumption) _ _ h) ?_)) | (refine tuple_sub ?_ x h; repeat (first | exact .nil | refine .cons (fun _ h => h) ?_ | refine .cons (fun _ h => nil_no _ h) ?_ | refine .cons (fun _ h => no_sub _ h) ?_ | refine .cons (fun _ h => AccP.sub (by assumption) _ _ h) ?_ | refine .cons (fun _ h => agg_sub rfl (by repeat (first | exact .nil | refine .cons (fun _ h => h) ?_ | refine .cons (fun _ h => nil_no _ h) ?_ | refine .cons (fun _ h => no_sub _ h) ?_ | refine .cons (fun _ h => AccP.sub (by assumption) _ _ h) ?_)) _ h) ?_))))) (by (repeat (first | exact AH.le_refl _ | assumption | exact AccP.le (by assumption) | refine AH.le_put ?_ (by first | assumption | exact none_of_le (by assumption) (by assumption) | exact And.right (by assumption) | exact And.right (And.right (by assumption))) _ | refine AH.le_trans ?_ (AccP.le (by assumption))))))
  · have e : mapR ks (l.map tcV) = (.nul, 1) := by unfold mapR; rw [if_pos (by rw [List.length_map]; exact hl)]
    rw [e] at hk ⊢
    repeat' (first | with_reducible refine am_seq ?_ | with_reducible refine am_block ?_ | ((with_reducible apply am_cond); (case hb => rfl); all_goals (intro hc; (try simp only [reduceCtorEq, decide_eq_true_eq, decide_eq_false_iff_not, Bool.or_eq_true, Bool.and_eq_true, Bool.or_eq_false_iff, Bool.not_eq_true', Bool.not_eq_false', beq_iff_eq] at hc); (try (exfalso; omega)))) | ((first | with_reducible refine am_reg ?_ | with_reducible refine am_drw ?_ | with_reducible refine am_drx ?_ | with_reducible refine am_skip ?_ | with_reducible refine am_exit ?_ | with_reducible refine am_ret ?_ | with_reducible refine And.intro (by first | exact AH.lec_refl _ | assumption | exact AccP.lec (by assumption) | omega) ?_ | with_reducible refine isnE_of (fun hc => ?_) (fun hc => ?_) (fun hc => ?_) | ((first | with_reducible refine gd_not (fun hc => ?_) (fun hc => ?_) | with_reducible refine gd_of (fun hc => ?_) (fun hc => ?_) | with_reducible refine gq_not (fun hc => ?_) (fun hc => ?_) | with_reducible refine gq_of (fun hc => ?_) (fun hc => ?_) | with_reducible refine pickB_of (fun hc => ?_) (fun hc => ?_)) <;> (try simp -implicitDefEqProofs (disch := omega) only [go_sem, eq_self, decide_true, decide_false, Nat.reduceBEq, Nat.reduceAdd, Nat.reduceSub, Nat.reduceMul, Nat.reduceEqDiff, Nat.reduceLeDiff, Nat.reduceLT, Int.reduceLE, Int.reduceLT, Int.reduceToNat, Int.reduceAdd, Int.reduceEq, Int.reduceNeg, AH.put_ne, hc, strE_len, rvE_length, hl, hk , kind_nul]) <;> (try simp only [reduceCtorEq, decide_eq_true_eq, decide_eq_false_iff_not, Bool.or_eq_true, Bool.and_eq_true, Bool.or_eq_false_iff, Bool.not_eq_true', Bool.not_eq_false', beq_iff_eq] at hc) <;> (try (exfalso; omega))) | ((with_reducible refine alloc_intro (fun ko hko => ?_)) <;> (try have hne := fresh_ne (by assumption) hko) <;> (try have hnk := fresh_ne hk hko) <;> (try have hnk2 := fresh_ne hk2 hko) <;> (try simp only [AH.put_none] at hko)) | ((first | (with_reducible refine vapp_accL (by assumption) ?_ (fun v2 H2 hacc hlec => ?_)) | (with_reducible refine vapp_accL (AccP.mono (by assumption) (AccP.le (by assumption))) ?_ (fun v2 H2 hacc hlec => ?_)) | (with_reducible refine vapp_accL (AccP.new (by assumption) (by assumption) _) ?_ (fun v2 H2 hacc hlec => ?_))); · simp only [byteCells_length, List.length_cons, List.length_nil, List.length_map, List.length_append, vE_length, mE_length, strE_len, List.length_take, rvE_length, List.length_map]; omega) | with_reducible refine need_elems (by assumption) ?_ | with_reducible refine vlen_acc (by assumption) ?_ | with_reducible refine need_bytes (by assumption) ?_ | (first | with_reducible refine call_of (kind_calls .nul) ?_ | with_reducible refine qcall_of (kind_calls .nul) ?_) | with_reducible refine need_look (by assumption) ?_ | with_reducible refine need_look (look_put (by assumption) (by assumption)) ?_ | with_reducible refine need_look (look_lec (by assumption) (by assumption)) ?_ | with_reducible refine need_look (look_put (AH.put_same _ _ _) (by assumption)) ?_ | with_reducible refine need_look (look_lec (AH.put_same _ _ _) (by assumption)) ?_ | with_reducible refine need_look (look_put (look_put (by assumption) (by assumption)) (by assumption)) ?_ | with_reducible refine need_look (look_lec (look_put (by assumption) (by assumption)) (by assumption)) ?_ | with_reducible refine need_look (look_put (look_lec (by assumption) (by assumption)) (by assumption)) ?_ | with_reducible refine need_look (look_lec (look_lec (by assumption) (by assumption)) (by assumption)) ?_ | with_reducible refine need_look (look_put (look_put (AH.put_same _ _ _) (by assumption)) (by assumption)) ?_ | with_reducible refine need_look (look_lec (look_put (AH.put_same _ _ _) (by assumption)) (by assumption)) ?_ | with_reducible refine need_look (look_put (look_lec (AH.put_same _ _ _) (by assumption)) (by assumption)) ?_ | with_reducible refine need_look (look_lec (look_lec (AH.put_same _ _ _) (by assumption)) (by assumption)) ?_) <;> (try simp -implicitDefEqProofs (disch := omega) only [go_sem, eq_self, decide_true, decide_false, Nat.reduceBEq, Nat.reduceAdd, Nat.reduceSub, Nat.reduceMul, Nat.reduceEqDiff, Nat.reduceLeDiff, Nat.reduceLT, Int.reduceLE, Int.reduceLT, Int.reduceToNat, Int.reduceAdd, Int.reduceEq, Int.reduceNeg, AH.put_ne, strE_len, rvE_length, hl, hk , kind_nul])))
    all_goals (refine drop_end (by (first | exact fun _ _ h => h | (intro s x h; first | exact no_sub _ h | exact nil_no _ h | exact AccP.sub (by assumption) _ _ h | (refine agg_sub rfl ?_ x h; repeat (first | exact .nil | refine .cons (fun _ h => h) ?_ | refine .cons (fun _ h => nil_no _ h) ?_ | refine .cons (fun _ h => no_sub _ h) ?_ | refine .cons (fun _ h => AccP.sub (by assumption) _ _ h) ?_)) | (refine tuple_sub ?_ x h; repeat (first | exact .nil | refine .cons (fun _ h => h) ?_ | refine .cons (fun _ h => nil_no _ h) ?_ | refine .cons (fun _ h => no_sub _ h) ?_ | refine .cons (fun _ h => AccP.sub (by assumption) _ _ h) ?_ | refine .cons (fun _ h => agg_sub rfl (by repeat (first | exact .nil | refine .cons (fun _ h => h) ?_ | refine .cons (fun _ h => nil_no _ h) ?_ | refine .cons (fun _ h => no_sub _ h) ?_ | refine .cons (fun _ h => AccP.sub (by assumption) _ _ h) ?_)) _ h) ?_))))) (by (repeat (first | exact AH.le_refl _ | assumption | exact AccP.le (by assumption) | refine AH.le_put ?_ (by first | assumption | exact none_of_le (by assumption) (by assumption) | exact And.right (by assumption) | exact And.right (And.right (by assumption))) _ | refine AH.le_trans ?_ (AccP.le (by assumption))))))
def Stop (p : Prop) : Prop := p
theorem stop {p : Prop} (h : Stop p) : p := h
theorem maps_stop {Q : AExit → A → AH → Prop} {a : A} {H : AH} (h : Stop (AM Try.prog Try.f12.ntmps k12_23 Q a H)) : AM Try.prog Try.f12.ntmps k12_23 Q a H := h
end Go.Proofs.Ytjlphncecdlmcaa
