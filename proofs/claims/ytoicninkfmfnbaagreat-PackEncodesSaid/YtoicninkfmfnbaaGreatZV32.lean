/- Of the walks of this seat: contracts of functions of the given program, proved over the abstract values of the texts Vm. Conditions: as each theorem says. -/
import Derived.Test.YtoicninkfmfnbaaGreatZKGD
import Derived.Test.YtoicninkfmfnbaaGreatZKGB
import Derived.Test.YtoicninkfmfnbaaGreatVm37
set_option linter.unusedVariables false
set_option linter.unusedSimpArgs false
namespace Go.Proofs.YtoicninkfmfnbaaGreat
open Go.Vm Go.Sort
attribute [local go_sem] eq_self decide_true decide_false AH.put_ne
attribute [local go_sem_proc] Nat.reduceBEq Nat.reduceAdd Nat.reduceSub Nat.reduceMul Nat.reduceEqDiff Nat.reduceLeDiff Nat.reduceLT Int.reduceLE Int.reduceLT Int.reduceToNat Int.reduceAdd Int.reduceEq Int.reduceNeg
attribute [local go_sem] List.drop_zero toNat_succ Nat.sub_zero Int.toNat_natCast Option.map_some Int.natCast_nonneg decide_eq_true_eq decide_eq_false_iff_not
/- (flange/value.Value).At -/
abbrev k42_0 : MC :=
 (.seq (.reg [
 vl 22 (.load true 1 (.t 8)),
 mv 23 9,
 ⟨none, none, .store 1 (.t 4) (.t 22)⟩,
 mv 5 23] [4, 5]) (.ret))
abbrev k42_1 : MC :=
 (.seq (.reg [
 mv 17 6,
 mv 18 1,
 vl 19 (.yo (.look .str (.agg [.nilIface]) true) [(.t 17), (.t 18)]),
 mv 16 19,
 vl 20 (.ext (.t 16) 0),
 vl 21 (.ext (.t 16) 1),
 ⟨some 8, none, .zalloc [.nilIface]⟩,
 ⟨none, none, .store 1 (.t 8) (.t 20)⟩,
 mv 9 21] [4, 8, 9]) k42_0)
abbrev k42_2 : MC :=
 (.seq (.reg [
 vl 11 (.faddr 0 (.t 2)),
 vl 12 (.load false 1 (.t 11)),
 vl 13 (.tya 92 true .nilMap (.t 12)),
 mv 10 13,
 vl 14 (.ext (.t 10) 0),
 vl 15 (.ext (.t 10) 1),
 mv 6 14,
 mv 7 15] [1, 4, 6]) k42_1)
abbrev k42 : MC :=
 (.seq (.reg [
 ⟨some 2, none, .boxi (.t 0)⟩,
 ⟨some 4, none, .zalloc [.nilIface]⟩,
 vl 5 (.mv (.c (.bool false)))] [1, 2, 4]) k42_2)
theorem c42 : Tryz.f42.body.bind (mcOf Tryz.prog (List.contains [2] ·) (List.getD [([], [1, 2, 4]), ([], [1, 4, 6]), ([], [4, 8, 9]), ([], [4, 5])] · ([], [])) 24) = some k42 := by kernel_rfl
theorem r42 : rvsOf Tryz.prog Tryz.f42.results.toList = some [.cell 4 true 1, .tmp 5] := by kernel_rfl
/- flange/flangelaw04.Unlike -/
abbrev k13_0 : MC :=
 .cond (.t 110) ((.seq (.reg [
 vl 4 (.mv (.c (.int .i64 1)))] [4]) (.ret))) (.skip)
abbrev k13_1 : MC :=
 .cond (.t 136) ((.seq (.reg [
 vl 4 (.mv (.c (.int .i64 1)))] [4]) (.ret))) (.skip)
abbrev k13_2 : MC :=
 .cond (.t 140) (.skip) (.exit 0)
abbrev k13_3 : MC :=
 .cond (.t 179) (.reg [
 mv 180 16,
 vl 181 (.bin .add .num (.t 180) (.c (.int .i64 1))),
 mv 16 181] [2, 3, 14, 15, 16, 17]) (.skip)
abbrev k13_4 : MC :=
 (.seq (.drw [
 mv 156 15,
 mv 157 17,
 vl 158 (.iaddr 1 (.t 156) (.t 157)),
 vl 159 (.load false 1 (.t 158)),
 vl 160 (.faddr 6 (.t 3)),
 vl 161 (.load false 1 (.t 160)),
 mv 162 17,
 vl 163 (.iaddr 1 (.t 161) (.t 162)),
 vl 164 (.load false 1 (.t 163)),
 vl 165 (.bin .neq .num (.t 159) (.t 164)),
 mv 166 165,
 ⟨some 167, (some (166, false)), .val (.mv (.t 19))⟩,
 ⟨some 168, (some (166, false)), .val (.not (.t 167))⟩,
 vl 169 (.pick (.t 166) (.c (.bool true)) (.t 168)),
 mv 170 169,
 ⟨some 171, (some (170, false)), .val (.load true 1 (.t 18))⟩,
 ⟨some 172, (some (170, false)), .val (.faddr 5 (.t 3))⟩,
 ⟨some 173, (some (170, false)), .val (.load false 1 (.t 172))⟩,
 ⟨some 174, (some (170, false)), .val (.mv (.t 17))⟩,
 ⟨some 175, (some (170, false)), .val (.iaddr 7 (.t 173) (.t 174))⟩,
 ⟨some 176, (some (170, false)), .val (.load true 7 (.t 175))⟩,
 ⟨some 177, (some (170, false)), .call 13 [(.t 171), (.t 176)]⟩,
 ⟨some 178, (some (170, false)), .val (.bin .gtr .num (.t 177) (.c (.int .i64 0)))⟩,
 vl 179 (.pick (.t 170) (.c (.bool true)) (.t 178))] [] [2, 3, 14, 15, 16, 17, 179]) k13_3)
abbrev k13_5 : MC :=
 .cond (.t 145) ((.seq (.drw [
 vl 147 (.load true 1 (.t 2)),
 vl 148 (.faddr 6 (.t 3)),
 vl 149 (.load false 1 (.t 148)),
 mv 150 17,
 vl 151 (.iaddr 1 (.t 149) (.t 150)),
 vl 152 (.load false 1 (.t 151)),
 ⟨some 153, none, .call 42 [(.t 147), (.t 152)]⟩,
 mv 146 153,
 vl 154 (.ext (.t 146) 0),
 vl 155 (.ext (.t 146) 1),
 mv 19 155] [
 ⟨some 18, none, .zalloc [.nilIface]⟩,
 ⟨none, none, .store 1 (.t 18) (.t 154)⟩] [2, 3, 14, 15, 16, 17, 18, 19]) k13_4)) (.skip)
abbrev k13_6 : MC :=
 .drw [
 mv 182 16,
 mv 183 14,
 mv 184 17,
 vl 185 (.iaddr 1 (.t 183) (.t 184)),
 vl 186 (.load true 1 (.t 185)),
 vl 187 (.faddr 5 (.t 3)),
 vl 188 (.load false 1 (.t 187)),
 mv 189 17,
 vl 190 (.iaddr 7 (.t 188) (.t 189)),
 vl 191 (.load true 7 (.t 190)),
 ⟨some 192, none, .call 13 [(.t 186), (.t 191)]⟩,
 vl 193 (.bin .add .num (.t 182) (.t 192)),
 mv 16 193] [] [2, 3, 14, 15, 16, 17]
abbrev k13_7 : MC :=
 .reg [
 mv 141 17,
 vl 142 (.bin .add .num (.t 141) (.c (.int .i64 1))),
 mv 17 142] [2, 3, 14, 15, 16, 17]
abbrev k13_8 : MC :=
 (.seq (.block 1 ((.seq ((.seq (.reg [
 vl 143 (.faddr 0 (.t 3)),
 vl 144 (.load false 1 (.t 143)),
 vl 145 (.bin .eql .num (.t 144) (.c (.int .i64 7)))] [2, 3, 14, 15, 16, 17, 145]) k13_5)) k13_6))) k13_7)
abbrev k13_9 : MC :=
 (.seq ((.seq (.reg [
 mv 137 17,
 mv 138 14,
 vl 139 (.len .sl (.t 138)),
 vl 140 (.bin .lss .num (.t 137) (.t 139))] [2, 3, 14, 15, 16, 17, 140]) k13_2)) k13_8)
abbrev k13_10 : MC :=
 .block 0 (.loop k13_9)
abbrev k13_11 : MC :=
 (.seq (.reg [
 mv 194 16,
 mv 4 194] [4]) (.ret))
abbrev k13_12 : MC :=
 (.seq ((.seq (.reg [
 vl 17 (.mv (.c (.int .i64 0)))] [2, 3, 14, 15, 16, 17]) k13_10)) k13_11)
abbrev k13_13 : MC :=
 (.seq (.reg [
 vl 16 (.mv (.c (.int .i64 0)))] [2, 3, 14, 15, 16]) k13_12)
abbrev k13_14 : MC :=
 (.seq ((.seq (.reg [
 vl 111 (.faddr 0 (.t 3)),
 vl 112 (.load false 1 (.t 111)),
 vl 113 (.bin .eql .num (.t 112) (.c (.int .i64 3))),
 mv 114 113,
 ⟨some 115, (some (114, true)), .val (.mv (.t 7))⟩,
 ⟨some 116, (some (114, true)), .val (.faddr 2 (.t 3))⟩,
 ⟨some 117, (some (114, true)), .val (.load false 1 (.t 116))⟩,
 ⟨some 118, (some (114, true)), .val (.bin .neq .num (.t 115) (.t 117))⟩,
 vl 119 (.pick (.t 114) (.t 118) (.c (.bool false))),
 mv 120 119,
 ⟨some 121, (some (120, false)), .val (.faddr 0 (.t 3))⟩,
 ⟨some 122, (some (120, false)), .val (.load false 1 (.t 121))⟩,
 ⟨some 123, (some (120, false)), .val (.bin .eql .num (.t 122) (.c (.int .i64 4)))⟩,
 ⟨some 124, (some (120, false)), .val (.mv (.t 123))⟩,
 ⟨some 125, (some (124, true)), .val (.mv (.t 9))⟩,
 ⟨some 126, (some (124, true)), .val (.faddr 2 (.t 3))⟩,
 ⟨some 127, (some (124, true)), .val (.load false 1 (.t 126))⟩,
 ⟨some 128, (some (124, true)), .val (.bin .neq .num (.t 125) (.t 127))⟩,
 ⟨some 129, (some (124, true)), .val (.mv (.t 128))⟩,
 ⟨some 130, (some (129, false)), .val (.mv (.t 10))⟩,
 ⟨some 131, (some (129, false)), .val (.faddr 3 (.t 3))⟩,
 ⟨some 132, (some (129, false)), .val (.load false 1 (.t 131))⟩,
 ⟨some 133, (some (129, false)), .val (.bin .neq .num (.t 130) (.t 132))⟩,
 ⟨some 134, (some (124, true)), .val (.pick (.t 129) (.c (.bool true)) (.t 133))⟩,
 ⟨some 135, (some (120, false)), .val (.pick (.t 124) (.t 134) (.c (.bool false)))⟩,
 vl 136 (.pick (.t 120) (.c (.bool true)) (.t 135))] [2, 3, 14, 15, 136]) k13_1)) k13_13)
abbrev k13_15 : MC :=
 (.seq ((.seq (.drw [
 vl 45 (.load true 1 (.t 2)),
 ⟨some 46, none, .call 41 [(.t 45)]⟩,
 vl 47 (.faddr 0 (.t 3)),
 vl 48 (.load false 1 (.t 47)),
 vl 49 (.bin .neq .num (.t 46) (.t 48)),
 mv 50 49,
 ⟨some 51, (some (50, false)), .val (.mv (.t 6))⟩,
 ⟨some 52, (some (50, false)), .val (.faddr 0 (.t 3))⟩,
 ⟨some 53, (some (50, false)), .val (.load false 1 (.t 52))⟩,
 ⟨some 54, (some (50, false)), .val (.bin .eql .num (.t 53) (.c (.int .i64 2)))⟩,
 ⟨some 55, (some (50, false)), .val (.bin .neq .bool (.t 51) (.t 54))⟩,
 vl 56 (.pick (.t 50) (.c (.bool true)) (.t 55)),
 mv 57 56,
 ⟨some 58, (some (57, false)), .val (.mv (.t 8))⟩,
 ⟨some 59, (some (57, false)), .val (.faddr 0 (.t 3))⟩,
 ⟨some 60, (some (57, false)), .val (.load false 1 (.t 59))⟩,
 ⟨some 61, (some (57, false)), .val (.bin .eql .num (.t 60) (.c (.int .i64 3)))⟩,
 ⟨some 62, (some (57, false)), .val (.bin .neq .bool (.t 58) (.t 61))⟩,
 vl 63 (.pick (.t 57) (.c (.bool true)) (.t 62)),
 mv 64 63,
 ⟨some 65, (some (64, false)), .val (.mv (.t 11))⟩,
 ⟨some 66, (some (64, false)), .val (.faddr 0 (.t 3))⟩,
 ⟨some 67, (some (64, false)), .val (.load false 1 (.t 66))⟩,
 ⟨some 68, (some (64, false)), .val (.bin .eql .num (.t 67) (.c (.int .i64 4)))⟩,
 ⟨some 69, (some (64, false)), .val (.bin .neq .bool (.t 65) (.t 68))⟩,
 vl 70 (.pick (.t 64) (.c (.bool true)) (.t 69)),
 mv 71 70,
 ⟨some 72, (some (71, false)), .val (.mv (.t 13))⟩,
 ⟨some 73, (some (71, false)), .val (.faddr 0 (.t 3))⟩,
 ⟨some 74, (some (71, false)), .val (.load false 1 (.t 73))⟩,
 ⟨some 75, (some (71, false)), .val (.bin .eql .num (.t 74) (.c (.int .i64 5)))⟩,
 ⟨some 76, (some (71, false)), .val (.bin .neq .bool (.t 72) (.t 75))⟩,
 vl 77 (.pick (.t 71) (.c (.bool true)) (.t 76)),
 mv 78 77,
 ⟨some 79, (some (78, false)), .val (.mv (.t 5))⟩,
 ⟨some 80, (some (78, false)), .val (.faddr 0 (.t 3))⟩,
 ⟨some 81, (some (78, false)), .val (.load false 1 (.t 80))⟩,
 ⟨some 82, (some (78, false)), .val (.bin .eql .num (.t 81) (.c (.int .i64 2)))⟩,
 ⟨some 83, (some (78, false)), .val (.mv (.t 82))⟩,
 ⟨some 84, (some (83, true)), .val (.faddr 1 (.t 3))⟩,
 ⟨some 85, (some (83, true)), .val (.load false 1 (.t 84))⟩,
 ⟨some 86, (some (78, false)), .val (.pick (.t 83) (.t 85) (.c (.bool false)))⟩,
 ⟨some 87, (some (78, false)), .val (.bin .neq .bool (.t 79) (.t 86))⟩,
 vl 88 (.pick (.t 78) (.c (.bool true)) (.t 87)),
 mv 89 88,
 ⟨some 90, (some (89, false)), .val (.mv (.t 12))⟩,
 ⟨some 91, (some (89, false)), .val (.faddr 4 (.t 3))⟩,
 ⟨some 92, (some (89, false)), .val (.load false 1 (.t 91))⟩,
 ⟨some 93, (some (89, false)), .val (.bin .neq .num (.t 90) (.t 92))⟩,
 vl 94 (.pick (.t 89) (.c (.bool true)) (.t 93)),
 mv 95 94,
 ⟨some 96, (some (95, false)), .val (.mv (.t 14))⟩,
 ⟨some 97, (some (95, false)), .val (.len .sl (.t 96))⟩,
 ⟨some 98, (some (95, false)), .val (.faddr 5 (.t 3))⟩,
 ⟨some 99, (some (95, false)), .val (.load false 1 (.t 98))⟩,
 ⟨some 100, (some (95, false)), .val (.len .sl (.t 99))⟩,
 ⟨some 101, (some (95, false)), .val (.bin .neq .num (.t 97) (.t 100))⟩,
 vl 102 (.pick (.t 95) (.c (.bool true)) (.t 101)),
 mv 103 102,
 ⟨some 104, (some (103, false)), .val (.mv (.t 15))⟩,
 ⟨some 105, (some (103, false)), .val (.len .sl (.t 104))⟩,
 ⟨some 106, (some (103, false)), .val (.faddr 6 (.t 3))⟩,
 ⟨some 107, (some (103, false)), .val (.load false 1 (.t 106))⟩,
 ⟨some 108, (some (103, false)), .val (.len .sl (.t 107))⟩,
 ⟨some 109, (some (103, false)), .val (.bin .neq .num (.t 105) (.t 108))⟩,
 vl 110 (.pick (.t 103) (.c (.bool true)) (.t 109))] [] [2, 3, 7, 9, 10, 14, 15, 110]) k13_0)) k13_14)
abbrev k13_16 : MC :=
 (.seq (.drw [
 vl 41 (.load true 1 (.t 2)),
 ⟨some 42, none, .call 39 [(.t 41)]⟩,
 vl 43 (.load true 1 (.t 2)),
 ⟨some 44, none, .call 40 [(.t 43)]⟩,
 mv 14 42,
 mv 15 44] [] [2, 3, 5, 6, 7, 8, 9, 10, 11, 12, 13, 14, 15]) k13_15)
abbrev k13_17 : MC :=
 (.seq (.reg [
 vl 37 (.load true 1 (.t 2)),
 ⟨some 38, none, .call 38 [(.t 37)]⟩,
 mv 36 38,
 vl 39 (.ext (.t 36) 0),
 vl 40 (.ext (.t 36) 1),
 mv 12 39,
 mv 13 40] [2, 3, 5, 6, 7, 8, 9, 10, 11, 12, 13]) k13_16)
abbrev k13_18 : MC :=
 (.seq (.reg [
 vl 31 (.load true 1 (.t 2)),
 ⟨some 32, none, .call 37 [(.t 31)]⟩,
 mv 30 32,
 vl 33 (.ext (.t 30) 0),
 vl 34 (.ext (.t 30) 1),
 vl 35 (.ext (.t 30) 2),
 mv 9 33,
 mv 10 34,
 mv 11 35] [2, 3, 5, 6, 7, 8, 9, 10, 11]) k13_17)
abbrev k13_19 : MC :=
 (.seq (.reg [
 vl 26 (.load true 1 (.t 2)),
 ⟨some 27, none, .call 20 [(.t 26)]⟩,
 mv 25 27,
 vl 28 (.ext (.t 25) 0),
 vl 29 (.ext (.t 25) 1),
 mv 7 28,
 mv 8 29] [2, 3, 5, 6, 7, 8]) k13_18)
abbrev k13_20 : MC :=
 (.seq (.reg [
 vl 21 (.load true 1 (.t 2)),
 ⟨some 22, none, .call 36 [(.t 21)]⟩,
 mv 20 22,
 vl 23 (.ext (.t 20) 0),
 vl 24 (.ext (.t 20) 1),
 mv 5 23,
 mv 6 24] [2, 3, 5, 6]) k13_19)
abbrev k13 : MC :=
 (.seq (.reg [
 ⟨some 2, none, .boxi (.t 0)⟩,
 ⟨some 3, none, .boxi (.t 1)⟩,
 vl 4 (.mv (.c (.int .i64 0)))] [2, 3]) k13_20)
theorem c13 : Tryz.f13.body.bind (mcOf Tryz.prog (List.contains [2, 3] ·) (List.getD [([], [2, 3]), ([], [2, 3, 5, 6]), ([], [2, 3, 5, 6, 7, 8]), ([], [2, 3, 5, 6, 7, 8, 9, 10, 11]), ([], [2, 3, 5, 6, 7, 8, 9, 10, 11, 12, 13]), ([0, 0, 0, 0, 0, 0], [2, 3, 5, 6, 7, 8, 9, 10, 11, 12, 13, 14, 15]), ([0, 0, 0, 0, 0, 0, 0, 0, 0, 0, 0, 0, 0, 0, 0, 0, 0, 0, 0, 0, 0, 0, 0, 0, 0, 0, 0, 0, 0, 0, 0, 0, 0, 0, 0, 0, 0, 0, 0, 0, 0, 0, 0, 0, 0, 0, 0, 0, 0, 0, 0, 0, 0, 0, 0, 0, 0, 0, 0, 0, 0, 0, 0, 0, 0, 0], [2, 3, 7, 9, 10, 14, 15, 110]), ([], [4]), ([], [2, 3, 14, 15, 136]), ([], [4]), ([], [2, 3, 14, 15, 16]), ([], [2, 3, 14, 15, 16, 17]), ([], [2, 3, 14, 15, 16, 17, 140]), ([], [2, 3, 14, 15, 16, 17]), ([], [2, 3, 14, 15, 16, 17, 145]), ([0, 0, 0, 0, 0, 0, 0, 0, 0, 0, 1, 2, 0], [2, 3, 14, 15, 16, 17, 18, 19]), ([0, 0, 0, 0, 0, 0, 0, 0, 0, 0, 0, 0, 0, 0, 0, 0, 0, 0, 0, 0, 0, 0, 0, 0], [2, 3, 14, 15, 16, 17, 179]), ([], [2, 3, 14, 15, 16, 17]), ([0, 0, 0, 0, 0, 0, 0, 0, 0, 0, 0, 0, 0], [2, 3, 14, 15, 16, 17]), ([], [4])] · ([], [])) 195) = some k13 := by kernel_rfl
theorem r13 : rvsOf Tryz.prog Tryz.f13.results.toList = some [.tmp 4] := by kernel_rfl
theorem at_calls (v : Vl) (k : List UInt8) (H : AH) : ACalls Tryz.prog 42 [.agg [vV v], .str k] H (fun o H' => o = .ret (.tuple [.agg [vV ((v.at k).getD .nul)], .bool (v.at k).isSome]) ∧ H' = H) := by
  refine ACalls.drop ?_
  refine acalls Tryz.func42 c42 r42 (by simp [Tryz.ntmps42]) ?_
  by_cases hm : ∃ es, v = .map es
  · obtain ⟨es, rfl⟩ := hm
    rw [vV_map]
    cases h : fnd k es with
    | none =>
      repeat' (first | with_reducible refine go0 ?_ | (with_reducible refine am_cnd ?_ ?_ <;> intro hc <;> try (exfalso; omega)) | ((first | with_reducible (first | refine go1 ?_ | refine vc_intro ?_ | refine need_el ?_ | refine vlen_a ?_ | refine need_by ?_ | refine need_lk ?_) | ((with_reducible refine alloc_intro (fun ko hko => ?_)) <;> (try have hne := fresh_ne (by assumption) hko) <;> (try simp only [AH.put_none] at hko)) | done) <;> (try simp -implicitDefEqProofs (disch := omega) only [go_sem, mE_find, h, true_or, or_true, true_and, Option.map_none])))
      all_goals (simp only [Vl.at, h, Option.getD, Option.isSome, vV_nul]; (refine drop_end (by (first | exact fun _ _ h => h | (intro s x h; first | exact no_sub _ h | exact nil_no _ h | exact AccP.sub (by assumption) _ _ h | (refine agg_sub rfl ?_ x h; repeat (first | exact .nil | refine .cons (fun _ h => h) ?_ | refine .cons (fun _ h => nil_no _ h) ?_ | refine .cons (fun _ h => no_sub _ h) ?_ | refine .cons (fun _ h => AccP.sub (by assumption) _ _ h) ?_)) | (refine tuple_sub ?_ x h; repeat (first | exact .nil | refine .cons (fun _ h => h) ?_ | refine .cons (fun _ h => nil_no _ h) ?_ | refine .cons (fun _ h => no_sub _ h) ?_ | refine .cons (fun _ h => AccP.sub (by assumption) _ _ h) ?_ | refine .cons (fun _ h => agg_sub rfl (by repeat (first | exact .nil | refine .cons (fun _ h => h) ?_ | refine .cons (fun _ h => nil_no _ h) ?_ | refine .cons (fun _ h => no_sub _ h) ?_ | refine .cons (fun _ h => AccP.sub (by assumption) _ _ h) ?_)) _ h) ?_))))) (by (repeat (first | exact AH.le_refl _ | assumption | exact AccP.le (by assumption) | refine AH.le_put ?_ (by first | assumption | exact none_of_le (by assumption) (by assumption) | exact And.right (by assumption) | exact And.right (And.right (by assumption))) _ | refine AH.le_trans ?_ (AccP.le (by assumption)))))))
    | some x =>
      repeat' (first | with_reducible refine go0 ?_ | (with_reducible refine am_cnd ?_ ?_ <;> intro hc <;> try (exfalso; omega)) | ((first | with_reducible (first | refine go1 ?_ | refine vc_intro ?_ | refine need_el ?_ | refine vlen_a ?_ | refine need_by ?_ | refine need_lk ?_) | ((with_reducible refine alloc_intro (fun ko hko => ?_)) <;> (try have hne := fresh_ne (by assumption) hko) <;> (try simp only [AH.put_none] at hko)) | done) <;> (try simp -implicitDefEqProofs (disch := omega) only [go_sem, mE_find, h, true_or, or_true, true_and])))
      all_goals (simp only [Vl.at, h, Option.getD, Option.isSome, vV_nul]; (refine drop_end (by (first | exact fun _ _ h => h | (intro s x h; first | exact no_sub _ h | exact nil_no _ h | exact AccP.sub (by assumption) _ _ h | (refine agg_sub rfl ?_ x h; repeat (first | exact .nil | refine .cons (fun _ h => h) ?_ | refine .cons (fun _ h => nil_no _ h) ?_ | refine .cons (fun _ h => no_sub _ h) ?_ | refine .cons (fun _ h => AccP.sub (by assumption) _ _ h) ?_)) | (refine tuple_sub ?_ x h; repeat (first | exact .nil | refine .cons (fun _ h => h) ?_ | refine .cons (fun _ h => nil_no _ h) ?_ | refine .cons (fun _ h => no_sub _ h) ?_ | refine .cons (fun _ h => AccP.sub (by assumption) _ _ h) ?_ | refine .cons (fun _ h => agg_sub rfl (by repeat (first | exact .nil | refine .cons (fun _ h => h) ?_ | refine .cons (fun _ h => nil_no _ h) ?_ | refine .cons (fun _ h => no_sub _ h) ?_ | refine .cons (fun _ h => AccP.sub (by assumption) _ _ h) ?_)) _ h) ?_))))) (by (repeat (first | exact AH.le_refl _ | assumption | exact AccP.le (by assumption) | refine AH.le_put ?_ (by first | assumption | exact none_of_le (by assumption) (by assumption) | exact And.right (by assumption) | exact And.right (And.right (by assumption))) _ | refine AH.le_trans ?_ (AccP.le (by assumption)))))))
  · have h : v.at k = none := by cases v <;> first | rfl | exact absurd ⟨_, rfl⟩ hm
    simp only [h, Option.getD, Option.isSome, vV_nul]
    cases v
    case map es => exact absurd ⟨_, rfl⟩ hm
    all_goals simp only [vV_nul, vV_unk, vV_bool, vV_int, vV_pt, vV_text, vV_list, vV_map]
    repeat' (first | with_reducible refine go0 ?_ | (with_reducible refine am_cnd ?_ ?_ <;> intro hc <;> try (exfalso; omega)) | ((first | with_reducible (first | refine go1 ?_ | refine vc_intro ?_ | refine need_el ?_ | refine vlen_a ?_ | refine need_by ?_ | refine need_lk ?_) | ((with_reducible refine alloc_intro (fun ko hko => ?_)) <;> (try have hne := fresh_ne (by assumption) hko) <;> (try simp only [AH.put_none] at hko)) | done) <;> (try simp -implicitDefEqProofs (disch := omega) only [go_sem, true_or, or_true, true_and])))
    all_goals (refine drop_end (by (first | exact fun _ _ h => h | (intro s x h; first | exact no_sub _ h | exact nil_no _ h | exact AccP.sub (by assumption) _ _ h | (refine agg_sub rfl ?_ x h; repeat (first | exact .nil | refine .cons (fun _ h => h) ?_ | refine .cons (fun _ h => nil_no _ h) ?_ | refine .cons (fun _ h => no_sub _ h) ?_ | refine .cons (fun _ h => AccP.sub (by assumption) _ _ h) ?_)) | (refine tuple_sub ?_ x h; repeat (first | exact .nil | refine .cons (fun _ h => h) ?_ | refine .cons (fun _ h => nil_no _ h) ?_ | refine .cons (fun _ h => no_sub _ h) ?_ | refine .cons (fun _ h => AccP.sub (by assumption) _ _ h) ?_ | refine .cons (fun _ h => agg_sub rfl (by repeat (first | exact .nil | refine .cons (fun _ h => h) ?_ | refine .cons (fun _ h => nil_no _ h) ?_ | refine .cons (fun _ h => no_sub _ h) ?_ | refine .cons (fun _ h => AccP.sub (by assumption) _ _ h) ?_)) _ h) ?_))))) (by (repeat (first | exact AH.le_refl _ | assumption | exact AccP.le (by assumption) | refine AH.le_put ?_ (by first | assumption | exact none_of_le (by assumption) (by assumption) | exact And.right (by assumption) | exact And.right (And.right (by assumption))) _ | refine AH.le_trans ?_ (AccP.le (by assumption))))))
theorem unlike_loop {m : Rv} {v : Vl} (hf : m.L.length * 16 ≤ 100000000000000) (ho : v.Ok) (hK : v.kind = m.K) (hl : v.items.length = m.L.length) (hk : v.keys = m.Keys) (hi : ∀ i (h : i < v.items.length) (h2 : i < m.L.length), Sm v.items[i] m.L[i])
    (ih : ∀ x ∈ m.L, ∀ (v : Vl), Sm v x → v.Ok → ∀ (g : Nat) (H : AH), H g = some .nodr → ACalls Tryz.prog 13 [.agg [vV v], .agg [.int .i64 x.K, .bool x.B, .int .i64 x.N, .int .i64 x.M, .str x.S, .sl 7 (rvE x.L) .no, .sl 1 (strE x.Keys) .no]] H (fun o H' => o = .ret (.int .i64 0) ∧ H' = H))
    {g : Nat} {H : AH} (hg : H g = some .nodr) :
    AM Tryz.prog Tryz.f13.ntmps (.loop k13_9) (BQ 0 (SQ Tryz.prog Tryz.f13.ntmps k13_11 (Body [RV.tmp 4] fun o H' => (∃ u, o = Out.ret u ∧ ∀ (s : St) (x : Value), s.val u x → s.val (V.int .i64 0) x) ∧ H.le H')))
      [(2, .rptr [vV v] 0), (3, .rptr [.int .i64 m.K, .bool m.B, .int .i64 m.N, .int .i64 m.M, .str m.S, .sl 7 (rvE m.L) .no, .sl 1 (strE m.Keys) .no] 0), (14, .sl 1 (vE v.items) .no), (15, .sl 1 (strE m.Keys) .no), (16, .int .i64 0), (17, .int .i64 0)] H := by
  refine am_loop (fun n a H' => ∃ i : Nat, i + n = m.L.length ∧ a = [(2, .rptr [vV v] 0), (3, .rptr [.int .i64 m.K, .bool m.B, .int .i64 m.N, .int .i64 m.M, .str m.S, .sl 7 (rvE m.L) .no, .sl 1 (strE m.Keys) .no] 0), (14, .sl 1 (vE v.items) .no), (15, .sl 1 (strE m.Keys) .no), (16, .int .i64 0), (17, .int .i64 i)] ∧ H' g = some .nodr ∧ H.le H') ?_ m.L.length ⟨0, by omega, rfl, hg, AH.le_refl _⟩
  rintro n a H' ⟨i, hin, rfl, hg', hle⟩
  by_cases hlt : i < m.L.length
  · have hlt1 : i < v.items.length := by omega
    have hc1 := ih m.L[i] (List.getElem_mem hlt) v.items[i] (hi i hlt1 hlt) (Ok.items ho _ (List.getElem_mem hlt1))
    by_cases h7 : m.K = 7
    · have hlt2 : i < m.Keys.length := by rw [← hk, ← items_keys (by omega)]; omega
      have hat : v.at m.Keys[i] = some v.items[i] := by
        have := at_key (v := v) (by omega) (i := i) (by rw [hk]; exact hlt2) hlt1
        simpa only [hk] using this
      repeat' (first | with_reducible refine go0 ?_ | (with_reducible refine am_cnd ?_ ?_ <;> intro hc <;> try (exfalso; omega)) | ((first | with_reducible (first | refine go1 ?_ | refine vc_intro ?_ | refine need_el ?_ | refine vlen_a ?_ | refine need_by ?_ | refine call_of (at_calls v _) ?_ | refine qcall_of (at_calls v _) ?_ | refine call_at (fun G hl => hc1 _ _ (nodr_lec hg' hl)) ?_ | refine qcall_at (fun G hl => hc1 _ _ (nodr_lec hg' hl)) ?_ | refine call_at (fun G hl => hc1 _ _ (nodr_lec (look_put hg' hko) hl)) ?_ | refine qcall_at (fun G hl => hc1 _ _ (nodr_lec (look_put hg' hko) hl)) ?_ | refine need_lk ?_) | ((with_reducible (first | apply gd_not | apply gd_of | apply gq_not | apply gq_of | apply pickB_of)) <;> intro hc <;> (try simp -implicitDefEqProofs (disch := omega) only [go_sem, hc, wrap_id, hl, rvE_length, vE_length, strE_len, rvE_get hlt, vE_get hlt1, strE_get hlt2, h7, hat, bne_self_eq_false, Option.getD_some, Option.isSome_some]) <;> (try simp only [reduceCtorEq, bD, beq_iff_eq] at hc) <;> (try (exfalso; omega))) | ((with_reducible refine alloc_intro (fun ko hko => ?_)) <;> (try have hne := fresh_ne (by assumption) hko) <;> (try have hnk := fresh_ne hk hko) <;> (try simp only [AH.put_none] at hko)) | done) <;> (try simp -implicitDefEqProofs (disch := omega) only [go_sem, wrap_id, hl, rvE_length, vE_length, strE_len, rvE_get hlt, vE_get hlt1, strE_get hlt2, h7, hat, bne_self_eq_false, Option.getD_some, Option.isSome_some])))
      all_goals exact ⟨n - 1, by omega, i + 1, by omega, rfl, by first | exact hg' | exact look_put hg' hko, by first | exact hle | exact AH.le_put hle (none_of_le hle hko) _⟩
    · repeat' (first | with_reducible refine go0 ?_ | (with_reducible refine am_cnd ?_ ?_ <;> intro hc <;> try (exfalso; omega)) | ((first | with_reducible (first | refine go1 ?_ | refine vc_intro ?_ | refine need_el ?_ | refine vlen_a ?_ | refine need_by ?_ | refine call_at (fun G hl => hc1 _ _ (nodr_lec hg' hl)) ?_ | refine qcall_at (fun G hl => hc1 _ _ (nodr_lec hg' hl)) ?_ | refine need_lk ?_) | ((with_reducible (first | apply gd_not | apply gd_of | apply gq_not | apply gq_of | apply pickB_of)) <;> intro hc <;> (try simp -implicitDefEqProofs (disch := omega) only [go_sem, hc, wrap_id, hl, rvE_length, vE_length, strE_len, rvE_get hlt, vE_get hlt1, h7, bne_self_eq_false]) <;> (try simp only [reduceCtorEq, bD, beq_iff_eq] at hc) <;> (try (exfalso; omega))) | ((with_reducible refine alloc_intro (fun ko hko => ?_)) <;> (try have hne := fresh_ne (by assumption) hko) <;> (try have hnk := fresh_ne hk hko) <;> (try simp only [AH.put_none] at hko)) | done) <;> (try simp -implicitDefEqProofs (disch := omega) only [go_sem, wrap_id, hl, rvE_length, vE_length, strE_len, rvE_get hlt, vE_get hlt1, h7, bne_self_eq_false])))
      all_goals exact ⟨n - 1, by omega, i + 1, by omega, rfl, hg', hle⟩
  · repeat' (first | with_reducible refine go0 ?_ | (with_reducible refine am_cnd ?_ ?_ <;> intro hc <;> try (exfalso; omega)) | ((first | with_reducible (first | refine go1 ?_ | refine vc_intro ?_ | refine need_el ?_ | refine vlen_a ?_ | refine need_by ?_ | refine need_lk ?_) | ((with_reducible (first | apply gd_not | apply gd_of | apply gq_not | apply gq_of | apply pickB_of)) <;> intro hc <;> (try simp -implicitDefEqProofs (disch := omega) only [go_sem, hc, rvE_length, vE_length, strE_len, hl]) <;> (try simp only [reduceCtorEq, bD, beq_iff_eq] at hc) <;> (try (exfalso; omega))) | ((with_reducible refine alloc_intro (fun ko hko => ?_)) <;> (try have hne := fresh_ne (by assumption) hko) <;> (try have hnk := fresh_ne hk hko) <;> (try simp only [AH.put_none] at hko)) | done) <;> (try simp -implicitDefEqProofs (disch := omega) only [go_sem, rvE_length, vE_length, strE_len, hl])))
    all_goals (refine drop_end (by (first | exact fun _ _ h => h | (intro s x h; first | exact no_sub _ h | exact nil_no _ h | exact AccP.sub (by assumption) _ _ h | (refine agg_sub rfl ?_ x h; repeat (first | exact .nil | refine .cons (fun _ h => h) ?_ | refine .cons (fun _ h => nil_no _ h) ?_ | refine .cons (fun _ h => no_sub _ h) ?_ | refine .cons (fun _ h => AccP.sub (by assumption) _ _ h) ?_)) | (refine tuple_sub ?_ x h; repeat (first | exact .nil | refine .cons (fun _ h => h) ?_ | refine .cons (fun _ h => nil_no _ h) ?_ | refine .cons (fun _ h => no_sub _ h) ?_ | refine .cons (fun _ h => AccP.sub (by assumption) _ _ h) ?_ | refine .cons (fun _ h => agg_sub rfl (by repeat (first | exact .nil | refine .cons (fun _ h => h) ?_ | refine .cons (fun _ h => nil_no _ h) ?_ | refine .cons (fun _ h => no_sub _ h) ?_ | refine .cons (fun _ h => AccP.sub (by assumption) _ _ h) ?_)) _ h) ?_))))) (by (repeat (first | exact AH.le_refl _ | assumption | exact AccP.le (by assumption) | refine AH.le_put ?_ (by first | assumption | exact none_of_le (by assumption) (by assumption) | exact And.right (by assumption) | exact And.right (And.right (by assumption))) _ | refine AH.le_trans ?_ (AccP.le (by assumption))))))
set_option maxRecDepth 4000 in
theorem unlike_0 {m : Rv} {v : Vl} (hf : m.L.length * 16 ≤ 100000000000000) (ho : v.Ok) (hs : Sm v m) (h0 : m.K = 0)
    (ih : ∀ x ∈ m.L, ∀ (v : Vl), Sm v x → v.Ok → ∀ (g : Nat) (H : AH), H g = some .nodr → ACalls Tryz.prog 13 [.agg [vV v], .agg [.int .i64 x.K, .bool x.B, .int .i64 x.N, .int .i64 x.M, .str x.S, .sl 7 (rvE x.L) .no, .sl 1 (strE x.Keys) .no]] H (fun o H' => o = .ret (.int .i64 0) ∧ H' = H))
    {g : Nat} {H : AH} (hg : H g = some .nodr) : ACalls Tryz.prog 13 [.agg [vV v], .agg [.int .i64 m.K, .bool m.B, .int .i64 m.N, .int .i64 m.M, .str m.S, .sl 7 (rvE m.L) .no, .sl 1 (strE m.Keys) .no]] H (fun o H' => o = .ret (.int .i64 0) ∧ H' = H) := by
  refine ACalls.drop ?_
  cases hs with
  | mk _ _ hK hB hS hl hk hN hP hi =>
  have tail := unlike_loop hf ho hK hl hk hi ih hg
  have e1 := isB_kind v
  have e2 := isI_kind v
  have e3 := isP_kind v
  have e4 := isT_kind v
  rw [hK, h0] at e1 e2 e3 e4
  rw [h0] at hK hB tail
  simp only [Int.reduceEq, decide_false, decide_true, Bool.false_and, Bool.true_and] at e1 e2 e3 e4 hB
  refine acalls Tryz.func13 c13 r13 (by simp [Tryz.ntmps13]) ?_
  repeat' (first | with_reducible refine go0 ?_ | (with_reducible refine am_cnd ?_ ?_ <;> intro hc <;> try (exfalso; omega)) | ((first | with_reducible (first | refine go1 ?_ | refine vc_intro ?_ | refine need_el ?_ | refine vlen_a ?_ | refine need_by ?_ | refine call_of (bool_calls v) ?_ | refine qcall_of (bool_calls v) ?_ | refine call_of (int_calls v) ?_ | refine qcall_of (int_calls v) ?_ | refine call_of (point_calls ho) ?_ | refine qcall_of (point_calls ho) ?_ | refine call_of (text_calls v) ?_ | refine qcall_of (text_calls v) ?_ | refine call_of (kind_calls v) ?_ | refine qcall_of (kind_calls v) ?_ | refine call_at (fun G hl => items_calls ho (nodr_lec hg hl)) ?_ | refine qcall_at (fun G hl => items_calls ho (nodr_lec hg hl)) ?_ | refine call_at (fun G hl => keys_calls ho (nodr_lec hg hl)) ?_ | refine qcall_at (fun G hl => keys_calls ho (nodr_lec hg hl)) ?_ | refine need_lk ?_) | ((with_reducible (first | apply gd_not | apply gd_of | apply gq_not | apply gq_of | apply pickB_of)) <;> intro hc <;> (try simp -implicitDefEqProofs (disch := omega) only [go_sem, hc, e1, e2, e3, e4, hK, hB, hS, hl, hk, h0, rvE_length, vE_length, strE_len, bne_self_eq_false]) <;> (try simp only [reduceCtorEq, bD, beq_iff_eq] at hc) <;> (try (exfalso; omega))) | ((with_reducible refine alloc_intro (fun ko hko => ?_)) <;> (try have hne := fresh_ne (by assumption) hko) <;> (try have hnk := fresh_ne hk hko) <;> (try simp only [AH.put_none] at hko)) | done) <;> (try simp -implicitDefEqProofs (disch := omega) only [go_sem, e1, e2, e3, e4, hK, hB, hS, hl, hk, h0, rvE_length, vE_length, strE_len, bne_self_eq_false])))
  all_goals exact tail
set_option maxRecDepth 4000 in
theorem unlike_1 {m : Rv} {v : Vl} (hf : m.L.length * 16 ≤ 100000000000000) (ho : v.Ok) (hs : Sm v m) (h0 : m.K = 1)
    (ih : ∀ x ∈ m.L, ∀ (v : Vl), Sm v x → v.Ok → ∀ (g : Nat) (H : AH), H g = some .nodr → ACalls Tryz.prog 13 [.agg [vV v], .agg [.int .i64 x.K, .bool x.B, .int .i64 x.N, .int .i64 x.M, .str x.S, .sl 7 (rvE x.L) .no, .sl 1 (strE x.Keys) .no]] H (fun o H' => o = .ret (.int .i64 0) ∧ H' = H))
    {g : Nat} {H : AH} (hg : H g = some .nodr) : ACalls Tryz.prog 13 [.agg [vV v], .agg [.int .i64 m.K, .bool m.B, .int .i64 m.N, .int .i64 m.M, .str m.S, .sl 7 (rvE m.L) .no, .sl 1 (strE m.Keys) .no]] H (fun o H' => o = .ret (.int .i64 0) ∧ H' = H) := by
  refine ACalls.drop ?_
  cases hs with
  | mk _ _ hK hB hS hl hk hN hP hi =>
  have tail := unlike_loop hf ho hK hl hk hi ih hg
  have e1 := isB_kind v
  have e2 := isI_kind v
  have e3 := isP_kind v
  have e4 := isT_kind v
  rw [hK, h0] at e1 e2 e3 e4
  rw [h0] at hK hB tail
  simp only [Int.reduceEq, decide_false, decide_true, Bool.false_and, Bool.true_and] at e1 e2 e3 e4 hB
  refine acalls Tryz.func13 c13 r13 (by simp [Tryz.ntmps13]) ?_
  repeat' (first | with_reducible refine go0 ?_ | (with_reducible refine am_cnd ?_ ?_ <;> intro hc <;> try (exfalso; omega)) | ((first | with_reducible (first | refine go1 ?_ | refine vc_intro ?_ | refine need_el ?_ | refine vlen_a ?_ | refine need_by ?_ | refine call_of (bool_calls v) ?_ | refine qcall_of (bool_calls v) ?_ | refine call_of (int_calls v) ?_ | refine qcall_of (int_calls v) ?_ | refine call_of (point_calls ho) ?_ | refine qcall_of (point_calls ho) ?_ | refine call_of (text_calls v) ?_ | refine qcall_of (text_calls v) ?_ | refine call_of (kind_calls v) ?_ | refine qcall_of (kind_calls v) ?_ | refine call_at (fun G hl => items_calls ho (nodr_lec hg hl)) ?_ | refine qcall_at (fun G hl => items_calls ho (nodr_lec hg hl)) ?_ | refine call_at (fun G hl => keys_calls ho (nodr_lec hg hl)) ?_ | refine qcall_at (fun G hl => keys_calls ho (nodr_lec hg hl)) ?_ | refine need_lk ?_) | ((with_reducible (first | apply gd_not | apply gd_of | apply gq_not | apply gq_of | apply pickB_of)) <;> intro hc <;> (try simp -implicitDefEqProofs (disch := omega) only [go_sem, hc, e1, e2, e3, e4, hK, hB, hS, hl, hk, h0, rvE_length, vE_length, strE_len, bne_self_eq_false]) <;> (try simp only [reduceCtorEq, bD, beq_iff_eq] at hc) <;> (try (exfalso; omega))) | ((with_reducible refine alloc_intro (fun ko hko => ?_)) <;> (try have hne := fresh_ne (by assumption) hko) <;> (try have hnk := fresh_ne hk hko) <;> (try simp only [AH.put_none] at hko)) | done) <;> (try simp -implicitDefEqProofs (disch := omega) only [go_sem, e1, e2, e3, e4, hK, hB, hS, hl, hk, h0, rvE_length, vE_length, strE_len, bne_self_eq_false])))
  all_goals exact tail
set_option maxRecDepth 4000 in
theorem unlike_2 {m : Rv} {v : Vl} (hf : m.L.length * 16 ≤ 100000000000000) (ho : v.Ok) (hs : Sm v m) (h0 : m.K = 2)
    (ih : ∀ x ∈ m.L, ∀ (v : Vl), Sm v x → v.Ok → ∀ (g : Nat) (H : AH), H g = some .nodr → ACalls Tryz.prog 13 [.agg [vV v], .agg [.int .i64 x.K, .bool x.B, .int .i64 x.N, .int .i64 x.M, .str x.S, .sl 7 (rvE x.L) .no, .sl 1 (strE x.Keys) .no]] H (fun o H' => o = .ret (.int .i64 0) ∧ H' = H))
    {g : Nat} {H : AH} (hg : H g = some .nodr) : ACalls Tryz.prog 13 [.agg [vV v], .agg [.int .i64 m.K, .bool m.B, .int .i64 m.N, .int .i64 m.M, .str m.S, .sl 7 (rvE m.L) .no, .sl 1 (strE m.Keys) .no]] H (fun o H' => o = .ret (.int .i64 0) ∧ H' = H) := by
  refine ACalls.drop ?_
  cases hs with
  | mk _ _ hK hB hS hl hk hN hP hi =>
  have tail := unlike_loop hf ho hK hl hk hi ih hg
  have e1 := isB_kind v
  have e2 := isI_kind v
  have e3 := isP_kind v
  have e4 := isT_kind v
  rw [hK, h0] at e1 e2 e3 e4
  rw [h0] at hK hB tail
  simp only [Int.reduceEq, decide_false, decide_true, Bool.false_and, Bool.true_and] at e1 e2 e3 e4 hB
  cases hBm : m.B
  · rw [hBm] at hB tail
    refine acalls Tryz.func13 c13 r13 (by simp [Tryz.ntmps13]) ?_
    repeat' (first | with_reducible refine go0 ?_ | (with_reducible refine am_cnd ?_ ?_ <;> intro hc <;> try (exfalso; omega)) | ((first | with_reducible (first | refine go1 ?_ | refine vc_intro ?_ | refine need_el ?_ | refine vlen_a ?_ | refine need_by ?_ | refine call_of (bool_calls v) ?_ | refine qcall_of (bool_calls v) ?_ | refine call_of (int_calls v) ?_ | refine qcall_of (int_calls v) ?_ | refine call_of (point_calls ho) ?_ | refine qcall_of (point_calls ho) ?_ | refine call_of (text_calls v) ?_ | refine qcall_of (text_calls v) ?_ | refine call_of (kind_calls v) ?_ | refine qcall_of (kind_calls v) ?_ | refine call_at (fun G hl => items_calls ho (nodr_lec hg hl)) ?_ | refine qcall_at (fun G hl => items_calls ho (nodr_lec hg hl)) ?_ | refine call_at (fun G hl => keys_calls ho (nodr_lec hg hl)) ?_ | refine qcall_at (fun G hl => keys_calls ho (nodr_lec hg hl)) ?_ | refine need_lk ?_) | ((with_reducible (first | apply gd_not | apply gd_of | apply gq_not | apply gq_of | apply pickB_of)) <;> intro hc <;> (try simp -implicitDefEqProofs (disch := omega) only [go_sem, hc, e1, e2, e3, e4, hK, hB, hS, hl, hk, h0, hBm, rvE_length, vE_length, strE_len, bne_self_eq_false]) <;> (try simp only [reduceCtorEq, bD, beq_iff_eq] at hc) <;> (try (exfalso; omega))) | ((with_reducible refine alloc_intro (fun ko hko => ?_)) <;> (try have hne := fresh_ne (by assumption) hko) <;> (try have hnk := fresh_ne hk hko) <;> (try simp only [AH.put_none] at hko)) | done) <;> (try simp -implicitDefEqProofs (disch := omega) only [go_sem, e1, e2, e3, e4, hK, hB, hS, hl, hk, h0, hBm, rvE_length, vE_length, strE_len, bne_self_eq_false])))
    all_goals exact tail
  · rw [hBm] at hB tail
    refine acalls Tryz.func13 c13 r13 (by simp [Tryz.ntmps13]) ?_
    repeat' (first | with_reducible refine go0 ?_ | (with_reducible refine am_cnd ?_ ?_ <;> intro hc <;> try (exfalso; omega)) | ((first | with_reducible (first | refine go1 ?_ | refine vc_intro ?_ | refine need_el ?_ | refine vlen_a ?_ | refine need_by ?_ | refine call_of (bool_calls v) ?_ | refine qcall_of (bool_calls v) ?_ | refine call_of (int_calls v) ?_ | refine qcall_of (int_calls v) ?_ | refine call_of (point_calls ho) ?_ | refine qcall_of (point_calls ho) ?_ | refine call_of (text_calls v) ?_ | refine qcall_of (text_calls v) ?_ | refine call_of (kind_calls v) ?_ | refine qcall_of (kind_calls v) ?_ | refine call_at (fun G hl => items_calls ho (nodr_lec hg hl)) ?_ | refine qcall_at (fun G hl => items_calls ho (nodr_lec hg hl)) ?_ | refine call_at (fun G hl => keys_calls ho (nodr_lec hg hl)) ?_ | refine qcall_at (fun G hl => keys_calls ho (nodr_lec hg hl)) ?_ | refine need_lk ?_) | ((with_reducible (first | apply gd_not | apply gd_of | apply gq_not | apply gq_of | apply pickB_of)) <;> intro hc <;> (try simp -implicitDefEqProofs (disch := omega) only [go_sem, hc, e1, e2, e3, e4, hK, hB, hS, hl, hk, h0, hBm, rvE_length, vE_length, strE_len, bne_self_eq_false]) <;> (try simp only [reduceCtorEq, bD, beq_iff_eq] at hc) <;> (try (exfalso; omega))) | ((with_reducible refine alloc_intro (fun ko hko => ?_)) <;> (try have hne := fresh_ne (by assumption) hko) <;> (try have hnk := fresh_ne hk hko) <;> (try simp only [AH.put_none] at hko)) | done) <;> (try simp -implicitDefEqProofs (disch := omega) only [go_sem, e1, e2, e3, e4, hK, hB, hS, hl, hk, h0, hBm, rvE_length, vE_length, strE_len, bne_self_eq_false])))
    all_goals exact tail
set_option maxRecDepth 4000 in
theorem unlike_3 {m : Rv} {v : Vl} (hf : m.L.length * 16 ≤ 100000000000000) (ho : v.Ok) (hs : Sm v m) (h0 : m.K = 3)
    (ih : ∀ x ∈ m.L, ∀ (v : Vl), Sm v x → v.Ok → ∀ (g : Nat) (H : AH), H g = some .nodr → ACalls Tryz.prog 13 [.agg [vV v], .agg [.int .i64 x.K, .bool x.B, .int .i64 x.N, .int .i64 x.M, .str x.S, .sl 7 (rvE x.L) .no, .sl 1 (strE x.Keys) .no]] H (fun o H' => o = .ret (.int .i64 0) ∧ H' = H))
    {g : Nat} {H : AH} (hg : H g = some .nodr) : ACalls Tryz.prog 13 [.agg [vV v], .agg [.int .i64 m.K, .bool m.B, .int .i64 m.N, .int .i64 m.M, .str m.S, .sl 7 (rvE m.L) .no, .sl 1 (strE m.Keys) .no]] H (fun o H' => o = .ret (.int .i64 0) ∧ H' = H) := by
  refine ACalls.drop ?_
  cases hs with
  | mk _ _ hK hB hS hl hk hN hP hi =>
  have hN' := hN h0
  have tail := unlike_loop hf ho hK hl hk hi ih hg
  have e1 := isB_kind v
  have e2 := isI_kind v
  have e3 := isP_kind v
  have e4 := isT_kind v
  rw [hK, h0] at e1 e2 e3 e4
  rw [h0] at hK hB tail
  simp only [Int.reduceEq, decide_false, decide_true, Bool.false_and, Bool.true_and] at e1 e2 e3 e4 hB
  refine acalls Tryz.func13 c13 r13 (by simp [Tryz.ntmps13]) ?_
  repeat' (first | with_reducible refine go0 ?_ | (with_reducible refine am_cnd ?_ ?_ <;> intro hc <;> try (exfalso; omega)) | ((first | with_reducible (first | refine go1 ?_ | refine vc_intro ?_ | refine need_el ?_ | refine vlen_a ?_ | refine need_by ?_ | refine call_of (bool_calls v) ?_ | refine qcall_of (bool_calls v) ?_ | refine call_of (int_calls v) ?_ | refine qcall_of (int_calls v) ?_ | refine call_of (point_calls ho) ?_ | refine qcall_of (point_calls ho) ?_ | refine call_of (text_calls v) ?_ | refine qcall_of (text_calls v) ?_ | refine call_of (kind_calls v) ?_ | refine qcall_of (kind_calls v) ?_ | refine call_at (fun G hl => items_calls ho (nodr_lec hg hl)) ?_ | refine qcall_at (fun G hl => items_calls ho (nodr_lec hg hl)) ?_ | refine call_at (fun G hl => keys_calls ho (nodr_lec hg hl)) ?_ | refine qcall_at (fun G hl => keys_calls ho (nodr_lec hg hl)) ?_ | refine need_lk ?_) | ((with_reducible (first | apply gd_not | apply gd_of | apply gq_not | apply gq_of | apply pickB_of)) <;> intro hc <;> (try simp -implicitDefEqProofs (disch := omega) only [go_sem, hc, e1, e2, e3, e4, hK, hB, hS, hl, hk, h0, hN', rvE_length, vE_length, strE_len, bne_self_eq_false]) <;> (try simp only [reduceCtorEq, bD, beq_iff_eq] at hc) <;> (try (exfalso; omega))) | ((with_reducible refine alloc_intro (fun ko hko => ?_)) <;> (try have hne := fresh_ne (by assumption) hko) <;> (try have hnk := fresh_ne hk hko) <;> (try simp only [AH.put_none] at hko)) | done) <;> (try simp -implicitDefEqProofs (disch := omega) only [go_sem, e1, e2, e3, e4, hK, hB, hS, hl, hk, h0, hN', rvE_length, vE_length, strE_len, bne_self_eq_false])))
  all_goals exact tail
set_option maxRecDepth 4000 in
theorem unlike_4 {m : Rv} {v : Vl} (hf : m.L.length * 16 ≤ 100000000000000) (ho : v.Ok) (hs : Sm v m) (h0 : m.K = 4)
    (ih : ∀ x ∈ m.L, ∀ (v : Vl), Sm v x → v.Ok → ∀ (g : Nat) (H : AH), H g = some .nodr → ACalls Tryz.prog 13 [.agg [vV v], .agg [.int .i64 x.K, .bool x.B, .int .i64 x.N, .int .i64 x.M, .str x.S, .sl 7 (rvE x.L) .no, .sl 1 (strE x.Keys) .no]] H (fun o H' => o = .ret (.int .i64 0) ∧ H' = H))
    {g : Nat} {H : AH} (hg : H g = some .nodr) : ACalls Tryz.prog 13 [.agg [vV v], .agg [.int .i64 m.K, .bool m.B, .int .i64 m.N, .int .i64 m.M, .str m.S, .sl 7 (rvE m.L) .no, .sl 1 (strE m.Keys) .no]] H (fun o H' => o = .ret (.int .i64 0) ∧ H' = H) := by
  refine ACalls.drop ?_
  cases hs with
  | mk _ _ hK hB hS hl hk hN hP hi =>
  obtain ⟨hP1, hP2⟩ := hP h0
  have tail := unlike_loop hf ho hK hl hk hi ih hg
  have e1 := isB_kind v
  have e2 := isI_kind v
  have e3 := isP_kind v
  have e4 := isT_kind v
  rw [hK, h0] at e1 e2 e3 e4
  rw [h0] at hK hB tail
  simp only [Int.reduceEq, decide_false, decide_true, Bool.false_and, Bool.true_and] at e1 e2 e3 e4 hB
  refine acalls Tryz.func13 c13 r13 (by simp [Tryz.ntmps13]) ?_
  repeat' (first | with_reducible refine go0 ?_ | (with_reducible refine am_cnd ?_ ?_ <;> intro hc <;> try (exfalso; omega)) | ((first | with_reducible (first | refine go1 ?_ | refine vc_intro ?_ | refine need_el ?_ | refine vlen_a ?_ | refine need_by ?_ | refine call_of (bool_calls v) ?_ | refine qcall_of (bool_calls v) ?_ | refine call_of (int_calls v) ?_ | refine qcall_of (int_calls v) ?_ | refine call_of (point_calls ho) ?_ | refine qcall_of (point_calls ho) ?_ | refine call_of (text_calls v) ?_ | refine qcall_of (text_calls v) ?_ | refine call_of (kind_calls v) ?_ | refine qcall_of (kind_calls v) ?_ | refine call_at (fun G hl => items_calls ho (nodr_lec hg hl)) ?_ | refine qcall_at (fun G hl => items_calls ho (nodr_lec hg hl)) ?_ | refine call_at (fun G hl => keys_calls ho (nodr_lec hg hl)) ?_ | refine qcall_at (fun G hl => keys_calls ho (nodr_lec hg hl)) ?_ | refine need_lk ?_) | ((with_reducible (first | apply gd_not | apply gd_of | apply gq_not | apply gq_of | apply pickB_of)) <;> intro hc <;> (try simp -implicitDefEqProofs (disch := omega) only [go_sem, hc, e1, e2, e3, e4, hK, hB, hS, hl, hk, h0, hP1, hP2, rvE_length, vE_length, strE_len, bne_self_eq_false]) <;> (try simp only [reduceCtorEq, bD, beq_iff_eq] at hc) <;> (try (exfalso; omega))) | ((with_reducible refine alloc_intro (fun ko hko => ?_)) <;> (try have hne := fresh_ne (by assumption) hko) <;> (try have hnk := fresh_ne hk hko) <;> (try simp only [AH.put_none] at hko)) | done) <;> (try simp -implicitDefEqProofs (disch := omega) only [go_sem, e1, e2, e3, e4, hK, hB, hS, hl, hk, h0, hP1, hP2, rvE_length, vE_length, strE_len, bne_self_eq_false])))
  all_goals exact tail
set_option maxRecDepth 4000 in
theorem unlike_5 {m : Rv} {v : Vl} (hf : m.L.length * 16 ≤ 100000000000000) (ho : v.Ok) (hs : Sm v m) (h0 : m.K = 5)
    (ih : ∀ x ∈ m.L, ∀ (v : Vl), Sm v x → v.Ok → ∀ (g : Nat) (H : AH), H g = some .nodr → ACalls Tryz.prog 13 [.agg [vV v], .agg [.int .i64 x.K, .bool x.B, .int .i64 x.N, .int .i64 x.M, .str x.S, .sl 7 (rvE x.L) .no, .sl 1 (strE x.Keys) .no]] H (fun o H' => o = .ret (.int .i64 0) ∧ H' = H))
    {g : Nat} {H : AH} (hg : H g = some .nodr) : ACalls Tryz.prog 13 [.agg [vV v], .agg [.int .i64 m.K, .bool m.B, .int .i64 m.N, .int .i64 m.M, .str m.S, .sl 7 (rvE m.L) .no, .sl 1 (strE m.Keys) .no]] H (fun o H' => o = .ret (.int .i64 0) ∧ H' = H) := by
  refine ACalls.drop ?_
  cases hs with
  | mk _ _ hK hB hS hl hk hN hP hi =>
  have tail := unlike_loop hf ho hK hl hk hi ih hg
  have e1 := isB_kind v
  have e2 := isI_kind v
  have e3 := isP_kind v
  have e4 := isT_kind v
  rw [hK, h0] at e1 e2 e3 e4
  rw [h0] at hK hB tail
  simp only [Int.reduceEq, decide_false, decide_true, Bool.false_and, Bool.true_and] at e1 e2 e3 e4 hB
  refine acalls Tryz.func13 c13 r13 (by simp [Tryz.ntmps13]) ?_
  repeat' (first | with_reducible refine go0 ?_ | (with_reducible refine am_cnd ?_ ?_ <;> intro hc <;> try (exfalso; omega)) | ((first | with_reducible (first | refine go1 ?_ | refine vc_intro ?_ | refine need_el ?_ | refine vlen_a ?_ | refine need_by ?_ | refine call_of (bool_calls v) ?_ | refine qcall_of (bool_calls v) ?_ | refine call_of (int_calls v) ?_ | refine qcall_of (int_calls v) ?_ | refine call_of (point_calls ho) ?_ | refine qcall_of (point_calls ho) ?_ | refine call_of (text_calls v) ?_ | refine qcall_of (text_calls v) ?_ | refine call_of (kind_calls v) ?_ | refine qcall_of (kind_calls v) ?_ | refine call_at (fun G hl => items_calls ho (nodr_lec hg hl)) ?_ | refine qcall_at (fun G hl => items_calls ho (nodr_lec hg hl)) ?_ | refine call_at (fun G hl => keys_calls ho (nodr_lec hg hl)) ?_ | refine qcall_at (fun G hl => keys_calls ho (nodr_lec hg hl)) ?_ | refine need_lk ?_) | ((with_reducible (first | apply gd_not | apply gd_of | apply gq_not | apply gq_of | apply pickB_of)) <;> intro hc <;> (try simp -implicitDefEqProofs (disch := omega) only [go_sem, hc, e1, e2, e3, e4, hK, hB, hS, hl, hk, h0, rvE_length, vE_length, strE_len, bne_self_eq_false]) <;> (try simp only [reduceCtorEq, bD, beq_iff_eq] at hc) <;> (try (exfalso; omega))) | ((with_reducible refine alloc_intro (fun ko hko => ?_)) <;> (try have hne := fresh_ne (by assumption) hko) <;> (try have hnk := fresh_ne hk hko) <;> (try simp only [AH.put_none] at hko)) | done) <;> (try simp -implicitDefEqProofs (disch := omega) only [go_sem, e1, e2, e3, e4, hK, hB, hS, hl, hk, h0, rvE_length, vE_length, strE_len, bne_self_eq_false])))
  all_goals exact tail
set_option maxRecDepth 4000 in
theorem unlike_6 {m : Rv} {v : Vl} (hf : m.L.length * 16 ≤ 100000000000000) (ho : v.Ok) (hs : Sm v m) (h0 : m.K = 6)
    (ih : ∀ x ∈ m.L, ∀ (v : Vl), Sm v x → v.Ok → ∀ (g : Nat) (H : AH), H g = some .nodr → ACalls Tryz.prog 13 [.agg [vV v], .agg [.int .i64 x.K, .bool x.B, .int .i64 x.N, .int .i64 x.M, .str x.S, .sl 7 (rvE x.L) .no, .sl 1 (strE x.Keys) .no]] H (fun o H' => o = .ret (.int .i64 0) ∧ H' = H))
    {g : Nat} {H : AH} (hg : H g = some .nodr) : ACalls Tryz.prog 13 [.agg [vV v], .agg [.int .i64 m.K, .bool m.B, .int .i64 m.N, .int .i64 m.M, .str m.S, .sl 7 (rvE m.L) .no, .sl 1 (strE m.Keys) .no]] H (fun o H' => o = .ret (.int .i64 0) ∧ H' = H) := by
  refine ACalls.drop ?_
  cases hs with
  | mk _ _ hK hB hS hl hk hN hP hi =>
  have tail := unlike_loop hf ho hK hl hk hi ih hg
  have e1 := isB_kind v
  have e2 := isI_kind v
  have e3 := isP_kind v
  have e4 := isT_kind v
  rw [hK, h0] at e1 e2 e3 e4
  rw [h0] at hK hB tail
  simp only [Int.reduceEq, decide_false, decide_true, Bool.false_and, Bool.true_and] at e1 e2 e3 e4 hB
  refine acalls Tryz.func13 c13 r13 (by simp [Tryz.ntmps13]) ?_
  repeat' (first | with_reducible refine go0 ?_ | (with_reducible refine am_cnd ?_ ?_ <;> intro hc <;> try (exfalso; omega)) | ((first | with_reducible (first | refine go1 ?_ | refine vc_intro ?_ | refine need_el ?_ | refine vlen_a ?_ | refine need_by ?_ | refine call_of (bool_calls v) ?_ | refine qcall_of (bool_calls v) ?_ | refine call_of (int_calls v) ?_ | refine qcall_of (int_calls v) ?_ | refine call_of (point_calls ho) ?_ | refine qcall_of (point_calls ho) ?_ | refine call_of (text_calls v) ?_ | refine qcall_of (text_calls v) ?_ | refine call_of (kind_calls v) ?_ | refine qcall_of (kind_calls v) ?_ | refine call_at (fun G hl => items_calls ho (nodr_lec hg hl)) ?_ | refine qcall_at (fun G hl => items_calls ho (nodr_lec hg hl)) ?_ | refine call_at (fun G hl => keys_calls ho (nodr_lec hg hl)) ?_ | refine qcall_at (fun G hl => keys_calls ho (nodr_lec hg hl)) ?_ | refine need_lk ?_) | ((with_reducible (first | apply gd_not | apply gd_of | apply gq_not | apply gq_of | apply pickB_of)) <;> intro hc <;> (try simp -implicitDefEqProofs (disch := omega) only [go_sem, hc, e1, e2, e3, e4, hK, hB, hS, hl, hk, h0, rvE_length, vE_length, strE_len, bne_self_eq_false]) <;> (try simp only [reduceCtorEq, bD, beq_iff_eq] at hc) <;> (try (exfalso; omega))) | ((with_reducible refine alloc_intro (fun ko hko => ?_)) <;> (try have hne := fresh_ne (by assumption) hko) <;> (try have hnk := fresh_ne hk hko) <;> (try simp only [AH.put_none] at hko)) | done) <;> (try simp -implicitDefEqProofs (disch := omega) only [go_sem, e1, e2, e3, e4, hK, hB, hS, hl, hk, h0, rvE_length, vE_length, strE_len, bne_self_eq_false])))
  all_goals exact tail
set_option maxRecDepth 4000 in
theorem unlike_7 {m : Rv} {v : Vl} (hf : m.L.length * 16 ≤ 100000000000000) (ho : v.Ok) (hs : Sm v m) (h0 : m.K = 7)
    (ih : ∀ x ∈ m.L, ∀ (v : Vl), Sm v x → v.Ok → ∀ (g : Nat) (H : AH), H g = some .nodr → ACalls Tryz.prog 13 [.agg [vV v], .agg [.int .i64 x.K, .bool x.B, .int .i64 x.N, .int .i64 x.M, .str x.S, .sl 7 (rvE x.L) .no, .sl 1 (strE x.Keys) .no]] H (fun o H' => o = .ret (.int .i64 0) ∧ H' = H))
    {g : Nat} {H : AH} (hg : H g = some .nodr) : ACalls Tryz.prog 13 [.agg [vV v], .agg [.int .i64 m.K, .bool m.B, .int .i64 m.N, .int .i64 m.M, .str m.S, .sl 7 (rvE m.L) .no, .sl 1 (strE m.Keys) .no]] H (fun o H' => o = .ret (.int .i64 0) ∧ H' = H) := by
  refine ACalls.drop ?_
  cases hs with
  | mk _ _ hK hB hS hl hk hN hP hi =>
  have tail := unlike_loop hf ho hK hl hk hi ih hg
  have e1 := isB_kind v
  have e2 := isI_kind v
  have e3 := isP_kind v
  have e4 := isT_kind v
  rw [hK, h0] at e1 e2 e3 e4
  rw [h0] at hK hB tail
  simp only [Int.reduceEq, decide_false, decide_true, Bool.false_and, Bool.true_and] at e1 e2 e3 e4 hB
  refine acalls Tryz.func13 c13 r13 (by simp [Tryz.ntmps13]) ?_
  repeat' (first | with_reducible refine go0 ?_ | (with_reducible refine am_cnd ?_ ?_ <;> intro hc <;> try (exfalso; omega)) | ((first | with_reducible (first | refine go1 ?_ | refine vc_intro ?_ | refine need_el ?_ | refine vlen_a ?_ | refine need_by ?_ | refine call_of (bool_calls v) ?_ | refine qcall_of (bool_calls v) ?_ | refine call_of (int_calls v) ?_ | refine qcall_of (int_calls v) ?_ | refine call_of (point_calls ho) ?_ | refine qcall_of (point_calls ho) ?_ | refine call_of (text_calls v) ?_ | refine qcall_of (text_calls v) ?_ | refine call_of (kind_calls v) ?_ | refine qcall_of (kind_calls v) ?_ | refine call_at (fun G hl => items_calls ho (nodr_lec hg hl)) ?_ | refine qcall_at (fun G hl => items_calls ho (nodr_lec hg hl)) ?_ | refine call_at (fun G hl => keys_calls ho (nodr_lec hg hl)) ?_ | refine qcall_at (fun G hl => keys_calls ho (nodr_lec hg hl)) ?_ | refine need_lk ?_) | ((with_reducible (first | apply gd_not | apply gd_of | apply gq_not | apply gq_of | apply pickB_of)) <;> intro hc <;> (try simp -implicitDefEqProofs (disch := omega) only [go_sem, hc, e1, e2, e3, e4, hK, hB, hS, hl, hk, h0, rvE_length, vE_length, strE_len, bne_self_eq_false]) <;> (try simp only [reduceCtorEq, bD, beq_iff_eq] at hc) <;> (try (exfalso; omega))) | ((with_reducible refine alloc_intro (fun ko hko => ?_)) <;> (try have hne := fresh_ne (by assumption) hko) <;> (try have hnk := fresh_ne hk hko) <;> (try simp only [AH.put_none] at hko)) | done) <;> (try simp -implicitDefEqProofs (disch := omega) only [go_sem, e1, e2, e3, e4, hK, hB, hS, hl, hk, h0, rvE_length, vE_length, strE_len, bne_self_eq_false])))
  all_goals exact tail
theorem unlike_calls : ∀ (m : Rv) (v : Vl), Sm v m → v.Ok → ∀ (g : Nat) (H : AH), H g = some .nodr → ACalls Tryz.prog 13 [.agg [vV v], .agg [.int .i64 m.K, .bool m.B, .int .i64 m.N, .int .i64 m.M, .str m.S, .sl 7 (rvE m.L) .no, .sl 1 (strE m.Keys) .no]] H (fun o H' => o = .ret (.int .i64 0) ∧ H' = H) := by
  refine Rv.ind fun m ih v hs ho g H hg => ?_
  have hf : m.L.length * 16 ≤ 100000000000000 := by
    cases hs with
    | mk _ _ hK hB hS hl hk hN hP hi => rw [← hl]; exact items_len ho
  have hK : v.kind = m.K := by cases hs; assumption
  rcases (show m.K = 0 ∨ m.K = 1 ∨ m.K = 2 ∨ m.K = 3 ∨ m.K = 4 ∨ m.K = 5 ∨ m.K = 6 ∨ m.K = 7 by rw [← hK]; cases v <;> simp [Vl.kind]) with h0 | h0 | h0 | h0 | h0 | h0 | h0 | h0
  · exact unlike_0 hf ho hs h0 ih hg
  · exact unlike_1 hf ho hs h0 ih hg
  · exact unlike_2 hf ho hs h0 ih hg
  · exact unlike_3 hf ho hs h0 ih hg
  · exact unlike_4 hf ho hs h0 ih hg
  · exact unlike_5 hf ho hs h0 ih hg
  · exact unlike_6 hf ho hs h0 ih hg
  · exact unlike_7 hf ho hs h0 ih hg
end Go.Proofs.YtoicninkfmfnbaaGreat
