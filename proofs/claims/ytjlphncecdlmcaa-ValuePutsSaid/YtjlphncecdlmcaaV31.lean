/- Of the walks of this seat: contracts of functions of the given program, proved over the abstract values of the texts Vm. Conditions: as each theorem says. -/
import Derived.Test.YtjlphncecdlmcaaVJ
import Derived.Test.YtjlphncecdlmcaaVI
import Derived.Test.YtjlphncecdlmcaaVD
import Derived.Test.YtjlphncecdlmcaaVE
set_option linter.unusedVariables false
set_option linter.unusedSimpArgs false
namespace Go.Proofs.Ytjlphncecdlmcaa
open Go.Vm Go.Sort
attribute [local go_sem] List.drop_zero toNat_succ Nat.sub_zero Int.toNat_natCast Option.map_some Int.natCast_nonneg decide_eq_true_eq decide_eq_false_iff_not
/- flange/flangelaw04.ValuePuts -/
abbrev k6_0 : MC :=
  .cond (.t 42) ((.seq (.reg [
     ⟨(some 43), none, .call 23 []⟩,
     ⟨(some 8), none, .val (.mv (.t 43))⟩] [8]) (.ret))) (.skip)

abbrev k6_1 : MC :=
  .cond (.t 58) ((.seq (.reg [
     ⟨(some 59), none, .val (.load true 1 (.t 11))⟩,
     ⟨(some 60), none, .call 27 [(.t 59)]⟩,
     ⟨(some 61), none, .val (.bin .eql .num (.t 60) (.c (.int .i64 0)))⟩,
     ⟨(some 8), none, .val (.mv (.t 61))⟩] [8]) (.ret))) (.skip)

abbrev k6_2 : MC :=
  .cond (.t 75) ((.seq (.reg [
     ⟨(some 8), none, .val (.mv (.c (.bool false)))⟩] [8]) (.ret))) (.skip)

abbrev k6_3 : MC :=
  .cond (.t 85) (.skip) (.exit 0)

abbrev k6_4 : MC :=
  .cond (.t 96) (.exit 1) (.skip)

abbrev k6_5 : MC :=
  (.seq (.reg [
    ⟨(some 144), none, .val (.mv (.t 20))⟩,
    ⟨(some 145), none, .val (.not (.t 144))⟩,
    ⟨(some 146), none, .val (.mv (.t 145))⟩,
    ⟨(some 147), (some (146, false)), .val (.mv (.t 17))⟩,
    ⟨(some 148), (some (146, false)), .val (.bin .neq .num (.t 147) (.c (.int .i64 0)))⟩,
    ⟨(some 149), none, .val (.pick (.t 146) (.c (.bool true)) (.t 148))⟩,
    ⟨(some 150), none, .val (.mv (.t 149))⟩,
    ⟨(some 151), (some (150, false)), .val (.mv (.t 19))⟩,
    ⟨(some 152), (some (150, false)), .val (.bin .eql .num (.t 151) (.c (.int .i64 0)))⟩,
    ⟨(some 153), (some (150, false)), .val (.mv (.t 152))⟩,
    ⟨(some 154), (some (153, true)), .val (.load true 1 (.t 16))⟩,
    ⟨(some 155), (some (153, true)), .val (.load true 1 (.t 18))⟩,
    ⟨(some 156), (some (153, true)), .call 29 [(.t 154), (.t 155)]⟩,
    ⟨(some 157), (some (150, false)), .val (.pick (.t 153) (.t 156) (.c (.bool false)))⟩,
    ⟨(some 158), none, .val (.pick (.t 150) (.c (.bool true)) (.t 157))⟩,
    ⟨(some 8), none, .val (.mv (.t 158))⟩] [8]) (.ret))

abbrev k6_6 : MC :=
  (.seq (.drw [
    ⟨(some 109), none, .val (.mv (.t 2))⟩,
    ⟨(some 110), none, .val (.mv (.t 15))⟩,
    ⟨(some 111), none, .val (.iaddr 2 (.t 109) (.t 110))⟩,
    ⟨(some 112), none, .val (.faddr 0 (.t 111))⟩,
    ⟨(some 113), none, .val (.load false 1 (.t 112))⟩,
    ⟨(some 114), none, .val (.mv (.t 3))⟩,
    ⟨(some 115), none, .val (.mv (.t 15))⟩,
    ⟨(some 116), none, .val (.iaddr 2 (.t 114) (.t 115))⟩,
    ⟨(some 117), none, .val (.faddr 0 (.t 116))⟩,
    ⟨(some 118), none, .val (.load false 1 (.t 117))⟩,
    ⟨(some 119), none, .val (.bin .neq .num (.t 113) (.t 118))⟩,
    ⟨(some 120), none, .val (.mv (.t 119))⟩,
    ⟨(some 121), (some (120, false)), .val (.mv (.t 2))⟩,
    ⟨(some 122), (some (120, false)), .val (.mv (.t 15))⟩,
    ⟨(some 123), (some (120, false)), .val (.iaddr 2 (.t 121) (.t 122))⟩,
    ⟨(some 124), (some (120, false)), .val (.faddr 0 (.t 123))⟩,
    ⟨(some 125), (some (120, false)), .val (.load false 1 (.t 124))⟩,
    ⟨(some 126), (some (120, false)), .val (.bin .eql .num (.t 125) (.c (.str [])))⟩,
    ⟨(some 127), (some (120, false)), .val (.mv (.t 126))⟩,
    ⟨(some 128), (some (127, true)), .val (.mv (.t 2))⟩,
    ⟨(some 129), (some (127, true)), .val (.mv (.t 15))⟩,
    ⟨(some 130), (some (127, true)), .val (.iaddr 2 (.t 128) (.t 129))⟩,
    ⟨(some 131), (some (127, true)), .val (.faddr 1 (.t 130))⟩,
    ⟨(some 132), (some (127, true)), .val (.load false 1 (.t 131))⟩,
    ⟨(some 133), (some (127, true)), .val (.bin .geq .num (.t 132) (.c (.int .i64 0)))⟩,
    ⟨(some 134), (some (120, false)), .val (.pick (.t 127) (.t 133) (.c (.bool false)))⟩,
    ⟨(some 135), (some (120, false)), .val (.mv (.t 134))⟩,
    ⟨(some 136), (some (135, true)), .val (.mv (.t 3))⟩,
    ⟨(some 137), (some (135, true)), .val (.mv (.t 15))⟩,
    ⟨(some 138), (some (135, true)), .val (.iaddr 2 (.t 136) (.t 137))⟩,
    ⟨(some 139), (some (135, true)), .val (.faddr 1 (.t 138))⟩,
    ⟨(some 140), (some (135, true)), .val (.load false 1 (.t 139))⟩,
    ⟨(some 141), (some (135, true)), .val (.bin .geq .num (.t 140) (.c (.int .i64 0)))⟩,
    ⟨(some 142), (some (120, false)), .val (.pick (.t 135) (.t 141) (.c (.bool false)))⟩,
    ⟨(some 143), none, .val (.pick (.t 120) (.c (.bool true)) (.t 142))⟩,
    ⟨(some 20), none, .val (.mv (.t 143))⟩] [
] [16, 17, 18, 19, 20]) k6_5)

abbrev k6_7 : MC :=
  (.seq (.reg [
    ⟨(some 104), none, .val (.load true 1 (.t 11))⟩,
    ⟨(some 105), none, .val (.mv (.t 3))⟩,
    ⟨(some 106), none, .call 28 [(.t 104), (.t 105)]⟩,
    ⟨(some 103), none, .val (.mv (.t 106))⟩,
    ⟨(some 107), none, .val (.ext (.t 103) 0)⟩,
    ⟨(some 108), none, .val (.ext (.t 103) 1)⟩,
    ⟨(some 18), none, .zalloc [.nilIface]⟩,
    ⟨none, none, .store 1 (.t 18) (.t 107)⟩,
    ⟨(some 19), none, .val (.mv (.t 108))⟩] [2, 3, 15, 16, 17, 18, 19]) k6_6)

abbrev k6_8 : MC :=
  (.seq (.reg [
    ⟨(some 98), none, .val (.load true 1 (.t 9))⟩,
    ⟨(some 99), none, .val (.mv (.t 3))⟩,
    ⟨(some 100), none, .call 28 [(.t 98), (.t 99)]⟩,
    ⟨(some 97), none, .val (.mv (.t 100))⟩,
    ⟨(some 101), none, .val (.ext (.t 97) 0)⟩,
    ⟨(some 102), none, .val (.ext (.t 97) 1)⟩,
    ⟨(some 16), none, .zalloc [.nilIface]⟩,
    ⟨none, none, .store 1 (.t 16) (.t 101)⟩,
    ⟨(some 17), none, .val (.mv (.t 102))⟩] [2, 3, 11, 15, 16, 17]) k6_7)

abbrev k6_9 : MC :=
  .reg [
    ⟨(some 86), none, .val (.mv (.t 15))⟩,
    ⟨(some 87), none, .val (.bin .add .num (.t 86) (.c (.int .i64 1)))⟩,
    ⟨(some 15), none, .val (.mv (.t 87))⟩] [2, 3, 9, 11, 15]

abbrev k6_10 : MC :=
  (.seq (.block 1 ((.seq ((.seq (.drw [
     ⟨(some 88), none, .val (.mv (.t 2))⟩,
     ⟨(some 89), none, .val (.mv (.t 15))⟩,
     ⟨(some 90), none, .val (.iaddr 2 (.t 88) (.t 89))⟩,
     ⟨(some 91), none, .val (.load true 2 (.t 90))⟩,
     ⟨(some 92), none, .val (.mv (.t 3))⟩,
     ⟨(some 93), none, .val (.mv (.t 15))⟩,
     ⟨(some 94), none, .val (.iaddr 2 (.t 92) (.t 93))⟩,
     ⟨(some 95), none, .val (.load true 2 (.t 94))⟩,
     ⟨(some 96), none, .val (.bin .eql (.cells [.str, .int]) (.t 91) (.t 95))⟩] [
] [2, 3, 9, 11, 15, 96]) k6_4)) k6_8))) k6_9)

abbrev k6_11 : MC :=
  (.seq ((.seq (.reg [
    ⟨(some 76), none, .val (.mv (.t 15))⟩,
    ⟨(some 77), none, .val (.mv (.t 2))⟩,
    ⟨(some 78), none, .val (.len .sl (.t 77))⟩,
    ⟨(some 79), none, .val (.bin .lss .num (.t 76) (.t 78))⟩,
    ⟨(some 80), none, .val (.mv (.t 79))⟩,
    ⟨(some 81), (some (80, true)), .val (.mv (.t 15))⟩,
    ⟨(some 82), (some (80, true)), .val (.mv (.t 3))⟩,
    ⟨(some 83), (some (80, true)), .val (.len .sl (.t 82))⟩,
    ⟨(some 84), (some (80, true)), .val (.bin .lss .num (.t 81) (.t 83))⟩,
    ⟨(some 85), none, .val (.pick (.t 80) (.t 84) (.c (.bool false)))⟩] [2, 3, 9, 11, 15, 85]) k6_3)) k6_10)

abbrev k6_12 : MC :=
  .block 0 (.loop k6_11)

abbrev k6_13 : MC :=
  (.seq (.reg [
    ⟨(some 8), none, .val (.mv (.c (.bool true)))⟩] [8]) (.ret))

abbrev k6_14 : MC :=
  (.seq ((.seq (.reg [
    ⟨(some 15), none, .val (.mv (.c (.int .i64 0)))⟩] [2, 3, 9, 11, 15]) k6_12)) k6_13)

abbrev k6_15 : MC :=
  (.seq ((.seq (.reg [
    ⟨(some 68), none, .val (.mv (.t 14))⟩,
    ⟨(some 69), none, .val (.bin .neq .num (.t 68) (.c (.int .i64 0)))⟩,
    ⟨(some 70), none, .val (.mv (.t 69))⟩,
    ⟨(some 71), (some (70, false)), .val (.load true 1 (.t 13))⟩,
    ⟨(some 72), (some (70, false)), .val (.load true 1 (.t 10))⟩,
    ⟨(some 73), (some (70, false)), .call 29 [(.t 71), (.t 72)]⟩,
    ⟨(some 74), (some (70, false)), .val (.not (.t 73))⟩,
    ⟨(some 75), none, .val (.pick (.t 70) (.c (.bool true)) (.t 74))⟩] [2, 3, 9, 11, 75]) k6_2)) k6_14)

abbrev k6_16 : MC :=
  (.seq (.reg [
    ⟨(some 63), none, .val (.load true 1 (.t 11))⟩,
    ⟨(some 64), none, .val (.mv (.t 2))⟩,
    ⟨(some 65), none, .call 28 [(.t 63), (.t 64)]⟩,
    ⟨(some 62), none, .val (.mv (.t 65))⟩,
    ⟨(some 66), none, .val (.ext (.t 62) 0)⟩,
    ⟨(some 67), none, .val (.ext (.t 62) 1)⟩,
    ⟨(some 13), none, .zalloc [.nilIface]⟩,
    ⟨none, none, .store 1 (.t 13) (.t 66)⟩,
    ⟨(some 14), none, .val (.mv (.t 67))⟩] [2, 3, 9, 10, 11, 13, 14]) k6_15)

abbrev k6_17 : MC :=
  (.seq ((.seq (.reg [
    ⟨(some 57), none, .val (.mv (.t 12))⟩,
    ⟨(some 58), none, .val (.bin .neq .num (.t 57) (.c (.int .i64 0)))⟩] [2, 3, 9, 10, 11, 58]) k6_1)) k6_16)

abbrev k6_18 : MC :=
  (.seq (.reg [
    ⟨(some 51), none, .val (.load true 1 (.t 9))⟩,
    ⟨(some 52), none, .val (.load true 1 (.t 10))⟩,
    ⟨(some 53), none, .val (.mv (.t 2))⟩,
    ⟨(some 54), none, .call 26 [(.t 51), (.t 52), (.t 53)]⟩,
    ⟨(some 50), none, .val (.mv (.t 54))⟩,
    ⟨(some 55), none, .val (.ext (.t 50) 0)⟩,
    ⟨(some 56), none, .val (.ext (.t 50) 1)⟩,
    ⟨(some 11), none, .zalloc [.nilIface]⟩,
    ⟨none, none, .store 1 (.t 11) (.t 55)⟩,
    ⟨(some 12), none, .val (.mv (.t 56))⟩] [2, 3, 9, 10, 11, 12]) k6_17)

abbrev k6_19 : MC :=
  (.seq (.drw [
    ⟨(some 44), none, .val (.load true 7 (.t 4))⟩,
    ⟨(some 45), none, .call 25 [(.t 44)]⟩,
    ⟨(some 46), none, .call 24 [(.t 45)]⟩,
    ⟨(some 47), none, .val (.load true 7 (.t 5))⟩,
    ⟨(some 48), none, .call 25 [(.t 47)]⟩,
    ⟨(some 49), none, .call 24 [(.t 48)]⟩] [
    ⟨(some 9), none, .zalloc [.nilIface]⟩,
    ⟨(some 10), none, .zalloc [.nilIface]⟩,
    ⟨none, none, .store 1 (.t 9) (.t 46)⟩,
    ⟨none, none, .store 1 (.t 10) (.t 49)⟩] [2, 3, 9, 10]) k6_18)

abbrev k6_20 : MC :=
  (.seq ((.seq (.reg [
    ⟨(some 21), none, .val (.load true 7 (.t 4))⟩,
    ⟨(some 22), none, .call 22 [(.t 21)]⟩,
    ⟨(some 23), none, .val (.bin .gtr .num (.t 22) (.c (.int .i64 0)))⟩,
    ⟨(some 24), none, .val (.mv (.t 23))⟩,
    ⟨(some 25), (some (24, false)), .val (.load true 7 (.t 5))⟩,
    ⟨(some 26), (some (24, false)), .call 22 [(.t 25)]⟩,
    ⟨(some 27), (some (24, false)), .val (.bin .gtr .num (.t 26) (.c (.int .i64 0)))⟩,
    ⟨(some 28), none, .val (.pick (.t 24) (.c (.bool true)) (.t 27))⟩,
    ⟨(some 29), none, .val (.mv (.t 28))⟩,
    ⟨(some 30), (some (29, false)), .val (.mv (.t 2))⟩,
    ⟨(some 31), (some (29, false)), .val (.len .sl (.t 30))⟩,
    ⟨(some 32), (some (29, false)), .val (.bin .gtr .num (.t 31) (.c (.int .i64 20)))⟩,
    ⟨(some 33), none, .val (.pick (.t 29) (.c (.bool true)) (.t 32))⟩,
    ⟨(some 34), none, .val (.mv (.t 33))⟩,
    ⟨(some 35), (some (34, false)), .val (.mv (.t 3))⟩,
    ⟨(some 36), (some (34, false)), .val (.len .sl (.t 35))⟩,
    ⟨(some 37), (some (34, false)), .val (.bin .gtr .num (.t 36) (.c (.int .i64 20)))⟩,
    ⟨(some 38), none, .val (.pick (.t 34) (.c (.bool true)) (.t 37))⟩,
    ⟨(some 39), none, .val (.mv (.t 38))⟩,
    ⟨(some 40), (some (39, false)), .call 23 []⟩,
    ⟨(some 41), (some (39, false)), .val (.not (.t 40))⟩,
    ⟨(some 42), none, .val (.pick (.t 39) (.c (.bool true)) (.t 41))⟩] [2, 3, 4, 5, 42]) k6_0)) k6_19)
abbrev k6 : MC :=
  (.seq (.reg [
    ⟨(some 4), none, .boxi (.t 0)⟩,
    ⟨(some 5), none, .boxi (.t 1)⟩,
    ⟨(some 8), none, .val (.mv (.c (.bool false)))⟩] [2, 3, 4, 5]) k6_20)
theorem c6 : Try.f6.body.bind (mcOf Try.prog (List.contains [4, 5] ·) (List.getD [([], [2, 3, 4, 5]), ([], [2, 3, 4, 5, 42]), ([], [8]), ([0, 0, 0, 0, 0, 0, 1, 1, 2, 2], [2, 3, 9, 10]), ([], [2, 3, 9, 10, 11, 12]), ([], [2, 3, 9, 10, 11, 58]), ([], [8]), ([], [2, 3, 9, 10, 11, 13, 14]), ([], [2, 3, 9, 11, 75]), ([], [8]), ([], [2, 3, 9, 11, 15]), ([], [2, 3, 9, 11, 15, 85]), ([], [2, 3, 9, 11, 15]), ([0, 0, 0, 0, 0, 0, 0, 0, 0], [2, 3, 9, 11, 15, 96]), ([], [2, 3, 11, 15, 16, 17]), ([], [2, 3, 15, 16, 17, 18, 19]), ([0, 0, 0, 0, 0, 0, 0, 0, 0, 0, 0, 0, 0, 0, 0, 0, 0, 0, 0, 0, 0, 0, 0, 0, 0, 0, 0, 0, 0, 0, 0, 0, 0, 0, 0, 0], [16, 17, 18, 19, 20]), ([], [8]), ([], [8])] · ([], [])) 159) = some k6 := by kernel_rfl
theorem r6 : rvsOf Try.prog Try.f6.results.toList = some [.tmp 8] := by kernel_rfl

def PStop (p : Prop) : Prop := p
theorem puts_stop {Q : AExit → A → AH → Prop} {a : A} {H : AH} (h : PStop (AM Try.prog Try.f6.ntmps k6_18 Q a H)) : AM Try.prog Try.f6.ntmps k6_18 Q a H := h
theorem puts_stop2 {Q : AExit → A → AH → Prop} {a : A} {H : AH} (h : PStop (AM Try.prog Try.f6.ntmps k6_14 Q a H)) : AM Try.prog Try.f6.ntmps k6_14 Q a H := h
abbrev PutsQ (H : AH) : AExit → A → AH → Prop := Body [RV.tmp 8] fun o H' => (∃ u, o = Out.ret u ∧ ∀ (s : St) (x : Value), s.val u x → s.val (V.bool true) x) ∧ H.le H'
theorem puts_loop {v y w : Vl} {l k : List St2} {g k1 k3 : Nat} {H G : AH} (ho : v.Ok) (hw : withR v y l = some (w, 0)) (hlb : l.length ≤ 20) (hkb : k.length ≤ 20) (hg : G g = some .nodr) (e1 : G k1 = some (.cells [vV v])) (e3 : G k3 = some (.cells [vV w])) (hle : H.le G) :
    AM Try.prog Try.f6.ntmps k6_14 (PutsQ H) [(2, .sl 2 (stE l) .no), (3, .sl 2 (stE k) .no), (9, .ptr k1 0), (11, .ptr k3 0)] G := by
  unfold PutsQ
  repeat' (first | with_reducible (first | refine am_seq ?_ | refine am_block ?_) | ((with_reducible apply am_cond); (case hb => rfl); all_goals (intro hc; (try simp only [reduceCtorEq, decide_eq_true_eq, decide_eq_false_iff_not, Bool.or_eq_true, Bool.and_eq_true, Bool.or_eq_false_iff, Bool.not_eq_true', Bool.not_eq_false', beq_iff_eq] at hc); (try (exfalso; omega)))) | ((first | with_reducible (first | refine am_reg ?_ | refine am_drw ?_ | refine am_drx ?_ | refine am_skip ?_ | refine am_exit ?_ | refine am_ret ?_ | refine And.intro (by first | exact AH.lec_refl _ | assumption | exact AccP.lec (by assumption) | omega) ?_ | refine isnE_of (fun hc => ?_) (fun hc => ?_) (fun hc => ?_) | refine need_elems (by assumption) ?_ | refine vlen_acc (by assumption) ?_ | refine need_bytes (by assumption) ?_ | refine need_look (by repeat (first | assumption | exact AH.put_same _ _ _ | refine look_put ?_ (by assumption) | refine look_lec ?_ (by assumption))) ?_) | ((with_reducible (first | refine gd_not (fun hc => ?_) (fun hc => ?_) | refine gd_of (fun hc => ?_) (fun hc => ?_) | refine gq_not (fun hc => ?_) (fun hc => ?_) | refine gq_of (fun hc => ?_) (fun hc => ?_) | refine pickB_of (fun hc => ?_) (fun hc => ?_))) <;> (try simp -implicitDefEqProofs (disch := omega) only [go_sem, eq_self, decide_true, decide_false, Nat.reduceBEq, Nat.reduceAdd, Nat.reduceSub, Nat.reduceMul, Nat.reduceEqDiff, Nat.reduceLeDiff, Nat.reduceLT, Int.reduceLE, Int.reduceLT, Int.reduceToNat, Int.reduceAdd, Int.reduceEq, Int.reduceNeg, AH.put_ne, hc]) <;> (try simp only [reduceCtorEq, decide_eq_true_eq, decide_eq_false_iff_not, Bool.or_eq_true, Bool.and_eq_true, Bool.or_eq_false_iff, Bool.not_eq_true', Bool.not_eq_false', beq_iff_eq] at hc) <;> (try (exfalso; omega))) | ((with_reducible refine alloc_intro (fun ko hko => ?_)) <;> (try have hne := fresh_ne (by assumption) hko) <;> (try have hnk := fresh_ne hk hko) <;> (try have hnk2 := fresh_ne hk2 hko) <;> (try simp only [AH.put_none] at hko)) | ((with_reducible (first | refine vapp_accL (by assumption) ?_ (fun v2 H2 hacc hlec => ?_) | refine vapp_accL (AccP.mono (by assumption) (AccP.le (by assumption))) ?_ (fun v2 H2 hacc hlec => ?_) | refine vapp_accL (AccP.new (by assumption) (by assumption) _) ?_ (fun v2 H2 hacc hlec => ?_))); · simp only [byteCells_length, List.length_cons, List.length_nil, List.length_map, List.length_append, vE_length, mE_length, strE_len, List.length_take, rvE_length]; omega)) <;> (try simp -implicitDefEqProofs (disch := omega) only [go_sem, eq_self, decide_true, decide_false, Nat.reduceBEq, Nat.reduceAdd, Nat.reduceSub, Nat.reduceMul, Nat.reduceEqDiff, Nat.reduceLeDiff, Nat.reduceLT, Int.reduceLE, Int.reduceLT, Int.reduceToNat, Int.reduceAdd, Int.reduceEq, Int.reduceNeg, AH.put_ne])))
  refine am_loop (fun n a H' => ∃ (i : Nat), i + n = l.length ∧ a = [(2, .sl 2 (stE l) .no), (3, .sl 2 (stE k) .no), (9, .ptr k1 0), (11, .ptr k3 0), (15, .int .i64 i)] ∧ H' = G ∧ l.take i = k.take i) ?_ l.length ⟨0, by omega, rfl, rfl, rfl⟩
  rintro n a H' ⟨i, hi, rfl, rfl, ht⟩
  by_cases hlt : i < l.length
  · by_cases hlk : i < k.length
    · by_cases heq : l[i] = k[i]
      · have q1 : l[i].1 = k[i].1 := by rw [heq]
        have q2 : l[i].2 = k[i].2 := by rw [heq]
        have ht2 : l.take (i + 1) = k.take (i + 1) := by rw [List.take_succ_eq_append_getElem hlt, List.take_succ_eq_append_getElem hlk, ht, heq]
        repeat' (first | with_reducible (first | refine am_seq ?_ | refine am_block ?_) | ((with_reducible apply am_cond); (case hb => rfl); all_goals (intro hc; (try simp only [reduceCtorEq, decide_eq_true_eq, decide_eq_false_iff_not, Bool.or_eq_true, Bool.and_eq_true, Bool.or_eq_false_iff, Bool.not_eq_true', Bool.not_eq_false', beq_iff_eq] at hc); (try (exfalso; omega)))) | ((first | with_reducible (first | refine am_reg ?_ | refine am_drw ?_ | refine am_drx ?_ | refine am_skip ?_ | refine am_exit ?_ | refine am_ret ?_ | refine And.intro (by first | exact AH.lec_refl _ | assumption | exact AccP.lec (by assumption) | omega) ?_ | refine isnE_of (fun hc => ?_) (fun hc => ?_) (fun hc => ?_) | refine need_elems (by assumption) ?_ | refine vlen_acc (by assumption) ?_ | refine need_bytes (by assumption) ?_ | refine need_look (by repeat (first | assumption | exact AH.put_same _ _ _ | refine look_put ?_ (by assumption) | refine look_lec ?_ (by assumption))) ?_) | ((with_reducible (first | refine gd_not (fun hc => ?_) (fun hc => ?_) | refine gd_of (fun hc => ?_) (fun hc => ?_) | refine gq_not (fun hc => ?_) (fun hc => ?_) | refine gq_of (fun hc => ?_) (fun hc => ?_) | refine pickB_of (fun hc => ?_) (fun hc => ?_))) <;> (try simp -implicitDefEqProofs (disch := omega) only [go_sem, eq_self, decide_true, decide_false, Nat.reduceBEq, Nat.reduceAdd, Nat.reduceSub, Nat.reduceMul, Nat.reduceEqDiff, Nat.reduceLeDiff, Nat.reduceLT, Int.reduceLE, Int.reduceLT, Int.reduceToNat, Int.reduceAdd, Int.reduceEq, Int.reduceNeg, AH.put_ne, hc, wrap_id, stE_length, stE_get hlt, stE_get hlk, q1, q2, Bool.and_self, Bool.and_true]) <;> (try simp only [reduceCtorEq, decide_eq_true_eq, decide_eq_false_iff_not, Bool.or_eq_true, Bool.and_eq_true, Bool.or_eq_false_iff, Bool.not_eq_true', Bool.not_eq_false', beq_iff_eq] at hc) <;> (try (exfalso; omega))) | ((with_reducible refine alloc_intro (fun ko hko => ?_)) <;> (try have hne := fresh_ne (by assumption) hko) <;> (try have hnk := fresh_ne hk hko) <;> (try have hnk2 := fresh_ne hk2 hko) <;> (try simp only [AH.put_none] at hko)) | ((with_reducible (first | refine vapp_accL (by assumption) ?_ (fun v2 H2 hacc hlec => ?_) | refine vapp_accL (AccP.mono (by assumption) (AccP.le (by assumption))) ?_ (fun v2 H2 hacc hlec => ?_) | refine vapp_accL (AccP.new (by assumption) (by assumption) _) ?_ (fun v2 H2 hacc hlec => ?_))); · simp only [byteCells_length, List.length_cons, List.length_nil, List.length_map, List.length_append, vE_length, mE_length, strE_len, List.length_take, rvE_length]; omega)) <;> (try simp -implicitDefEqProofs (disch := omega) only [go_sem, eq_self, decide_true, decide_false, Nat.reduceBEq, Nat.reduceAdd, Nat.reduceSub, Nat.reduceMul, Nat.reduceEqDiff, Nat.reduceLeDiff, Nat.reduceLT, Int.reduceLE, Int.reduceLT, Int.reduceToNat, Int.reduceAdd, Int.reduceEq, Int.reduceNeg, AH.put_ne, wrap_id, stE_length, stE_get hlt, stE_get hlk, q1, q2, Bool.and_self, Bool.and_true])))
        all_goals exact ⟨n - 1, by omega, i + 1, by omega, rfl, ht2⟩
      · have hpar : leadB l[i] k[i] = true → (goR v k).2 = 0 → goR w k = goR v k := by
          intro hL h0
          have e1 : l = l.take i ++ l[i] :: l.drop (i + 1) := by rw [← List.drop_eq_getElem_cons hlt, List.take_append_drop]
          have e2 : k = l.take i ++ k[i] :: k.drop (i + 1) := by rw [ht, ← List.drop_eq_getElem_cons hlk, List.take_append_drop]
          have hgo : goR v k = ((goR v k).1, 0) := Prod.ext rfl h0
          have := goR_other heq hL (l.take i) (by rw [← e1]; exact hw) (by rw [← e2]; exact hgo)
          rw [← e2] at this
          rw [this]; exact hgo.symm
        have hbad : ¬ (l[i].1 = k[i].1 ∧ l[i].2 = k[i].2) := fun e => heq (Prod.ext e.1 e.2)
        have hok := goR_ok (l := k) ho
        have h7 := go_calls (v := v) (l := k) (t := .no) (by omega)
        have h8 := go_calls (v := w) (l := k) (t := .no) (by omega)
        have h6 := same_calls _ hok _ hok g
        unfold SameOk at h6
        rw [sameV_refl _ hok] at h6
        clear hw ho
        repeat' (first | with_reducible (first | refine am_seq ?_ | refine am_block ?_) | ((with_reducible apply am_cond); (case hb => rfl); all_goals (intro hc; (try simp only [reduceCtorEq, decide_eq_true_eq, decide_eq_false_iff_not, Bool.or_eq_true, Bool.and_eq_true, Bool.or_eq_false_iff, Bool.not_eq_true', Bool.not_eq_false', beq_iff_eq] at hc); (try (exfalso; omega)))) | ((first | with_reducible (first | refine am_reg ?_ | refine am_drw ?_ | refine am_drx ?_ | refine am_skip ?_ | refine am_exit ?_ | refine am_ret ?_ | refine And.intro (by first | exact AH.lec_refl _ | assumption | exact AccP.lec (by assumption) | omega) ?_ | refine isnE_of (fun hc => ?_) (fun hc => ?_) (fun hc => ?_) | refine need_elems (by assumption) ?_ | refine vlen_acc (by assumption) ?_ | refine need_bytes (by assumption) ?_ | refine call_of (h7) ?_ | refine qcall_of (h7) ?_ | refine call_of (h8) ?_ | refine qcall_of (h8) ?_ | refine need_look (by repeat (first | assumption | exact AH.put_same _ _ _ | refine look_put ?_ (by assumption) | refine look_lec ?_ (by assumption))) ?_) | ((with_reducible (first | refine gd_not (fun hc => ?_) (fun hc => ?_) | refine gd_of (fun hc => ?_) (fun hc => ?_) | refine gq_not (fun hc => ?_) (fun hc => ?_) | refine gq_of (fun hc => ?_) (fun hc => ?_) | refine pickB_of (fun hc => ?_) (fun hc => ?_))) <;> (try simp -implicitDefEqProofs (disch := omega) only [go_sem, eq_self, decide_true, decide_false, Nat.reduceBEq, Nat.reduceAdd, Nat.reduceSub, Nat.reduceMul, Nat.reduceEqDiff, Nat.reduceLeDiff, Nat.reduceLT, Int.reduceLE, Int.reduceLT, Int.reduceToNat, Int.reduceAdd, Int.reduceEq, Int.reduceNeg, AH.put_ne, hc, wrap_id, stE_length, stE_get hlt, stE_get hlk]) <;> (try simp only [reduceCtorEq, decide_eq_true_eq, decide_eq_false_iff_not, Bool.or_eq_true, Bool.and_eq_true, Bool.or_eq_false_iff, Bool.not_eq_true', Bool.not_eq_false', beq_iff_eq] at hc) <;> (try (exfalso; omega))) | ((with_reducible refine alloc_intro (fun ko hko => ?_)) <;> (try have hne := fresh_ne (by assumption) hko) <;> (try have hnk := fresh_ne hk hko) <;> (try have hnk2 := fresh_ne hk2 hko) <;> (try simp only [AH.put_none] at hko)) | ((with_reducible (first | refine vapp_accL (by assumption) ?_ (fun v2 H2 hacc hlec => ?_) | refine vapp_accL (AccP.mono (by assumption) (AccP.le (by assumption))) ?_ (fun v2 H2 hacc hlec => ?_) | refine vapp_accL (AccP.new (by assumption) (by assumption) _) ?_ (fun v2 H2 hacc hlec => ?_))); · simp only [byteCells_length, List.length_cons, List.length_nil, List.length_map, List.length_append, vE_length, mE_length, strE_len, List.length_take, rvE_length]; omega)) <;> (try simp -implicitDefEqProofs (disch := omega) only [go_sem, eq_self, decide_true, decide_false, Nat.reduceBEq, Nat.reduceAdd, Nat.reduceSub, Nat.reduceMul, Nat.reduceEqDiff, Nat.reduceLeDiff, Nat.reduceLT, Int.reduceLE, Int.reduceLT, Int.reduceToNat, Int.reduceAdd, Int.reduceEq, Int.reduceNeg, AH.put_ne, wrap_id, stE_length, stE_get hlt, stE_get hlk])))
        all_goals try (exact drop_end (fun _ _ h => h) (AH.le_put (AH.le_put hle (none_of_le hle (by assumption)) _) (none_of_le hle (And.right (by assumption))) _))
        all_goals try (obtain ⟨x1, x2, _⟩ := hc; exact absurd (And.intro x1 x2) hbad)
        all_goals have hL : leadB l[i] k[i] = true := (by simp only [leadB, Bool.or_eq_true, Bool.not_eq_true', decide_eq_false_iff_not, Bool.and_eq_true, decide_eq_true_eq]; first | exact .inl (by assumption) | exact .inr ⟨⟨by assumption, by assumption⟩, by assumption⟩)
        all_goals have h0 : (goR v k).2 = 0 := by assumption
        all_goals have hE := hpar hL h0
        all_goals try (exact absurd (show (goR w k).2 = 0 by rw [hE]; exact h0) hc)
        all_goals rw [hE]
        all_goals have hq := (AH.put_none H' _ (AObj.cells [vV (goR v k).fst]) ko).2 hko
        all_goals refine call_turn (h6 _ (look_put (look_put hg (by assumption)) hq)) ?_
        all_goals repeat' (first | with_reducible (first | refine am_seq ?_ | refine am_block ?_) | ((with_reducible apply am_cond); (case hb => rfl); all_goals (intro hc; (try simp only [reduceCtorEq, decide_eq_true_eq, decide_eq_false_iff_not, Bool.or_eq_true, Bool.and_eq_true, Bool.or_eq_false_iff, Bool.not_eq_true', Bool.not_eq_false', beq_iff_eq] at hc); (try (exfalso; omega)))) | ((first | with_reducible (first | refine am_reg ?_ | refine am_drw ?_ | refine am_drx ?_ | refine am_skip ?_ | refine am_exit ?_ | refine am_ret ?_ | refine And.intro (by first | exact AH.lec_refl _ | assumption | exact AccP.lec (by assumption) | omega) ?_ | refine isnE_of (fun hc => ?_) (fun hc => ?_) (fun hc => ?_) | refine need_elems (by assumption) ?_ | refine vlen_acc (by assumption) ?_ | refine need_bytes (by assumption) ?_ | refine need_look (by repeat (first | assumption | exact AH.put_same _ _ _ | refine look_put ?_ (by assumption) | refine look_lec ?_ (by assumption))) ?_) | ((with_reducible (first | refine gd_not (fun hc => ?_) (fun hc => ?_) | refine gd_of (fun hc => ?_) (fun hc => ?_) | refine gq_not (fun hc => ?_) (fun hc => ?_) | refine gq_of (fun hc => ?_) (fun hc => ?_) | refine pickB_of (fun hc => ?_) (fun hc => ?_))) <;> (try simp -implicitDefEqProofs (disch := omega) only [go_sem, eq_self, decide_true, decide_false, Nat.reduceBEq, Nat.reduceAdd, Nat.reduceSub, Nat.reduceMul, Nat.reduceEqDiff, Nat.reduceLeDiff, Nat.reduceLT, Int.reduceLE, Int.reduceLT, Int.reduceToNat, Int.reduceAdd, Int.reduceEq, Int.reduceNeg, AH.put_ne, hc]) <;> (try simp only [reduceCtorEq, decide_eq_true_eq, decide_eq_false_iff_not, Bool.or_eq_true, Bool.and_eq_true, Bool.or_eq_false_iff, Bool.not_eq_true', Bool.not_eq_false', beq_iff_eq] at hc) <;> (try (exfalso; omega))) | ((with_reducible refine alloc_intro (fun ko hko => ?_)) <;> (try have hne := fresh_ne (by assumption) hko) <;> (try have hnk := fresh_ne hk hko) <;> (try have hnk2 := fresh_ne hk2 hko) <;> (try simp only [AH.put_none] at hko)) | ((with_reducible (first | refine vapp_accL (by assumption) ?_ (fun v2 H2 hacc hlec => ?_) | refine vapp_accL (AccP.mono (by assumption) (AccP.le (by assumption))) ?_ (fun v2 H2 hacc hlec => ?_) | refine vapp_accL (AccP.new (by assumption) (by assumption) _) ?_ (fun v2 H2 hacc hlec => ?_))); · simp only [byteCells_length, List.length_cons, List.length_nil, List.length_map, List.length_append, vE_length, mE_length, strE_len, List.length_take, rvE_length]; omega)) <;> (try simp -implicitDefEqProofs (disch := omega) only [go_sem, eq_self, decide_true, decide_false, Nat.reduceBEq, Nat.reduceAdd, Nat.reduceSub, Nat.reduceMul, Nat.reduceEqDiff, Nat.reduceLeDiff, Nat.reduceLT, Int.reduceLE, Int.reduceLT, Int.reduceToNat, Int.reduceAdd, Int.reduceEq, Int.reduceNeg, AH.put_ne])))
        all_goals exact drop_end (fun _ _ h => h) (AH.le_put (AH.le_put hle (none_of_le hle (by assumption)) _) (none_of_le hle (And.right (by assumption))) _)
    · repeat' (first | with_reducible (first | refine am_seq ?_ | refine am_block ?_) | ((with_reducible apply am_cond); (case hb => rfl); all_goals (intro hc; (try simp only [reduceCtorEq, decide_eq_true_eq, decide_eq_false_iff_not, Bool.or_eq_true, Bool.and_eq_true, Bool.or_eq_false_iff, Bool.not_eq_true', Bool.not_eq_false', beq_iff_eq] at hc); (try (exfalso; omega)))) | ((first | with_reducible (first | refine am_reg ?_ | refine am_drw ?_ | refine am_drx ?_ | refine am_skip ?_ | refine am_exit ?_ | refine am_ret ?_ | refine And.intro (by first | exact AH.lec_refl _ | assumption | exact AccP.lec (by assumption) | omega) ?_ | refine isnE_of (fun hc => ?_) (fun hc => ?_) (fun hc => ?_) | refine need_elems (by assumption) ?_ | refine vlen_acc (by assumption) ?_ | refine need_bytes (by assumption) ?_ | refine need_look (by repeat (first | assumption | exact AH.put_same _ _ _ | refine look_put ?_ (by assumption) | refine look_lec ?_ (by assumption))) ?_) | ((with_reducible (first | refine gd_not (fun hc => ?_) (fun hc => ?_) | refine gd_of (fun hc => ?_) (fun hc => ?_) | refine gq_not (fun hc => ?_) (fun hc => ?_) | refine gq_of (fun hc => ?_) (fun hc => ?_) | refine pickB_of (fun hc => ?_) (fun hc => ?_))) <;> (try simp -implicitDefEqProofs (disch := omega) only [go_sem, eq_self, decide_true, decide_false, Nat.reduceBEq, Nat.reduceAdd, Nat.reduceSub, Nat.reduceMul, Nat.reduceEqDiff, Nat.reduceLeDiff, Nat.reduceLT, Int.reduceLE, Int.reduceLT, Int.reduceToNat, Int.reduceAdd, Int.reduceEq, Int.reduceNeg, AH.put_ne, hc, stE_length]) <;> (try simp only [reduceCtorEq, decide_eq_true_eq, decide_eq_false_iff_not, Bool.or_eq_true, Bool.and_eq_true, Bool.or_eq_false_iff, Bool.not_eq_true', Bool.not_eq_false', beq_iff_eq] at hc) <;> (try (exfalso; omega))) | ((with_reducible refine alloc_intro (fun ko hko => ?_)) <;> (try have hne := fresh_ne (by assumption) hko) <;> (try have hnk := fresh_ne hk hko) <;> (try have hnk2 := fresh_ne hk2 hko) <;> (try simp only [AH.put_none] at hko)) | ((with_reducible (first | refine vapp_accL (by assumption) ?_ (fun v2 H2 hacc hlec => ?_) | refine vapp_accL (AccP.mono (by assumption) (AccP.le (by assumption))) ?_ (fun v2 H2 hacc hlec => ?_) | refine vapp_accL (AccP.new (by assumption) (by assumption) _) ?_ (fun v2 H2 hacc hlec => ?_))); · simp only [byteCells_length, List.length_cons, List.length_nil, List.length_map, List.length_append, vE_length, mE_length, strE_len, List.length_take, rvE_length]; omega)) <;> (try simp -implicitDefEqProofs (disch := omega) only [go_sem, eq_self, decide_true, decide_false, Nat.reduceBEq, Nat.reduceAdd, Nat.reduceSub, Nat.reduceMul, Nat.reduceEqDiff, Nat.reduceLeDiff, Nat.reduceLT, Int.reduceLE, Int.reduceLT, Int.reduceToNat, Int.reduceAdd, Int.reduceEq, Int.reduceNeg, AH.put_ne, stE_length])))
      all_goals exact drop_end (fun _ _ h => h) hle
  · repeat' (first | with_reducible (first | refine am_seq ?_ | refine am_block ?_) | ((with_reducible apply am_cond); (case hb => rfl); all_goals (intro hc; (try simp only [reduceCtorEq, decide_eq_true_eq, decide_eq_false_iff_not, Bool.or_eq_true, Bool.and_eq_true, Bool.or_eq_false_iff, Bool.not_eq_true', Bool.not_eq_false', beq_iff_eq] at hc); (try (exfalso; omega)))) | ((first | with_reducible (first | refine am_reg ?_ | refine am_drw ?_ | refine am_drx ?_ | refine am_skip ?_ | refine am_exit ?_ | refine am_ret ?_ | refine And.intro (by first | exact AH.lec_refl _ | assumption | exact AccP.lec (by assumption) | omega) ?_ | refine isnE_of (fun hc => ?_) (fun hc => ?_) (fun hc => ?_) | refine need_elems (by assumption) ?_ | refine vlen_acc (by assumption) ?_ | refine need_bytes (by assumption) ?_ | refine need_look (by repeat (first | assumption | exact AH.put_same _ _ _ | refine look_put ?_ (by assumption) | refine look_lec ?_ (by assumption))) ?_) | ((with_reducible (first | refine gd_not (fun hc => ?_) (fun hc => ?_) | refine gd_of (fun hc => ?_) (fun hc => ?_) | refine gq_not (fun hc => ?_) (fun hc => ?_) | refine gq_of (fun hc => ?_) (fun hc => ?_) | refine pickB_of (fun hc => ?_) (fun hc => ?_))) <;> (try simp -implicitDefEqProofs (disch := omega) only [go_sem, eq_self, decide_true, decide_false, Nat.reduceBEq, Nat.reduceAdd, Nat.reduceSub, Nat.reduceMul, Nat.reduceEqDiff, Nat.reduceLeDiff, Nat.reduceLT, Int.reduceLE, Int.reduceLT, Int.reduceToNat, Int.reduceAdd, Int.reduceEq, Int.reduceNeg, AH.put_ne, hc, stE_length]) <;> (try simp only [reduceCtorEq, decide_eq_true_eq, decide_eq_false_iff_not, Bool.or_eq_true, Bool.and_eq_true, Bool.or_eq_false_iff, Bool.not_eq_true', Bool.not_eq_false', beq_iff_eq] at hc) <;> (try (exfalso; omega))) | ((with_reducible refine alloc_intro (fun ko hko => ?_)) <;> (try have hne := fresh_ne (by assumption) hko) <;> (try have hnk := fresh_ne hk hko) <;> (try have hnk2 := fresh_ne hk2 hko) <;> (try simp only [AH.put_none] at hko)) | ((with_reducible (first | refine vapp_accL (by assumption) ?_ (fun v2 H2 hacc hlec => ?_) | refine vapp_accL (AccP.mono (by assumption) (AccP.le (by assumption))) ?_ (fun v2 H2 hacc hlec => ?_) | refine vapp_accL (AccP.new (by assumption) (by assumption) _) ?_ (fun v2 H2 hacc hlec => ?_))); · simp only [byteCells_length, List.length_cons, List.length_nil, List.length_map, List.length_append, vE_length, mE_length, strE_len, List.length_take, rvE_length]; omega)) <;> (try simp -implicitDefEqProofs (disch := omega) only [go_sem, eq_self, decide_true, decide_false, Nat.reduceBEq, Nat.reduceAdd, Nat.reduceSub, Nat.reduceMul, Nat.reduceEqDiff, Nat.reduceLeDiff, Nat.reduceLT, Int.reduceLE, Int.reduceLT, Int.reduceToNat, Int.reduceAdd, Int.reduceEq, Int.reduceNeg, AH.put_ne, stE_length])))
    all_goals exact drop_end (fun _ _ h => h) hle
theorem puts_tail {v y : Vl} {l k : List St2} {g k1 k2 : Nat} {H G : AH} (ho : v.Ok) (hox : y.Ok) (hlb : l.length ≤ 20) (hkb : k.length ≤ 20) (hg : G g = some .nodr) (e1 : G k1 = some (.cells [vV v])) (e2 : G k2 = some (.cells [vV y])) (hle : H.le G) :
    AM Try.prog Try.f6.ntmps k6_18 (PutsQ H) [(2, .sl 2 (stE l) .no), (3, .sl 2 (stE k) .no), (9, .ptr k1 0), (10, .ptr k2 0)] G := by
  unfold PutsQ
  have h4 := With_calls (v := v) (x := y) (l := l) (t := .no) (by omega) ho
  by_cases he : (chR v y l).2 = 0
  · have hw := chR_ok he
    rw [he] at h4
    generalize (chR v y l).1 = w at *
    have h5 := go_calls (v := w) (l := l) (t := .no) (by omega)
    rw [goR_with hw] at h5
    have h6 := same_calls y hox y hox g
    unfold SameOk at h6
    rw [sameV_refl y hox] at h6
    simp only at h5
    repeat' (first | with_reducible (first | refine am_seq ?_ | refine am_block ?_) | ((with_reducible apply am_cond); (case hb => rfl); all_goals (intro hc; (try simp only [reduceCtorEq, decide_eq_true_eq, decide_eq_false_iff_not, Bool.or_eq_true, Bool.and_eq_true, Bool.or_eq_false_iff, Bool.not_eq_true', Bool.not_eq_false', beq_iff_eq] at hc); (try (exfalso; omega)))) | ((first | with_reducible (first | refine am_reg ?_ | refine am_drw ?_ | refine am_drx ?_ | refine am_skip ?_ | refine am_exit ?_ | refine am_ret ?_ | refine And.intro (by first | exact AH.lec_refl _ | assumption | exact AccP.lec (by assumption) | omega) ?_ | refine isnE_of (fun hc => ?_) (fun hc => ?_) (fun hc => ?_) | refine need_elems (by assumption) ?_ | refine vlen_acc (by assumption) ?_ | refine need_bytes (by assumption) ?_ | refine call_of (h4) ?_ | refine qcall_of (h4) ?_ | refine call_of (h5) ?_ | refine qcall_of (h5) ?_ | refine need_look (by repeat (first | assumption | exact AH.put_same _ _ _ | refine look_put ?_ (by assumption) | refine look_lec ?_ (by assumption))) ?_) | ((with_reducible (first | refine gd_not (fun hc => ?_) (fun hc => ?_) | refine gd_of (fun hc => ?_) (fun hc => ?_) | refine gq_not (fun hc => ?_) (fun hc => ?_) | refine gq_of (fun hc => ?_) (fun hc => ?_) | refine pickB_of (fun hc => ?_) (fun hc => ?_))) <;> (try simp -implicitDefEqProofs (disch := omega) only [go_sem, eq_self, decide_true, decide_false, Nat.reduceBEq, Nat.reduceAdd, Nat.reduceSub, Nat.reduceMul, Nat.reduceEqDiff, Nat.reduceLeDiff, Nat.reduceLT, Int.reduceLE, Int.reduceLT, Int.reduceToNat, Int.reduceAdd, Int.reduceEq, Int.reduceNeg, AH.put_ne, hc, stE_length, Bool.not_true, Bool.not_false, bne_self_eq_false]) <;> (try simp only [reduceCtorEq, decide_eq_true_eq, decide_eq_false_iff_not, Bool.or_eq_true, Bool.and_eq_true, Bool.or_eq_false_iff, Bool.not_eq_true', Bool.not_eq_false', beq_iff_eq] at hc) <;> (try (exfalso; omega))) | ((with_reducible refine alloc_intro (fun ko hko => ?_)) <;> (try have hne := fresh_ne (by assumption) hko) <;> (try have hnk := fresh_ne hk hko) <;> (try have hnk2 := fresh_ne hk2 hko) <;> (try simp only [AH.put_none] at hko)) | ((with_reducible (first | refine vapp_accL (by assumption) ?_ (fun v2 H2 hacc hlec => ?_) | refine vapp_accL (AccP.mono (by assumption) (AccP.le (by assumption))) ?_ (fun v2 H2 hacc hlec => ?_) | refine vapp_accL (AccP.new (by assumption) (by assumption) _) ?_ (fun v2 H2 hacc hlec => ?_))); · simp only [byteCells_length, List.length_cons, List.length_nil, List.length_map, List.length_append, vE_length, mE_length, strE_len, List.length_take, rvE_length]; omega)) <;> (try simp -implicitDefEqProofs (disch := omega) only [go_sem, eq_self, decide_true, decide_false, Nat.reduceBEq, Nat.reduceAdd, Nat.reduceSub, Nat.reduceMul, Nat.reduceEqDiff, Nat.reduceLeDiff, Nat.reduceLT, Int.reduceLE, Int.reduceLT, Int.reduceToNat, Int.reduceAdd, Int.reduceEq, Int.reduceNeg, AH.put_ne, stE_length, Bool.not_true, Bool.not_false, bne_self_eq_false])))
    rename_i k3 q3
    have f2 := look_put (p := .cells [vV y]) (look_put (p := .cells [vV w]) e2 q3) (show (G.put k3 (.cells [vV w])) ko = none by rw [AH.put_none]; exact hko)
    have fg := look_put (p := .cells [vV y]) (look_put (p := .cells [vV w]) hg q3) (show (G.put k3 (.cells [vV w])) ko = none by rw [AH.put_none]; exact hko)
    have f1 := look_put (p := .cells [vV y]) (look_put (p := .cells [vV w]) e1 q3) (show (G.put k3 (.cells [vV w])) ko = none by rw [AH.put_none]; exact hko)
    have f3 : ((G.put k3 (.cells [vV w])).put ko (.cells [vV y])) k3 = some (.cells [vV w]) := by rw [AH.put_ne _ _ (Ne.symm hko.1), AH.put_same]
    have fle : H.le ((G.put k3 (.cells [vV w])).put ko (.cells [vV y])) := AH.le_put (AH.le_put hle (none_of_le hle q3) _) (none_of_le hle hko.2) _
    generalize (G.put k3 (.cells [vV w])).put ko (.cells [vV y]) = G2 at *
    repeat' (first | ((with_reducible refine puts_stop2 ?_)) | with_reducible (first | refine am_seq ?_ | refine am_block ?_) | ((with_reducible apply am_cond); (case hb => rfl); all_goals (intro hc; (try simp only [reduceCtorEq, decide_eq_true_eq, decide_eq_false_iff_not, Bool.or_eq_true, Bool.and_eq_true, Bool.or_eq_false_iff, Bool.not_eq_true', Bool.not_eq_false', beq_iff_eq] at hc); (try (exfalso; omega)))) | ((first | with_reducible (first | refine am_reg ?_ | refine am_drw ?_ | refine am_drx ?_ | refine am_skip ?_ | refine am_exit ?_ | refine am_ret ?_ | refine And.intro (by first | exact AH.lec_refl _ | assumption | exact AccP.lec (by assumption) | omega) ?_ | refine isnE_of (fun hc => ?_) (fun hc => ?_) (fun hc => ?_) | refine need_elems (by assumption) ?_ | refine vlen_acc (by assumption) ?_ | refine need_bytes (by assumption) ?_ | refine call_turn (h6 _ fg) ?_ | refine need_look (by repeat (first | assumption | exact AH.put_same _ _ _ | refine look_put ?_ (by assumption) | refine look_lec ?_ (by assumption))) ?_) | ((with_reducible (first | refine gd_not (fun hc => ?_) (fun hc => ?_) | refine gd_of (fun hc => ?_) (fun hc => ?_) | refine gq_not (fun hc => ?_) (fun hc => ?_) | refine gq_of (fun hc => ?_) (fun hc => ?_) | refine pickB_of (fun hc => ?_) (fun hc => ?_))) <;> (try simp -implicitDefEqProofs (disch := omega) only [go_sem, eq_self, decide_true, decide_false, Nat.reduceBEq, Nat.reduceAdd, Nat.reduceSub, Nat.reduceMul, Nat.reduceEqDiff, Nat.reduceLeDiff, Nat.reduceLT, Int.reduceLE, Int.reduceLT, Int.reduceToNat, Int.reduceAdd, Int.reduceEq, Int.reduceNeg, AH.put_ne, hc, stE_length, Bool.not_true, Bool.not_false]) <;> (try simp only [reduceCtorEq, decide_eq_true_eq, decide_eq_false_iff_not, Bool.or_eq_true, Bool.and_eq_true, Bool.or_eq_false_iff, Bool.not_eq_true', Bool.not_eq_false', beq_iff_eq] at hc) <;> (try (exfalso; omega))) | ((with_reducible refine alloc_intro (fun ko hko => ?_)) <;> (try have hne := fresh_ne (by assumption) hko) <;> (try have hnk := fresh_ne hk hko) <;> (try have hnk2 := fresh_ne hk2 hko) <;> (try simp only [AH.put_none] at hko)) | ((with_reducible (first | refine vapp_accL (by assumption) ?_ (fun v2 H2 hacc hlec => ?_) | refine vapp_accL (AccP.mono (by assumption) (AccP.le (by assumption))) ?_ (fun v2 H2 hacc hlec => ?_) | refine vapp_accL (AccP.new (by assumption) (by assumption) _) ?_ (fun v2 H2 hacc hlec => ?_))); · simp only [byteCells_length, List.length_cons, List.length_nil, List.length_map, List.length_append, vE_length, mE_length, strE_len, List.length_take, rvE_length]; omega)) <;> (try simp -implicitDefEqProofs (disch := omega) only [go_sem, eq_self, decide_true, decide_false, Nat.reduceBEq, Nat.reduceAdd, Nat.reduceSub, Nat.reduceMul, Nat.reduceEqDiff, Nat.reduceLeDiff, Nat.reduceLT, Int.reduceLE, Int.reduceLT, Int.reduceToNat, Int.reduceAdd, Int.reduceEq, Int.reduceNeg, AH.put_ne, stE_length, Bool.not_true, Bool.not_false])))
    exact AM.sub (puts_loop ho hw hlb hkb fg f1 f3 fle) (fun t v h => get_more _ [(_, _)] h)
  · rw [chR_err he] at h4
    have h5 := kind_calls .nul
    repeat' (first | with_reducible (first | refine am_seq ?_ | refine am_block ?_) | ((with_reducible apply am_cond); (case hb => rfl); all_goals (intro hc; (try simp only [reduceCtorEq, decide_eq_true_eq, decide_eq_false_iff_not, Bool.or_eq_true, Bool.and_eq_true, Bool.or_eq_false_iff, Bool.not_eq_true', Bool.not_eq_false', beq_iff_eq] at hc); (try (exfalso; omega)))) | ((first | with_reducible (first | refine am_reg ?_ | refine am_drw ?_ | refine am_drx ?_ | refine am_skip ?_ | refine am_exit ?_ | refine am_ret ?_ | refine And.intro (by first | exact AH.lec_refl _ | assumption | exact AccP.lec (by assumption) | omega) ?_ | refine isnE_of (fun hc => ?_) (fun hc => ?_) (fun hc => ?_) | refine need_elems (by assumption) ?_ | refine vlen_acc (by assumption) ?_ | refine need_bytes (by assumption) ?_ | refine call_of (h4) ?_ | refine qcall_of (h4) ?_ | refine call_of (h5) ?_ | refine qcall_of (h5) ?_ | refine need_look (by repeat (first | assumption | exact AH.put_same _ _ _ | refine look_put ?_ (by assumption) | refine look_lec ?_ (by assumption))) ?_) | ((with_reducible (first | refine gd_not (fun hc => ?_) (fun hc => ?_) | refine gd_of (fun hc => ?_) (fun hc => ?_) | refine gq_not (fun hc => ?_) (fun hc => ?_) | refine gq_of (fun hc => ?_) (fun hc => ?_) | refine pickB_of (fun hc => ?_) (fun hc => ?_))) <;> (try simp -implicitDefEqProofs (disch := omega) only [go_sem, eq_self, decide_true, decide_false, Nat.reduceBEq, Nat.reduceAdd, Nat.reduceSub, Nat.reduceMul, Nat.reduceEqDiff, Nat.reduceLeDiff, Nat.reduceLT, Int.reduceLE, Int.reduceLT, Int.reduceToNat, Int.reduceAdd, Int.reduceEq, Int.reduceNeg, AH.put_ne, hc, stE_length, he, Bool.not_true, Bool.not_false]) <;> (try simp only [reduceCtorEq, decide_eq_true_eq, decide_eq_false_iff_not, Bool.or_eq_true, Bool.and_eq_true, Bool.or_eq_false_iff, Bool.not_eq_true', Bool.not_eq_false', beq_iff_eq] at hc) <;> (try (exfalso; omega))) | ((with_reducible refine alloc_intro (fun ko hko => ?_)) <;> (try have hne := fresh_ne (by assumption) hko) <;> (try have hnk := fresh_ne hk hko) <;> (try have hnk2 := fresh_ne hk2 hko) <;> (try simp only [AH.put_none] at hko)) | ((with_reducible (first | refine vapp_accL (by assumption) ?_ (fun v2 H2 hacc hlec => ?_) | refine vapp_accL (AccP.mono (by assumption) (AccP.le (by assumption))) ?_ (fun v2 H2 hacc hlec => ?_) | refine vapp_accL (AccP.new (by assumption) (by assumption) _) ?_ (fun v2 H2 hacc hlec => ?_))); · simp only [byteCells_length, List.length_cons, List.length_nil, List.length_map, List.length_append, vE_length, mE_length, strE_len, List.length_take, rvE_length]; omega)) <;> (try simp -implicitDefEqProofs (disch := omega) only [go_sem, eq_self, decide_true, decide_false, Nat.reduceBEq, Nat.reduceAdd, Nat.reduceSub, Nat.reduceMul, Nat.reduceEqDiff, Nat.reduceLeDiff, Nat.reduceLT, Int.reduceLE, Int.reduceLT, Int.reduceToNat, Int.reduceAdd, Int.reduceEq, Int.reduceNeg, AH.put_ne, stE_length, he, Bool.not_true, Bool.not_false])))
    all_goals exact drop_end (fun _ _ h => h) (AH.le_put hle (none_of_le hle (by assumption)) _)
theorem puts_calls {r x : Rv} {l k : List St2} (hf : r.Fit) (hx : x.Fit) {g : Nat} {H : AH} (hg : H g = some .nodr) :
    ACalls Try.prog 6 [.agg [.int .i64 r.K, .bool r.B, .int .i64 r.N, .int .i64 r.M, .str r.S, .sl 7 (rvE r.L) .no, .sl 1 (strE r.Keys) .no], .agg [.int .i64 x.K, .bool x.B, .int .i64 x.N, .int .i64 x.M, .str x.S, .sl 7 (rvE x.L) .no, .sl 1 (strE x.Keys) .no], .sl 2 (stE l) .no, .sl 2 (stE k) .no] H (fun o H' => o = .ret (.bool true) ∧ H' = H) := by
  refine ACalls.drop ?_
  have ho := ok_clean r hf
  have hox := ok_clean x hx
  have h1 := great_calls r hf
  have h1x := great_calls x hx
  have h2 := clean_calls r hf
  have h2x := clean_calls x hx
  have h3 := to_calls _ (fit_clean r hf)
  have h3x := to_calls _ (fit_clean x hx)
  obtain ⟨m, hm⟩ : ∃ m, cleanR r = m := ⟨_, rfl⟩
  rw [hm] at ho h2 h3
  obtain ⟨mx, hmx⟩ : ∃ m, cleanR x = m := ⟨_, rfl⟩
  rw [hmx] at hox h2x h3x
  simp only [rvC_eq] at h2 h2x
  obtain ⟨v, hv⟩ : ∃ v, toV m = v := ⟨_, rfl⟩
  rw [hv] at ho h3
  obtain ⟨y, hy⟩ : ∃ v, toV mx = v := ⟨_, rfl⟩
  rw [hy] at hox h3x
  refine acalls Try.func6 c6 r6 (by simp [Try.ntmps6]) ?_
  repeat' (first | ((with_reducible refine puts_stop ?_)) | with_reducible (first | refine am_seq ?_ | refine am_block ?_) | ((with_reducible apply am_cond); (case hb => rfl); all_goals (intro hc; (try simp only [reduceCtorEq, decide_eq_true_eq, decide_eq_false_iff_not, Bool.or_eq_true, Bool.and_eq_true, Bool.or_eq_false_iff, Bool.not_eq_true', Bool.not_eq_false', beq_iff_eq] at hc); (try (exfalso; omega)))) | ((first | with_reducible (first | refine am_reg ?_ | refine am_drw ?_ | refine am_drx ?_ | refine am_skip ?_ | refine am_exit ?_ | refine am_ret ?_ | refine And.intro (by first | exact AH.lec_refl _ | assumption | exact AccP.lec (by assumption) | omega) ?_ | refine isnE_of (fun hc => ?_) (fun hc => ?_) (fun hc => ?_) | refine need_elems (by assumption) ?_ | refine vlen_acc (by assumption) ?_ | refine need_bytes (by assumption) ?_ | refine call_of (h1) ?_ | refine qcall_of (h1) ?_ | refine call_of (h1x) ?_ | refine qcall_of (h1x) ?_ | refine call_of (awake_calls) ?_ | refine qcall_of (awake_calls) ?_ | refine call_of (h2) ?_ | refine qcall_of (h2) ?_ | refine call_of (h2x) ?_ | refine qcall_of (h2x) ?_ | refine call_of (h3) ?_ | refine qcall_of (h3) ?_ | refine call_of (h3x) ?_ | refine qcall_of (h3x) ?_ | refine need_look (by repeat (first | assumption | exact AH.put_same _ _ _ | refine look_put ?_ (by assumption) | refine look_lec ?_ (by assumption))) ?_) | ((with_reducible (first | refine gd_not (fun hc => ?_) (fun hc => ?_) | refine gd_of (fun hc => ?_) (fun hc => ?_) | refine gq_not (fun hc => ?_) (fun hc => ?_) | refine gq_of (fun hc => ?_) (fun hc => ?_) | refine pickB_of (fun hc => ?_) (fun hc => ?_))) <;> (try simp -implicitDefEqProofs (disch := omega) only [go_sem, eq_self, decide_true, decide_false, Nat.reduceBEq, Nat.reduceAdd, Nat.reduceSub, Nat.reduceMul, Nat.reduceEqDiff, Nat.reduceLeDiff, Nat.reduceLT, Int.reduceLE, Int.reduceLT, Int.reduceToNat, Int.reduceAdd, Int.reduceEq, Int.reduceNeg, AH.put_ne, hc, stE_length, Bool.not_true, Bool.not_false]) <;> (try simp only [reduceCtorEq, decide_eq_true_eq, decide_eq_false_iff_not, Bool.or_eq_true, Bool.and_eq_true, Bool.or_eq_false_iff, Bool.not_eq_true', Bool.not_eq_false', beq_iff_eq] at hc) <;> (try (exfalso; omega))) | ((with_reducible refine alloc_intro (fun ko hko => ?_)) <;> (try have hne := fresh_ne (by assumption) hko) <;> (try have hnk := fresh_ne hk hko) <;> (try have hnk2 := fresh_ne hk2 hko) <;> (try simp only [AH.put_none] at hko)) | ((with_reducible (first | refine vapp_accL (by assumption) ?_ (fun v2 H2 hacc hlec => ?_) | refine vapp_accL (AccP.mono (by assumption) (AccP.le (by assumption))) ?_ (fun v2 H2 hacc hlec => ?_) | refine vapp_accL (AccP.new (by assumption) (by assumption) _) ?_ (fun v2 H2 hacc hlec => ?_))); · simp only [byteCells_length, List.length_cons, List.length_nil, List.length_map, List.length_append, vE_length, mE_length, strE_len, List.length_take, rvE_length]; omega)) <;> (try simp -implicitDefEqProofs (disch := omega) only [go_sem, eq_self, decide_true, decide_false, Nat.reduceBEq, Nat.reduceAdd, Nat.reduceSub, Nat.reduceMul, Nat.reduceEqDiff, Nat.reduceLeDiff, Nat.reduceLT, Int.reduceLE, Int.reduceLT, Int.reduceToNat, Int.reduceAdd, Int.reduceEq, Int.reduceNeg, AH.put_ne, stE_length, Bool.not_true, Bool.not_false])))
  rotate_left
  · (refine drop_end (by (first | exact fun _ _ h => h | (intro s x h; first | exact no_sub _ h | exact nil_no _ h | exact AccP.sub (by assumption) _ _ h | (refine agg_sub rfl ?_ x h; repeat (first | exact .nil | refine .cons (fun _ h => h) ?_ | refine .cons (fun _ h => nil_no _ h) ?_ | refine .cons (fun _ h => no_sub _ h) ?_ | refine .cons (fun _ h => AccP.sub (by assumption) _ _ h) ?_)) | (refine tuple_sub ?_ x h; repeat (first | exact .nil | refine .cons (fun _ h => h) ?_ | refine .cons (fun _ h => nil_no _ h) ?_ | refine .cons (fun _ h => no_sub _ h) ?_ | refine .cons (fun _ h => AccP.sub (by assumption) _ _ h) ?_ | refine .cons (fun _ h => agg_sub rfl (by repeat (first | exact .nil | refine .cons (fun _ h => h) ?_ | refine .cons (fun _ h => nil_no _ h) ?_ | refine .cons (fun _ h => no_sub _ h) ?_ | refine .cons (fun _ h => AccP.sub (by assumption) _ _ h) ?_)) _ h) ?_))))) (by (repeat (first | exact AH.le_refl _ | assumption | exact AccP.le (by assumption) | refine AH.le_put ?_ (by first | assumption | exact none_of_le (by assumption) (by assumption) | exact And.right (by assumption) | exact And.right (And.right (by assumption))) _ | refine AH.le_trans ?_ (AccP.le (by assumption))))))
  · (refine drop_end (by (first | exact fun _ _ h => h | (intro s x h; first | exact no_sub _ h | exact nil_no _ h | exact AccP.sub (by assumption) _ _ h | (refine agg_sub rfl ?_ x h; repeat (first | exact .nil | refine .cons (fun _ h => h) ?_ | refine .cons (fun _ h => nil_no _ h) ?_ | refine .cons (fun _ h => no_sub _ h) ?_ | refine .cons (fun _ h => AccP.sub (by assumption) _ _ h) ?_)) | (refine tuple_sub ?_ x h; repeat (first | exact .nil | refine .cons (fun _ h => h) ?_ | refine .cons (fun _ h => nil_no _ h) ?_ | refine .cons (fun _ h => no_sub _ h) ?_ | refine .cons (fun _ h => AccP.sub (by assumption) _ _ h) ?_ | refine .cons (fun _ h => agg_sub rfl (by repeat (first | exact .nil | refine .cons (fun _ h => h) ?_ | refine .cons (fun _ h => nil_no _ h) ?_ | refine .cons (fun _ h => no_sub _ h) ?_ | refine .cons (fun _ h => AccP.sub (by assumption) _ _ h) ?_)) _ h) ?_))))) (by (repeat (first | exact AH.le_refl _ | assumption | exact AccP.le (by assumption) | refine AH.le_put ?_ (by first | assumption | exact none_of_le (by assumption) (by assumption) | exact And.right (by assumption) | exact And.right (And.right (by assumption))) _ | refine AH.le_trans ?_ (AccP.le (by assumption))))))
  · (refine drop_end (by (first | exact fun _ _ h => h | (intro s x h; first | exact no_sub _ h | exact nil_no _ h | exact AccP.sub (by assumption) _ _ h | (refine agg_sub rfl ?_ x h; repeat (first | exact .nil | refine .cons (fun _ h => h) ?_ | refine .cons (fun _ h => nil_no _ h) ?_ | refine .cons (fun _ h => no_sub _ h) ?_ | refine .cons (fun _ h => AccP.sub (by assumption) _ _ h) ?_)) | (refine tuple_sub ?_ x h; repeat (first | exact .nil | refine .cons (fun _ h => h) ?_ | refine .cons (fun _ h => nil_no _ h) ?_ | refine .cons (fun _ h => no_sub _ h) ?_ | refine .cons (fun _ h => AccP.sub (by assumption) _ _ h) ?_ | refine .cons (fun _ h => agg_sub rfl (by repeat (first | exact .nil | refine .cons (fun _ h => h) ?_ | refine .cons (fun _ h => nil_no _ h) ?_ | refine .cons (fun _ h => no_sub _ h) ?_ | refine .cons (fun _ h => AccP.sub (by assumption) _ _ h) ?_)) _ h) ?_))))) (by (repeat (first | exact AH.le_refl _ | assumption | exact AccP.le (by assumption) | refine AH.le_put ?_ (by first | assumption | exact none_of_le (by assumption) (by assumption) | exact And.right (by assumption) | exact And.right (And.right (by assumption))) _ | refine AH.le_trans ?_ (AccP.le (by assumption))))))
  · (refine drop_end (by (first | exact fun _ _ h => h | (intro s x h; first | exact no_sub _ h | exact nil_no _ h | exact AccP.sub (by assumption) _ _ h | (refine agg_sub rfl ?_ x h; repeat (first | exact .nil | refine .cons (fun _ h => h) ?_ | refine .cons (fun _ h => nil_no _ h) ?_ | refine .cons (fun _ h => no_sub _ h) ?_ | refine .cons (fun _ h => AccP.sub (by assumption) _ _ h) ?_)) | (refine tuple_sub ?_ x h; repeat (first | exact .nil | refine .cons (fun _ h => h) ?_ | refine .cons (fun _ h => nil_no _ h) ?_ | refine .cons (fun _ h => no_sub _ h) ?_ | refine .cons (fun _ h => AccP.sub (by assumption) _ _ h) ?_ | refine .cons (fun _ h => agg_sub rfl (by repeat (first | exact .nil | refine .cons (fun _ h => h) ?_ | refine .cons (fun _ h => nil_no _ h) ?_ | refine .cons (fun _ h => no_sub _ h) ?_ | refine .cons (fun _ h => AccP.sub (by assumption) _ _ h) ?_)) _ h) ?_))))) (by (repeat (first | exact AH.le_refl _ | assumption | exact AccP.le (by assumption) | refine AH.le_put ?_ (by first | assumption | exact none_of_le (by assumption) (by assumption) | exact And.right (by assumption) | exact And.right (And.right (by assumption))) _ | refine AH.le_trans ?_ (AccP.le (by assumption))))))
  rename_i k1 q1
  have hne2 : g ≠ ko := fun e => by rw [e, hko.2] at hg; cases hg
  exact puts_tail ho hox (by omega) (by omega) (by rw [AH.put_ne _ _ hne2, AH.put_ne _ _ hne, AH.put_ne _ _ hne2, AH.put_ne _ _ hne]; exact hg) (by rw [AH.put_ne _ _ (Ne.symm hko.1), AH.put_same]) (AH.put_same _ _ _) (AH.le_put (AH.le_put (AH.le_put (AH.le_put (AH.le_refl _) q1 _) hko.2 _) q1 _) hko.2 _)
end Go.Proofs.Ytjlphncecdlmcaa
