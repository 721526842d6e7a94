/- Of the walks of this seat: contracts of functions of the given program, proved over the abstract values of the texts Vm. Conditions: as each theorem says. -/
import Derived.Test.YtedjokeaanfdfaaE3
set_option linter.unusedVariables false
set_option linter.unusedSimpArgs false
namespace Go.Proofs.Ytedjokeaanfdfaa
open Go.Vm
/- flange/flangelaw25.SuperviseSpawns -/
abbrev k3_0 : MC :=
  .cond (.t 18) ((.seq (.reg [
     ⟨(some 19), none, .call 5 []⟩,
     ⟨(some 2), none, .val (.mv (.t 19))⟩] [2]) (.ret))) (.skip)

abbrev k3_1 : MC :=
  .cond (.t 43) (.skip) (.exit 0)

abbrev k3_2 : MC :=
  .cond (.t 67) ((.seq (.reg [
     ⟨(some 2), none, .val (.mv (.c (.bool false)))⟩] [2]) (.ret))) (.skip)

abbrev k3_3 : MC :=
  .cond (.t 72) ((.seq (.reg [
     ⟨(some 73), none, .val (.mv (.t 8))⟩,
     ⟨(some 74), none, .val (.faddr 2 (.t 1))⟩,
     ⟨(some 75), none, .val (.load false 1 (.t 74))⟩,
     ⟨(some 76), none, .val (.mv (.t 8))⟩,
     ⟨(some 77), none, .val (.mx false (.t 75) (.t 76))⟩,
     ⟨(some 78), none, .val (.bin .eql .num (.t 73) (.t 77))⟩,
     ⟨(some 79), none, .val (.mv (.t 78))⟩,
     ⟨(some 80), (some (79, true)), .val (.mv (.t 3))⟩,
     ⟨(some 81), (some (79, true)), .call 9 [(.t 80)]⟩,
     ⟨(some 82), (some (79, true)), .val (.bin .eql .num (.t 81) (.c (.int .i64 5)))⟩,
     ⟨(some 83), none, .val (.pick (.t 79) (.t 82) (.c (.bool false)))⟩,
     ⟨(some 84), none, .val (.mv (.t 83))⟩,
     ⟨(some 85), (some (84, true)), .val (.mv (.t 3))⟩,
     ⟨(some 86), (some (84, true)), .val (.mv (.t 7))⟩,
     ⟨(some 87), (some (84, true)), .val (.bin .add .num (.t 86) (.c (.int .i64 2000000)))⟩,
     ⟨(some 88), (some (84, true)), .call 10 [(.t 85), (.t 87)]⟩,
     ⟨(some 89), (some (84, true)), .val (.len .sl (.t 88))⟩,
     ⟨(some 90), (some (84, true)), .val (.bin .eql .num (.t 89) (.c (.int .i64 0)))⟩,
     ⟨(some 91), none, .val (.pick (.t 84) (.t 90) (.c (.bool false)))⟩,
     ⟨(some 92), none, .val (.mv (.t 91))⟩,
     ⟨(some 93), (some (92, true)), .val (.mv (.t 3))⟩,
     ⟨(some 94), (some (92, true)), .call 11 [(.t 93)]⟩,
     ⟨(some 95), (some (92, true)), .val (.bin .eql .num (.t 94) (.c (.int .i64 0)))⟩,
     ⟨(some 96), none, .val (.pick (.t 92) (.t 95) (.c (.bool false)))⟩,
     ⟨(some 97), none, .val (.mv (.t 96))⟩,
     ⟨(some 98), (some (97, true)), .val (.mv (.t 3))⟩,
     ⟨(some 99), (some (97, true)), .call 9 [(.t 98)]⟩,
     ⟨(some 100), (some (97, true)), .val (.bin .eql .num (.t 99) (.c (.int .i64 0)))⟩,
     ⟨(some 101), none, .val (.pick (.t 97) (.t 100) (.c (.bool false)))⟩,
     ⟨(some 2), none, .val (.mv (.t 101))⟩] [2]) (.ret))) (.skip)

abbrev k3_4 : MC :=
  .cond (.t 124) ((.seq (.reg [
     ⟨(some 2), none, .val (.mv (.c (.bool false)))⟩] [2]) (.ret))) (.skip)

abbrev k3_5 : MC :=
  .reg [
    ⟨(some 131), none, .val (.mv (.t 3))⟩,
    ⟨(some 132), none, .val (.mv (.t 7))⟩,
    ⟨(some 133), none, .call 10 [(.t 131), (.t 132)]⟩,
    ⟨(some 5), none, .val (.mv (.t 133))⟩] [1, 3, 5, 7, 8, 9]

abbrev k3_6 : MC :=
  (.seq (.reg [
    ⟨(some 125), none, .val (.mv (.t 7))⟩,
    ⟨(some 126), none, .val (.mv (.t 10))⟩,
    ⟨(some 127), none, .val (.iaddr 10 (.t 126) (.c (.int .i64 0)))⟩,
    ⟨(some 128), none, .val (.faddr 9 (.t 127))⟩,
    ⟨(some 129), none, .val (.load false 1 (.t 128))⟩,
    ⟨(some 130), none, .val (.bin .add .num (.t 125) (.t 129))⟩,
    ⟨(some 7), none, .val (.mv (.t 130))⟩] [1, 3, 7, 8, 9]) k3_5)

abbrev k3_7 : MC :=
  (.seq ((.seq (.drw [
    ⟨(some 102), none, .val (.mv (.t 10))⟩,
    ⟨(some 103), none, .val (.iaddr 10 (.t 102) (.c (.int .i64 0)))⟩,
    ⟨(some 104), none, .val (.faddr 9 (.t 103))⟩,
    ⟨(some 105), none, .val (.load false 1 (.t 104))⟩,
    ⟨(some 106), none, .val (.load true 4 (.t 1))⟩,
    ⟨(some 107), none, .val (.mv (.t 3))⟩,
    ⟨(some 108), none, .call 13 [(.t 107)]⟩,
    ⟨(some 109), none, .val (.mx false (.t 108) (.c (.int .i64 200)))⟩,
    ⟨(some 110), none, .call 12 [(.t 106), (.t 109)]⟩,
    ⟨(some 111), none, .val (.bin .neq .num (.t 105) (.t 110))⟩,
    ⟨(some 112), none, .val (.mv (.t 111))⟩,
    ⟨(some 113), (some (112, false)), .val (.mv (.t 3))⟩,
    ⟨(some 114), (some (112, false)), .val (.mv (.t 7))⟩,
    ⟨(some 115), (some (112, false)), .val (.mv (.t 10))⟩,
    ⟨(some 116), (some (112, false)), .val (.iaddr 10 (.t 115) (.c (.int .i64 0)))⟩,
    ⟨(some 117), (some (112, false)), .val (.faddr 9 (.t 116))⟩,
    ⟨(some 118), (some (112, false)), .val (.load false 1 (.t 117))⟩,
    ⟨(some 119), (some (112, false)), .val (.bin .add .num (.t 114) (.t 118))⟩,
    ⟨(some 120), (some (112, false)), .val (.bin .sub .num (.t 119) (.c (.int .i64 1)))⟩,
    ⟨(some 121), (some (112, false)), .call 10 [(.t 113), (.t 120)]⟩,
    ⟨(some 122), (some (112, false)), .val (.len .sl (.t 121))⟩,
    ⟨(some 123), (some (112, false)), .val (.bin .neq .num (.t 122) (.c (.int .i64 0)))⟩,
    ⟨(some 124), none, .val (.pick (.t 112) (.c (.bool true)) (.t 123))⟩] [
] [1, 3, 7, 8, 9, 10, 124]) k3_4)) k3_6)

abbrev k3_8 : MC :=
  (.seq ((.seq (.reg [
    ⟨(some 68), none, .val (.mv (.t 10))⟩,
    ⟨(some 69), none, .val (.iaddr 10 (.t 68) (.c (.int .i64 0)))⟩,
    ⟨(some 70), none, .val (.faddr 0 (.t 69))⟩,
    ⟨(some 71), none, .val (.load false 1 (.t 70))⟩,
    ⟨(some 72), none, .val (.bin .eql .num (.t 71) (.c (.int .i64 5)))⟩] [1, 3, 7, 8, 9, 10, 72]) k3_3)) k3_7)

abbrev k3_9 : MC :=
  (.seq ((.seq (.reg [
    ⟨(some 54), none, .val (.mv (.t 11))⟩,
    ⟨(some 55), none, .val (.bin .neq .num (.t 54) (.c (.int .i64 0)))⟩,
    ⟨(some 56), none, .val (.mv (.t 55))⟩,
    ⟨(some 57), (some (56, false)), .val (.mv (.t 10))⟩,
    ⟨(some 58), (some (56, false)), .val (.len .sl (.t 57))⟩,
    ⟨(some 59), (some (56, false)), .val (.bin .neq .num (.t 58) (.c (.int .i64 1)))⟩,
    ⟨(some 60), none, .val (.pick (.t 56) (.c (.bool true)) (.t 59))⟩,
    ⟨(some 61), none, .val (.mv (.t 60))⟩,
    ⟨(some 62), (some (61, false)), .val (.mv (.t 10))⟩,
    ⟨(some 63), (some (61, false)), .val (.iaddr 10 (.t 62) (.c (.int .i64 0)))⟩,
    ⟨(some 64), (some (61, false)), .val (.faddr 8 (.t 63))⟩,
    ⟨(some 65), (some (61, false)), .val (.load false 1 (.t 64))⟩,
    ⟨(some 66), (some (61, false)), .val (.bin .neq .num (.t 65) (.c (.int .i64 14)))⟩,
    ⟨(some 67), none, .val (.pick (.t 61) (.c (.bool true)) (.t 66))⟩] [1, 3, 7, 8, 9, 10, 67]) k3_2)) k3_8)

abbrev k3_10 : MC :=
  (.seq (.reg [
    ⟨(some 49), none, .val (.mv (.t 3))⟩,
    ⟨(some 50), none, .val (.mv (.t 7))⟩,
    ⟨(some 51), none, .call 8 [(.t 49), (.t 50), (.c (.bool false))]⟩,
    ⟨(some 48), none, .val (.mv (.t 51))⟩,
    ⟨(some 52), none, .val (.ext (.t 48) 0)⟩,
    ⟨(some 53), none, .val (.ext (.t 48) 1)⟩,
    ⟨(some 10), none, .val (.mv (.t 52))⟩,
    ⟨(some 11), none, .val (.mv (.t 53))⟩] [1, 3, 7, 8, 9, 10, 11]) k3_9)

abbrev k3_11 : MC :=
  .reg [
    ⟨(some 44), none, .val (.mv (.t 9))⟩,
    ⟨(some 45), none, .val (.bin .add .num (.t 44) (.c (.int .i64 1)))⟩,
    ⟨(some 9), none, .val (.mv (.t 45))⟩] [1, 3, 5, 7, 8, 9]

abbrev k3_12 : MC :=
  (.seq (.block 1 ((.seq (.reg [
     ⟨(some 46), none, .val (.mv (.t 8))⟩,
     ⟨(some 47), none, .val (.bin .add .num (.t 46) (.c (.int .i64 1)))⟩,
     ⟨(some 8), none, .val (.mv (.t 47))⟩] [1, 3, 7, 8, 9]) k3_10))) k3_11)

abbrev k3_13 : MC :=
  (.seq ((.seq (.reg [
    ⟨(some 30), none, .val (.mv (.t 9))⟩,
    ⟨(some 31), none, .val (.bin .lss .num (.t 30) (.c (.int .i64 110)))⟩,
    ⟨(some 32), none, .val (.mv (.t 31))⟩,
    ⟨(some 33), (some (32, true)), .val (.mv (.t 5))⟩,
    ⟨(some 34), (some (32, true)), .val (.len .sl (.t 33))⟩,
    ⟨(some 35), (some (32, true)), .val (.bin .eql .num (.t 34) (.c (.int .i64 1)))⟩,
    ⟨(some 36), none, .val (.pick (.t 32) (.t 35) (.c (.bool false)))⟩,
    ⟨(some 37), none, .val (.mv (.t 36))⟩,
    ⟨(some 38), (some (37, true)), .val (.mv (.t 5))⟩,
    ⟨(some 39), (some (37, true)), .val (.iaddr 10 (.t 38) (.c (.int .i64 0)))⟩,
    ⟨(some 40), (some (37, true)), .val (.faddr 0 (.t 39))⟩,
    ⟨(some 41), (some (37, true)), .val (.load false 1 (.t 40))⟩,
    ⟨(some 42), (some (37, true)), .val (.bin .eql .num (.t 41) (.c (.int .i64 0)))⟩,
    ⟨(some 43), none, .val (.pick (.t 37) (.t 42) (.c (.bool false)))⟩] [1, 3, 7, 8, 9, 43]) k3_1)) k3_12)

abbrev k3_14 : MC :=
  .block 0 (.loop k3_13)

abbrev k3_15 : MC :=
  (.seq (.reg [
    ⟨(some 134), none, .val (.mv (.t 8))⟩,
    ⟨(some 135), none, .val (.bin .eql .num (.t 134) (.c (.int .i64 110)))⟩,
    ⟨(some 2), none, .val (.mv (.t 135))⟩] [2]) (.ret))

abbrev k3_16 : MC :=
  (.seq ((.seq (.reg [
    ⟨(some 9), none, .val (.mv (.c (.int .i64 0)))⟩] [1, 3, 5, 7, 8, 9]) k3_14)) k3_15)

abbrev k3_17 : MC :=
  (.seq (.reg [
    ⟨(some 7), none, .val (.mv (.c (.int .i64 0)))⟩,
    ⟨(some 8), none, .val (.mv (.c (.int .i64 0)))⟩] [1, 3, 5, 7, 8]) k3_16)

abbrev k3_18 : MC :=
  (.seq (.reg [
    ⟨(some 26), none, .val (.mv (.t 3))⟩,
    ⟨(some 27), none, .call 7 [(.t 26), (.c (.int .i64 0))]⟩,
    ⟨(some 25), none, .val (.mv (.t 27))⟩,
    ⟨(some 28), none, .val (.ext (.t 25) 0)⟩,
    ⟨(some 29), none, .val (.ext (.t 25) 1)⟩,
    ⟨(some 5), none, .val (.mv (.t 28))⟩,
    ⟨(some 6), none, .val (.mv (.t 29))⟩] [1, 3, 5]) k3_17)

abbrev k3_19 : MC :=
  (.seq (.reg [
    ⟨(some 21), none, .val (.load true 4 (.t 1))⟩,
    ⟨(some 22), none, .call 6 [(.t 21), (.c (.int .i64 100)), (.c (.int .i64 10))]⟩,
    ⟨(some 20), none, .val (.mv (.t 22))⟩,
    ⟨(some 23), none, .val (.ext (.t 20) 0)⟩,
    ⟨(some 24), none, .val (.ext (.t 20) 1)⟩,
    ⟨(some 3), none, .val (.mv (.t 23))⟩,
    ⟨(some 4), none, .val (.mv (.t 24))⟩] [1, 3]) k3_18)

abbrev k3_20 : MC :=
  (.seq ((.seq (.reg [
    ⟨(some 12), none, .val (.load true 4 (.t 1))⟩,
    ⟨(some 13), none, .call 4 [(.t 12)]⟩,
    ⟨(some 14), none, .val (.not (.t 13))⟩,
    ⟨(some 15), none, .val (.mv (.t 14))⟩,
    ⟨(some 16), (some (15, false)), .call 5 []⟩,
    ⟨(some 17), (some (15, false)), .val (.not (.t 16))⟩,
    ⟨(some 18), none, .val (.pick (.t 15) (.c (.bool true)) (.t 17))⟩] [1, 18]) k3_0)) k3_19)
abbrev k3 : MC :=
  (.seq (.reg [
    ⟨(some 1), none, .boxi (.t 0)⟩,
    ⟨(some 2), none, .val (.mv (.c (.bool false)))⟩] [1]) k3_20)
theorem c3 : Try.f3.body.bind (mcOf Try.prog (List.contains [1] ·) (List.getD [([], [1]), ([], [1, 18]), ([], [2]), ([], [1, 3]), ([], [1, 3, 5]), ([], [1, 3, 5, 7, 8]), ([], [1, 3, 5, 7, 8, 9]), ([], [1, 3, 7, 8, 9, 43]), ([], [1, 3, 5, 7, 8, 9]), ([], [1, 3, 7, 8, 9]), ([], [1, 3, 7, 8, 9, 10, 11]), ([], [1, 3, 7, 8, 9, 10, 67]), ([], [2]), ([], [1, 3, 7, 8, 9, 10, 72]), ([], [2]), ([0, 0, 0, 0, 0, 0, 0, 0, 0, 0, 0, 0, 0, 0, 0, 0, 0, 0, 0, 0, 0, 0, 0], [1, 3, 7, 8, 9, 10, 124]), ([], [2]), ([], [1, 3, 7, 8, 9]), ([], [1, 3, 5, 7, 8, 9]), ([], [2])] · ([], [])) 136) = some k3 := by kernel_rfl
theorem r3 : rvsOf Try.prog Try.f3.results.toList = some [.tmp 2] := by kernel_rfl

attribute [local go_sem] Rl.cells intsE_get intsE_length List.drop_zero toNat_succ Nat.sub_zero Int.toNat_natCast Option.map_some Int.natCast_nonneg decide_eq_true_eq decide_eq_false_iff_not
def lwI (r : Rl) (kb k : Nat) (H : AH) (n : Nat) (a : A) (H' : AH) : Prop := ∃ (i : Nat) (now cnt un : Int), i + n = 110 ∧
  a = [(1, .rptr [.int .i64 r.b, .int .i64 r.c, .int .i64 r.t, .int .i64 r.m] 0), (3, .ptr k 0), (5, .sl 10 [evC 0 0 0] .tight), (7, .int .i64 now), (8, .int .i64 i), (9, .int .i64 i)] ∧
  H' kb = some (stO r 0 cnt false) ∧ H' k = some (kpO kb 100 10 1 un .nilPtr) ∧ H.le H' ∧ 0 ≤ cnt ∧ cnt < r.t ∧ 0 ≤ now ∧ now ≤ i * 1000000 ∧ (now ≤ r.m → cnt = i) ∧ (0 < i → 2 ≤ r.t) ∧ (i = 0 → now = 0)
abbrev lwQ (H : AH) : AExit → A → AH → Prop := BQ 0 (SQ Try.prog Try.f3.ntmps k3_15 (Body [RV.tmp 2] fun o H' => (∃ u, o = Out.ret u ∧ ∀ (s : St) (x : Value), s.val u x → s.val (V.bool true) x) ∧ H.le H'))
theorem lw_round {r : Rl} {kb k : Nat} {H : AH} (hok : r.ok) (hne : k ≠ kb) (e1 : H kb = none) (e2 : H k = none) (n : Nat) (a : A) (H' : AH) (h : lwI r kb k H n a H') : AM Try.prog Try.f3.ntmps k3_13 (LQ (lwI r kb k H) n (lwQ H)) a H' := by
  obtain ⟨i, now, cnt, un, hi, rfl, hk, hk2, hle, c0, c1, n0, n1, hcm, h2t, hz⟩ := h
  have hm1 := hok.2.2.2.2.2.1
  have ht1 := hok.2.2.2.2.1
  by_cases hlt : i < 110
  · have hlt' : (i : Int) < 110 := by omega
    have sp := fun (G : AH) hk hk2 => spawned_calls (k := k) (kb := kb) (s := 0) (n := cnt) (now := now) (lim := 100) (wt := 10) (un := un) (sv := .nilPtr) (H := G) hok (by omega) (by omega) c0 (by omega) n0 (by omega) hk hk2 hne
    simp only [Int.sub_zero] at sp
    have hq : ∃ q, q = (if r.m < now then (0 : Int) else cnt) + 1 := ⟨_, rfl⟩
    obtain ⟨q, hq⟩ := hq
    rw [← hq] at sp
    have hq1 : 1 ≤ q := by rw [hq]; split <;> omega
    have hq2 : q ≤ r.t := by rw [hq]; split <;> omega
    have hq3 : q ≤ (i : Int) + 1 := by rw [hq]; split <;> omega
    have hq4 : r.t ≤ q → q = (i : Int) + 1 := by
      intro h; rw [hq] at h ⊢
      split at h
      · rename_i h1; rw [if_pos h1]; omega
      · rename_i h1; rw [if_neg h1]; have := hcm (by omega); omega
    by_cases h : r.t ≤ q
    · have hq5 := hq4 h
      have hmin : min r.t ((i : Int) + 1) = (i : Int) + 1 := by omega
      simp only [h, if_true, decide_true] at sp
      repeat' (first | with_reducible refine am_seq ?_ | with_reducible refine am_block ?_ | ((with_reducible apply am_cond); (case hb => rfl); all_goals (intro hc; (try simp only [reduceCtorEq, decide_eq_true_eq, decide_eq_false_iff_not, Bool.or_eq_true, Bool.and_eq_true, Bool.or_eq_false_iff, Bool.not_eq_true', Bool.not_eq_false', beq_iff_eq] at hc); (try (exfalso; omega)))) | ((first | with_reducible refine am_reg ?_ | with_reducible refine am_drw ?_ | with_reducible refine am_skip ?_ | with_reducible refine am_exit ?_ | with_reducible refine am_ret ?_ | with_reducible refine And.intro (by first | exact AH.lec_refl _ | assumption | exact AccP.lec (by assumption) | omega) ?_ | with_reducible refine isnE_of (fun hc => ?_) (fun hc => ?_) (fun hc => ?_) | ((first | with_reducible refine gd_not (fun hc => ?_) (fun hc => ?_) | with_reducible refine gd_of (fun hc => ?_) (fun hc => ?_) | with_reducible refine gq_not (fun hc => ?_) (fun hc => ?_) | with_reducible refine gq_of (fun hc => ?_) (fun hc => ?_) | with_reducible refine pickB_of (fun hc => ?_) (fun hc => ?_)) <;> (try simp -implicitDefEqProofs (disch := omega) only [go_sem, eq_self, decide_true, decide_false, Nat.reduceBEq, Nat.reduceAdd, Nat.reduceSub, Nat.reduceMul, Nat.reduceEqDiff, Nat.reduceLeDiff, Nat.reduceLT, Int.reduceLE, Int.reduceLT, Int.reduceToNat, Int.reduceAdd, Int.reduceEq, Int.reduceNeg, AH.put_ne, hc, wrap_id, hlt', hmin, evC]) <;> (try simp only [reduceCtorEq, decide_eq_true_eq, decide_eq_false_iff_not, Bool.or_eq_true, Bool.and_eq_true, Bool.or_eq_false_iff, Bool.not_eq_true', Bool.not_eq_false', beq_iff_eq] at hc) <;> (try (exfalso; omega))) | ((with_reducible refine alloc_intro (fun ko hko => ?_)) <;> (try have hne := fresh_ne (by assumption) hko) <;> (try have hnk := fresh_ne hk hko) <;> (try have hnk2 := fresh_ne hk2 hko) <;> (try simp only [AH.put_none] at hko)) | ((first | (with_reducible refine vapp_accL (by assumption) ?_ (fun v2 H2 hacc hlec => ?_)) | (with_reducible refine vapp_accL (AccP.mono (by assumption) (AccP.le (by assumption))) ?_ (fun v2 H2 hacc hlec => ?_)) | (with_reducible refine vapp_accL (AccP.new (by assumption) (by assumption) _) ?_ (fun v2 H2 hacc hlec => ?_))); · simp only [byteCells_length, List.length_cons, List.length_nil, List.length_map, List.length_append]; omega) | with_reducible refine need_elems (by assumption) ?_ | with_reducible refine vlen_acc (by assumption) ?_ | with_reducible refine need_bytes (by assumption) ?_ | with_reducible refine call_turn (sp _ hk hk2) ?_ | (first | with_reducible refine call_at (fun G hl => state_calls (look_lec (AH.put_same _ _ _) hl)) ?_ | with_reducible refine qcall_at (fun G hl => state_calls (look_lec (AH.put_same _ _ _) hl)) ?_) | (first | with_reducible refine call_at (fun G hl => tickl_calls (look_lec (AH.put_same _ _ _) hl)) ?_ | with_reducible refine qcall_at (fun G hl => tickl_calls (look_lec (AH.put_same _ _ _) hl)) ?_) | with_reducible refine call_turn (reset_calls (AH.put_same _ _ _) (look_ne (Ne.symm hne) (AH.put_same _ _ _)) hne) ?_ | with_reducible refine need_look (by assumption) ?_ | with_reducible refine need_look (look_put (by assumption) (by assumption)) ?_ | with_reducible refine need_look (look_lec (by assumption) (by assumption)) ?_ | with_reducible refine need_look (look_put (AH.put_same _ _ _) (by assumption)) ?_ | with_reducible refine need_look (look_lec (AH.put_same _ _ _) (by assumption)) ?_ | with_reducible refine need_look (look_put (look_put (by assumption) (by assumption)) (by assumption)) ?_ | with_reducible refine need_look (look_lec (look_put (by assumption) (by assumption)) (by assumption)) ?_ | with_reducible refine need_look (look_put (look_lec (by assumption) (by assumption)) (by assumption)) ?_ | with_reducible refine need_look (look_lec (look_lec (by assumption) (by assumption)) (by assumption)) ?_ | with_reducible refine need_look (look_put (look_put (AH.put_same _ _ _) (by assumption)) (by assumption)) ?_ | with_reducible refine need_look (look_lec (look_put (AH.put_same _ _ _) (by assumption)) (by assumption)) ?_ | with_reducible refine need_look (look_put (look_lec (AH.put_same _ _ _) (by assumption)) (by assumption)) ?_ | with_reducible refine need_look (look_lec (look_lec (AH.put_same _ _ _) (by assumption)) (by assumption)) ?_) <;> (try simp -implicitDefEqProofs (disch := omega) only [go_sem, eq_self, decide_true, decide_false, Nat.reduceBEq, Nat.reduceAdd, Nat.reduceSub, Nat.reduceMul, Nat.reduceEqDiff, Nat.reduceLeDiff, Nat.reduceLT, Int.reduceLE, Int.reduceLT, Int.reduceToNat, Int.reduceAdd, Int.reduceEq, Int.reduceNeg, AH.put_ne, wrap_id, hlt', hmin, evC])))
      all_goals exact end_le (AH.le_put (AH.le_put (AH.le_put (AH.le_put hle e1 _) e2 _) e1 _) e2 _)
    · have d0 := r.delay_nonneg hok q.toNat
      have hmin : min q 200 = q := by omega
      simp only [h, if_false, decide_false] at sp
      repeat' (first | with_reducible refine am_seq ?_ | with_reducible refine am_block ?_ | ((with_reducible apply am_cond); (case hb => rfl); all_goals (intro hc; (try simp only [reduceCtorEq, decide_eq_true_eq, decide_eq_false_iff_not, Bool.or_eq_true, Bool.and_eq_true, Bool.or_eq_false_iff, Bool.not_eq_true', Bool.not_eq_false', beq_iff_eq] at hc); (try (exfalso; omega)))) | ((first | with_reducible refine am_reg ?_ | with_reducible refine am_drw ?_ | with_reducible refine am_skip ?_ | with_reducible refine am_exit ?_ | with_reducible refine am_ret ?_ | with_reducible refine And.intro (by first | exact AH.lec_refl _ | assumption | exact AccP.lec (by assumption) | omega) ?_ | with_reducible refine isnE_of (fun hc => ?_) (fun hc => ?_) (fun hc => ?_) | ((first | with_reducible refine gd_not (fun hc => ?_) (fun hc => ?_) | with_reducible refine gd_of (fun hc => ?_) (fun hc => ?_) | with_reducible refine gq_not (fun hc => ?_) (fun hc => ?_) | with_reducible refine gq_of (fun hc => ?_) (fun hc => ?_) | with_reducible refine pickB_of (fun hc => ?_) (fun hc => ?_)) <;> (try simp -implicitDefEqProofs (disch := omega) only [go_sem, eq_self, decide_true, decide_false, Nat.reduceBEq, Nat.reduceAdd, Nat.reduceSub, Nat.reduceMul, Nat.reduceEqDiff, Nat.reduceLeDiff, Nat.reduceLT, Int.reduceLE, Int.reduceLT, Int.reduceToNat, Int.reduceAdd, Int.reduceEq, Int.reduceNeg, AH.put_ne, hc, wrap_id, hlt', hmin, evC]) <;> (try simp only [reduceCtorEq, decide_eq_true_eq, decide_eq_false_iff_not, Bool.or_eq_true, Bool.and_eq_true, Bool.or_eq_false_iff, Bool.not_eq_true', Bool.not_eq_false', beq_iff_eq] at hc) <;> (try (exfalso; omega))) | ((with_reducible refine alloc_intro (fun ko hko => ?_)) <;> (try have hne := fresh_ne (by assumption) hko) <;> (try have hnk := fresh_ne hk hko) <;> (try have hnk2 := fresh_ne hk2 hko) <;> (try simp only [AH.put_none] at hko)) | ((first | (with_reducible refine vapp_accL (by assumption) ?_ (fun v2 H2 hacc hlec => ?_)) | (with_reducible refine vapp_accL (AccP.mono (by assumption) (AccP.le (by assumption))) ?_ (fun v2 H2 hacc hlec => ?_)) | (with_reducible refine vapp_accL (AccP.new (by assumption) (by assumption) _) ?_ (fun v2 H2 hacc hlec => ?_))); · simp only [byteCells_length, List.length_cons, List.length_nil, List.length_map, List.length_append]; omega) | with_reducible refine need_elems (by assumption) ?_ | with_reducible refine vlen_acc (by assumption) ?_ | with_reducible refine need_bytes (by assumption) ?_ | with_reducible refine call_turn (sp _ hk hk2) ?_ | (first | with_reducible refine call_at (fun G hl => tries_calls (look_lec (AH.put_same _ _ _) hl) (look_lec (look_ne (Ne.symm hne) (AH.put_same _ _ _)) hl)) ?_ | with_reducible refine qcall_at (fun G hl => tries_calls (look_lec (AH.put_same _ _ _) hl) (look_lec (look_ne (Ne.symm hne) (AH.put_same _ _ _)) hl)) ?_) | (first | with_reducible refine call_of (delayI_calls hok (by omega) (by omega)) ?_ | with_reducible refine qcall_of (delayI_calls hok (by omega) (by omega)) ?_) | (first | with_reducible refine call_at (fun G hl => tickw_calls (by omega) (by omega) (by omega) (look_lec (AH.put_same _ _ _) hl)) ?_ | with_reducible refine qcall_at (fun G hl => tickw_calls (by omega) (by omega) (by omega) (look_lec (AH.put_same _ _ _) hl)) ?_) | with_reducible refine call_turn (tickg_calls (by omega) (by omega) (by omega) (AH.put_same _ _ _)) ?_ | with_reducible refine need_look (by assumption) ?_ | with_reducible refine need_look (look_put (by assumption) (by assumption)) ?_ | with_reducible refine need_look (look_lec (by assumption) (by assumption)) ?_ | with_reducible refine need_look (look_put (AH.put_same _ _ _) (by assumption)) ?_ | with_reducible refine need_look (look_lec (AH.put_same _ _ _) (by assumption)) ?_ | with_reducible refine need_look (look_put (look_put (by assumption) (by assumption)) (by assumption)) ?_ | with_reducible refine need_look (look_lec (look_put (by assumption) (by assumption)) (by assumption)) ?_ | with_reducible refine need_look (look_put (look_lec (by assumption) (by assumption)) (by assumption)) ?_ | with_reducible refine need_look (look_lec (look_lec (by assumption) (by assumption)) (by assumption)) ?_ | with_reducible refine need_look (look_put (look_put (AH.put_same _ _ _) (by assumption)) (by assumption)) ?_ | with_reducible refine need_look (look_lec (look_put (AH.put_same _ _ _) (by assumption)) (by assumption)) ?_ | with_reducible refine need_look (look_put (look_lec (AH.put_same _ _ _) (by assumption)) (by assumption)) ?_ | with_reducible refine need_look (look_lec (look_lec (AH.put_same _ _ _) (by assumption)) (by assumption)) ?_) <;> (try simp -implicitDefEqProofs (disch := omega) only [go_sem, eq_self, decide_true, decide_false, Nat.reduceBEq, Nat.reduceAdd, Nat.reduceSub, Nat.reduceMul, Nat.reduceEqDiff, Nat.reduceLeDiff, Nat.reduceLT, Int.reduceLE, Int.reduceLT, Int.reduceToNat, Int.reduceAdd, Int.reduceEq, Int.reduceNeg, AH.put_ne, wrap_id, hlt', hmin, evC])))
      all_goals refine ⟨n - 1, by omega, i + 1, now + r.delay q.toNat, q, now + r.delay q.toNat, by omega, by rw [Int.natCast_add]; rfl, by rw [AH.put_ne _ _ (Ne.symm hne), AH.put_same], AH.put_same _ _ _, AH.le_put (AH.le_put hle e1 _) e2 _, by omega, by omega, by omega, by omega, ?_, by omega, by omega⟩
      all_goals (intro h6; rw [hq, if_neg (by omega), hcm (by omega)]; omega)
  · have hlt' : ¬ (i : Int) < 110 := by omega
    repeat' (first | with_reducible refine am_seq ?_ | with_reducible refine am_block ?_ | ((with_reducible apply am_cond); (case hb => rfl); all_goals (intro hc; (try simp only [reduceCtorEq, decide_eq_true_eq, decide_eq_false_iff_not, Bool.or_eq_true, Bool.and_eq_true, Bool.or_eq_false_iff, Bool.not_eq_true', Bool.not_eq_false', beq_iff_eq] at hc); (try (exfalso; omega)))) | ((first | with_reducible refine am_reg ?_ | with_reducible refine am_drw ?_ | with_reducible refine am_skip ?_ | with_reducible refine am_exit ?_ | with_reducible refine am_ret ?_ | with_reducible refine And.intro (by first | exact AH.lec_refl _ | assumption | exact AccP.lec (by assumption) | omega) ?_ | with_reducible refine isnE_of (fun hc => ?_) (fun hc => ?_) (fun hc => ?_) | ((first | with_reducible refine gd_not (fun hc => ?_) (fun hc => ?_) | with_reducible refine gd_of (fun hc => ?_) (fun hc => ?_) | with_reducible refine gq_not (fun hc => ?_) (fun hc => ?_) | with_reducible refine gq_of (fun hc => ?_) (fun hc => ?_) | with_reducible refine pickB_of (fun hc => ?_) (fun hc => ?_)) <;> (try simp -implicitDefEqProofs (disch := omega) only [go_sem, eq_self, decide_true, decide_false, Nat.reduceBEq, Nat.reduceAdd, Nat.reduceSub, Nat.reduceMul, Nat.reduceEqDiff, Nat.reduceLeDiff, Nat.reduceLT, Int.reduceLE, Int.reduceLT, Int.reduceToNat, Int.reduceAdd, Int.reduceEq, Int.reduceNeg, AH.put_ne, hc, wrap_id, hlt']) <;> (try simp only [reduceCtorEq, decide_eq_true_eq, decide_eq_false_iff_not, Bool.or_eq_true, Bool.and_eq_true, Bool.or_eq_false_iff, Bool.not_eq_true', Bool.not_eq_false', beq_iff_eq] at hc) <;> (try (exfalso; omega))) | ((with_reducible refine alloc_intro (fun ko hko => ?_)) <;> (try have hne := fresh_ne (by assumption) hko) <;> (try have hnk := fresh_ne hk hko) <;> (try have hnk2 := fresh_ne hk2 hko) <;> (try simp only [AH.put_none] at hko)) | ((first | (with_reducible refine vapp_accL (by assumption) ?_ (fun v2 H2 hacc hlec => ?_)) | (with_reducible refine vapp_accL (AccP.mono (by assumption) (AccP.le (by assumption))) ?_ (fun v2 H2 hacc hlec => ?_)) | (with_reducible refine vapp_accL (AccP.new (by assumption) (by assumption) _) ?_ (fun v2 H2 hacc hlec => ?_))); · simp only [byteCells_length, List.length_cons, List.length_nil, List.length_map, List.length_append]; omega) | with_reducible refine need_elems (by assumption) ?_ | with_reducible refine vlen_acc (by assumption) ?_ | with_reducible refine need_bytes (by assumption) ?_ | with_reducible refine need_look (by assumption) ?_ | with_reducible refine need_look (look_put (by assumption) (by assumption)) ?_ | with_reducible refine need_look (look_lec (by assumption) (by assumption)) ?_ | with_reducible refine need_look (look_put (AH.put_same _ _ _) (by assumption)) ?_ | with_reducible refine need_look (look_lec (AH.put_same _ _ _) (by assumption)) ?_ | with_reducible refine need_look (look_put (look_put (by assumption) (by assumption)) (by assumption)) ?_ | with_reducible refine need_look (look_lec (look_put (by assumption) (by assumption)) (by assumption)) ?_ | with_reducible refine need_look (look_put (look_lec (by assumption) (by assumption)) (by assumption)) ?_ | with_reducible refine need_look (look_lec (look_lec (by assumption) (by assumption)) (by assumption)) ?_ | with_reducible refine need_look (look_put (look_put (AH.put_same _ _ _) (by assumption)) (by assumption)) ?_ | with_reducible refine need_look (look_lec (look_put (AH.put_same _ _ _) (by assumption)) (by assumption)) ?_ | with_reducible refine need_look (look_put (look_lec (AH.put_same _ _ _) (by assumption)) (by assumption)) ?_ | with_reducible refine need_look (look_lec (look_lec (AH.put_same _ _ _) (by assumption)) (by assumption)) ?_) <;> (try simp -implicitDefEqProofs (disch := omega) only [go_sem, eq_self, decide_true, decide_false, Nat.reduceBEq, Nat.reduceAdd, Nat.reduceSub, Nat.reduceMul, Nat.reduceEqDiff, Nat.reduceLeDiff, Nat.reduceLT, Int.reduceLE, Int.reduceLT, Int.reduceToNat, Int.reduceAdd, Int.reduceEq, Int.reduceNeg, AH.put_ne, wrap_id, hlt'])))
    all_goals exact end_eq (by rw [decide_eq_true (by omega)]) hle
theorem law_calls {r : Rl} (H : AH) : ACalls Try.prog 3 [.agg r.cells] H (fun o H' => o = .ret (.bool true) ∧ H' = H) := by
  refine ACalls.drop ?_
  refine acalls Try.func3 c3 r3 (by simp [Try.ntmps3]) ?_
  have rc := fun H => right_calls (r := r) H
  simp only [Rl.cells] at rc
  by_cases hok : r.ok
  · rw [decide_eq_true hok] at rc
    repeat' (first | with_reducible refine am_seq ?_ | with_reducible refine am_block ?_ | ((with_reducible apply am_cond); (case hb => rfl); all_goals (intro hc; (try simp only [reduceCtorEq, decide_eq_true_eq, decide_eq_false_iff_not, Bool.or_eq_true, Bool.and_eq_true, Bool.or_eq_false_iff, Bool.not_eq_true', Bool.not_eq_false', beq_iff_eq] at hc); (try (exfalso; omega)))) | ((first | with_reducible refine am_reg ?_ | with_reducible refine am_drw ?_ | with_reducible refine am_skip ?_ | with_reducible refine am_exit ?_ | with_reducible refine am_ret ?_ | with_reducible refine And.intro (by first | exact AH.lec_refl _ | assumption | exact AccP.lec (by assumption) | omega) ?_ | with_reducible refine isnE_of (fun hc => ?_) (fun hc => ?_) (fun hc => ?_) | ((first | with_reducible refine gd_not (fun hc => ?_) (fun hc => ?_) | with_reducible refine gd_of (fun hc => ?_) (fun hc => ?_) | with_reducible refine gq_not (fun hc => ?_) (fun hc => ?_) | with_reducible refine gq_of (fun hc => ?_) (fun hc => ?_) | with_reducible refine pickB_of (fun hc => ?_) (fun hc => ?_)) <;> (try simp -implicitDefEqProofs (disch := omega) only [go_sem, eq_self, decide_true, decide_false, Nat.reduceBEq, Nat.reduceAdd, Nat.reduceSub, Nat.reduceMul, Nat.reduceEqDiff, Nat.reduceLeDiff, Nat.reduceLT, Int.reduceLE, Int.reduceLT, Int.reduceToNat, Int.reduceAdd, Int.reduceEq, Int.reduceNeg, AH.put_ne, hc]) <;> (try simp only [reduceCtorEq, decide_eq_true_eq, decide_eq_false_iff_not, Bool.or_eq_true, Bool.and_eq_true, Bool.or_eq_false_iff, Bool.not_eq_true', Bool.not_eq_false', beq_iff_eq] at hc) <;> (try (exfalso; omega))) | ((with_reducible refine alloc_intro (fun ko hko => ?_)) <;> (try have hne := fresh_ne (by assumption) hko) <;> (try have hnk := fresh_ne hk hko) <;> (try have hnk2 := fresh_ne hk2 hko) <;> (try simp only [AH.put_none] at hko)) | ((first | (with_reducible refine vapp_accL (by assumption) ?_ (fun v2 H2 hacc hlec => ?_)) | (with_reducible refine vapp_accL (AccP.mono (by assumption) (AccP.le (by assumption))) ?_ (fun v2 H2 hacc hlec => ?_)) | (with_reducible refine vapp_accL (AccP.new (by assumption) (by assumption) _) ?_ (fun v2 H2 hacc hlec => ?_))); · simp only [byteCells_length, List.length_cons, List.length_nil, List.length_map, List.length_append]; omega) | with_reducible refine need_elems (by assumption) ?_ | with_reducible refine vlen_acc (by assumption) ?_ | with_reducible refine need_bytes (by assumption) ?_ | (first | with_reducible refine call_of (rc) ?_ | with_reducible refine qcall_of (rc) ?_) | (first | with_reducible refine call_of (awake_calls) ?_ | with_reducible refine qcall_of (awake_calls) ?_) | with_reducible refine call_ex (new_calls hok (by decide) (by decide) (by decide) (by decide) _) (fun v H2 hr => ?_) | with_reducible refine need_look (by assumption) ?_ | with_reducible refine need_look (look_put (by assumption) (by assumption)) ?_ | with_reducible refine need_look (look_lec (by assumption) (by assumption)) ?_ | with_reducible refine need_look (look_put (AH.put_same _ _ _) (by assumption)) ?_ | with_reducible refine need_look (look_lec (AH.put_same _ _ _) (by assumption)) ?_ | with_reducible refine need_look (look_put (look_put (by assumption) (by assumption)) (by assumption)) ?_ | with_reducible refine need_look (look_lec (look_put (by assumption) (by assumption)) (by assumption)) ?_ | with_reducible refine need_look (look_put (look_lec (by assumption) (by assumption)) (by assumption)) ?_ | with_reducible refine need_look (look_lec (look_lec (by assumption) (by assumption)) (by assumption)) ?_ | with_reducible refine need_look (look_put (look_put (AH.put_same _ _ _) (by assumption)) (by assumption)) ?_ | with_reducible refine need_look (look_lec (look_put (AH.put_same _ _ _) (by assumption)) (by assumption)) ?_ | with_reducible refine need_look (look_put (look_lec (AH.put_same _ _ _) (by assumption)) (by assumption)) ?_ | with_reducible refine need_look (look_lec (look_lec (AH.put_same _ _ _) (by assumption)) (by assumption)) ?_) <;> (try simp -implicitDefEqProofs (disch := omega) only [go_sem, eq_self, decide_true, decide_false, Nat.reduceBEq, Nat.reduceAdd, Nat.reduceSub, Nat.reduceMul, Nat.reduceEqDiff, Nat.reduceLeDiff, Nat.reduceLT, Int.reduceLE, Int.reduceLT, Int.reduceToNat, Int.reduceAdd, Int.reduceEq, Int.reduceNeg, AH.put_ne])))
    obtain ⟨kb, k, rfl, hne, hk, hk2, e1, e2, hle⟩ := hr
    simp -implicitDefEqProofs (disch := omega) only [go_sem, eq_self, decide_true, decide_false, Nat.reduceBEq, Nat.reduceAdd, Nat.reduceSub, Nat.reduceMul, Nat.reduceEqDiff, Nat.reduceLeDiff, Nat.reduceLT, Int.reduceLE, Int.reduceLT, Int.reduceToNat, Int.reduceAdd, Int.reduceEq, Int.reduceNeg, AH.put_ne]
    repeat' (first | with_reducible refine am_seq ?_ | with_reducible refine am_block ?_ | ((with_reducible apply am_cond); (case hb => rfl); all_goals (intro hc; (try simp only [reduceCtorEq, decide_eq_true_eq, decide_eq_false_iff_not, Bool.or_eq_true, Bool.and_eq_true, Bool.or_eq_false_iff, Bool.not_eq_true', Bool.not_eq_false', beq_iff_eq] at hc); (try (exfalso; omega)))) | ((first | with_reducible refine am_reg ?_ | with_reducible refine am_drw ?_ | with_reducible refine am_skip ?_ | with_reducible refine am_exit ?_ | with_reducible refine am_ret ?_ | with_reducible refine And.intro (by first | exact AH.lec_refl _ | assumption | exact AccP.lec (by assumption) | omega) ?_ | with_reducible refine isnE_of (fun hc => ?_) (fun hc => ?_) (fun hc => ?_) | ((first | with_reducible refine gd_not (fun hc => ?_) (fun hc => ?_) | with_reducible refine gd_of (fun hc => ?_) (fun hc => ?_) | with_reducible refine gq_not (fun hc => ?_) (fun hc => ?_) | with_reducible refine gq_of (fun hc => ?_) (fun hc => ?_) | with_reducible refine pickB_of (fun hc => ?_) (fun hc => ?_)) <;> (try simp -implicitDefEqProofs (disch := omega) only [go_sem, eq_self, decide_true, decide_false, Nat.reduceBEq, Nat.reduceAdd, Nat.reduceSub, Nat.reduceMul, Nat.reduceEqDiff, Nat.reduceLeDiff, Nat.reduceLT, Int.reduceLE, Int.reduceLT, Int.reduceToNat, Int.reduceAdd, Int.reduceEq, Int.reduceNeg, AH.put_ne, hc]) <;> (try simp only [reduceCtorEq, decide_eq_true_eq, decide_eq_false_iff_not, Bool.or_eq_true, Bool.and_eq_true, Bool.or_eq_false_iff, Bool.not_eq_true', Bool.not_eq_false', beq_iff_eq] at hc) <;> (try (exfalso; omega))) | ((with_reducible refine alloc_intro (fun ko hko => ?_)) <;> (try have hne := fresh_ne (by assumption) hko) <;> (try have hnk := fresh_ne hk hko) <;> (try have hnk2 := fresh_ne hk2 hko) <;> (try simp only [AH.put_none] at hko)) | ((first | (with_reducible refine vapp_accL (by assumption) ?_ (fun v2 H2 hacc hlec => ?_)) | (with_reducible refine vapp_accL (AccP.mono (by assumption) (AccP.le (by assumption))) ?_ (fun v2 H2 hacc hlec => ?_)) | (with_reducible refine vapp_accL (AccP.new (by assumption) (by assumption) _) ?_ (fun v2 H2 hacc hlec => ?_))); · simp only [byteCells_length, List.length_cons, List.length_nil, List.length_map, List.length_append]; omega) | with_reducible refine need_elems (by assumption) ?_ | with_reducible refine vlen_acc (by assumption) ?_ | with_reducible refine need_bytes (by assumption) ?_ | with_reducible refine call_turn (start_calls hk2) ?_ | with_reducible refine need_look (by assumption) ?_ | with_reducible refine need_look (look_put (by assumption) (by assumption)) ?_ | with_reducible refine need_look (look_lec (by assumption) (by assumption)) ?_ | with_reducible refine need_look (look_put (AH.put_same _ _ _) (by assumption)) ?_ | with_reducible refine need_look (look_lec (AH.put_same _ _ _) (by assumption)) ?_ | with_reducible refine need_look (look_put (look_put (by assumption) (by assumption)) (by assumption)) ?_ | with_reducible refine need_look (look_lec (look_put (by assumption) (by assumption)) (by assumption)) ?_ | with_reducible refine need_look (look_put (look_lec (by assumption) (by assumption)) (by assumption)) ?_ | with_reducible refine need_look (look_lec (look_lec (by assumption) (by assumption)) (by assumption)) ?_ | with_reducible refine need_look (look_put (look_put (AH.put_same _ _ _) (by assumption)) (by assumption)) ?_ | with_reducible refine need_look (look_lec (look_put (AH.put_same _ _ _) (by assumption)) (by assumption)) ?_ | with_reducible refine need_look (look_put (look_lec (AH.put_same _ _ _) (by assumption)) (by assumption)) ?_ | with_reducible refine need_look (look_lec (look_lec (AH.put_same _ _ _) (by assumption)) (by assumption)) ?_) <;> (try simp -implicitDefEqProofs (disch := omega) only [go_sem, eq_self, decide_true, decide_false, Nat.reduceBEq, Nat.reduceAdd, Nat.reduceSub, Nat.reduceMul, Nat.reduceEqDiff, Nat.reduceLeDiff, Nat.reduceLT, Int.reduceLE, Int.reduceLT, Int.reduceToNat, Int.reduceAdd, Int.reduceEq, Int.reduceNeg, AH.put_ne])))
    refine am_loop (lwI r kb k H) (lw_round hok hne e1 e2) 110 ⟨0, 0, 0, 0, by omega, rfl, by rw [AH.put_ne _ _ (Ne.symm hne)]; exact hk, AH.put_same _ _ _, AH.le_put hle e2 _, by omega, by have := hok.2.2.2.1; omega, by omega, by omega, fun _ => rfl, by omega, fun _ => rfl⟩
  · rw [decide_eq_false hok] at rc
    repeat' (first | with_reducible refine am_seq ?_ | with_reducible refine am_block ?_ | ((with_reducible apply am_cond); (case hb => rfl); all_goals (intro hc; (try simp only [reduceCtorEq, decide_eq_true_eq, decide_eq_false_iff_not, Bool.or_eq_true, Bool.and_eq_true, Bool.or_eq_false_iff, Bool.not_eq_true', Bool.not_eq_false', beq_iff_eq] at hc); (try (exfalso; omega)))) | ((first | with_reducible refine am_reg ?_ | with_reducible refine am_drw ?_ | with_reducible refine am_skip ?_ | with_reducible refine am_exit ?_ | with_reducible refine am_ret ?_ | with_reducible refine And.intro (by first | exact AH.lec_refl _ | assumption | exact AccP.lec (by assumption) | omega) ?_ | with_reducible refine isnE_of (fun hc => ?_) (fun hc => ?_) (fun hc => ?_) | ((first | with_reducible refine gd_not (fun hc => ?_) (fun hc => ?_) | with_reducible refine gd_of (fun hc => ?_) (fun hc => ?_) | with_reducible refine gq_not (fun hc => ?_) (fun hc => ?_) | with_reducible refine gq_of (fun hc => ?_) (fun hc => ?_) | with_reducible refine pickB_of (fun hc => ?_) (fun hc => ?_)) <;> (try simp -implicitDefEqProofs (disch := omega) only [go_sem, eq_self, decide_true, decide_false, Nat.reduceBEq, Nat.reduceAdd, Nat.reduceSub, Nat.reduceMul, Nat.reduceEqDiff, Nat.reduceLeDiff, Nat.reduceLT, Int.reduceLE, Int.reduceLT, Int.reduceToNat, Int.reduceAdd, Int.reduceEq, Int.reduceNeg, AH.put_ne, hc]) <;> (try simp only [reduceCtorEq, decide_eq_true_eq, decide_eq_false_iff_not, Bool.or_eq_true, Bool.and_eq_true, Bool.or_eq_false_iff, Bool.not_eq_true', Bool.not_eq_false', beq_iff_eq] at hc) <;> (try (exfalso; omega))) | ((with_reducible refine alloc_intro (fun ko hko => ?_)) <;> (try have hne := fresh_ne (by assumption) hko) <;> (try have hnk := fresh_ne hk hko) <;> (try have hnk2 := fresh_ne hk2 hko) <;> (try simp only [AH.put_none] at hko)) | ((first | (with_reducible refine vapp_accL (by assumption) ?_ (fun v2 H2 hacc hlec => ?_)) | (with_reducible refine vapp_accL (AccP.mono (by assumption) (AccP.le (by assumption))) ?_ (fun v2 H2 hacc hlec => ?_)) | (with_reducible refine vapp_accL (AccP.new (by assumption) (by assumption) _) ?_ (fun v2 H2 hacc hlec => ?_))); · simp only [byteCells_length, List.length_cons, List.length_nil, List.length_map, List.length_append]; omega) | with_reducible refine need_elems (by assumption) ?_ | with_reducible refine vlen_acc (by assumption) ?_ | with_reducible refine need_bytes (by assumption) ?_ | (first | with_reducible refine call_of (rc) ?_ | with_reducible refine qcall_of (rc) ?_) | (first | with_reducible refine call_of (awake_calls) ?_ | with_reducible refine qcall_of (awake_calls) ?_) | with_reducible refine need_look (by assumption) ?_ | with_reducible refine need_look (look_put (by assumption) (by assumption)) ?_ | with_reducible refine need_look (look_lec (by assumption) (by assumption)) ?_ | with_reducible refine need_look (look_put (AH.put_same _ _ _) (by assumption)) ?_ | with_reducible refine need_look (look_lec (AH.put_same _ _ _) (by assumption)) ?_ | with_reducible refine need_look (look_put (look_put (by assumption) (by assumption)) (by assumption)) ?_ | with_reducible refine need_look (look_lec (look_put (by assumption) (by assumption)) (by assumption)) ?_ | with_reducible refine need_look (look_put (look_lec (by assumption) (by assumption)) (by assumption)) ?_ | with_reducible refine need_look (look_lec (look_lec (by assumption) (by assumption)) (by assumption)) ?_ | with_reducible refine need_look (look_put (look_put (AH.put_same _ _ _) (by assumption)) (by assumption)) ?_ | with_reducible refine need_look (look_lec (look_put (AH.put_same _ _ _) (by assumption)) (by assumption)) ?_ | with_reducible refine need_look (look_put (look_lec (AH.put_same _ _ _) (by assumption)) (by assumption)) ?_ | with_reducible refine need_look (look_lec (look_lec (AH.put_same _ _ _) (by assumption)) (by assumption)) ?_) <;> (try simp -implicitDefEqProofs (disch := omega) only [go_sem, eq_self, decide_true, decide_false, Nat.reduceBEq, Nat.reduceAdd, Nat.reduceSub, Nat.reduceMul, Nat.reduceEqDiff, Nat.reduceLeDiff, Nat.reduceLT, Int.reduceLE, Int.reduceLT, Int.reduceToNat, Int.reduceAdd, Int.reduceEq, Int.reduceNeg, AH.put_ne])))
    all_goals exact end_same
end Go.Proofs.Ytedjokeaanfdfaa
