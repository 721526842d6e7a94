/- Of the walks of this seat: contracts of functions of the given program, proved over the abstract values of the texts Vm. Conditions: as each theorem says. -/
import Derived.Test.YtjlphncecdlmcaaC17
set_option linter.unusedVariables false
set_option linter.unusedSimpArgs false
namespace Go.Proofs.Ytjlphncecdlmcaa
open Go.Vm Go.Sort
attribute [local go_sem] List.drop_zero toNat_succ Nat.sub_zero Int.toNat_natCast Option.map_some Int.natCast_nonneg decide_eq_true_eq decide_eq_false_iff_not

/- flange/flangelaw14.ClockSteps -/
abbrev k8_0 : MC :=
  .cond (.t 19) ((.seq (.reg [
     ⟨(some 20), none, .call 34 []⟩,
     ⟨(some 4), none, .val (.mv (.t 20))⟩] [4]) (.ret))) (.skip)

abbrev k8_1 : MC :=
  .cond (.t 26) (.skip) (.exit 0)

abbrev k8_2 : MC :=
  .cond (.t 50) ((.seq (.reg [
     ⟨(some 4), none, .val (.mv (.c (.bool false)))⟩] [4]) (.ret))) (.skip)

abbrev k8_3 : MC :=
  (.seq (.drx [
    ⟨(some 34), none, .val (.mv (.t 5))⟩,
    ⟨(some 35), none, .val (.mv (.t 8))⟩,
    ⟨(some 36), none, .val (.mv (.t 0))⟩,
    ⟨(some 37), none, .val (.mv (.t 7))⟩,
    ⟨(some 38), none, .val (.iaddr 1 (.t 36) (.t 37))⟩,
    ⟨(some 39), none, .val (.load false 1 (.t 38))⟩,
    ⟨(some 40), none, .val (.i2i .i64 (.t 39))⟩,
    ⟨(some 42), none, .val (.mv (.t 6))⟩,
    ⟨(some 43), none, .val (.mv (.t 8))⟩,
    ⟨(some 44), none, .val (.mv (.t 0))⟩,
    ⟨(some 45), none, .val (.mv (.t 7))⟩,
    ⟨(some 46), none, .val (.iaddr 1 (.t 44) (.t 45))⟩,
    ⟨(some 47), none, .val (.load false 1 (.t 46))⟩,
    ⟨(some 48), none, .val (.i2i .i64 (.t 47))⟩] [
    ⟨(some 41), none, .call 36 [(.t 34), (.t 35), (.t 40)]⟩,
    ⟨(some 49), none, .call 36 [(.t 42), (.t 43), (.t 48)]⟩,
    ⟨(some 50), none, .val (.bin .neq .num (.t 41) (.t 49))⟩] [0, 1, 5, 6, 7, 50]) k8_2)

abbrev k8_4 : MC :=
  .reg [
    ⟨(some 27), none, .val (.mv (.t 7))⟩,
    ⟨(some 28), none, .val (.bin .add .num (.t 27) (.c (.int .i64 1)))⟩,
    ⟨(some 7), none, .val (.mv (.t 28))⟩] [0, 1, 5, 6, 7]

abbrev k8_5 : MC :=
  (.seq (.block 1 ((.seq (.reg [
     ⟨(some 29), none, .val (.mv (.t 7))⟩,
     ⟨(some 30), none, .val (.bin .add .num (.c (.int .i64 97)) (.t 29))⟩,
     ⟨(some 31), none, .val (.i2i .u8 (.t 30))⟩,
     ⟨(some 32), none, .bslice 1 1 [(.int .u8 0)] [(0, 1, (.t 31))]⟩,
     ⟨(some 33), none, .val (.b2s (.t 32))⟩,
     ⟨(some 8), none, .val (.mv (.t 33))⟩] [0, 1, 5, 6, 7, 8]) k8_3))) k8_4)

abbrev k8_6 : MC :=
  (.seq ((.seq (.reg [
    ⟨(some 23), none, .val (.mv (.t 7))⟩,
    ⟨(some 24), none, .val (.mv (.t 0))⟩,
    ⟨(some 25), none, .val (.len .sl (.t 24))⟩,
    ⟨(some 26), none, .val (.bin .lss .num (.t 23) (.t 25))⟩] [0, 1, 5, 6, 7, 26]) k8_1)) k8_5)

abbrev k8_7 : MC :=
  .block 0 (.loop k8_6)

abbrev k8_8 : MC :=
  .cond (.t 58) (.skip) (.exit 2)

abbrev k8_9 : MC :=
  .reg [
    ⟨(some 59), none, .val (.mv (.t 11))⟩,
    ⟨(some 60), none, .val (.bin .add .num (.t 59) (.c (.int .i64 1)))⟩,
    ⟨(some 11), none, .val (.mv (.t 60))⟩] [1, 5, 6, 9, 10, 11]

abbrev k8_10 : MC :=
  (.seq (.block 3 (.reg [
     ⟨(some 61), none, .val (.mv (.t 10))⟩,
     ⟨(some 62), none, .val (.mv (.t 6))⟩,
     ⟨(some 63), none, .call 37 [(.t 62), (.c (.int .i64 1))]⟩,
     ⟨(some 64), none, .app 1 16 (.t 61) (.t 63)⟩,
     ⟨(some 10), none, .val (.mv (.t 64))⟩] [1, 5, 6, 9, 10, 11])) k8_9)

abbrev k8_11 : MC :=
  (.seq ((.seq (.reg [
    ⟨(some 55), none, .val (.mv (.t 11))⟩,
    ⟨(some 56), none, .val (.mv (.t 1))⟩,
    ⟨(some 57), none, .val (.i2i .i64 (.t 56))⟩,
    ⟨(some 58), none, .val (.bin .lss .num (.t 55) (.t 57))⟩] [1, 5, 6, 9, 10, 11, 58]) k8_8)) k8_10)

abbrev k8_12 : MC :=
  .block 2 (.loop k8_11)

abbrev k8_13 : MC :=
  .cond (.t 83) ((.seq (.reg [
     ⟨(some 4), none, .val (.mv (.c (.bool false)))⟩] [4]) (.ret))) (.skip)

abbrev k8_14 : MC :=
  .cond (.t 87) (.skip) (.exit 4)

abbrev k8_15 : MC :=
  .cond (.t 98) ((.seq (.reg [
     ⟨(some 4), none, .val (.mv (.c (.bool false)))⟩] [4]) (.ret))) (.skip)

abbrev k8_16 : MC :=
  .reg [
    ⟨(some 88), none, .val (.mv (.t 12))⟩,
    ⟨(some 89), none, .val (.bin .add .num (.t 88) (.c (.int .i64 1)))⟩,
    ⟨(some 12), none, .val (.mv (.t 89))⟩] [9, 10, 12]

abbrev k8_17 : MC :=
  (.seq (.block 5 ((.seq (.drw [
     ⟨(some 90), none, .val (.mv (.t 9))⟩,
     ⟨(some 91), none, .val (.mv (.t 12))⟩,
     ⟨(some 92), none, .val (.iaddr 1 (.t 90) (.t 91))⟩,
     ⟨(some 93), none, .val (.load false 1 (.t 92))⟩,
     ⟨(some 94), none, .val (.mv (.t 10))⟩,
     ⟨(some 95), none, .val (.mv (.t 12))⟩,
     ⟨(some 96), none, .val (.iaddr 1 (.t 94) (.t 95))⟩,
     ⟨(some 97), none, .val (.load false 1 (.t 96))⟩,
     ⟨(some 98), none, .val (.bin .neq .num (.t 93) (.t 97))⟩] [
] [9, 10, 12, 98]) k8_15))) k8_16)

abbrev k8_18 : MC :=
  (.seq ((.seq (.reg [
    ⟨(some 84), none, .val (.mv (.t 12))⟩,
    ⟨(some 85), none, .val (.mv (.t 9))⟩,
    ⟨(some 86), none, .val (.len .sl (.t 85))⟩,
    ⟨(some 87), none, .val (.bin .lss .num (.t 84) (.t 86))⟩] [9, 10, 12, 87]) k8_14)) k8_17)

abbrev k8_19 : MC :=
  .block 4 (.loop k8_18)

abbrev k8_20 : MC :=
  (.seq (.reg [
    ⟨(some 4), none, .val (.mv (.c (.bool true)))⟩] [4]) (.ret))

abbrev k8_21 : MC :=
  (.seq ((.seq (.reg [
    ⟨(some 12), none, .val (.mv (.c (.int .i64 0)))⟩] [9, 10, 12]) k8_19)) k8_20)

abbrev k8_22 : MC :=
  (.seq ((.seq (.reg [
    ⟨(some 65), none, .val (.mv (.t 9))⟩,
    ⟨(some 66), none, .val (.len .sl (.t 65))⟩,
    ⟨(some 67), none, .val (.mv (.t 10))⟩,
    ⟨(some 68), none, .val (.len .sl (.t 67))⟩,
    ⟨(some 69), none, .val (.bin .neq .num (.t 66) (.t 68))⟩,
    ⟨(some 70), none, .val (.mv (.t 69))⟩,
    ⟨(some 71), (some (70, false)), .val (.mv (.t 5))⟩,
    ⟨(some 72), (some (70, false)), .call 38 [(.t 71)]⟩,
    ⟨(some 73), (some (70, false)), .val (.mv (.t 6))⟩,
    ⟨(some 74), (some (70, false)), .call 38 [(.t 73)]⟩,
    ⟨(some 75), (some (70, false)), .val (.bin .neq .num (.t 72) (.t 74))⟩,
    ⟨(some 76), none, .val (.pick (.t 70) (.c (.bool true)) (.t 75))⟩,
    ⟨(some 77), none, .val (.mv (.t 76))⟩,
    ⟨(some 78), (some (77, false)), .val (.mv (.t 5))⟩,
    ⟨(some 79), (some (77, false)), .call 39 [(.t 78)]⟩,
    ⟨(some 80), (some (77, false)), .val (.mv (.t 6))⟩,
    ⟨(some 81), (some (77, false)), .call 39 [(.t 80)]⟩,
    ⟨(some 82), (some (77, false)), .val (.bin .neq .num (.t 79) (.t 81))⟩,
    ⟨(some 83), none, .val (.pick (.t 77) (.c (.bool true)) (.t 82))⟩] [9, 10, 83]) k8_13)) k8_21)

abbrev k8_23 : MC :=
  (.seq ((.seq (.reg [
    ⟨(some 11), none, .val (.mv (.c (.int .i64 0)))⟩] [1, 5, 6, 9, 10, 11]) k8_12)) k8_22)

abbrev k8_24 : MC :=
  (.seq (.reg [
    ⟨(some 10), none, .val (.mv (.c .nilSl))⟩] [1, 5, 6, 9, 10]) k8_23)

abbrev k8_25 : MC :=
  (.seq (.reg [
    ⟨(some 51), none, .val (.mv (.t 5))⟩,
    ⟨(some 52), none, .val (.mv (.t 1))⟩,
    ⟨(some 53), none, .val (.i2i .i64 (.t 52))⟩,
    ⟨(some 54), none, .call 37 [(.t 51), (.t 53)]⟩,
    ⟨(some 9), none, .val (.mv (.t 54))⟩] [1, 5, 6, 9]) k8_24)

abbrev k8_26 : MC :=
  (.seq ((.seq (.reg [
    ⟨(some 7), none, .val (.mv (.c (.int .i64 0)))⟩] [0, 1, 5, 6, 7]) k8_7)) k8_25)

abbrev k8_27 : MC :=
  (.seq (.reg [
    ⟨(some 21), none, .call 35 []⟩,
    ⟨(some 22), none, .call 35 []⟩,
    ⟨(some 5), none, .val (.mv (.t 21))⟩,
    ⟨(some 6), none, .val (.mv (.t 22))⟩] [0, 1, 5, 6]) k8_26)

abbrev k8_28 : MC :=
  (.seq ((.seq (.reg [
    ⟨(some 13), none, .val (.mv (.t 0))⟩,
    ⟨(some 14), none, .val (.len .sl (.t 13))⟩,
    ⟨(some 15), none, .val (.bin .gtr .num (.t 14) (.c (.int .i64 20)))⟩,
    ⟨(some 16), none, .val (.mv (.t 15))⟩,
    ⟨(some 17), (some (16, false)), .call 34 []⟩,
    ⟨(some 18), (some (16, false)), .val (.not (.t 17))⟩,
    ⟨(some 19), none, .val (.pick (.t 16) (.c (.bool true)) (.t 18))⟩] [0, 1, 19]) k8_0)) k8_27)
abbrev k8 : MC :=
  (.seq (.reg [
    ⟨(some 4), none, .val (.mv (.c (.bool false)))⟩] [0, 1]) k8_28)
theorem c8 : Try.f8.body.bind (mcOf Try.prog (List.contains [] ·) (List.getD [([], [0, 1]), ([], [0, 1, 19]), ([], [4]), ([], [0, 1, 5, 6]), ([], [0, 1, 5, 6, 7]), ([], [0, 1, 5, 6, 7, 26]), ([], [0, 1, 5, 6, 7]), ([], [0, 1, 5, 6, 7, 8]), ([0, 0, 0, 0, 0, 0, 0, 4, 0, 0, 0, 0, 0, 0, 0, 4, 2], [0, 1, 5, 6, 7, 50]), ([], [4]), ([], [1, 5, 6, 9]), ([], [1, 5, 6, 9, 10]), ([], [1, 5, 6, 9, 10, 11]), ([], [1, 5, 6, 9, 10, 11, 58]), ([], [1, 5, 6, 9, 10, 11]), ([], [1, 5, 6, 9, 10, 11]), ([], [9, 10, 83]), ([], [4]), ([], [9, 10, 12]), ([], [9, 10, 12, 87]), ([], [9, 10, 12]), ([0, 0, 0, 0, 0, 0, 0, 0, 0], [9, 10, 12, 98]), ([], [4]), ([], [4])] · ([], [])) 99) = some k8 := by kernel_rfl
theorem r8 : rvsOf Try.prog Try.f8.results.toList = some [.tmp 4] := by kernel_rfl

structure Two (H H' : AH) (k m k2 m2 : Nat) (now now2 : Int) (l l2 : List Al) : Prop where
  a : AlH H' k m now l
  b : AlH H' k2 m2 now2 l2
  le : H.le H'
  n1 : H k = none
  n2 : H m = none
  n3 : H k2 = none
  n4 : H m2 = none
  d1 : k ≠ k2
  d2 : k ≠ m2
  d3 : m ≠ k2
  d4 : m ≠ m2
theorem Two.stepA {H H' H2 : AH} {k m k2 m2 : Nat} {now now2 now' : Int} {l l2 l' : List Al} (h : Two H H' k m k2 m2 now now2 l l2) (ha : AlH H2 k m now' l') (g : Alt k m H' H2) : Two H H2 k m k2 m2 now' now2 l' l2 :=
  ⟨ha, h.b.alt g h.d1.symm h.d3.symm h.d2.symm h.d4.symm, g.le h.le h.n1 h.n2, h.n1, h.n2, h.n3, h.n4, h.d1, h.d2, h.d3, h.d4⟩
theorem Two.stepB {H H' H2 : AH} {k m k2 m2 : Nat} {now now2 now' : Int} {l l2 l' : List Al} (h : Two H H' k m k2 m2 now now2 l l2) (hb : AlH H2 k2 m2 now' l') (g : Alt k2 m2 H' H2) : Two H H2 k m k2 m2 now now' l l' :=
  ⟨h.a.alt g h.d1 h.d2 h.d3 h.d4, hb, g.le h.le h.n3 h.n4, h.n1, h.n2, h.n3, h.n4, h.d1, h.d2, h.d3, h.d4⟩
theorem Two.lec {H H' H2 : AH} {k m k2 m2 : Nat} {now now2 : Int} {l l2 : List Al} (h : Two H H' k m k2 m2 now now2 l l2) (hl : H.le H2) (g : H'.lec H2) : Two H H2 k m k2 m2 now now2 l l2 :=
  ⟨⟨g _ _ h.a.1 (by intros; simp), g _ _ h.a.2 (by intros; simp)⟩, ⟨g _ _ h.b.1 (by intros; simp), g _ _ h.b.2 (by intros; simp)⟩, hl, h.n1, h.n2, h.n3, h.n4, h.d1, h.d2, h.d3, h.d4⟩
theorem acc_alt {H H' H2 : AH} {k m : Nat} {es : List (List V)} {v : V} (h : AccP H 1 es v H') (g : Alt k m H' H2) (hl : H.le H2) {cs : List V} {o' : List (V × V)} (h1 : H' k = some (.cells cs)) (h2 : H' m = some (.map o')) : AccP H 1 es v H2 := by
  refine ⟨hl, ?_⟩
  rcases h.2 with h | ⟨q, q1, q2, q3⟩
  · exact .inl h
  · refine .inr ⟨q, q1, q2, g _ _ ?_ ?_ q3⟩
    · intro e; subst e; rw [h1] at q3; cases q3
    · intro e; subst e; rw [h2] at q3; cases q3
theorem rng_step {r : List Al} {s t : Int} (h : s ≤ t) : rng r s ++ rng (lft r s) t = rng r t ∧ lft (lft r s) t = lft r t := by
  unfold rng lft
  induction r with
  | nil => exact ⟨rfl, rfl⟩
  | cons x r ih =>
    by_cases e : x.2 ≤ s
    · have e2 : x.2 ≤ t := by omega
      simp only [List.takeWhile_cons, List.dropWhile_cons, decide_eq_true e, decide_eq_true e2, if_true]
      exact ⟨by rw [List.cons_append, ih.1], ih.2⟩
    · simp [List.takeWhile_cons, List.dropWhile_cons, e]
/-- What has rung, and what is left, behind some ticks. -/
def rj (r : List Al) (j : Nat) : List Al := if j = 0 then [] else rng r j
def lj (r : List Al) (j : Nat) : List Al := if j = 0 then r else lft r j
theorem rj_step (r : List Al) (j : Nat) : rj r j ++ rng (lj r j) ((j : Int) + 1) = rj r (j + 1) ∧ lft (lj r j) ((j : Int) + 1) = lj r (j + 1) := by
  unfold rj lj
  rw [if_neg (Nat.succ_ne_zero j), if_neg (Nat.succ_ne_zero j)]
  by_cases e : j = 0
  · subst e; exact ⟨rfl, rfl⟩
  · rw [if_neg e, if_neg e]
    exact rng_step (by omega)
theorem tickN {H : AH} {k m : Nat} {l r : List Al} {n : Nat} (ha : AlH H k m 0 l) (hr : Rel l r) (h20 : r.length ≤ 100) (hn : n ≤ 1000) :
    ACalls Try.prog 37 [.ptr k 0, .int .i64 n] H (fun o H' => ∃ v, o = .ret v ∧ v = .sl 1 (strE ((rj r n).map Prod.fst)) .no ∧ (∃ l', AlH H' k m n l' ∧ Rel l' (lj r n)) ∧ Alt k m H H') := by
  by_cases h0 : n = 0
  · subst h0
    refine (tick0_calls (k := k) (x := ((0 : Nat) : Int)) (by decide)).mono ?_
    rintro o H' ⟨rfl, rfl⟩
    exact ⟨_, rfl, rfl, ⟨l, ha, hr⟩, Alt.refl _ _ _⟩
  · refine (tickX (x := n) ha (by have := hr.len; omega) (by omega)).mono ?_
    rintro o H' ⟨v, rfl, rfl, h1, h2⟩
    have e : addI 0 (n : Int) = n := by rw [add_id (by omega) (by omega) (by omega)]; omega
    have hrt := hr.tick n
    rw [e] at h1 ⊢
    rw [hr.rings] at *
    unfold rj lj
    rw [if_neg h0, if_neg h0]
    exact ⟨_, rfl, rfl, ⟨_, h1, hrt⟩, h2⟩
theorem tick1 {H : AH} {k m : Nat} {l r : List Al} {j : Nat} (ha : AlH H k m j l) (hr : Rel l (lj r j)) (h20 : r.length ≤ 100) (hn : j ≤ 1000) :
    ACalls Try.prog 37 [.ptr k 0, .int .i64 1] H (fun o H' => ∃ v, o = .ret v ∧ v = .sl 1 (strE ((rng (lj r j) ((j : Int) + 1)).map Prod.fst)) .no ∧ (∃ l', AlH H' k m (j + 1) l' ∧ Rel l' (lj r (j + 1))) ∧ Alt k m H H') := by
  have hjl : (lj r j).length ≤ r.length := by unfold lj; split; exact Nat.le_refl _; exact (List.dropWhile_sublist _).length_le
  refine (tickX (x := 1) ha (by have := hr.len; omega) (by decide)).mono ?_
  rintro o H' ⟨v, rfl, rfl, h1, h2⟩
  have e : addI (j : Int) 1 = (j : Int) + 1 := by rw [add_id (by omega) (by omega) (by omega)]
  have hrt := hr.tick ((j : Int) + 1)
  rw [(rj_step r j).2] at hrt
  rw [e] at h1 ⊢
  rw [hr.rings] at *
  exact ⟨_, rfl, rfl, ⟨_, h1, hrt⟩, h2⟩
theorem strE_app (a b : List (List UInt8)) : strE a ++ strE b = strE (a ++ b) := by simp [strE]
abbrev csI (b : List UInt8) (t : Tok) (n : Int) (k m k2 m2 : Nat) (H : AH) : Nat → A → AH → Prop := fun x a H' => ∃ (i : Nat) (l r : List Al), i + x = b.length ∧ a = [(0, .sl 1 (byteCells b) t), (1, .int .u8 n), (5, .ptr k 0), (6, .ptr k2 0), (7, .int .i64 i)] ∧ Two H H' k m k2 m2 0 0 l l ∧ Rel l r ∧ r.length ≤ i
theorem steps_law {b : List UInt8} {t : Tok} {n : Int} (hn0 : 0 ≤ n) (hn1 : n < 256) (H : AH) : ACalls Try.prog 8 [.sl 1 (byteCells b) t, .int .u8 n] H (fun o H' => o = .ret (.bool true) ∧ H' = H) := by
  refine ACalls.drop ?_
  refine acalls Try.func8 c8 r8 (by simp [Try.ntmps8]) ?_
  repeat' (first | with_reducible refine am_seq ?_ | with_reducible refine am_block ?_ | ((with_reducible apply am_cond); (case hb => rfl); all_goals (intro hc; (try simp only [reduceCtorEq, decide_eq_true_eq, decide_eq_false_iff_not, Bool.or_eq_true, Bool.and_eq_true, Bool.or_eq_false_iff, Bool.not_eq_true', Bool.not_eq_false', beq_iff_eq] at hc); (try (exfalso; omega)))) | ((first | with_reducible refine am_reg ?_ | with_reducible refine am_drw ?_ | with_reducible refine am_drx ?_ | with_reducible refine am_skip ?_ | with_reducible refine am_exit ?_ | with_reducible refine am_ret ?_ | with_reducible refine And.intro (by first | exact AH.lec_refl _ | assumption | exact AccP.lec (by assumption) | omega) ?_ | with_reducible refine isnE_of (fun hc => ?_) (fun hc => ?_) (fun hc => ?_) | ((first | with_reducible refine gd_not (fun hc => ?_) (fun hc => ?_) | with_reducible refine gd_of (fun hc => ?_) (fun hc => ?_) | with_reducible refine gq_not (fun hc => ?_) (fun hc => ?_) | with_reducible refine gq_of (fun hc => ?_) (fun hc => ?_) | with_reducible refine pickB_of (fun hc => ?_) (fun hc => ?_)) <;> (try simp -implicitDefEqProofs (disch := omega) only [go_sem, eq_self, decide_true, decide_false, Nat.reduceBEq, Nat.reduceAdd, Nat.reduceSub, Nat.reduceMul, Nat.reduceEqDiff, Nat.reduceLeDiff, Nat.reduceLT, Int.reduceLE, Int.reduceLT, Int.reduceToNat, Int.reduceAdd, Int.reduceEq, Int.reduceNeg, AH.put_ne, hc, wrap_id, byteCells_length]) <;> (try simp only [reduceCtorEq, decide_eq_true_eq, decide_eq_false_iff_not, Bool.or_eq_true, Bool.and_eq_true, Bool.or_eq_false_iff, Bool.not_eq_true', Bool.not_eq_false', beq_iff_eq] at hc) <;> (try (exfalso; omega))) | ((with_reducible refine alloc_intro (fun ko hko => ?_)) <;> (try have hne := fresh_ne (by assumption) hko) <;> (try have hnk := fresh_ne hk hko) <;> (try have hnk2 := fresh_ne hk2 hko) <;> (try simp only [AH.put_none] at hko)) | ((first | (with_reducible refine vapp_accL (by assumption) ?_ (fun v2 H2 hacc hlec => ?_)) | (with_reducible refine vapp_accL (AccP.mono (by assumption) (AccP.le (by assumption))) ?_ (fun v2 H2 hacc hlec => ?_)) | (with_reducible refine vapp_accL (AccP.new (by assumption) (by assumption) _) ?_ (fun v2 H2 hacc hlec => ?_))); · simp only [byteCells_length, List.length_cons, List.length_nil, List.length_map, List.length_append, strE_length, List.length_take, List.length_drop]; omega) | with_reducible refine need_elems (by assumption) ?_ | with_reducible refine vlen_acc (by assumption) ?_ | with_reducible refine need_bytes (by assumption) ?_ | (first | with_reducible refine call_of (awake_calls) ?_ | with_reducible refine qcall_of (awake_calls) ?_) | with_reducible refine call_ex (newX _) (fun v H2 hr => ?_) | with_reducible refine need_look (by assumption) ?_ | with_reducible refine need_look (look_put (by assumption) (by assumption)) ?_ | with_reducible refine need_look (look_lec (by assumption) (by assumption)) ?_ | with_reducible refine need_look (look_put (AH.put_same _ _ _) (by assumption)) ?_ | with_reducible refine need_look (look_lec (AH.put_same _ _ _) (by assumption)) ?_ | with_reducible refine need_look (look_put (look_put (by assumption) (by assumption)) (by assumption)) ?_ | with_reducible refine need_look (look_lec (look_put (by assumption) (by assumption)) (by assumption)) ?_ | with_reducible refine need_look (look_put (look_lec (by assumption) (by assumption)) (by assumption)) ?_ | with_reducible refine need_look (look_lec (look_lec (by assumption) (by assumption)) (by assumption)) ?_ | with_reducible refine need_look (look_put (look_put (AH.put_same _ _ _) (by assumption)) (by assumption)) ?_ | with_reducible refine need_look (look_lec (look_put (AH.put_same _ _ _) (by assumption)) (by assumption)) ?_ | with_reducible refine need_look (look_put (look_lec (AH.put_same _ _ _) (by assumption)) (by assumption)) ?_ | with_reducible refine need_look (look_lec (look_lec (AH.put_same _ _ _) (by assumption)) (by assumption)) ?_) <;> (try simp -implicitDefEqProofs (disch := omega) only [go_sem, eq_self, decide_true, decide_false, Nat.reduceBEq, Nat.reduceAdd, Nat.reduceSub, Nat.reduceMul, Nat.reduceEqDiff, Nat.reduceLeDiff, Nat.reduceLT, Int.reduceLE, Int.reduceLT, Int.reduceToNat, Int.reduceAdd, Int.reduceEq, Int.reduceNeg, AH.put_ne, wrap_id, byteCells_length])))
  · rename_i v1 G1 hr1
    obtain ⟨k, m, rfl, h0, hk, hm, hle⟩ := hr1
    obtain ⟨k2, m2, rfl, h02, hk2, hm2, hle2⟩ := hr
    have d1 : k ≠ k2 := fresh_ne h0.1 hk2
    have d2 : k ≠ m2 := fresh_ne h0.1 hm2
    have d3 : m ≠ k2 := fresh_ne h0.2 hk2
    have d4 : m ≠ m2 := fresh_ne h0.2 hm2
    have tw0 : Two H H2 k m k2 m2 0 0 [] [] := ⟨⟨hle2 _ _ h0.1, hle2 _ _ h0.2⟩, h02, AH.le_trans hle hle2, hk, hm, none_of_le hle hk2, none_of_le hle hm2, d1, d2, d3, d4⟩
    have h20 : b.length ≤ 20 := by omega
    refine am_loop (csI b t n k m k2 m2 H) ?_ b.length ⟨0, [], [], by omega, rfl, tw0, Rel.nil, by simp⟩
    rintro x a H' ⟨i, l, r, hi, rfl, tw, hr, hri⟩
    by_cases hlt : i < b.length
    · have hb : (byteCells b)[i]? = some [.int .u8 b[i].toNat] := by simp [byteCells, hlt]
      have w1 : IntKind.i64.wrap (b[i].toNat : Int) = b[i].toNat := wrap_id _ (by omega) (by have := b[i].toNat_lt; omega)
      have w3 : IntKind.u8.wrap (97 + (i : Int)) = (97 + i : Nat) := by
        unfold IntKind.wrap; simp [IntKind.bits, IntKind.signed]; omega
      have w4 : bytesOf [V.int .u8 ((97 + i : Nat) : Int)] = some [UInt8.ofNat (97 + i)] := rfl
      repeat' (first | (((with_reducible refine call_ex (setX tw.a) (fun v H3 hr => ?_)); obtain ⟨rfl, hal, halt⟩ := hr; have tw2 := tw.stepA hal halt; try simp -implicitDefEqProofs only [go_sem])) | (((with_reducible refine call_ex (setX tw2.b) (fun v H3 hr => ?_)); obtain ⟨rfl, hal2, halt2⟩ := hr; have tw3 := tw2.stepB hal2 halt2; try simp -implicitDefEqProofs only [go_sem])) | with_reducible refine am_seq ?_ | with_reducible refine am_block ?_ | ((with_reducible apply am_cond); (case hb => rfl); all_goals (intro hc; (try simp only [reduceCtorEq, decide_eq_true_eq, decide_eq_false_iff_not, Bool.or_eq_true, Bool.and_eq_true, Bool.or_eq_false_iff, Bool.not_eq_true', Bool.not_eq_false', beq_iff_eq] at hc); (try (exfalso; omega)))) | ((first | with_reducible refine am_reg ?_ | with_reducible refine am_drw ?_ | with_reducible refine am_drx ?_ | with_reducible refine am_skip ?_ | with_reducible refine am_exit ?_ | with_reducible refine am_ret ?_ | with_reducible refine And.intro (by first | exact AH.lec_refl _ | assumption | exact AccP.lec (by assumption) | omega) ?_ | with_reducible refine isnE_of (fun hc => ?_) (fun hc => ?_) (fun hc => ?_) | ((first | with_reducible refine gd_not (fun hc => ?_) (fun hc => ?_) | with_reducible refine gd_of (fun hc => ?_) (fun hc => ?_) | with_reducible refine gq_not (fun hc => ?_) (fun hc => ?_) | with_reducible refine gq_of (fun hc => ?_) (fun hc => ?_) | with_reducible refine pickB_of (fun hc => ?_) (fun hc => ?_)) <;> (try simp -implicitDefEqProofs (disch := omega) only [go_sem, eq_self, decide_true, decide_false, Nat.reduceBEq, Nat.reduceAdd, Nat.reduceSub, Nat.reduceMul, Nat.reduceEqDiff, Nat.reduceLeDiff, Nat.reduceLT, Int.reduceLE, Int.reduceLT, Int.reduceToNat, Int.reduceAdd, Int.reduceEq, Int.reduceNeg, AH.put_ne, hc, wrap_id, byteCells_length, hb, w1, w3, w4, List.flatten_cons, List.flatten_nil, List.append_nil]) <;> (try simp only [reduceCtorEq, decide_eq_true_eq, decide_eq_false_iff_not, Bool.or_eq_true, Bool.and_eq_true, Bool.or_eq_false_iff, Bool.not_eq_true', Bool.not_eq_false', beq_iff_eq] at hc) <;> (try (exfalso; omega))) | ((with_reducible refine alloc_intro (fun ko hko => ?_)) <;> (try have hne := fresh_ne (by assumption) hko) <;> (try have hnk := fresh_ne hk hko) <;> (try have hnk2 := fresh_ne hk2 hko) <;> (try simp only [AH.put_none] at hko)) | ((first | (with_reducible refine vapp_accL (by assumption) ?_ (fun v2 H2 hacc hlec => ?_)) | (with_reducible refine vapp_accL (AccP.mono (by assumption) (AccP.le (by assumption))) ?_ (fun v2 H2 hacc hlec => ?_)) | (with_reducible refine vapp_accL (AccP.new (by assumption) (by assumption) _) ?_ (fun v2 H2 hacc hlec => ?_))); · simp only [byteCells_length, List.length_cons, List.length_nil, List.length_map, List.length_append, strE_length, List.length_take, List.length_drop]; omega) | with_reducible refine need_elems (by assumption) ?_ | with_reducible refine vlen_acc (by assumption) ?_ | with_reducible refine need_bytes (by assumption) ?_ | with_reducible refine need_look (by assumption) ?_ | with_reducible refine need_look (look_put (by assumption) (by assumption)) ?_ | with_reducible refine need_look (look_lec (by assumption) (by assumption)) ?_ | with_reducible refine need_look (look_put (AH.put_same _ _ _) (by assumption)) ?_ | with_reducible refine need_look (look_lec (AH.put_same _ _ _) (by assumption)) ?_ | with_reducible refine need_look (look_put (look_put (by assumption) (by assumption)) (by assumption)) ?_ | with_reducible refine need_look (look_lec (look_put (by assumption) (by assumption)) (by assumption)) ?_ | with_reducible refine need_look (look_put (look_lec (by assumption) (by assumption)) (by assumption)) ?_ | with_reducible refine need_look (look_lec (look_lec (by assumption) (by assumption)) (by assumption)) ?_ | with_reducible refine need_look (look_put (look_put (AH.put_same _ _ _) (by assumption)) (by assumption)) ?_ | with_reducible refine need_look (look_lec (look_put (AH.put_same _ _ _) (by assumption)) (by assumption)) ?_ | with_reducible refine need_look (look_put (look_lec (AH.put_same _ _ _) (by assumption)) (by assumption)) ?_ | with_reducible refine need_look (look_lec (look_lec (AH.put_same _ _ _) (by assumption)) (by assumption)) ?_) <;> (try simp -implicitDefEqProofs (disch := omega) only [go_sem, eq_self, decide_true, decide_false, Nat.reduceBEq, Nat.reduceAdd, Nat.reduceSub, Nat.reduceMul, Nat.reduceEqDiff, Nat.reduceLeDiff, Nat.reduceLT, Int.reduceLE, Int.reduceLT, Int.reduceToNat, Int.reduceAdd, Int.reduceEq, Int.reduceNeg, AH.put_ne, wrap_id, byteCells_length, hb, w1, w3, w4, List.flatten_cons, List.flatten_nil, List.append_nil])))
      all_goals first
        | exact absurd trivial hc
        | exact absurd rfl hc
        | obtain ⟨r2, g1, g2, _⟩ := hr.setL (now := 0) (n := [UInt8.ofNat (97 + i)]) (x := (b[i].toNat : Int)) (by omega) (by omega)
          exact ⟨x - 1, by omega, i + 1, _, r2, by omega, rfl, tw3, g1, by omega⟩
    · repeat' (first | with_reducible refine am_seq ?_ | with_reducible refine am_block ?_ | ((with_reducible apply am_cond); (case hb => rfl); all_goals (intro hc; (try simp only [reduceCtorEq, decide_eq_true_eq, decide_eq_false_iff_not, Bool.or_eq_true, Bool.and_eq_true, Bool.or_eq_false_iff, Bool.not_eq_true', Bool.not_eq_false', beq_iff_eq] at hc); (try (exfalso; omega)))) | ((first | with_reducible refine am_reg ?_ | with_reducible refine am_drw ?_ | with_reducible refine am_drx ?_ | with_reducible refine am_skip ?_ | with_reducible refine am_exit ?_ | with_reducible refine am_ret ?_ | with_reducible refine And.intro (by first | exact AH.lec_refl _ | assumption | exact AccP.lec (by assumption) | omega) ?_ | with_reducible refine isnE_of (fun hc => ?_) (fun hc => ?_) (fun hc => ?_) | ((first | with_reducible refine gd_not (fun hc => ?_) (fun hc => ?_) | with_reducible refine gd_of (fun hc => ?_) (fun hc => ?_) | with_reducible refine gq_not (fun hc => ?_) (fun hc => ?_) | with_reducible refine gq_of (fun hc => ?_) (fun hc => ?_) | with_reducible refine pickB_of (fun hc => ?_) (fun hc => ?_)) <;> (try simp -implicitDefEqProofs (disch := omega) only [go_sem, eq_self, decide_true, decide_false, Nat.reduceBEq, Nat.reduceAdd, Nat.reduceSub, Nat.reduceMul, Nat.reduceEqDiff, Nat.reduceLeDiff, Nat.reduceLT, Int.reduceLE, Int.reduceLT, Int.reduceToNat, Int.reduceAdd, Int.reduceEq, Int.reduceNeg, AH.put_ne, hc, wrap_id, byteCells_length]) <;> (try simp only [reduceCtorEq, decide_eq_true_eq, decide_eq_false_iff_not, Bool.or_eq_true, Bool.and_eq_true, Bool.or_eq_false_iff, Bool.not_eq_true', Bool.not_eq_false', beq_iff_eq] at hc) <;> (try (exfalso; omega))) | ((with_reducible refine alloc_intro (fun ko hko => ?_)) <;> (try have hne := fresh_ne (by assumption) hko) <;> (try have hnk := fresh_ne hk hko) <;> (try have hnk2 := fresh_ne hk2 hko) <;> (try simp only [AH.put_none] at hko)) | ((first | (with_reducible refine vapp_accL (by assumption) ?_ (fun v2 H2 hacc hlec => ?_)) | (with_reducible refine vapp_accL (AccP.mono (by assumption) (AccP.le (by assumption))) ?_ (fun v2 H2 hacc hlec => ?_)) | (with_reducible refine vapp_accL (AccP.new (by assumption) (by assumption) _) ?_ (fun v2 H2 hacc hlec => ?_))); · simp only [byteCells_length, List.length_cons, List.length_nil, List.length_map, List.length_append, strE_length, List.length_take, List.length_drop]; omega) | with_reducible refine need_elems (by assumption) ?_ | with_reducible refine vlen_acc (by assumption) ?_ | with_reducible refine need_bytes (by assumption) ?_ | with_reducible refine need_look (by assumption) ?_ | with_reducible refine need_look (look_put (by assumption) (by assumption)) ?_ | with_reducible refine need_look (look_lec (by assumption) (by assumption)) ?_ | with_reducible refine need_look (look_put (AH.put_same _ _ _) (by assumption)) ?_ | with_reducible refine need_look (look_lec (AH.put_same _ _ _) (by assumption)) ?_ | with_reducible refine need_look (look_put (look_put (by assumption) (by assumption)) (by assumption)) ?_ | with_reducible refine need_look (look_lec (look_put (by assumption) (by assumption)) (by assumption)) ?_ | with_reducible refine need_look (look_put (look_lec (by assumption) (by assumption)) (by assumption)) ?_ | with_reducible refine need_look (look_lec (look_lec (by assumption) (by assumption)) (by assumption)) ?_ | with_reducible refine need_look (look_put (look_put (AH.put_same _ _ _) (by assumption)) (by assumption)) ?_ | with_reducible refine need_look (look_lec (look_put (AH.put_same _ _ _) (by assumption)) (by assumption)) ?_ | with_reducible refine need_look (look_put (look_lec (AH.put_same _ _ _) (by assumption)) (by assumption)) ?_ | with_reducible refine need_look (look_lec (look_lec (AH.put_same _ _ _) (by assumption)) (by assumption)) ?_) <;> (try simp -implicitDefEqProofs (disch := omega) only [go_sem, eq_self, decide_true, decide_false, Nat.reduceBEq, Nat.reduceAdd, Nat.reduceSub, Nat.reduceMul, Nat.reduceEqDiff, Nat.reduceLeDiff, Nat.reduceLT, Int.reduceLE, Int.reduceLT, Int.reduceToNat, Int.reduceAdd, Int.reduceEq, Int.reduceNeg, AH.put_ne, wrap_id, byteCells_length])))
      obtain ⟨N, rfl⟩ : ∃ N : Nat, n = N := ⟨n.toNat, by omega⟩
      have w5 : IntKind.i64.wrap (N : Int) = N := wrap_id _ (by omega) (by omega)
      have qa := tickN (n := N) tw.a hr (by omega) (by omega)
      repeat' (first | (((with_reducible refine call_ex qa (fun v H3 hr => ?_)); obtain ⟨rfl, ⟨la, hal, hrel⟩, halt⟩ := hr; have tw2 := tw.stepA hal halt)) | with_reducible refine am_seq ?_ | with_reducible refine am_block ?_ | ((with_reducible apply am_cond); (case hb => rfl); all_goals (intro hc; (try simp only [reduceCtorEq, decide_eq_true_eq, decide_eq_false_iff_not, Bool.or_eq_true, Bool.and_eq_true, Bool.or_eq_false_iff, Bool.not_eq_true', Bool.not_eq_false', beq_iff_eq] at hc); (try (exfalso; omega)))) | ((first | with_reducible refine am_reg ?_ | with_reducible refine am_drw ?_ | with_reducible refine am_drx ?_ | with_reducible refine am_skip ?_ | with_reducible refine am_exit ?_ | with_reducible refine am_ret ?_ | with_reducible refine And.intro (by first | exact AH.lec_refl _ | assumption | exact AccP.lec (by assumption) | omega) ?_ | with_reducible refine isnE_of (fun hc => ?_) (fun hc => ?_) (fun hc => ?_) | ((first | with_reducible refine gd_not (fun hc => ?_) (fun hc => ?_) | with_reducible refine gd_of (fun hc => ?_) (fun hc => ?_) | with_reducible refine gq_not (fun hc => ?_) (fun hc => ?_) | with_reducible refine gq_of (fun hc => ?_) (fun hc => ?_) | with_reducible refine pickB_of (fun hc => ?_) (fun hc => ?_)) <;> (try simp -implicitDefEqProofs (disch := omega) only [go_sem, eq_self, decide_true, decide_false, Nat.reduceBEq, Nat.reduceAdd, Nat.reduceSub, Nat.reduceMul, Nat.reduceEqDiff, Nat.reduceLeDiff, Nat.reduceLT, Int.reduceLE, Int.reduceLT, Int.reduceToNat, Int.reduceAdd, Int.reduceEq, Int.reduceNeg, AH.put_ne, hc, wrap_id, w5]) <;> (try simp only [reduceCtorEq, decide_eq_true_eq, decide_eq_false_iff_not, Bool.or_eq_true, Bool.and_eq_true, Bool.or_eq_false_iff, Bool.not_eq_true', Bool.not_eq_false', beq_iff_eq] at hc) <;> (try (exfalso; omega))) | ((with_reducible refine alloc_intro (fun ko hko => ?_)) <;> (try have hne := fresh_ne (by assumption) hko) <;> (try have hnk := fresh_ne hk hko) <;> (try have hnk2 := fresh_ne hk2 hko) <;> (try simp only [AH.put_none] at hko)) | ((first | (with_reducible refine vapp_accL (by assumption) ?_ (fun v2 H2 hacc hlec => ?_)) | (with_reducible refine vapp_accL (AccP.mono (by assumption) (AccP.le (by assumption))) ?_ (fun v2 H2 hacc hlec => ?_)) | (with_reducible refine vapp_accL (AccP.new (by assumption) (by assumption) _) ?_ (fun v2 H2 hacc hlec => ?_))); · simp only [byteCells_length, List.length_cons, List.length_nil, List.length_map, List.length_append, strE_length, List.length_take, List.length_drop]; omega) | with_reducible refine need_elems (by assumption) ?_ | with_reducible refine vlen_acc (by assumption) ?_ | with_reducible refine need_bytes (by assumption) ?_ | with_reducible refine need_look (by assumption) ?_ | with_reducible refine need_look (look_put (by assumption) (by assumption)) ?_ | with_reducible refine need_look (look_lec (by assumption) (by assumption)) ?_ | with_reducible refine need_look (look_put (AH.put_same _ _ _) (by assumption)) ?_ | with_reducible refine need_look (look_lec (AH.put_same _ _ _) (by assumption)) ?_ | with_reducible refine need_look (look_put (look_put (by assumption) (by assumption)) (by assumption)) ?_ | with_reducible refine need_look (look_lec (look_put (by assumption) (by assumption)) (by assumption)) ?_ | with_reducible refine need_look (look_put (look_lec (by assumption) (by assumption)) (by assumption)) ?_ | with_reducible refine need_look (look_lec (look_lec (by assumption) (by assumption)) (by assumption)) ?_ | with_reducible refine need_look (look_put (look_put (AH.put_same _ _ _) (by assumption)) (by assumption)) ?_ | with_reducible refine need_look (look_lec (look_put (AH.put_same _ _ _) (by assumption)) (by assumption)) ?_ | with_reducible refine need_look (look_put (look_lec (AH.put_same _ _ _) (by assumption)) (by assumption)) ?_ | with_reducible refine need_look (look_lec (look_lec (AH.put_same _ _ _) (by assumption)) (by assumption)) ?_) <;> (try simp -implicitDefEqProofs (disch := omega) only [go_sem, eq_self, decide_true, decide_false, Nat.reduceBEq, Nat.reduceAdd, Nat.reduceSub, Nat.reduceMul, Nat.reduceEqDiff, Nat.reduceLeDiff, Nat.reduceLT, Int.reduceLE, Int.reduceLT, Int.reduceToNat, Int.reduceAdd, Int.reduceEq, Int.reduceNeg, AH.put_ne, wrap_id, w5])))
      have hN : N ≤ 255 := by omega
      refine am_loop (fun x a H' => ∃ (j : Nat) (v : V) (lb : List Al), j + x = N ∧ a = [(1, .int .u8 N), (5, .ptr k 0), (6, .ptr k2 0), (9, .sl 1 (strE ((rj r N).map Prod.fst)) .no), (10, v), (11, .int .i64 j)] ∧ Two H H' k m k2 m2 N j la lb ∧ Rel lb (lj r j) ∧ AccP H 1 (strE ((rj r j).map Prod.fst)) v H') ?_ N ⟨0, .nilSl, l, by omega, rfl, tw2, hr, ⟨tw2.le, .inl ⟨rfl, rfl⟩⟩⟩
      rintro x2 a2 H4 ⟨j, v, lb, hj, rfl, tw4, hrb, hacc⟩
      have rl : ∀ j, (rj r j).length ≤ r.length := fun j => by unfold rj; split; exact Nat.zero_le _; exact rng_length _ _
      have lr := rl j
      by_cases hlt2 : j < N
      · have q1 := tick1 tw4.b hrb (by omega) (by omega)
        have lr1 : (rng (lj r j) ((j : Int) + 1)).length ≤ r.length := by
          have := congrArg List.length (rj_step r j).1
          rw [List.length_append] at this
          have := rl (j + 1); omega
        have eb : strE ((rj r j).map Prod.fst) ++ strE ((rng (lj r j) ((j : Int) + 1)).map Prod.fst) = strE ((rj r (j + 1)).map Prod.fst) := by rw [strE_app, ← List.map_append, (rj_step r j).1]
        have l1 : ((rj r j).map Prod.fst).length ≤ 20 := by rw [List.length_map]; omega
        have l2 : ((rng (lj r j) ((j : Int) + 1)).map Prod.fst).length ≤ 20 := by rw [List.length_map]; omega
        have w6 : (j : Int) < (N : Int) := by omega
        repeat' (first | (((with_reducible refine call_ex q1 (fun v H3 hr => ?_)); obtain ⟨rfl, ⟨lc, hal, hrel⟩, halt⟩ := hr; have tw5 := tw4.stepB hal halt; have hacc2 := acc_alt hacc halt tw5.le tw4.b.1 tw4.b.2; clear hacc; simp -implicitDefEqProofs only [go_sem])) | with_reducible refine am_seq ?_ | with_reducible refine am_block ?_ | ((with_reducible apply am_cond); (case hb => rfl); all_goals (intro hc; (try simp only [reduceCtorEq, decide_eq_true_eq, decide_eq_false_iff_not, Bool.or_eq_true, Bool.and_eq_true, Bool.or_eq_false_iff, Bool.not_eq_true', Bool.not_eq_false', beq_iff_eq] at hc); (try (exfalso; omega)))) | ((first | with_reducible refine am_reg ?_ | with_reducible refine am_drw ?_ | with_reducible refine am_drx ?_ | with_reducible refine am_skip ?_ | with_reducible refine am_exit ?_ | with_reducible refine am_ret ?_ | with_reducible refine And.intro (by first | exact AH.lec_refl _ | assumption | exact AccP.lec (by assumption) | omega) ?_ | with_reducible refine isnE_of (fun hc => ?_) (fun hc => ?_) (fun hc => ?_) | ((first | with_reducible refine gd_not (fun hc => ?_) (fun hc => ?_) | with_reducible refine gd_of (fun hc => ?_) (fun hc => ?_) | with_reducible refine gq_not (fun hc => ?_) (fun hc => ?_) | with_reducible refine gq_of (fun hc => ?_) (fun hc => ?_) | with_reducible refine pickB_of (fun hc => ?_) (fun hc => ?_)) <;> (try simp -implicitDefEqProofs (disch := omega) only [go_sem, eq_self, decide_true, decide_false, Nat.reduceBEq, Nat.reduceAdd, Nat.reduceSub, Nat.reduceMul, Nat.reduceEqDiff, Nat.reduceLeDiff, Nat.reduceLT, Int.reduceLE, Int.reduceLT, Int.reduceToNat, Int.reduceAdd, Int.reduceEq, Int.reduceNeg, AH.put_ne, hc, wrap_id, w5, w6]) <;> (try simp only [reduceCtorEq, decide_eq_true_eq, decide_eq_false_iff_not, Bool.or_eq_true, Bool.and_eq_true, Bool.or_eq_false_iff, Bool.not_eq_true', Bool.not_eq_false', beq_iff_eq] at hc) <;> (try (exfalso; omega))) | ((with_reducible refine alloc_intro (fun ko hko => ?_)) <;> (try have hne := fresh_ne (by assumption) hko) <;> (try have hnk := fresh_ne hk hko) <;> (try have hnk2 := fresh_ne hk2 hko) <;> (try simp only [AH.put_none] at hko)) | ((first | (with_reducible refine vapp_accL (by assumption) ?_ (fun v2 H2 hacc hlec => ?_)) | (with_reducible refine vapp_accL (AccP.mono (by assumption) (AccP.le (by assumption))) ?_ (fun v2 H2 hacc hlec => ?_)) | (with_reducible refine vapp_accL (AccP.new (by assumption) (by assumption) _) ?_ (fun v2 H2 hacc hlec => ?_))); · simp only [byteCells_length, List.length_cons, List.length_nil, List.length_map, List.length_append, strE_length, List.length_take, List.length_drop]; omega) | with_reducible refine need_elems (by assumption) ?_ | with_reducible refine vlen_acc (by assumption) ?_ | with_reducible refine need_bytes (by assumption) ?_ | with_reducible refine need_look (by assumption) ?_ | with_reducible refine need_look (look_put (by assumption) (by assumption)) ?_ | with_reducible refine need_look (look_lec (by assumption) (by assumption)) ?_ | with_reducible refine need_look (look_put (AH.put_same _ _ _) (by assumption)) ?_ | with_reducible refine need_look (look_lec (AH.put_same _ _ _) (by assumption)) ?_ | with_reducible refine need_look (look_put (look_put (by assumption) (by assumption)) (by assumption)) ?_ | with_reducible refine need_look (look_lec (look_put (by assumption) (by assumption)) (by assumption)) ?_ | with_reducible refine need_look (look_put (look_lec (by assumption) (by assumption)) (by assumption)) ?_ | with_reducible refine need_look (look_lec (look_lec (by assumption) (by assumption)) (by assumption)) ?_ | with_reducible refine need_look (look_put (look_put (AH.put_same _ _ _) (by assumption)) (by assumption)) ?_ | with_reducible refine need_look (look_lec (look_put (AH.put_same _ _ _) (by assumption)) (by assumption)) ?_ | with_reducible refine need_look (look_put (look_lec (AH.put_same _ _ _) (by assumption)) (by assumption)) ?_ | with_reducible refine need_look (look_lec (look_lec (AH.put_same _ _ _) (by assumption)) (by assumption)) ?_) <;> (try simp -implicitDefEqProofs (disch := omega) only [go_sem, eq_self, decide_true, decide_false, Nat.reduceBEq, Nat.reduceAdd, Nat.reduceSub, Nat.reduceMul, Nat.reduceEqDiff, Nat.reduceLeDiff, Nat.reduceLT, Int.reduceLE, Int.reduceLT, Int.reduceToNat, Int.reduceAdd, Int.reduceEq, Int.reduceNeg, AH.put_ne, wrap_id, w5, w6])))
        all_goals exact ⟨x2 - 1, by omega, j + 1, v2, lc, by omega, rfl, tw5.lec hacc.le hlec, hrel, by rw [← eb]; exact hacc⟩
      · have hjN : j = N := by omega
        subst hjN
        refine AM.subA (a' := [(1, .int .u8 j), (5, .ptr k 0), (6, .ptr k2 0), (9, .sl 1 (strE ((rj r j).map Prod.fst)) .no), (10, .sl 1 (strE ((rj r j).map Prod.fst)) .no), (11, .int .i64 j)]) ?_ (fun s => .cons (fun _ h => h) (.cons (fun _ h => h) (.cons (fun _ h => h) (.cons (fun _ h => h) (.cons (hacc.sub s) (.cons (fun _ h => h) .nil))))))
        have qla := lenX tw4.a
        have qlb := lenX tw4.b
        rw [hrel.len] at qla
        rw [hrb.len] at qlb
        have hz : ((rj r j).map Prod.fst).length ≤ 20 := by rw [List.length_map]; omega
        generalize (rj r j).map Prod.fst = z at *
        repeat' (first | with_reducible refine am_seq ?_ | with_reducible refine am_block ?_ | ((with_reducible apply am_cond); (case hb => rfl); all_goals (intro hc; (try simp only [reduceCtorEq, decide_eq_true_eq, decide_eq_false_iff_not, Bool.or_eq_true, Bool.and_eq_true, Bool.or_eq_false_iff, Bool.not_eq_true', Bool.not_eq_false', beq_iff_eq] at hc); (try (exfalso; omega)))) | ((first | with_reducible refine am_reg ?_ | with_reducible refine am_drw ?_ | with_reducible refine am_drx ?_ | with_reducible refine am_skip ?_ | with_reducible refine am_exit ?_ | with_reducible refine am_ret ?_ | with_reducible refine And.intro (by first | exact AH.lec_refl _ | assumption | exact AccP.lec (by assumption) | omega) ?_ | with_reducible refine isnE_of (fun hc => ?_) (fun hc => ?_) (fun hc => ?_) | ((first | with_reducible refine gd_not (fun hc => ?_) (fun hc => ?_) | with_reducible refine gd_of (fun hc => ?_) (fun hc => ?_) | with_reducible refine gq_not (fun hc => ?_) (fun hc => ?_) | with_reducible refine gq_of (fun hc => ?_) (fun hc => ?_) | with_reducible refine pickB_of (fun hc => ?_) (fun hc => ?_)) <;> (try simp -implicitDefEqProofs (disch := omega) only [go_sem, eq_self, decide_true, decide_false, Nat.reduceBEq, Nat.reduceAdd, Nat.reduceSub, Nat.reduceMul, Nat.reduceEqDiff, Nat.reduceLeDiff, Nat.reduceLT, Int.reduceLE, Int.reduceLT, Int.reduceToNat, Int.reduceAdd, Int.reduceEq, Int.reduceNeg, AH.put_ne, hc, wrap_id, w5]) <;> (try simp only [reduceCtorEq, decide_eq_true_eq, decide_eq_false_iff_not, Bool.or_eq_true, Bool.and_eq_true, Bool.or_eq_false_iff, Bool.not_eq_true', Bool.not_eq_false', beq_iff_eq] at hc) <;> (try (exfalso; omega))) | ((with_reducible refine alloc_intro (fun ko hko => ?_)) <;> (try have hne := fresh_ne (by assumption) hko) <;> (try have hnk := fresh_ne hk hko) <;> (try have hnk2 := fresh_ne hk2 hko) <;> (try simp only [AH.put_none] at hko)) | ((first | (with_reducible refine vapp_accL (by assumption) ?_ (fun v2 H2 hacc hlec => ?_)) | (with_reducible refine vapp_accL (AccP.mono (by assumption) (AccP.le (by assumption))) ?_ (fun v2 H2 hacc hlec => ?_)) | (with_reducible refine vapp_accL (AccP.new (by assumption) (by assumption) _) ?_ (fun v2 H2 hacc hlec => ?_))); · simp only [byteCells_length, List.length_cons, List.length_nil, List.length_map, List.length_append, strE_length, List.length_take, List.length_drop]; omega) | with_reducible refine need_elems (by assumption) ?_ | with_reducible refine vlen_acc (by assumption) ?_ | with_reducible refine need_bytes (by assumption) ?_ | with_reducible refine call_turn (nowX tw4.a) ?_ | with_reducible refine call_turn (nowX tw4.b) ?_ | with_reducible refine call_turn (qla) ?_ | with_reducible refine call_turn (qlb) ?_ | with_reducible refine need_look (by assumption) ?_ | with_reducible refine need_look (look_put (by assumption) (by assumption)) ?_ | with_reducible refine need_look (look_lec (by assumption) (by assumption)) ?_ | with_reducible refine need_look (look_put (AH.put_same _ _ _) (by assumption)) ?_ | with_reducible refine need_look (look_lec (AH.put_same _ _ _) (by assumption)) ?_ | with_reducible refine need_look (look_put (look_put (by assumption) (by assumption)) (by assumption)) ?_ | with_reducible refine need_look (look_lec (look_put (by assumption) (by assumption)) (by assumption)) ?_ | with_reducible refine need_look (look_put (look_lec (by assumption) (by assumption)) (by assumption)) ?_ | with_reducible refine need_look (look_lec (look_lec (by assumption) (by assumption)) (by assumption)) ?_ | with_reducible refine need_look (look_put (look_put (AH.put_same _ _ _) (by assumption)) (by assumption)) ?_ | with_reducible refine need_look (look_lec (look_put (AH.put_same _ _ _) (by assumption)) (by assumption)) ?_ | with_reducible refine need_look (look_put (look_lec (AH.put_same _ _ _) (by assumption)) (by assumption)) ?_ | with_reducible refine need_look (look_lec (look_lec (AH.put_same _ _ _) (by assumption)) (by assumption)) ?_) <;> (try simp -implicitDefEqProofs (disch := omega) only [go_sem, eq_self, decide_true, decide_false, Nat.reduceBEq, Nat.reduceAdd, Nat.reduceSub, Nat.reduceMul, Nat.reduceEqDiff, Nat.reduceLeDiff, Nat.reduceLT, Int.reduceLE, Int.reduceLT, Int.reduceToNat, Int.reduceAdd, Int.reduceEq, Int.reduceNeg, AH.put_ne, wrap_id, w5])))
        refine am_loop (fun x a H' => ∃ i : Nat, i + x = z.length ∧ a = [(9, .sl 1 (strE z) .no), (10, .sl 1 (strE z) .no), (12, .int .i64 i)] ∧ H' = H4) ?_ z.length ⟨0, by omega, rfl, rfl⟩
        rintro x3 a3 H5 ⟨i3, hi3, rfl, rfl⟩
        by_cases hlt3 : i3 < z.length
        · repeat' (first | with_reducible refine am_seq ?_ | with_reducible refine am_block ?_ | ((with_reducible apply am_cond); (case hb => rfl); all_goals (intro hc; (try simp only [reduceCtorEq, decide_eq_true_eq, decide_eq_false_iff_not, Bool.or_eq_true, Bool.and_eq_true, Bool.or_eq_false_iff, Bool.not_eq_true', Bool.not_eq_false', beq_iff_eq] at hc); (try (exfalso; omega)))) | ((first | with_reducible refine am_reg ?_ | with_reducible refine am_drw ?_ | with_reducible refine am_drx ?_ | with_reducible refine am_skip ?_ | with_reducible refine am_exit ?_ | with_reducible refine am_ret ?_ | with_reducible refine And.intro (by first | exact AH.lec_refl _ | assumption | exact AccP.lec (by assumption) | omega) ?_ | with_reducible refine isnE_of (fun hc => ?_) (fun hc => ?_) (fun hc => ?_) | ((first | with_reducible refine gd_not (fun hc => ?_) (fun hc => ?_) | with_reducible refine gd_of (fun hc => ?_) (fun hc => ?_) | with_reducible refine gq_not (fun hc => ?_) (fun hc => ?_) | with_reducible refine gq_of (fun hc => ?_) (fun hc => ?_) | with_reducible refine pickB_of (fun hc => ?_) (fun hc => ?_)) <;> (try simp -implicitDefEqProofs (disch := omega) only [go_sem, eq_self, decide_true, decide_false, Nat.reduceBEq, Nat.reduceAdd, Nat.reduceSub, Nat.reduceMul, Nat.reduceEqDiff, Nat.reduceLeDiff, Nat.reduceLT, Int.reduceLE, Int.reduceLT, Int.reduceToNat, Int.reduceAdd, Int.reduceEq, Int.reduceNeg, AH.put_ne, hc, wrap_id, strE_length, strE_get hlt3]) <;> (try simp only [reduceCtorEq, decide_eq_true_eq, decide_eq_false_iff_not, Bool.or_eq_true, Bool.and_eq_true, Bool.or_eq_false_iff, Bool.not_eq_true', Bool.not_eq_false', beq_iff_eq] at hc) <;> (try (exfalso; omega))) | ((with_reducible refine alloc_intro (fun ko hko => ?_)) <;> (try have hne := fresh_ne (by assumption) hko) <;> (try have hnk := fresh_ne hk hko) <;> (try have hnk2 := fresh_ne hk2 hko) <;> (try simp only [AH.put_none] at hko)) | ((first | (with_reducible refine vapp_accL (by assumption) ?_ (fun v2 H2 hacc hlec => ?_)) | (with_reducible refine vapp_accL (AccP.mono (by assumption) (AccP.le (by assumption))) ?_ (fun v2 H2 hacc hlec => ?_)) | (with_reducible refine vapp_accL (AccP.new (by assumption) (by assumption) _) ?_ (fun v2 H2 hacc hlec => ?_))); · simp only [byteCells_length, List.length_cons, List.length_nil, List.length_map, List.length_append, strE_length, List.length_take, List.length_drop]; omega) | with_reducible refine need_elems (by assumption) ?_ | with_reducible refine vlen_acc (by assumption) ?_ | with_reducible refine need_bytes (by assumption) ?_ | with_reducible refine need_look (by assumption) ?_ | with_reducible refine need_look (look_put (by assumption) (by assumption)) ?_ | with_reducible refine need_look (look_lec (by assumption) (by assumption)) ?_ | with_reducible refine need_look (look_put (AH.put_same _ _ _) (by assumption)) ?_ | with_reducible refine need_look (look_lec (AH.put_same _ _ _) (by assumption)) ?_ | with_reducible refine need_look (look_put (look_put (by assumption) (by assumption)) (by assumption)) ?_ | with_reducible refine need_look (look_lec (look_put (by assumption) (by assumption)) (by assumption)) ?_ | with_reducible refine need_look (look_put (look_lec (by assumption) (by assumption)) (by assumption)) ?_ | with_reducible refine need_look (look_lec (look_lec (by assumption) (by assumption)) (by assumption)) ?_ | with_reducible refine need_look (look_put (look_put (AH.put_same _ _ _) (by assumption)) (by assumption)) ?_ | with_reducible refine need_look (look_lec (look_put (AH.put_same _ _ _) (by assumption)) (by assumption)) ?_ | with_reducible refine need_look (look_put (look_lec (AH.put_same _ _ _) (by assumption)) (by assumption)) ?_ | with_reducible refine need_look (look_lec (look_lec (AH.put_same _ _ _) (by assumption)) (by assumption)) ?_) <;> (try simp -implicitDefEqProofs (disch := omega) only [go_sem, eq_self, decide_true, decide_false, Nat.reduceBEq, Nat.reduceAdd, Nat.reduceSub, Nat.reduceMul, Nat.reduceEqDiff, Nat.reduceLeDiff, Nat.reduceLT, Int.reduceLE, Int.reduceLT, Int.reduceToNat, Int.reduceAdd, Int.reduceEq, Int.reduceNeg, AH.put_ne, wrap_id, strE_length, strE_get hlt3])))
          all_goals first
          | exact absurd trivial hc
          | exact absurd rfl hc
          | exact ⟨x3 - 1, by omega, i3 + 1, by omega, rfl⟩
        · repeat' (first | with_reducible refine am_seq ?_ | with_reducible refine am_block ?_ | ((with_reducible apply am_cond); (case hb => rfl); all_goals (intro hc; (try simp only [reduceCtorEq, decide_eq_true_eq, decide_eq_false_iff_not, Bool.or_eq_true, Bool.and_eq_true, Bool.or_eq_false_iff, Bool.not_eq_true', Bool.not_eq_false', beq_iff_eq] at hc); (try (exfalso; omega)))) | ((first | with_reducible refine am_reg ?_ | with_reducible refine am_drw ?_ | with_reducible refine am_drx ?_ | with_reducible refine am_skip ?_ | with_reducible refine am_exit ?_ | with_reducible refine am_ret ?_ | with_reducible refine And.intro (by first | exact AH.lec_refl _ | assumption | exact AccP.lec (by assumption) | omega) ?_ | with_reducible refine isnE_of (fun hc => ?_) (fun hc => ?_) (fun hc => ?_) | ((first | with_reducible refine gd_not (fun hc => ?_) (fun hc => ?_) | with_reducible refine gd_of (fun hc => ?_) (fun hc => ?_) | with_reducible refine gq_not (fun hc => ?_) (fun hc => ?_) | with_reducible refine gq_of (fun hc => ?_) (fun hc => ?_) | with_reducible refine pickB_of (fun hc => ?_) (fun hc => ?_)) <;> (try simp -implicitDefEqProofs (disch := omega) only [go_sem, eq_self, decide_true, decide_false, Nat.reduceBEq, Nat.reduceAdd, Nat.reduceSub, Nat.reduceMul, Nat.reduceEqDiff, Nat.reduceLeDiff, Nat.reduceLT, Int.reduceLE, Int.reduceLT, Int.reduceToNat, Int.reduceAdd, Int.reduceEq, Int.reduceNeg, AH.put_ne, hc, wrap_id, strE_length]) <;> (try simp only [reduceCtorEq, decide_eq_true_eq, decide_eq_false_iff_not, Bool.or_eq_true, Bool.and_eq_true, Bool.or_eq_false_iff, Bool.not_eq_true', Bool.not_eq_false', beq_iff_eq] at hc) <;> (try (exfalso; omega))) | ((with_reducible refine alloc_intro (fun ko hko => ?_)) <;> (try have hne := fresh_ne (by assumption) hko) <;> (try have hnk := fresh_ne hk hko) <;> (try have hnk2 := fresh_ne hk2 hko) <;> (try simp only [AH.put_none] at hko)) | ((first | (with_reducible refine vapp_accL (by assumption) ?_ (fun v2 H2 hacc hlec => ?_)) | (with_reducible refine vapp_accL (AccP.mono (by assumption) (AccP.le (by assumption))) ?_ (fun v2 H2 hacc hlec => ?_)) | (with_reducible refine vapp_accL (AccP.new (by assumption) (by assumption) _) ?_ (fun v2 H2 hacc hlec => ?_))); · simp only [byteCells_length, List.length_cons, List.length_nil, List.length_map, List.length_append, strE_length, List.length_take, List.length_drop]; omega) | with_reducible refine need_elems (by assumption) ?_ | with_reducible refine vlen_acc (by assumption) ?_ | with_reducible refine need_bytes (by assumption) ?_ | with_reducible refine need_look (by assumption) ?_ | with_reducible refine need_look (look_put (by assumption) (by assumption)) ?_ | with_reducible refine need_look (look_lec (by assumption) (by assumption)) ?_ | with_reducible refine need_look (look_put (AH.put_same _ _ _) (by assumption)) ?_ | with_reducible refine need_look (look_lec (AH.put_same _ _ _) (by assumption)) ?_ | with_reducible refine need_look (look_put (look_put (by assumption) (by assumption)) (by assumption)) ?_ | with_reducible refine need_look (look_lec (look_put (by assumption) (by assumption)) (by assumption)) ?_ | with_reducible refine need_look (look_put (look_lec (by assumption) (by assumption)) (by assumption)) ?_ | with_reducible refine need_look (look_lec (look_lec (by assumption) (by assumption)) (by assumption)) ?_ | with_reducible refine need_look (look_put (look_put (AH.put_same _ _ _) (by assumption)) (by assumption)) ?_ | with_reducible refine need_look (look_lec (look_put (AH.put_same _ _ _) (by assumption)) (by assumption)) ?_ | with_reducible refine need_look (look_put (look_lec (AH.put_same _ _ _) (by assumption)) (by assumption)) ?_ | with_reducible refine need_look (look_lec (look_lec (AH.put_same _ _ _) (by assumption)) (by assumption)) ?_) <;> (try simp -implicitDefEqProofs (disch := omega) only [go_sem, eq_self, decide_true, decide_false, Nat.reduceBEq, Nat.reduceAdd, Nat.reduceSub, Nat.reduceMul, Nat.reduceEqDiff, Nat.reduceLeDiff, Nat.reduceLT, Int.reduceLE, Int.reduceLT, Int.reduceToNat, Int.reduceAdd, Int.reduceEq, Int.reduceNeg, AH.put_ne, wrap_id, strE_length])))
          all_goals exact end_le tw4.le
  · exact end_same
end Go.Proofs.Ytjlphncecdlmcaa
