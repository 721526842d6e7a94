/- Of the walks of this seat: contracts of functions of the given program, proved over the abstract values of the texts Vm. Conditions: as each theorem says. -/
import Derived.Test.YtjlphncecdlmcaaC14
set_option linter.unusedVariables false
set_option linter.unusedSimpArgs false
namespace Go.Proofs.Ytjlphncecdlmcaa
open Go.Vm Go.Sort
attribute [local go_sem] List.drop_zero toNat_succ Nat.sub_zero Int.toNat_natCast Option.map_some Int.natCast_nonneg decide_eq_true_eq decide_eq_false_iff_not
/- flange/flangelaw14.ClockNext -/
abbrev k9_0 : MC :=
  .cond (.t 16) ((.seq (.reg [
     ⟨(some 17), none, .call 34 []⟩,
     ⟨(some 2), none, .val (.mv (.t 17))⟩] [2]) (.ret))) (.skip)

abbrev k9_1 : MC :=
  .cond (.t 22) (.skip) (.exit 0)

abbrev k9_2 : MC :=
  .reg [
    ⟨(some 23), none, .val (.mv (.t 4))⟩,
    ⟨(some 24), none, .val (.bin .add .num (.t 23) (.c (.int .i64 1)))⟩,
    ⟨(some 4), none, .val (.mv (.t 24))⟩] [0, 3, 4]

abbrev k9_3 : MC :=
  (.seq (.block 1 (.drw [
     ⟨(some 25), none, .val (.mv (.t 3))⟩,
     ⟨(some 26), none, .val (.mv (.t 4))⟩,
     ⟨(some 27), none, .val (.bin .add .num (.c (.int .i64 97)) (.t 26))⟩,
     ⟨(some 28), none, .val (.i2i .u8 (.t 27))⟩,
     ⟨(some 29), none, .bslice 1 1 [(.int .u8 0)] [(0, 1, (.t 28))]⟩,
     ⟨(some 30), none, .val (.b2s (.t 29))⟩,
     ⟨(some 31), none, .val (.mv (.t 0))⟩,
     ⟨(some 32), none, .val (.mv (.t 4))⟩,
     ⟨(some 33), none, .val (.iaddr 1 (.t 31) (.t 32))⟩,
     ⟨(some 34), none, .val (.load false 1 (.t 33))⟩,
     ⟨(some 35), none, .val (.i2i .i64 (.t 34))⟩,
     ⟨(some 36), none, .val (.bin .add .num (.c (.int .i64 1)) (.t 35))⟩] [
     ⟨(some 37), none, .call 36 [(.t 25), (.t 30), (.t 36)]⟩] [0, 3, 4])) k9_2)

abbrev k9_4 : MC :=
  (.seq ((.seq (.reg [
    ⟨(some 19), none, .val (.mv (.t 4))⟩,
    ⟨(some 20), none, .val (.mv (.t 0))⟩,
    ⟨(some 21), none, .val (.len .sl (.t 20))⟩,
    ⟨(some 22), none, .val (.bin .lss .num (.t 19) (.t 21))⟩] [0, 3, 4, 22]) k9_1)) k9_3)

abbrev k9_5 : MC :=
  .block 0 (.loop k9_4)

abbrev k9_6 : MC :=
  .cond (.t 39) (.skip) (.exit 2)

abbrev k9_7 : MC :=
  .cond (.t 49) ((.seq (.reg [
     ⟨(some 50), none, .val (.mv (.t 3))⟩,
     ⟨(some 51), none, .call 39 [(.t 50)]⟩,
     ⟨(some 52), none, .val (.bin .eql .num (.t 51) (.c (.int .i64 0)))⟩,
     ⟨(some 2), none, .val (.mv (.t 52))⟩] [2]) (.ret))) (.skip)

abbrev k9_8 : MC :=
  .cond (.t 67) ((.seq (.reg [
     ⟨(some 2), none, .val (.mv (.c (.bool false)))⟩] [2]) (.ret))) (.skip)

abbrev k9_9 : MC :=
  .cond (.t 85) ((.seq (.reg [
     ⟨(some 2), none, .val (.mv (.c (.bool false)))⟩] [2]) (.ret))) (.skip)

abbrev k9_10 : MC :=
  (.seq (.reg [
    ⟨(some 70), none, .val (.mv (.t 9))⟩,
    ⟨(some 71), none, .val (.len .sl (.t 70))⟩,
    ⟨(some 72), none, .val (.bin .eql .num (.t 71) (.c (.int .i64 0)))⟩,
    ⟨(some 73), none, .val (.mv (.t 72))⟩,
    ⟨(some 74), (some (73, false)), .val (.mv (.t 9))⟩,
    ⟨(some 75), (some (73, false)), .val (.iaddr 1 (.t 74) (.c (.int .i64 0)))⟩,
    ⟨(some 76), (some (73, false)), .val (.load false 1 (.t 75))⟩,
    ⟨(some 77), (some (73, false)), .val (.mv (.t 6))⟩,
    ⟨(some 78), (some (73, false)), .val (.bin .neq .num (.t 76) (.t 77))⟩,
    ⟨(some 79), none, .val (.pick (.t 73) (.c (.bool true)) (.t 78))⟩,
    ⟨(some 80), none, .val (.mv (.t 79))⟩,
    ⟨(some 81), (some (80, false)), .val (.mv (.t 3))⟩,
    ⟨(some 82), (some (80, false)), .call 38 [(.t 81)]⟩,
    ⟨(some 83), (some (80, false)), .val (.mv (.t 7))⟩,
    ⟨(some 84), (some (80, false)), .val (.bin .neq .num (.t 82) (.t 83))⟩,
    ⟨(some 85), none, .val (.pick (.t 80) (.c (.bool true)) (.t 84))⟩] [3, 5, 85]) k9_9)

abbrev k9_11 : MC :=
  (.seq (.reg [
    ⟨(some 68), none, .val (.mv (.t 3))⟩,
    ⟨(some 69), none, .call 37 [(.t 68), (.c (.int .i64 1))]⟩,
    ⟨(some 9), none, .val (.mv (.t 69))⟩] [3, 5, 6, 7, 9]) k9_10)

abbrev k9_12 : MC :=
  (.seq ((.seq (.reg [
    ⟨(some 53), none, .val (.mv (.t 7))⟩,
    ⟨(some 54), none, .val (.mv (.t 3))⟩,
    ⟨(some 55), none, .call 38 [(.t 54)]⟩,
    ⟨(some 56), none, .val (.bin .leq .num (.t 53) (.t 55))⟩,
    ⟨(some 57), none, .val (.mv (.t 56))⟩,
    ⟨(some 58), (some (57, false)), .val (.mv (.t 3))⟩,
    ⟨(some 59), (some (57, false)), .val (.mv (.t 7))⟩,
    ⟨(some 60), (some (57, false)), .val (.mv (.t 3))⟩,
    ⟨(some 61), (some (57, false)), .call 38 [(.t 60)]⟩,
    ⟨(some 62), (some (57, false)), .val (.bin .sub .num (.t 59) (.t 61))⟩,
    ⟨(some 63), (some (57, false)), .val (.bin .sub .num (.t 62) (.c (.int .i64 1)))⟩,
    ⟨(some 64), (some (57, false)), .call 37 [(.t 58), (.t 63)]⟩,
    ⟨(some 65), (some (57, false)), .val (.len .sl (.t 64))⟩,
    ⟨(some 66), (some (57, false)), .val (.bin .neq .num (.t 65) (.c (.int .i64 0)))⟩,
    ⟨(some 67), none, .val (.pick (.t 57) (.c (.bool true)) (.t 66))⟩] [3, 5, 6, 7, 67]) k9_8)) k9_11)

abbrev k9_13 : MC :=
  (.seq ((.seq (.reg [
    ⟨(some 48), none, .val (.mv (.t 8))⟩,
    ⟨(some 49), none, .val (.not (.t 48))⟩] [3, 5, 6, 7, 49]) k9_7)) k9_12)

abbrev k9_14 : MC :=
  .reg [
    ⟨(some 40), none, .val (.mv (.t 5))⟩,
    ⟨(some 41), none, .val (.bin .add .num (.t 40) (.c (.int .i64 1)))⟩,
    ⟨(some 5), none, .val (.mv (.t 41))⟩] [3, 5]

abbrev k9_15 : MC :=
  (.seq (.block 3 ((.seq (.reg [
     ⟨(some 43), none, .val (.mv (.t 3))⟩,
     ⟨(some 44), none, .call 40 [(.t 43)]⟩,
     ⟨(some 42), none, .val (.mv (.t 44))⟩,
     ⟨(some 45), none, .val (.ext (.t 42) 0)⟩,
     ⟨(some 46), none, .val (.ext (.t 42) 1)⟩,
     ⟨(some 47), none, .val (.ext (.t 42) 2)⟩,
     ⟨(some 6), none, .val (.mv (.t 45))⟩,
     ⟨(some 7), none, .val (.mv (.t 46))⟩,
     ⟨(some 8), none, .val (.mv (.t 47))⟩] [3, 5, 6, 7, 8]) k9_13))) k9_14)

abbrev k9_16 : MC :=
  (.seq ((.seq (.reg [
    ⟨(some 38), none, .val (.mv (.t 5))⟩,
    ⟨(some 39), none, .val (.bin .lss .num (.t 38) (.c (.int .i64 25)))⟩] [3, 5, 39]) k9_6)) k9_15)

abbrev k9_17 : MC :=
  .block 2 (.loop k9_16)

abbrev k9_18 : MC :=
  (.seq (.reg [
    ⟨(some 2), none, .val (.mv (.c (.bool false)))⟩] [2]) (.ret))

abbrev k9_19 : MC :=
  (.seq ((.seq (.reg [
    ⟨(some 5), none, .val (.mv (.c (.int .i64 0)))⟩] [3, 5]) k9_17)) k9_18)

abbrev k9_20 : MC :=
  (.seq ((.seq (.reg [
    ⟨(some 4), none, .val (.mv (.c (.int .i64 0)))⟩] [0, 3, 4]) k9_5)) k9_19)

abbrev k9_21 : MC :=
  (.seq (.reg [
    ⟨(some 18), none, .call 35 []⟩,
    ⟨(some 3), none, .val (.mv (.t 18))⟩] [0, 3]) k9_20)

abbrev k9_22 : MC :=
  (.seq ((.seq (.reg [
    ⟨(some 10), none, .val (.mv (.t 0))⟩,
    ⟨(some 11), none, .val (.len .sl (.t 10))⟩,
    ⟨(some 12), none, .val (.bin .gtr .num (.t 11) (.c (.int .i64 20)))⟩,
    ⟨(some 13), none, .val (.mv (.t 12))⟩,
    ⟨(some 14), (some (13, false)), .call 34 []⟩,
    ⟨(some 15), (some (13, false)), .val (.not (.t 14))⟩,
    ⟨(some 16), none, .val (.pick (.t 13) (.c (.bool true)) (.t 15))⟩] [0, 16]) k9_0)) k9_21)
abbrev k9 : MC :=
  (.seq (.reg [
    ⟨(some 2), none, .val (.mv (.c (.bool false)))⟩] [0]) k9_22)
theorem c9 : Try.f9.body.bind (mcOf Try.prog (List.contains [] ·) (List.getD [([], [0]), ([], [0, 16]), ([], [2]), ([], [0, 3]), ([], [0, 3, 4]), ([], [0, 3, 4, 22]), ([], [0, 3, 4]), ([0, 0, 0, 0, 0, 0, 0, 0, 0, 0, 0, 0, 2], [0, 3, 4]), ([], [3, 5]), ([], [3, 5, 39]), ([], [3, 5]), ([], [3, 5, 6, 7, 8]), ([], [3, 5, 6, 7, 49]), ([], [2]), ([], [3, 5, 6, 7, 67]), ([], [2]), ([], [3, 5, 6, 7, 9]), ([], [3, 5, 85]), ([], [2]), ([], [2])] · ([], [])) 86) = some k9 := by kernel_rfl
theorem r9 : rvsOf Try.prog Try.f9.results.toList = some [.tmp 2] := by kernel_rfl

theorem Rel.setL {l r : List Al} {now x : Int} {n : List UInt8} (h : Rel l r) (h32 : r.length < 32) (hx : 0 ≤ x) : ∃ r2, Rel (setL now l n x) r2 ∧ r2.length ≤ r.length + 1 ∧ ∀ y ∈ r2, y ∈ r ∨ y.2 = addI now x := by
  have e : setE l n x = 0 := by rw [setE, if_neg (by omega), if_neg (by have := h.len; omega)]
  rw [Ytjlphncecdlmcaa.setL, e, if_pos rfl]
  refine ⟨_, h.put n (addI now x), ?_, ?_⟩
  · have := (ins_perm (n, addI now x) (wo n r)).length_eq
    rw [this, List.length_cons]
    have := List.length_filter_le (fun x : Al => decide (x.1 ≠ n)) r
    unfold wo; omega
  · intro y hy
    rcases List.mem_cons.1 ((ins_perm _ _).mem_iff.1 hy) with rfl | hy
    · exact .inr rfl
    · exact .inl (List.mem_filter.1 hy).1
theorem lft_gt {r : List Al} {t : Int} (h : r.Pairwise ahd) : ∀ x ∈ lft r t, t < x.2 := by
  intro x hx
  have hs : (lft r t).Pairwise ahd := h.sublist (List.dropWhile_sublist _)
  cases q : lft r t with
  | nil => rw [q] at hx; cases hx
  | cons y s =>
    have hy : ¬ y.2 ≤ t := by
      have := List.head_dropWhile_not (p := fun x : Al => decide (x.2 ≤ t)) (l := r) (by unfold lft at q; rw [q]; simp)
      unfold lft at q
      simp only [q, List.head_cons] at this
      simpa using this
    rw [q] at hx hs
    rcases List.mem_cons.1 hx with rfl | hx
    · omega
    · have := ahd_le (List.rel_of_pairwise_cons hs hx); omega
theorem rng_nil {p : Al} {r : List Al} {t : Int} (h : t < p.2) : rng (p :: r) t = [] ∧ lft (p :: r) t = p :: r := by
  unfold rng lft
  rw [List.takeWhile_cons, List.dropWhile_cons, if_neg (by simp; omega), if_neg (by simp; omega)]
  exact ⟨rfl, rfl⟩
theorem rng_cons {p : Al} {r : List Al} {t : Int} (h : p.2 ≤ t) : rng (p :: r) t = p :: rng r t ∧ lft (p :: r) t = lft r t := by
  unfold rng lft
  rw [List.takeWhile_cons, List.dropWhile_cons, if_pos (by simp; omega), if_pos (by simp; omega)]
  exact ⟨rfl, rfl⟩
theorem add_id {x y : Int} (hx : 0 ≤ x) (hy : 0 ≤ y) (h : x + y ≤ 1152921504606846976) : addI x y = x + y := by unfold addI clipI; omega
abbrev cnJ (k m : Nat) (H : AH) : Nat → A → AH → Prop := fun n a H' => ∃ (j : Nat) (l r : List Al) (now : Int), j + n = 25 ∧ a = [(3, .ptr k 0), (5, .int .i64 j)] ∧ AlH H' k m now l ∧ Rel l r ∧ r.length + j ≤ 20 ∧ 0 ≤ now ∧ (∀ x ∈ r, now < x.2 ∧ x.2 ≤ 256) ∧ H.le H'
abbrev cnI (b : List UInt8) (t : Tok) (k m : Nat) (H : AH) : Nat → A → AH → Prop := fun n a H' => ∃ (i : Nat) (l r : List Al), i + n = b.length ∧ a = [(0, .sl 1 (byteCells b) t), (3, .ptr k 0), (4, .int .i64 i)] ∧ AlH H' k m 0 l ∧ Rel l r ∧ r.length ≤ i ∧ (∀ x ∈ r, 1 ≤ x.2 ∧ x.2 ≤ 256) ∧ H.le H'
theorem next_law {b : List UInt8} {t : Tok} (H : AH) : ACalls Try.prog 9 [.sl 1 (byteCells b) t] H (fun o H' => o = .ret (.bool true) ∧ H' = H) := by
  refine ACalls.drop ?_
  refine acalls Try.func9 c9 r9 (by simp [Try.ntmps9]) ?_
  repeat' (first | with_reducible refine am_seq ?_ | with_reducible refine am_block ?_ | ((with_reducible apply am_cond); (case hb => rfl); all_goals (intro hc; (try simp only [reduceCtorEq, decide_eq_true_eq, decide_eq_false_iff_not, Bool.or_eq_true, Bool.and_eq_true, Bool.or_eq_false_iff, Bool.not_eq_true', Bool.not_eq_false', beq_iff_eq] at hc); (try (exfalso; omega)))) | ((first | with_reducible refine am_reg ?_ | with_reducible refine am_drw ?_ | with_reducible refine am_drx ?_ | with_reducible refine am_skip ?_ | with_reducible refine am_exit ?_ | with_reducible refine am_ret ?_ | with_reducible refine And.intro (by first | exact AH.lec_refl _ | assumption | exact AccP.lec (by assumption) | omega) ?_ | with_reducible refine isnE_of (fun hc => ?_) (fun hc => ?_) (fun hc => ?_) | ((first | with_reducible refine gd_not (fun hc => ?_) (fun hc => ?_) | with_reducible refine gd_of (fun hc => ?_) (fun hc => ?_) | with_reducible refine gq_not (fun hc => ?_) (fun hc => ?_) | with_reducible refine gq_of (fun hc => ?_) (fun hc => ?_) | with_reducible refine pickB_of (fun hc => ?_) (fun hc => ?_)) <;> (try simp -implicitDefEqProofs (disch := omega) only [go_sem, eq_self, decide_true, decide_false, Nat.reduceBEq, Nat.reduceAdd, Nat.reduceSub, Nat.reduceMul, Nat.reduceEqDiff, Nat.reduceLeDiff, Nat.reduceLT, Int.reduceLE, Int.reduceLT, Int.reduceToNat, Int.reduceAdd, Int.reduceEq, Int.reduceNeg, AH.put_ne, hc, wrap_id, byteCells_length]) <;> (try simp only [reduceCtorEq, decide_eq_true_eq, decide_eq_false_iff_not, Bool.or_eq_true, Bool.and_eq_true, Bool.or_eq_false_iff, Bool.not_eq_true', Bool.not_eq_false', beq_iff_eq] at hc) <;> (try (exfalso; omega))) | ((with_reducible refine alloc_intro (fun ko hko => ?_)) <;> (try have hne := fresh_ne (by assumption) hko) <;> (try have hnk := fresh_ne hk hko) <;> (try have hnk2 := fresh_ne hk2 hko) <;> (try simp only [AH.put_none] at hko)) | ((first | (with_reducible refine vapp_accL (by assumption) ?_ (fun v2 H2 hacc hlec => ?_)) | (with_reducible refine vapp_accL (AccP.mono (by assumption) (AccP.le (by assumption))) ?_ (fun v2 H2 hacc hlec => ?_)) | (with_reducible refine vapp_accL (AccP.new (by assumption) (by assumption) _) ?_ (fun v2 H2 hacc hlec => ?_))); · simp only [byteCells_length, List.length_cons, List.length_nil, List.length_map, List.length_append, strE_length, List.length_take, List.length_drop]; omega) | with_reducible refine need_elems (by assumption) ?_ | with_reducible refine vlen_acc (by assumption) ?_ | with_reducible refine need_bytes (by assumption) ?_ | (first | with_reducible refine call_of (awake_calls) ?_ | with_reducible refine qcall_of (awake_calls) ?_) | with_reducible refine call_ex (newX _) (fun v H2 hr => ?_) | with_reducible refine need_look (by assumption) ?_ | with_reducible refine need_look (look_put (by assumption) (by assumption)) ?_ | with_reducible refine need_look (look_lec (by assumption) (by assumption)) ?_ | with_reducible refine need_look (look_put (AH.put_same _ _ _) (by assumption)) ?_ | with_reducible refine need_look (look_lec (AH.put_same _ _ _) (by assumption)) ?_ | with_reducible refine need_look (look_put (look_put (by assumption) (by assumption)) (by assumption)) ?_ | with_reducible refine need_look (look_lec (look_put (by assumption) (by assumption)) (by assumption)) ?_ | with_reducible refine need_look (look_put (look_lec (by assumption) (by assumption)) (by assumption)) ?_ | with_reducible refine need_look (look_lec (look_lec (by assumption) (by assumption)) (by assumption)) ?_ | with_reducible refine need_look (look_put (look_put (AH.put_same _ _ _) (by assumption)) (by assumption)) ?_ | with_reducible refine need_look (look_lec (look_put (AH.put_same _ _ _) (by assumption)) (by assumption)) ?_ | with_reducible refine need_look (look_put (look_lec (AH.put_same _ _ _) (by assumption)) (by assumption)) ?_ | with_reducible refine need_look (look_lec (look_lec (AH.put_same _ _ _) (by assumption)) (by assumption)) ?_) <;> (try simp -implicitDefEqProofs (disch := omega) only [go_sem, eq_self, decide_true, decide_false, Nat.reduceBEq, Nat.reduceAdd, Nat.reduceSub, Nat.reduceMul, Nat.reduceEqDiff, Nat.reduceLeDiff, Nat.reduceLT, Int.reduceLE, Int.reduceLT, Int.reduceToNat, Int.reduceAdd, Int.reduceEq, Int.reduceNeg, AH.put_ne, wrap_id, byteCells_length])))
  · obtain ⟨k, m, rfl, h0, hk, hm, hle⟩ := hr
    have h20 : b.length ≤ 20 := by omega
    refine am_loop (cnI b t k m H) ?_ b.length ⟨0, [], [], by omega, rfl, h0, Rel.nil, by simp, by simp, hle⟩
    rintro n a H' ⟨i, l, r, hi, rfl, ha, hr, hri, hx, hle⟩
    by_cases hlt : i < b.length
    · have hb : (byteCells b)[i]? = some [.int .u8 b[i].toNat] := by simp [byteCells, hlt]
      have w1 : IntKind.i64.wrap (b[i].toNat : Int) = b[i].toNat := wrap_id _ (by omega) (by have := b[i].toNat_lt; omega)
      have w2 : IntKind.i64.wrap (1 + (b[i].toNat : Int)) = 1 + b[i].toNat := wrap_id _ (by omega) (by have := b[i].toNat_lt; omega)
      have w3 : IntKind.u8.wrap (97 + (i : Int)) = (97 + i : Nat) := by
        unfold IntKind.wrap; simp [IntKind.bits, IntKind.signed]; omega
      have w4 : bytesOf [V.int .u8 ((97 + i : Nat) : Int)] = some [UInt8.ofNat (97 + i)] := rfl
      repeat' (first | (((with_reducible refine call_ex (setX (by assumption)) (fun v H2 hr => ?_)); obtain ⟨rfl, hal, halt⟩ := hr)) | with_reducible refine am_seq ?_ | with_reducible refine am_block ?_ | ((with_reducible apply am_cond); (case hb => rfl); all_goals (intro hc; (try simp only [reduceCtorEq, decide_eq_true_eq, decide_eq_false_iff_not, Bool.or_eq_true, Bool.and_eq_true, Bool.or_eq_false_iff, Bool.not_eq_true', Bool.not_eq_false', beq_iff_eq] at hc); (try (exfalso; omega)))) | ((first | with_reducible refine am_reg ?_ | with_reducible refine am_drw ?_ | with_reducible refine am_drx ?_ | with_reducible refine am_skip ?_ | with_reducible refine am_exit ?_ | with_reducible refine am_ret ?_ | with_reducible refine And.intro (by first | exact AH.lec_refl _ | assumption | exact AccP.lec (by assumption) | omega) ?_ | with_reducible refine isnE_of (fun hc => ?_) (fun hc => ?_) (fun hc => ?_) | ((first | with_reducible refine gd_not (fun hc => ?_) (fun hc => ?_) | with_reducible refine gd_of (fun hc => ?_) (fun hc => ?_) | with_reducible refine gq_not (fun hc => ?_) (fun hc => ?_) | with_reducible refine gq_of (fun hc => ?_) (fun hc => ?_) | with_reducible refine pickB_of (fun hc => ?_) (fun hc => ?_)) <;> (try simp -implicitDefEqProofs (disch := omega) only [go_sem, eq_self, decide_true, decide_false, Nat.reduceBEq, Nat.reduceAdd, Nat.reduceSub, Nat.reduceMul, Nat.reduceEqDiff, Nat.reduceLeDiff, Nat.reduceLT, Int.reduceLE, Int.reduceLT, Int.reduceToNat, Int.reduceAdd, Int.reduceEq, Int.reduceNeg, AH.put_ne, hc, wrap_id, byteCells_length, hb, w1, w2, w3, w4, List.flatten_cons, List.flatten_nil, List.append_nil]) <;> (try simp only [reduceCtorEq, decide_eq_true_eq, decide_eq_false_iff_not, Bool.or_eq_true, Bool.and_eq_true, Bool.or_eq_false_iff, Bool.not_eq_true', Bool.not_eq_false', beq_iff_eq] at hc) <;> (try (exfalso; omega))) | ((with_reducible refine alloc_intro (fun ko hko => ?_)) <;> (try have hne := fresh_ne (by assumption) hko) <;> (try have hnk := fresh_ne hk hko) <;> (try have hnk2 := fresh_ne hk2 hko) <;> (try simp only [AH.put_none] at hko)) | ((first | (with_reducible refine vapp_accL (by assumption) ?_ (fun v2 H2 hacc hlec => ?_)) | (with_reducible refine vapp_accL (AccP.mono (by assumption) (AccP.le (by assumption))) ?_ (fun v2 H2 hacc hlec => ?_)) | (with_reducible refine vapp_accL (AccP.new (by assumption) (by assumption) _) ?_ (fun v2 H2 hacc hlec => ?_))); · simp only [byteCells_length, List.length_cons, List.length_nil, List.length_map, List.length_append, strE_length, List.length_take, List.length_drop]; omega) | with_reducible refine need_elems (by assumption) ?_ | with_reducible refine vlen_acc (by assumption) ?_ | with_reducible refine need_bytes (by assumption) ?_ | with_reducible refine need_look (by assumption) ?_ | with_reducible refine need_look (look_put (by assumption) (by assumption)) ?_ | with_reducible refine need_look (look_lec (by assumption) (by assumption)) ?_ | with_reducible refine need_look (look_put (AH.put_same _ _ _) (by assumption)) ?_ | with_reducible refine need_look (look_lec (AH.put_same _ _ _) (by assumption)) ?_ | with_reducible refine need_look (look_put (look_put (by assumption) (by assumption)) (by assumption)) ?_ | with_reducible refine need_look (look_lec (look_put (by assumption) (by assumption)) (by assumption)) ?_ | with_reducible refine need_look (look_put (look_lec (by assumption) (by assumption)) (by assumption)) ?_ | with_reducible refine need_look (look_lec (look_lec (by assumption) (by assumption)) (by assumption)) ?_ | with_reducible refine need_look (look_put (look_put (AH.put_same _ _ _) (by assumption)) (by assumption)) ?_ | with_reducible refine need_look (look_lec (look_put (AH.put_same _ _ _) (by assumption)) (by assumption)) ?_ | with_reducible refine need_look (look_put (look_lec (AH.put_same _ _ _) (by assumption)) (by assumption)) ?_ | with_reducible refine need_look (look_lec (look_lec (AH.put_same _ _ _) (by assumption)) (by assumption)) ?_) <;> (try simp -implicitDefEqProofs (disch := omega) only [go_sem, eq_self, decide_true, decide_false, Nat.reduceBEq, Nat.reduceAdd, Nat.reduceSub, Nat.reduceMul, Nat.reduceEqDiff, Nat.reduceLeDiff, Nat.reduceLT, Int.reduceLE, Int.reduceLT, Int.reduceToNat, Int.reduceAdd, Int.reduceEq, Int.reduceNeg, AH.put_ne, wrap_id, byteCells_length, hb, w1, w2, w3, w4, List.flatten_cons, List.flatten_nil, List.append_nil])))
      obtain ⟨r2, g1, g2, g3⟩ := hr.setL (now := 0) (n := [UInt8.ofNat (97 + i)]) (x := 1 + (b[i].toNat : Int)) (by omega) (by omega)
      refine ⟨n - 1, by omega, i + 1, _, r2, by omega, rfl, hal, g1, by omega, ?_, halt.le hle hk hm⟩
      intro y hy
      rcases g3 y hy with h | h
      · exact hx y h
      · rw [h, add_id (by omega) (by omega) (by have := b[i].toNat_lt; omega)]
        have := b[i].toNat_lt; omega
    · repeat' (first | with_reducible refine am_seq ?_ | with_reducible refine am_block ?_ | ((with_reducible apply am_cond); (case hb => rfl); all_goals (intro hc; (try simp only [reduceCtorEq, decide_eq_true_eq, decide_eq_false_iff_not, Bool.or_eq_true, Bool.and_eq_true, Bool.or_eq_false_iff, Bool.not_eq_true', Bool.not_eq_false', beq_iff_eq] at hc); (try (exfalso; omega)))) | ((first | with_reducible refine am_reg ?_ | with_reducible refine am_drw ?_ | with_reducible refine am_drx ?_ | with_reducible refine am_skip ?_ | with_reducible refine am_exit ?_ | with_reducible refine am_ret ?_ | with_reducible refine And.intro (by first | exact AH.lec_refl _ | assumption | exact AccP.lec (by assumption) | omega) ?_ | with_reducible refine isnE_of (fun hc => ?_) (fun hc => ?_) (fun hc => ?_) | ((first | with_reducible refine gd_not (fun hc => ?_) (fun hc => ?_) | with_reducible refine gd_of (fun hc => ?_) (fun hc => ?_) | with_reducible refine gq_not (fun hc => ?_) (fun hc => ?_) | with_reducible refine gq_of (fun hc => ?_) (fun hc => ?_) | with_reducible refine pickB_of (fun hc => ?_) (fun hc => ?_)) <;> (try simp -implicitDefEqProofs (disch := omega) only [go_sem, eq_self, decide_true, decide_false, Nat.reduceBEq, Nat.reduceAdd, Nat.reduceSub, Nat.reduceMul, Nat.reduceEqDiff, Nat.reduceLeDiff, Nat.reduceLT, Int.reduceLE, Int.reduceLT, Int.reduceToNat, Int.reduceAdd, Int.reduceEq, Int.reduceNeg, AH.put_ne, hc, wrap_id, byteCells_length]) <;> (try simp only [reduceCtorEq, decide_eq_true_eq, decide_eq_false_iff_not, Bool.or_eq_true, Bool.and_eq_true, Bool.or_eq_false_iff, Bool.not_eq_true', Bool.not_eq_false', beq_iff_eq] at hc) <;> (try (exfalso; omega))) | ((with_reducible refine alloc_intro (fun ko hko => ?_)) <;> (try have hne := fresh_ne (by assumption) hko) <;> (try have hnk := fresh_ne hk hko) <;> (try have hnk2 := fresh_ne hk2 hko) <;> (try simp only [AH.put_none] at hko)) | ((first | (with_reducible refine vapp_accL (by assumption) ?_ (fun v2 H2 hacc hlec => ?_)) | (with_reducible refine vapp_accL (AccP.mono (by assumption) (AccP.le (by assumption))) ?_ (fun v2 H2 hacc hlec => ?_)) | (with_reducible refine vapp_accL (AccP.new (by assumption) (by assumption) _) ?_ (fun v2 H2 hacc hlec => ?_))); · simp only [byteCells_length, List.length_cons, List.length_nil, List.length_map, List.length_append, strE_length, List.length_take, List.length_drop]; omega) | with_reducible refine need_elems (by assumption) ?_ | with_reducible refine vlen_acc (by assumption) ?_ | with_reducible refine need_bytes (by assumption) ?_ | with_reducible refine need_look (by assumption) ?_ | with_reducible refine need_look (look_put (by assumption) (by assumption)) ?_ | with_reducible refine need_look (look_lec (by assumption) (by assumption)) ?_ | with_reducible refine need_look (look_put (AH.put_same _ _ _) (by assumption)) ?_ | with_reducible refine need_look (look_lec (AH.put_same _ _ _) (by assumption)) ?_ | with_reducible refine need_look (look_put (look_put (by assumption) (by assumption)) (by assumption)) ?_ | with_reducible refine need_look (look_lec (look_put (by assumption) (by assumption)) (by assumption)) ?_ | with_reducible refine need_look (look_put (look_lec (by assumption) (by assumption)) (by assumption)) ?_ | with_reducible refine need_look (look_lec (look_lec (by assumption) (by assumption)) (by assumption)) ?_ | with_reducible refine need_look (look_put (look_put (AH.put_same _ _ _) (by assumption)) (by assumption)) ?_ | with_reducible refine need_look (look_lec (look_put (AH.put_same _ _ _) (by assumption)) (by assumption)) ?_ | with_reducible refine need_look (look_put (look_lec (AH.put_same _ _ _) (by assumption)) (by assumption)) ?_ | with_reducible refine need_look (look_lec (look_lec (AH.put_same _ _ _) (by assumption)) (by assumption)) ?_) <;> (try simp -implicitDefEqProofs (disch := omega) only [go_sem, eq_self, decide_true, decide_false, Nat.reduceBEq, Nat.reduceAdd, Nat.reduceSub, Nat.reduceMul, Nat.reduceEqDiff, Nat.reduceLeDiff, Nat.reduceLT, Int.reduceLE, Int.reduceLT, Int.reduceToNat, Int.reduceAdd, Int.reduceEq, Int.reduceNeg, AH.put_ne, wrap_id, byteCells_length])))
      refine am_loop (cnJ k m H) ?_ 25 ⟨0, l, r, 0, by omega, rfl, ha, hr, by omega, by omega, fun x h => by have := hx x h; omega, hle⟩
      rintro n2 a2 H3 ⟨j, l, r, now, hj, rfl, ha, hr, hri, h0, hx, hle⟩
      have hlen := hr.len
      have hjl : (j : Int) < 25 := by omega
      have qn := nextX ha (by omega)
      have hn := hr.names
      have ql := lenX ha
      cases r with
      | nil =>
        rw [hn] at qn
        rw [hlen] at ql
        simp only [List.map_nil, List.headD_nil, List.head?_nil, Option.elim_none, Option.isSome_none, List.length_nil] at qn ql
        repeat' (first | with_reducible refine am_seq ?_ | with_reducible refine am_block ?_ | ((with_reducible apply am_cond); (case hb => rfl); all_goals (intro hc; (try simp only [reduceCtorEq, decide_eq_true_eq, decide_eq_false_iff_not, Bool.or_eq_true, Bool.and_eq_true, Bool.or_eq_false_iff, Bool.not_eq_true', Bool.not_eq_false', beq_iff_eq] at hc); (try (exfalso; omega)))) | ((first | with_reducible refine am_reg ?_ | with_reducible refine am_drw ?_ | with_reducible refine am_drx ?_ | with_reducible refine am_skip ?_ | with_reducible refine am_exit ?_ | with_reducible refine am_ret ?_ | with_reducible refine And.intro (by first | exact AH.lec_refl _ | assumption | exact AccP.lec (by assumption) | omega) ?_ | with_reducible refine isnE_of (fun hc => ?_) (fun hc => ?_) (fun hc => ?_) | ((first | with_reducible refine gd_not (fun hc => ?_) (fun hc => ?_) | with_reducible refine gd_of (fun hc => ?_) (fun hc => ?_) | with_reducible refine gq_not (fun hc => ?_) (fun hc => ?_) | with_reducible refine gq_of (fun hc => ?_) (fun hc => ?_) | with_reducible refine pickB_of (fun hc => ?_) (fun hc => ?_)) <;> (try simp -implicitDefEqProofs (disch := omega) only [go_sem, eq_self, decide_true, decide_false, Nat.reduceBEq, Nat.reduceAdd, Nat.reduceSub, Nat.reduceMul, Nat.reduceEqDiff, Nat.reduceLeDiff, Nat.reduceLT, Int.reduceLE, Int.reduceLT, Int.reduceToNat, Int.reduceAdd, Int.reduceEq, Int.reduceNeg, AH.put_ne, hc, wrap_id, hjl]) <;> (try simp only [reduceCtorEq, decide_eq_true_eq, decide_eq_false_iff_not, Bool.or_eq_true, Bool.and_eq_true, Bool.or_eq_false_iff, Bool.not_eq_true', Bool.not_eq_false', beq_iff_eq] at hc) <;> (try (exfalso; omega))) | ((with_reducible refine alloc_intro (fun ko hko => ?_)) <;> (try have hne := fresh_ne (by assumption) hko) <;> (try have hnk := fresh_ne hk hko) <;> (try have hnk2 := fresh_ne hk2 hko) <;> (try simp only [AH.put_none] at hko)) | ((first | (with_reducible refine vapp_accL (by assumption) ?_ (fun v2 H2 hacc hlec => ?_)) | (with_reducible refine vapp_accL (AccP.mono (by assumption) (AccP.le (by assumption))) ?_ (fun v2 H2 hacc hlec => ?_)) | (with_reducible refine vapp_accL (AccP.new (by assumption) (by assumption) _) ?_ (fun v2 H2 hacc hlec => ?_))); · simp only [byteCells_length, List.length_cons, List.length_nil, List.length_map, List.length_append, strE_length, List.length_take, List.length_drop]; omega) | with_reducible refine need_elems (by assumption) ?_ | with_reducible refine vlen_acc (by assumption) ?_ | with_reducible refine need_bytes (by assumption) ?_ | with_reducible refine call_turn (qn) ?_ | with_reducible refine call_turn (ql) ?_ | with_reducible refine need_look (by assumption) ?_ | with_reducible refine need_look (look_put (by assumption) (by assumption)) ?_ | with_reducible refine need_look (look_lec (by assumption) (by assumption)) ?_ | with_reducible refine need_look (look_put (AH.put_same _ _ _) (by assumption)) ?_ | with_reducible refine need_look (look_lec (AH.put_same _ _ _) (by assumption)) ?_ | with_reducible refine need_look (look_put (look_put (by assumption) (by assumption)) (by assumption)) ?_ | with_reducible refine need_look (look_lec (look_put (by assumption) (by assumption)) (by assumption)) ?_ | with_reducible refine need_look (look_put (look_lec (by assumption) (by assumption)) (by assumption)) ?_ | with_reducible refine need_look (look_lec (look_lec (by assumption) (by assumption)) (by assumption)) ?_ | with_reducible refine need_look (look_put (look_put (AH.put_same _ _ _) (by assumption)) (by assumption)) ?_ | with_reducible refine need_look (look_lec (look_put (AH.put_same _ _ _) (by assumption)) (by assumption)) ?_ | with_reducible refine need_look (look_put (look_lec (AH.put_same _ _ _) (by assumption)) (by assumption)) ?_ | with_reducible refine need_look (look_lec (look_lec (AH.put_same _ _ _) (by assumption)) (by assumption)) ?_) <;> (try simp -implicitDefEqProofs (disch := omega) only [go_sem, eq_self, decide_true, decide_false, Nat.reduceBEq, Nat.reduceAdd, Nat.reduceSub, Nat.reduceMul, Nat.reduceEqDiff, Nat.reduceLeDiff, Nat.reduceLT, Int.reduceLE, Int.reduceLT, Int.reduceToNat, Int.reduceAdd, Int.reduceEq, Int.reduceNeg, AH.put_ne, wrap_id, hjl])))
        all_goals exact end_eq (by simp) hle
      | cons p r =>
        have e2 : alF p.1 l = some p.2 := hr.look_mem List.mem_cons_self
        rw [hn] at qn
        simp only [List.map_cons, List.headD_cons, List.head?_cons, Option.elim_some, e2, Option.getD_some, Option.isSome_some] at qn
        obtain ⟨p1, p2⟩ := hx p List.mem_cons_self
        have w5 : IntKind.i64.wrap (p.2 - now) = p.2 - now := wrap_id _ (by omega) (by omega)
        have w6 : IntKind.i64.wrap (p.2 - now - 1) = p.2 - now - 1 := wrap_id _ (by omega) (by omega)
        have c1 : ¬ p.2 ≤ now := by omega
        -- till just ahead of it
        have t1 : ∀ {H4 : AH} {l4 : List Al}, AlH H4 k m (p.2 - 1) l4 → Rel l4 (p :: r) → H.le H4 → ACalls Try.prog 37 [.ptr k 0, .int .i64 1] H4 (fun o H' => ∃ v, o = .ret v ∧ v = .sl 1 (strE (p.1 :: (rng r p.2).map Prod.fst)) .no ∧ (∃ l5, AlH H' k m p.2 l5 ∧ Rel l5 (lft r p.2)) ∧ H.le H') := by
          intro H4 l4 ha4 hr4 hle4
          refine (tickX (x := 1) ha4 (by have := hr4.len; simp only [List.length_cons] at *; omega) (by decide)).mono ?_
          rintro o H' ⟨v, rfl, rfl, h1, h2⟩
          have e3 : addI (p.2 - 1) 1 = p.2 := by rw [add_id (by omega) (by omega) (by omega)]; omega
          have hrt := hr4.tick p.2
          rw [(rng_cons (r := r) (Int.le_refl p.2)).2] at hrt
          rw [e3] at h1 ⊢
          rw [hr4.rings, (rng_cons (r := r) (Int.le_refl p.2)).1] at *
          exact ⟨_, rfl, rfl, ⟨_, h1, hrt⟩, h2.le hle4 hk hm⟩
        have fin : ∀ {H5 : AH} {l5 : List Al}, AlH H5 k m p.2 l5 → Rel l5 (lft r p.2) → H.le H5 → cnJ k m H (n2 - 1) [(3, .ptr k 0), (5, .int .i64 (j + 1))] H5 := by
          intro H5 l5 h1 h2 h3
          have hll : (lft r p.2).length ≤ r.length := (List.dropWhile_sublist _).length_le
          refine ⟨j + 1, l5, _, p.2, by omega, rfl, h1, h2, by simp only [List.length_cons] at hri; omega, by omega, ?_, h3⟩
          intro x hxm
          refine ⟨lft_gt (r := r) (List.pairwise_cons.1 hr.srt).2 x hxm, ?_⟩
          exact (hx x (List.mem_cons_of_mem _ ((List.dropWhile_sublist _).subset hxm))).2
        have e7 : (strE (p.1 :: (rng r p.2).map Prod.fst))[0]? = some [.str p.1] := rfl
        have e8 : ¬ (((strE (p.1 :: (rng r p.2).map Prod.fst)).length : Nat) : Int) = 0 := by rw [strE_length, List.length_cons]; omega
        by_cases hx1 : p.2 - now - 1 < 1
        · have enow : now = p.2 - 1 := by omega
          have q0 := tick0_calls (k := k) (H := H3) hx1
          have ha' := ha
          rw [enow] at ha'
          have q1 := t1 ha' hr hle
          repeat' (first | (((with_reducible refine call_ex q1 (fun v H2 hr => ?_)); obtain ⟨rfl, ⟨l5, hal, hrel⟩, hle5⟩ := hr)) | with_reducible refine am_seq ?_ | with_reducible refine am_block ?_ | ((with_reducible apply am_cond); (case hb => rfl); all_goals (intro hc; (try simp only [reduceCtorEq, decide_eq_true_eq, decide_eq_false_iff_not, Bool.or_eq_true, Bool.and_eq_true, Bool.or_eq_false_iff, Bool.not_eq_true', Bool.not_eq_false', beq_iff_eq] at hc); (try (exfalso; omega)))) | ((first | with_reducible refine am_reg ?_ | with_reducible refine am_drw ?_ | with_reducible refine am_drx ?_ | with_reducible refine am_skip ?_ | with_reducible refine am_exit ?_ | with_reducible refine am_ret ?_ | with_reducible refine And.intro (by first | exact AH.lec_refl _ | assumption | exact AccP.lec (by assumption) | omega) ?_ | with_reducible refine isnE_of (fun hc => ?_) (fun hc => ?_) (fun hc => ?_) | ((first | with_reducible refine gd_not (fun hc => ?_) (fun hc => ?_) | with_reducible refine gd_of (fun hc => ?_) (fun hc => ?_) | with_reducible refine gq_not (fun hc => ?_) (fun hc => ?_) | with_reducible refine gq_of (fun hc => ?_) (fun hc => ?_) | with_reducible refine pickB_of (fun hc => ?_) (fun hc => ?_)) <;> (try simp -implicitDefEqProofs (disch := omega) only [go_sem, eq_self, decide_true, decide_false, Nat.reduceBEq, Nat.reduceAdd, Nat.reduceSub, Nat.reduceMul, Nat.reduceEqDiff, Nat.reduceLeDiff, Nat.reduceLT, Int.reduceLE, Int.reduceLT, Int.reduceToNat, Int.reduceAdd, Int.reduceEq, Int.reduceNeg, AH.put_ne, hc, wrap_id, hjl, c1, w5, w6, e7, e8, List.length_nil]) <;> (try simp only [reduceCtorEq, decide_eq_true_eq, decide_eq_false_iff_not, Bool.or_eq_true, Bool.and_eq_true, Bool.or_eq_false_iff, Bool.not_eq_true', Bool.not_eq_false', beq_iff_eq] at hc) <;> (try (exfalso; omega))) | ((with_reducible refine alloc_intro (fun ko hko => ?_)) <;> (try have hne := fresh_ne (by assumption) hko) <;> (try have hnk := fresh_ne hk hko) <;> (try have hnk2 := fresh_ne hk2 hko) <;> (try simp only [AH.put_none] at hko)) | ((first | (with_reducible refine vapp_accL (by assumption) ?_ (fun v2 H2 hacc hlec => ?_)) | (with_reducible refine vapp_accL (AccP.mono (by assumption) (AccP.le (by assumption))) ?_ (fun v2 H2 hacc hlec => ?_)) | (with_reducible refine vapp_accL (AccP.new (by assumption) (by assumption) _) ?_ (fun v2 H2 hacc hlec => ?_))); · simp only [byteCells_length, List.length_cons, List.length_nil, List.length_map, List.length_append, strE_length, List.length_take, List.length_drop]; omega) | with_reducible refine need_elems (by assumption) ?_ | with_reducible refine vlen_acc (by assumption) ?_ | with_reducible refine need_bytes (by assumption) ?_ | with_reducible refine call_turn (qn) ?_ | with_reducible refine call_turn (q0) ?_ | with_reducible refine call_turn (nowX ha) ?_ | with_reducible refine call_turn (nowX (by assumption)) ?_ | with_reducible refine need_look (by assumption) ?_ | with_reducible refine need_look (look_put (by assumption) (by assumption)) ?_ | with_reducible refine need_look (look_lec (by assumption) (by assumption)) ?_ | with_reducible refine need_look (look_put (AH.put_same _ _ _) (by assumption)) ?_ | with_reducible refine need_look (look_lec (AH.put_same _ _ _) (by assumption)) ?_ | with_reducible refine need_look (look_put (look_put (by assumption) (by assumption)) (by assumption)) ?_ | with_reducible refine need_look (look_lec (look_put (by assumption) (by assumption)) (by assumption)) ?_ | with_reducible refine need_look (look_put (look_lec (by assumption) (by assumption)) (by assumption)) ?_ | with_reducible refine need_look (look_lec (look_lec (by assumption) (by assumption)) (by assumption)) ?_ | with_reducible refine need_look (look_put (look_put (AH.put_same _ _ _) (by assumption)) (by assumption)) ?_ | with_reducible refine need_look (look_lec (look_put (AH.put_same _ _ _) (by assumption)) (by assumption)) ?_ | with_reducible refine need_look (look_put (look_lec (AH.put_same _ _ _) (by assumption)) (by assumption)) ?_ | with_reducible refine need_look (look_lec (look_lec (AH.put_same _ _ _) (by assumption)) (by assumption)) ?_) <;> (try simp -implicitDefEqProofs (disch := omega) only [go_sem, eq_self, decide_true, decide_false, Nat.reduceBEq, Nat.reduceAdd, Nat.reduceSub, Nat.reduceMul, Nat.reduceEqDiff, Nat.reduceLeDiff, Nat.reduceLT, Int.reduceLE, Int.reduceLT, Int.reduceToNat, Int.reduceAdd, Int.reduceEq, Int.reduceNeg, AH.put_ne, wrap_id, hjl, c1, w5, w6, e7, e8, List.length_nil])))
          all_goals exact ⟨n2 - 1, by omega, fin hal hrel hle5⟩
        · have q0 : ACalls Try.prog 37 [.ptr k 0, .int .i64 (p.2 - now - 1)] H3 (fun o H' => ∃ v, o = .ret v ∧ v = .sl 1 [] .no ∧ (∃ l4, AlH H' k m (p.2 - 1) l4 ∧ Rel l4 (p :: r)) ∧ H.le H') := by
            refine (tickX (x := p.2 - now - 1) ha (by omega) hx1).mono ?_
            rintro o H' ⟨v, rfl, rfl, h1, h2⟩
            have e3 : addI now (p.2 - now - 1) = p.2 - 1 := by rw [add_id (by omega) (by omega) (by omega)]; omega
            have hrt := hr.tick (p.2 - 1)
            obtain ⟨e4, e5⟩ := rng_nil (p := p) (r := r) (t := p.2 - 1) (by omega)
            rw [e3] at h1 ⊢
            rw [e5] at hrt
            have e6 := hr.rings (p.2 - 1)
            rw [e4] at e6
            rw [e6] at h1 hrt ⊢
            exact ⟨_, rfl, rfl, ⟨_, h1, hrt⟩, h2.le hle hk hm⟩
          repeat' (first | (((with_reducible refine call_ex q0 (fun v H2 hr => ?_)); obtain ⟨rfl, ⟨l4, hal4, hrel4⟩, hle4⟩ := hr; try simp -implicitDefEqProofs only [go_sem, List.length_nil, decide_false])) | (((with_reducible refine call_ex (t1 hal4 hrel4 hle4) (fun v H2 hr => ?_)); obtain ⟨rfl, ⟨l5, hal, hrel⟩, hle5⟩ := hr)) | with_reducible refine am_seq ?_ | with_reducible refine am_block ?_ | ((with_reducible apply am_cond); (case hb => rfl); all_goals (intro hc; (try simp only [reduceCtorEq, decide_eq_true_eq, decide_eq_false_iff_not, Bool.or_eq_true, Bool.and_eq_true, Bool.or_eq_false_iff, Bool.not_eq_true', Bool.not_eq_false', beq_iff_eq] at hc); (try (exfalso; omega)))) | ((first | with_reducible refine am_reg ?_ | with_reducible refine am_drw ?_ | with_reducible refine am_drx ?_ | with_reducible refine am_skip ?_ | with_reducible refine am_exit ?_ | with_reducible refine am_ret ?_ | with_reducible refine And.intro (by first | exact AH.lec_refl _ | assumption | exact AccP.lec (by assumption) | omega) ?_ | with_reducible refine isnE_of (fun hc => ?_) (fun hc => ?_) (fun hc => ?_) | ((first | with_reducible refine gd_not (fun hc => ?_) (fun hc => ?_) | with_reducible refine gd_of (fun hc => ?_) (fun hc => ?_) | with_reducible refine gq_not (fun hc => ?_) (fun hc => ?_) | with_reducible refine gq_of (fun hc => ?_) (fun hc => ?_) | with_reducible refine pickB_of (fun hc => ?_) (fun hc => ?_)) <;> (try simp -implicitDefEqProofs (disch := omega) only [go_sem, eq_self, decide_true, decide_false, Nat.reduceBEq, Nat.reduceAdd, Nat.reduceSub, Nat.reduceMul, Nat.reduceEqDiff, Nat.reduceLeDiff, Nat.reduceLT, Int.reduceLE, Int.reduceLT, Int.reduceToNat, Int.reduceAdd, Int.reduceEq, Int.reduceNeg, AH.put_ne, hc, wrap_id, hjl, c1, w5, w6, e7, e8, List.length_nil]) <;> (try simp only [reduceCtorEq, decide_eq_true_eq, decide_eq_false_iff_not, Bool.or_eq_true, Bool.and_eq_true, Bool.or_eq_false_iff, Bool.not_eq_true', Bool.not_eq_false', beq_iff_eq] at hc) <;> (try (exfalso; omega))) | ((with_reducible refine alloc_intro (fun ko hko => ?_)) <;> (try have hne := fresh_ne (by assumption) hko) <;> (try have hnk := fresh_ne hk hko) <;> (try have hnk2 := fresh_ne hk2 hko) <;> (try simp only [AH.put_none] at hko)) | ((first | (with_reducible refine vapp_accL (by assumption) ?_ (fun v2 H2 hacc hlec => ?_)) | (with_reducible refine vapp_accL (AccP.mono (by assumption) (AccP.le (by assumption))) ?_ (fun v2 H2 hacc hlec => ?_)) | (with_reducible refine vapp_accL (AccP.new (by assumption) (by assumption) _) ?_ (fun v2 H2 hacc hlec => ?_))); · simp only [byteCells_length, List.length_cons, List.length_nil, List.length_map, List.length_append, strE_length, List.length_take, List.length_drop]; omega) | with_reducible refine need_elems (by assumption) ?_ | with_reducible refine vlen_acc (by assumption) ?_ | with_reducible refine need_bytes (by assumption) ?_ | with_reducible refine call_turn (qn) ?_ | with_reducible refine call_turn (nowX ha) ?_ | with_reducible refine call_turn (nowX (by assumption)) ?_ | with_reducible refine need_look (by assumption) ?_ | with_reducible refine need_look (look_put (by assumption) (by assumption)) ?_ | with_reducible refine need_look (look_lec (by assumption) (by assumption)) ?_ | with_reducible refine need_look (look_put (AH.put_same _ _ _) (by assumption)) ?_ | with_reducible refine need_look (look_lec (AH.put_same _ _ _) (by assumption)) ?_ | with_reducible refine need_look (look_put (look_put (by assumption) (by assumption)) (by assumption)) ?_ | with_reducible refine need_look (look_lec (look_put (by assumption) (by assumption)) (by assumption)) ?_ | with_reducible refine need_look (look_put (look_lec (by assumption) (by assumption)) (by assumption)) ?_ | with_reducible refine need_look (look_lec (look_lec (by assumption) (by assumption)) (by assumption)) ?_ | with_reducible refine need_look (look_put (look_put (AH.put_same _ _ _) (by assumption)) (by assumption)) ?_ | with_reducible refine need_look (look_lec (look_put (AH.put_same _ _ _) (by assumption)) (by assumption)) ?_ | with_reducible refine need_look (look_put (look_lec (AH.put_same _ _ _) (by assumption)) (by assumption)) ?_ | with_reducible refine need_look (look_lec (look_lec (AH.put_same _ _ _) (by assumption)) (by assumption)) ?_) <;> (try simp -implicitDefEqProofs (disch := omega) only [go_sem, eq_self, decide_true, decide_false, Nat.reduceBEq, Nat.reduceAdd, Nat.reduceSub, Nat.reduceMul, Nat.reduceEqDiff, Nat.reduceLeDiff, Nat.reduceLT, Int.reduceLE, Int.reduceLT, Int.reduceToNat, Int.reduceAdd, Int.reduceEq, Int.reduceNeg, AH.put_ne, wrap_id, hjl, c1, w5, w6, e7, e8, List.length_nil])))
          all_goals first | exact ⟨n2 - 1, by omega, fin hal hrel hle5⟩ | exact absurd trivial hc
  · exact end_same
end Go.Proofs.Ytjlphncecdlmcaa
