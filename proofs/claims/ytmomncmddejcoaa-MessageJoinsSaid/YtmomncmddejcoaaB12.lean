/- Of the walks of this seat: contracts of functions of the given program, proved over the abstract values of the texts Vm. Conditions: as each theorem says. -/
import Derived.Test.YtmomncmddejcoaaB10
set_option linter.unusedVariables false
set_option linter.unusedSimpArgs false
namespace Go.Proofs.Ytmomncmddejcoaa
open Go.Vm
attribute [local go_sem] byteCells_get byteCells_length byteCells_take byteCells_drop bytes_cells fldC fldsE_get fldsE_length List.drop_zero bytesOf_cells toNat_succ Nat.sub_zero Int.toNat_natCast Option.map_some Int.natCast_nonneg decide_eq_true_eq decide_eq_false_iff_not
/- flange/flangelaw02.MessageJoins -/
abbrev k7_0 : MC :=
  .cond (.t 26) ((.seq (.reg [
     ⟨(some 27), none, .call 20 []⟩,
     ⟨(some 6), none, .val (.mv (.t 27))⟩] [6]) .ret)) (.skip)

abbrev k7_1 : MC :=
  .cond (.t 31) (.skip) (.exit 0)

abbrev k7_2 : MC :=
  .cond (.t 40) (.reg [
     ⟨(some 41), none, .val (.mv (.t 7))⟩,
     ⟨(some 42), none, .val (.mv (.t 0))⟩,
     ⟨(some 43), none, .val (.mv (.t 9))⟩,
     ⟨(some 44), none, .val (.iaddr 4 (.t 42) (.t 43))⟩,
     ⟨(some 45), none, .val (.load true 4 (.t 44))⟩,
     ⟨(some 46), none, .bslice 4 1 [(.int .i64 0), (.bool false), (.int .u64 0), .nilSl] [(0, 4, (.t 45))]⟩,
     ⟨(some 47), none, .app 4 48 (.t 41) (.t 46)⟩,
     ⟨(some 7), none, .val (.mv (.t 47))⟩] [0, 1, 2, 7, 8, 9]) (.skip)

abbrev k7_3 : MC :=
  .reg [
    ⟨(some 32), none, .val (.mv (.t 9))⟩,
    ⟨(some 33), none, .val (.bin .add .num (.t 32) (.c (.int .i64 1)))⟩,
    ⟨(some 9), none, .val (.mv (.t 33))⟩] [0, 1, 2, 7, 8, 9]

abbrev k7_4 : MC :=
  (.seq (.block 1 ((.seq (.reg [
     ⟨(some 34), none, .val (.mv (.t 0))⟩,
     ⟨(some 35), none, .val (.mv (.t 9))⟩,
     ⟨(some 36), none, .val (.iaddr 4 (.t 34) (.t 35))⟩,
     ⟨(some 37), none, .val (.faddr 0 (.t 36))⟩,
     ⟨(some 38), none, .val (.load false 1 (.t 37))⟩,
     ⟨(some 39), none, .val (.mv (.t 2))⟩,
     ⟨(some 40), none, .val (.bin .leq .num (.t 38) (.t 39))⟩] [0, 1, 2, 7, 8, 9, 40]) k7_2))) k7_3)

abbrev k7_5 : MC :=
  (.seq ((.seq (.reg [
    ⟨(some 28), none, .val (.mv (.t 9))⟩,
    ⟨(some 29), none, .val (.mv (.t 0))⟩,
    ⟨(some 30), none, .val (.len .sl (.t 29))⟩,
    ⟨(some 31), none, .val (.bin .lss .num (.t 28) (.t 30))⟩] [0, 1, 2, 7, 8, 9, 31]) k7_1)) k7_4)

abbrev k7_6 : MC :=
  .block 0 (.loop k7_5)

abbrev k7_7 : MC :=
  .cond (.t 51) (.skip) (.exit 2)

abbrev k7_8 : MC :=
  .cond (.t 60) (.reg [
     ⟨(some 61), none, .val (.mv (.t 8))⟩,
     ⟨(some 62), none, .val (.mv (.t 1))⟩,
     ⟨(some 63), none, .val (.mv (.t 10))⟩,
     ⟨(some 64), none, .val (.iaddr 4 (.t 62) (.t 63))⟩,
     ⟨(some 65), none, .val (.load true 4 (.t 64))⟩,
     ⟨(some 66), none, .bslice 4 1 [(.int .i64 0), (.bool false), (.int .u64 0), .nilSl] [(0, 4, (.t 65))]⟩,
     ⟨(some 67), none, .app 4 48 (.t 61) (.t 66)⟩,
     ⟨(some 8), none, .val (.mv (.t 67))⟩] [1, 2, 7, 8, 10]) (.skip)

abbrev k7_9 : MC :=
  .reg [
    ⟨(some 52), none, .val (.mv (.t 10))⟩,
    ⟨(some 53), none, .val (.bin .add .num (.t 52) (.c (.int .i64 1)))⟩,
    ⟨(some 10), none, .val (.mv (.t 53))⟩] [1, 2, 7, 8, 10]

abbrev k7_10 : MC :=
  (.seq (.block 3 ((.seq (.reg [
     ⟨(some 54), none, .val (.mv (.t 1))⟩,
     ⟨(some 55), none, .val (.mv (.t 10))⟩,
     ⟨(some 56), none, .val (.iaddr 4 (.t 54) (.t 55))⟩,
     ⟨(some 57), none, .val (.faddr 0 (.t 56))⟩,
     ⟨(some 58), none, .val (.load false 1 (.t 57))⟩,
     ⟨(some 59), none, .val (.mv (.t 2))⟩,
     ⟨(some 60), none, .val (.bin .gtr .num (.t 58) (.t 59))⟩] [1, 2, 7, 8, 10, 60]) k7_8))) k7_9)

abbrev k7_11 : MC :=
  (.seq ((.seq (.reg [
    ⟨(some 48), none, .val (.mv (.t 10))⟩,
    ⟨(some 49), none, .val (.mv (.t 1))⟩,
    ⟨(some 50), none, .val (.len .sl (.t 49))⟩,
    ⟨(some 51), none, .val (.bin .lss .num (.t 48) (.t 50))⟩] [1, 2, 7, 8, 10, 51]) k7_7)) k7_10)

abbrev k7_12 : MC :=
  .block 2 (.loop k7_11)

abbrev k7_13 : MC :=
  .cond (.t 99) ((.seq (.reg [
     ⟨(some 6), none, .val (.mv (.c (.bool true)))⟩] [6]) .ret)) (.skip)

abbrev k7_14 : MC :=
  (.seq (.reg [
    ⟨(some 107), none, .val (.mv (.t 16))⟩,
    ⟨(some 108), none, .val (.bin .eql .num (.t 107) (.c (.int .i64 0)))⟩,
    ⟨(some 109), none, .val (.mv (.t 108))⟩,
    ⟨(some 110), (some (109, true)), .val (.mv (.t 15))⟩,
    ⟨(some 111), (some (109, true)), .val (.b2s (.t 110))⟩,
    ⟨(some 112), (some (109, true)), .val (.mv (.t 11))⟩,
    ⟨(some 113), (some (109, true)), .val (.b2s (.t 112))⟩,
    ⟨(some 114), (some (109, true)), .val (.mv (.t 13))⟩,
    ⟨(some 115), (some (109, true)), .val (.b2s (.t 114))⟩,
    ⟨(some 116), (some (109, true)), .val (.bin .add .num (.t 113) (.t 115))⟩,
    ⟨(some 117), (some (109, true)), .val (.bin .eql .num (.t 111) (.t 116))⟩,
    ⟨(some 118), none, .val (.pick (.t 109) (.t 117) (.c (.bool false)))⟩,
    ⟨(some 6), none, .val (.mv (.t 118))⟩] [6]) .ret)

abbrev k7_15 : MC :=
  (.seq (.reg [
    ⟨(some 101), none, .val (.mv (.t 7))⟩,
    ⟨(some 102), none, .val (.mv (.t 8))⟩,
    ⟨(some 103), none, .app 4 48 (.t 101) (.t 102)⟩,
    ⟨(some 104), none, .call 21 [(.t 103)]⟩,
    ⟨(some 100), none, .val (.mv (.t 104))⟩,
    ⟨(some 105), none, .val (.ext (.t 100) 0)⟩,
    ⟨(some 106), none, .val (.ext (.t 100) 1)⟩,
    ⟨(some 15), none, .val (.mv (.t 105))⟩,
    ⟨(some 16), none, .val (.mv (.t 106))⟩] [11, 13, 15, 16]) k7_14)

abbrev k7_16 : MC :=
  (.seq ((.seq (.reg [
    ⟨(some 78), none, .val (.mv (.t 12))⟩,
    ⟨(some 79), none, .val (.bin .neq .num (.t 78) (.c (.int .i64 0)))⟩,
    ⟨(some 80), none, .val (.mv (.t 79))⟩,
    ⟨(some 81), (some (80, false)), .val (.mv (.t 14))⟩,
    ⟨(some 82), (some (80, false)), .val (.bin .neq .num (.t 81) (.c (.int .i64 0)))⟩,
    ⟨(some 83), none, .val (.pick (.t 80) (.c (.bool true)) (.t 82))⟩,
    ⟨(some 84), none, .val (.mv (.t 83))⟩,
    ⟨(some 85), (some (84, false)), .val (.mv (.t 7))⟩,
    ⟨(some 86), (some (84, false)), .val (.len .sl (.t 85))⟩,
    ⟨(some 87), (some (84, false)), .val (.mv (.t 8))⟩,
    ⟨(some 88), (some (84, false)), .val (.len .sl (.t 87))⟩,
    ⟨(some 89), (some (84, false)), .val (.bin .add .num (.t 86) (.t 88))⟩,
    ⟨(some 90), (some (84, false)), .val (.bin .gtr .num (.t 89) (.c (.int .i64 64)))⟩,
    ⟨(some 91), none, .val (.pick (.t 84) (.c (.bool true)) (.t 90))⟩,
    ⟨(some 92), none, .val (.mv (.t 91))⟩,
    ⟨(some 93), (some (92, false)), .val (.mv (.t 11))⟩,
    ⟨(some 94), (some (92, false)), .val (.len .sl (.t 93))⟩,
    ⟨(some 95), (some (92, false)), .val (.mv (.t 13))⟩,
    ⟨(some 96), (some (92, false)), .val (.len .sl (.t 95))⟩,
    ⟨(some 97), (some (92, false)), .val (.bin .add .num (.t 94) (.t 96))⟩,
    ⟨(some 98), (some (92, false)), .val (.bin .gtr .num (.t 97) (.c (.int .i64 4096)))⟩,
    ⟨(some 99), none, .val (.pick (.t 92) (.c (.bool true)) (.t 98))⟩] [7, 8, 11, 13, 99]) k7_13)) k7_15)

abbrev k7_17 : MC :=
  (.seq (.reg [
    ⟨(some 74), none, .val (.mv (.t 8))⟩,
    ⟨(some 75), none, .call 21 [(.t 74)]⟩,
    ⟨(some 73), none, .val (.mv (.t 75))⟩,
    ⟨(some 76), none, .val (.ext (.t 73) 0)⟩,
    ⟨(some 77), none, .val (.ext (.t 73) 1)⟩,
    ⟨(some 13), none, .val (.mv (.t 76))⟩,
    ⟨(some 14), none, .val (.mv (.t 77))⟩] [7, 8, 11, 12, 13, 14]) k7_16)

abbrev k7_18 : MC :=
  (.seq (.reg [
    ⟨(some 69), none, .val (.mv (.t 7))⟩,
    ⟨(some 70), none, .call 21 [(.t 69)]⟩,
    ⟨(some 68), none, .val (.mv (.t 70))⟩,
    ⟨(some 71), none, .val (.ext (.t 68) 0)⟩,
    ⟨(some 72), none, .val (.ext (.t 68) 1)⟩,
    ⟨(some 11), none, .val (.mv (.t 71))⟩,
    ⟨(some 12), none, .val (.mv (.t 72))⟩] [7, 8, 11, 12]) k7_17)

abbrev k7_19 : MC :=
  (.seq ((.seq (.reg [
    ⟨(some 10), none, .val (.mv (.c (.int .i64 0)))⟩] [1, 2, 7, 8, 10]) k7_12)) k7_18)

abbrev k7_20 : MC :=
  (.seq ((.seq (.reg [
    ⟨(some 9), none, .val (.mv (.c (.int .i64 0)))⟩] [0, 1, 2, 7, 8, 9]) k7_6)) k7_19)

abbrev k7_21 : MC :=
  (.seq (.reg [
    ⟨(some 7), none, .val (.mv (.c .nilSl))⟩,
    ⟨(some 8), none, .val (.mv (.c .nilSl))⟩] [0, 1, 2, 7, 8]) k7_20)

abbrev k7_22 : MC :=
  (.seq ((.seq (.reg [
    ⟨(some 17), none, .val (.mv (.t 0))⟩,
    ⟨(some 18), none, .call 19 [(.t 17)]⟩,
    ⟨(some 19), none, .val (.mv (.t 18))⟩,
    ⟨(some 20), (some (19, false)), .val (.mv (.t 1))⟩,
    ⟨(some 21), (some (19, false)), .call 19 [(.t 20)]⟩,
    ⟨(some 22), none, .val (.pick (.t 19) (.c (.bool true)) (.t 21))⟩,
    ⟨(some 23), none, .val (.mv (.t 22))⟩,
    ⟨(some 24), (some (23, false)), .call 20 []⟩,
    ⟨(some 25), (some (23, false)), .val (.not (.t 24))⟩,
    ⟨(some 26), none, .val (.pick (.t 23) (.c (.bool true)) (.t 25))⟩] [0, 1, 2, 26]) k7_0)) k7_21)
abbrev k7 : MC :=
  (.seq (.reg [
    ⟨(some 6), none, .val (.mv (.c (.bool false)))⟩] [0, 1, 2]) k7_22)
theorem c7 : Try.f7.body.bind (mcOf Try.prog (List.contains [] ·) (List.getD [([], [0, 1, 2]), ([], [0, 1, 2, 26]), ([], [6]), ([], [0, 1, 2, 7, 8]), ([], [0, 1, 2, 7, 8, 9]), ([], [0, 1, 2, 7, 8, 9, 31]), ([], [0, 1, 2, 7, 8, 9]), ([], [0, 1, 2, 7, 8, 9, 40]), ([], [0, 1, 2, 7, 8, 9]), ([], [1, 2, 7, 8, 10]), ([], [1, 2, 7, 8, 10, 51]), ([], [1, 2, 7, 8, 10]), ([], [1, 2, 7, 8, 10, 60]), ([], [1, 2, 7, 8, 10]), ([], [7, 8, 11, 12]), ([], [7, 8, 11, 12, 13, 14]), ([], [7, 8, 11, 13, 99]), ([], [6]), ([], [11, 13, 15, 16]), ([], [6])] · ([], [])) 119) = some k7 := by kernel_rfl
theorem r7 : rvsOf Try.prog Try.f7.results.toList = some [.tmp 6] := by kernel_rfl

theorem joins_calls {l k : List Fld} {t u : Tok} {at_ : Int} (hl : l.length < 9223372036854775808) (hk : k.length < 9223372036854775808) (hn : ∀ f ∈ l, f.n < 18446744073709551616) (hn2 : ∀ f ∈ k, f.n < 18446744073709551616) (H : AH) :
    ACalls Try.prog 7 [.sl 4 (fldsE l) t, .sl 4 (fldsE k) u, .int .i64 at_] H (fun o H' => o = .ret (.bool true) ∧ H' = H) := by
  refine ACalls.drop ?_
  refine acalls Try.func7 c7 r7 (by simp [Try.ntmps7]) ?_
  have small : ∀ {l : List Fld}, greatF l = false → l.length ≤ 80 ∧ ∀ f ∈ l, f.b.length ≤ 5000 := by
    intro l hg
    simp only [greatF, Bool.or_eq_false_iff, List.any_eq_false, decide_eq_true_eq, decide_eq_false_iff_not] at hg
    exact ⟨by omega, fun f hf => by have := hg.1 f hf; omega⟩
  cases hg : greatF l
  · cases hg2 : greatF k
    · obtain ⟨s1, s2⟩ := small hg
      obtain ⟨s3, s4⟩ := small hg2
      repeat' (first | with_reducible refine am_seq ?_ | with_reducible refine am_block ?_ | ((with_reducible apply am_cond); (case hb => rfl); all_goals (intro hc; (try simp only [reduceCtorEq, decide_eq_true_eq, decide_eq_false_iff_not, Bool.or_eq_true, Bool.and_eq_true, Bool.or_eq_false_iff, Bool.not_eq_true', Bool.not_eq_false', beq_iff_eq] at hc); (try (exfalso; omega)))) | ((first | with_reducible refine am_reg ?_ | with_reducible refine am_drw ?_ | with_reducible refine am_skip ?_ | with_reducible refine am_exit ?_ | with_reducible refine am_ret ?_ | with_reducible refine And.intro (by first | exact AH.lec_refl _ | assumption | exact AccP.lec (by assumption) | omega) ?_ | with_reducible refine isnE_of (fun hc => ?_) (fun hc => ?_) (fun hc => ?_) | ((first | with_reducible refine gd_not (fun hc => ?_) (fun hc => ?_) | with_reducible refine gd_of (fun hc => ?_) (fun hc => ?_) | with_reducible refine gq_not (fun hc => ?_) (fun hc => ?_) | with_reducible refine gq_of (fun hc => ?_) (fun hc => ?_) | with_reducible refine pickB_of (fun hc => ?_) (fun hc => ?_)) <;> (try simp -implicitDefEqProofs (disch := omega) only [go_sem, eq_self, decide_true, decide_false, Nat.reduceBEq, Nat.reduceAdd, Nat.reduceSub, Nat.reduceMul, Nat.reduceEqDiff, Nat.reduceLeDiff, Nat.reduceLT, Int.reduceLE, Int.reduceLT, Int.reduceToNat, Int.reduceAdd, Int.reduceEq, Int.reduceNeg, AH.put_ne, hc, wrap_id, hg, hg2]) <;> (try simp only [reduceCtorEq, decide_eq_true_eq, decide_eq_false_iff_not, Bool.or_eq_true, Bool.and_eq_true, Bool.or_eq_false_iff, Bool.not_eq_true', Bool.not_eq_false', beq_iff_eq] at hc) <;> (try (exfalso; omega))) | ((with_reducible refine alloc_intro (fun ko hko => ?_)) <;> (try have hne := fresh_ne (by assumption) hko) <;> (try simp only [AH.put_none] at hko)) | ((first | (with_reducible refine vapp_accL (by assumption) ?_ (fun v2 H2 hacc hlec => ?_)) | (with_reducible refine vapp_accL (AccP.mono (by assumption) (AccP.le (by assumption))) ?_ (fun v2 H2 hacc hlec => ?_)) | (with_reducible refine vapp_accL (AccP.new (by assumption) (by assumption) _) ?_ (fun v2 H2 hacc hlec => ?_))); · simp only [byteCells_length, List.length_cons, List.length_nil, List.length_map, List.length_append, fldsE_length]; omega) | with_reducible refine need_elems (by assumption) ?_ | with_reducible refine vlen_acc (by assumption) ?_ | with_reducible refine need_bytes (by assumption) ?_ | (first | with_reducible refine call_of (fgreat_calls hl) ?_ | with_reducible refine qcall_of (fgreat_calls hl) ?_) | (first | with_reducible refine call_of (fgreat_calls hk) ?_ | with_reducible refine qcall_of (fgreat_calls hk) ?_) | (first | with_reducible refine call_of (awake2_calls) ?_ | with_reducible refine qcall_of (awake2_calls) ?_) | with_reducible refine need_look (by assumption) ?_ | with_reducible refine need_look (look_put (by assumption) (by assumption)) ?_ | with_reducible refine need_look (look_lec (by assumption) (by assumption)) ?_ | with_reducible refine need_look (look_put (AH.put_same _ _ _) (by assumption)) ?_ | with_reducible refine need_look (look_lec (AH.put_same _ _ _) (by assumption)) ?_ | with_reducible refine need_look (look_put (look_put (by assumption) (by assumption)) (by assumption)) ?_ | with_reducible refine need_look (look_lec (look_put (by assumption) (by assumption)) (by assumption)) ?_ | with_reducible refine need_look (look_put (look_lec (by assumption) (by assumption)) (by assumption)) ?_ | with_reducible refine need_look (look_lec (look_lec (by assumption) (by assumption)) (by assumption)) ?_ | with_reducible refine need_look (look_put (look_put (AH.put_same _ _ _) (by assumption)) (by assumption)) ?_ | with_reducible refine need_look (look_lec (look_put (AH.put_same _ _ _) (by assumption)) (by assumption)) ?_ | with_reducible refine need_look (look_put (look_lec (AH.put_same _ _ _) (by assumption)) (by assumption)) ?_ | with_reducible refine need_look (look_lec (look_lec (AH.put_same _ _ _) (by assumption)) (by assumption)) ?_) <;> (try simp -implicitDefEqProofs (disch := omega) only [go_sem, eq_self, decide_true, decide_false, Nat.reduceBEq, Nat.reduceAdd, Nat.reduceSub, Nat.reduceMul, Nat.reduceEqDiff, Nat.reduceLeDiff, Nat.reduceLT, Int.reduceLE, Int.reduceLT, Int.reduceToNat, Int.reduceAdd, Int.reduceEq, Int.reduceNeg, AH.put_ne, wrap_id, hg, hg2])))
      refine am_loop (fun n a H1 => ∃ (i : Nat) (v : V) (acc : List Fld), i + n = l.length ∧ a = [(0, .sl 4 (fldsE l) t), (1, .sl 4 (fldsE k) u), (2, .int .i64 at_), (7, v), (8, .nilSl), (9, .int .i64 i)] ∧ AccP H 4 (fldsE acc) v H1 ∧ acc.length ≤ i ∧ ∀ f ∈ acc, f ∈ l ∧ f.tag ≤ at_) ?_ l.length ⟨0, .nilSl, [], by omega, rfl, AccP.nil _ _, by simp, by simp⟩
      rintro n a H1 ⟨i, v, acc, hi, rfl, hacc, hal, hmem⟩
      by_cases hlt : i < l.length
      · repeat' (first | with_reducible refine am_seq ?_ | with_reducible refine am_block ?_ | ((with_reducible apply am_cond); (case hb => rfl); all_goals (intro hc; (try simp only [reduceCtorEq, decide_eq_true_eq, decide_eq_false_iff_not, Bool.or_eq_true, Bool.and_eq_true, Bool.or_eq_false_iff, Bool.not_eq_true', Bool.not_eq_false', beq_iff_eq] at hc); (try (exfalso; omega)))) | ((first | with_reducible refine am_reg ?_ | with_reducible refine am_drw ?_ | with_reducible refine am_skip ?_ | with_reducible refine am_exit ?_ | with_reducible refine am_ret ?_ | with_reducible refine And.intro (by first | exact AH.lec_refl _ | assumption | exact AccP.lec (by assumption) | omega) ?_ | with_reducible refine isnE_of (fun hc => ?_) (fun hc => ?_) (fun hc => ?_) | ((first | with_reducible refine gd_not (fun hc => ?_) (fun hc => ?_) | with_reducible refine gd_of (fun hc => ?_) (fun hc => ?_) | with_reducible refine gq_not (fun hc => ?_) (fun hc => ?_) | with_reducible refine gq_of (fun hc => ?_) (fun hc => ?_) | with_reducible refine pickB_of (fun hc => ?_) (fun hc => ?_)) <;> (try simp -implicitDefEqProofs (disch := omega) only [go_sem, eq_self, decide_true, decide_false, Nat.reduceBEq, Nat.reduceAdd, Nat.reduceSub, Nat.reduceMul, Nat.reduceEqDiff, Nat.reduceLeDiff, Nat.reduceLT, Int.reduceLE, Int.reduceLT, Int.reduceToNat, Int.reduceAdd, Int.reduceEq, Int.reduceNeg, AH.put_ne, hc, wrap_id, get_of_lt hlt]) <;> (try simp only [reduceCtorEq, decide_eq_true_eq, decide_eq_false_iff_not, Bool.or_eq_true, Bool.and_eq_true, Bool.or_eq_false_iff, Bool.not_eq_true', Bool.not_eq_false', beq_iff_eq] at hc) <;> (try (exfalso; omega))) | ((with_reducible refine alloc_intro (fun ko hko => ?_)) <;> (try have hne := fresh_ne (by assumption) hko) <;> (try simp only [AH.put_none] at hko)) | ((first | (with_reducible refine vapp_accL (by assumption) ?_ (fun v2 H2 hacc hlec => ?_)) | (with_reducible refine vapp_accL (AccP.mono (by assumption) (AccP.le (by assumption))) ?_ (fun v2 H2 hacc hlec => ?_)) | (with_reducible refine vapp_accL (AccP.new (by assumption) (by assumption) _) ?_ (fun v2 H2 hacc hlec => ?_))); · simp only [byteCells_length, List.length_cons, List.length_nil, List.length_map, List.length_append, fldsE_length]; omega) | with_reducible refine need_elems (by assumption) ?_ | with_reducible refine vlen_acc (by assumption) ?_ | with_reducible refine need_bytes (by assumption) ?_ | with_reducible refine need_look (by assumption) ?_ | with_reducible refine need_look (look_put (by assumption) (by assumption)) ?_ | with_reducible refine need_look (look_lec (by assumption) (by assumption)) ?_ | with_reducible refine need_look (look_put (AH.put_same _ _ _) (by assumption)) ?_ | with_reducible refine need_look (look_lec (AH.put_same _ _ _) (by assumption)) ?_ | with_reducible refine need_look (look_put (look_put (by assumption) (by assumption)) (by assumption)) ?_ | with_reducible refine need_look (look_lec (look_put (by assumption) (by assumption)) (by assumption)) ?_ | with_reducible refine need_look (look_put (look_lec (by assumption) (by assumption)) (by assumption)) ?_ | with_reducible refine need_look (look_lec (look_lec (by assumption) (by assumption)) (by assumption)) ?_ | with_reducible refine need_look (look_put (look_put (AH.put_same _ _ _) (by assumption)) (by assumption)) ?_ | with_reducible refine need_look (look_lec (look_put (AH.put_same _ _ _) (by assumption)) (by assumption)) ?_ | with_reducible refine need_look (look_put (look_lec (AH.put_same _ _ _) (by assumption)) (by assumption)) ?_ | with_reducible refine need_look (look_lec (look_lec (AH.put_same _ _ _) (by assumption)) (by assumption)) ?_) <;> (try simp -implicitDefEqProofs (disch := omega) only [go_sem, eq_self, decide_true, decide_false, Nat.reduceBEq, Nat.reduceAdd, Nat.reduceSub, Nat.reduceMul, Nat.reduceEqDiff, Nat.reduceLeDiff, Nat.reduceLT, Int.reduceLE, Int.reduceLT, Int.reduceToNat, Int.reduceAdd, Int.reduceEq, Int.reduceNeg, AH.put_ne, wrap_id, get_of_lt hlt])))
        · refine ⟨n - 1, by omega, i + 1, v2, acc ++ [l[i]], by omega, by simp, by rw [fldsE_append]; exact hacc, by simp; omega, fun f hf => ?_⟩
          rcases List.mem_append.1 hf with hf | hf
          · exact hmem f hf
          · rw [List.mem_singleton] at hf; subst hf; exact ⟨List.getElem_mem hlt, by omega⟩
        · exact ⟨n - 1, by omega, i + 1, v, acc, by omega, by simp, hacc, by omega, hmem⟩
      · repeat' (first | with_reducible refine am_seq ?_ | with_reducible refine am_block ?_ | ((with_reducible apply am_cond); (case hb => rfl); all_goals (intro hc; (try simp only [reduceCtorEq, decide_eq_true_eq, decide_eq_false_iff_not, Bool.or_eq_true, Bool.and_eq_true, Bool.or_eq_false_iff, Bool.not_eq_true', Bool.not_eq_false', beq_iff_eq] at hc); (try (exfalso; omega)))) | ((first | with_reducible refine am_reg ?_ | with_reducible refine am_drw ?_ | with_reducible refine am_skip ?_ | with_reducible refine am_exit ?_ | with_reducible refine am_ret ?_ | with_reducible refine And.intro (by first | exact AH.lec_refl _ | assumption | exact AccP.lec (by assumption) | omega) ?_ | with_reducible refine isnE_of (fun hc => ?_) (fun hc => ?_) (fun hc => ?_) | ((first | with_reducible refine gd_not (fun hc => ?_) (fun hc => ?_) | with_reducible refine gd_of (fun hc => ?_) (fun hc => ?_) | with_reducible refine gq_not (fun hc => ?_) (fun hc => ?_) | with_reducible refine gq_of (fun hc => ?_) (fun hc => ?_) | with_reducible refine pickB_of (fun hc => ?_) (fun hc => ?_)) <;> (try simp -implicitDefEqProofs (disch := omega) only [go_sem, eq_self, decide_true, decide_false, Nat.reduceBEq, Nat.reduceAdd, Nat.reduceSub, Nat.reduceMul, Nat.reduceEqDiff, Nat.reduceLeDiff, Nat.reduceLT, Int.reduceLE, Int.reduceLT, Int.reduceToNat, Int.reduceAdd, Int.reduceEq, Int.reduceNeg, AH.put_ne, hc, wrap_id]) <;> (try simp only [reduceCtorEq, decide_eq_true_eq, decide_eq_false_iff_not, Bool.or_eq_true, Bool.and_eq_true, Bool.or_eq_false_iff, Bool.not_eq_true', Bool.not_eq_false', beq_iff_eq] at hc) <;> (try (exfalso; omega))) | ((with_reducible refine alloc_intro (fun ko hko => ?_)) <;> (try have hne := fresh_ne (by assumption) hko) <;> (try simp only [AH.put_none] at hko)) | ((first | (with_reducible refine vapp_accL (by assumption) ?_ (fun v2 H2 hacc hlec => ?_)) | (with_reducible refine vapp_accL (AccP.mono (by assumption) (AccP.le (by assumption))) ?_ (fun v2 H2 hacc hlec => ?_)) | (with_reducible refine vapp_accL (AccP.new (by assumption) (by assumption) _) ?_ (fun v2 H2 hacc hlec => ?_))); · simp only [byteCells_length, List.length_cons, List.length_nil, List.length_map, List.length_append, fldsE_length]; omega) | with_reducible refine need_elems (by assumption) ?_ | with_reducible refine vlen_acc (by assumption) ?_ | with_reducible refine need_bytes (by assumption) ?_ | with_reducible refine need_look (by assumption) ?_ | with_reducible refine need_look (look_put (by assumption) (by assumption)) ?_ | with_reducible refine need_look (look_lec (by assumption) (by assumption)) ?_ | with_reducible refine need_look (look_put (AH.put_same _ _ _) (by assumption)) ?_ | with_reducible refine need_look (look_lec (AH.put_same _ _ _) (by assumption)) ?_ | with_reducible refine need_look (look_put (look_put (by assumption) (by assumption)) (by assumption)) ?_ | with_reducible refine need_look (look_lec (look_put (by assumption) (by assumption)) (by assumption)) ?_ | with_reducible refine need_look (look_put (look_lec (by assumption) (by assumption)) (by assumption)) ?_ | with_reducible refine need_look (look_lec (look_lec (by assumption) (by assumption)) (by assumption)) ?_ | with_reducible refine need_look (look_put (look_put (AH.put_same _ _ _) (by assumption)) (by assumption)) ?_ | with_reducible refine need_look (look_lec (look_put (AH.put_same _ _ _) (by assumption)) (by assumption)) ?_ | with_reducible refine need_look (look_put (look_lec (AH.put_same _ _ _) (by assumption)) (by assumption)) ?_ | with_reducible refine need_look (look_lec (look_lec (AH.put_same _ _ _) (by assumption)) (by assumption)) ?_) <;> (try simp -implicitDefEqProofs (disch := omega) only [go_sem, eq_self, decide_true, decide_false, Nat.reduceBEq, Nat.reduceAdd, Nat.reduceSub, Nat.reduceMul, Nat.reduceEqDiff, Nat.reduceLeDiff, Nat.reduceLT, Int.reduceLE, Int.reduceLT, Int.reduceToNat, Int.reduceAdd, Int.reduceEq, Int.reduceNeg, AH.put_ne, wrap_id])))
        refine am_loop (fun n a H2 => ∃ (j : Nat) (w : V) (bcc : List Fld), j + n = k.length ∧ a = [(1, .sl 4 (fldsE k) u), (2, .int .i64 at_), (7, v), (8, w), (10, .int .i64 j)] ∧ AccP H1 4 (fldsE bcc) w H2 ∧ bcc.length ≤ j ∧ ∀ f ∈ bcc, f ∈ k ∧ at_ < f.tag) ?_ k.length ⟨0, .nilSl, [], by omega, rfl, AccP.nil _ _, by simp, by simp⟩
        rintro n2 a2 H2 ⟨j, w, bcc, hj, rfl, hacc2, hbl, hmem2⟩
        by_cases hlt2 : j < k.length
        · repeat' (first | with_reducible refine am_seq ?_ | with_reducible refine am_block ?_ | ((with_reducible apply am_cond); (case hb => rfl); all_goals (intro hc; (try simp only [reduceCtorEq, decide_eq_true_eq, decide_eq_false_iff_not, Bool.or_eq_true, Bool.and_eq_true, Bool.or_eq_false_iff, Bool.not_eq_true', Bool.not_eq_false', beq_iff_eq] at hc); (try (exfalso; omega)))) | ((first | with_reducible refine am_reg ?_ | with_reducible refine am_drw ?_ | with_reducible refine am_skip ?_ | with_reducible refine am_exit ?_ | with_reducible refine am_ret ?_ | with_reducible refine And.intro (by first | exact AH.lec_refl _ | assumption | exact AccP.lec (by assumption) | omega) ?_ | with_reducible refine isnE_of (fun hc => ?_) (fun hc => ?_) (fun hc => ?_) | ((first | with_reducible refine gd_not (fun hc => ?_) (fun hc => ?_) | with_reducible refine gd_of (fun hc => ?_) (fun hc => ?_) | with_reducible refine gq_not (fun hc => ?_) (fun hc => ?_) | with_reducible refine gq_of (fun hc => ?_) (fun hc => ?_) | with_reducible refine pickB_of (fun hc => ?_) (fun hc => ?_)) <;> (try simp -implicitDefEqProofs (disch := omega) only [go_sem, eq_self, decide_true, decide_false, Nat.reduceBEq, Nat.reduceAdd, Nat.reduceSub, Nat.reduceMul, Nat.reduceEqDiff, Nat.reduceLeDiff, Nat.reduceLT, Int.reduceLE, Int.reduceLT, Int.reduceToNat, Int.reduceAdd, Int.reduceEq, Int.reduceNeg, AH.put_ne, hc, wrap_id, get_of_lt hlt2]) <;> (try simp only [reduceCtorEq, decide_eq_true_eq, decide_eq_false_iff_not, Bool.or_eq_true, Bool.and_eq_true, Bool.or_eq_false_iff, Bool.not_eq_true', Bool.not_eq_false', beq_iff_eq] at hc) <;> (try (exfalso; omega))) | ((with_reducible refine alloc_intro (fun ko hko => ?_)) <;> (try have hne := fresh_ne (by assumption) hko) <;> (try simp only [AH.put_none] at hko)) | ((first | (with_reducible refine vapp_accL (by assumption) ?_ (fun v2 H2 hacc hlec => ?_)) | (with_reducible refine vapp_accL (AccP.mono (by assumption) (AccP.le (by assumption))) ?_ (fun v2 H2 hacc hlec => ?_)) | (with_reducible refine vapp_accL (AccP.new (by assumption) (by assumption) _) ?_ (fun v2 H2 hacc hlec => ?_))); · simp only [byteCells_length, List.length_cons, List.length_nil, List.length_map, List.length_append, fldsE_length]; omega) | with_reducible refine need_elems (by assumption) ?_ | with_reducible refine vlen_acc (by assumption) ?_ | with_reducible refine need_bytes (by assumption) ?_ | with_reducible refine need_look (by assumption) ?_ | with_reducible refine need_look (look_put (by assumption) (by assumption)) ?_ | with_reducible refine need_look (look_lec (by assumption) (by assumption)) ?_ | with_reducible refine need_look (look_put (AH.put_same _ _ _) (by assumption)) ?_ | with_reducible refine need_look (look_lec (AH.put_same _ _ _) (by assumption)) ?_ | with_reducible refine need_look (look_put (look_put (by assumption) (by assumption)) (by assumption)) ?_ | with_reducible refine need_look (look_lec (look_put (by assumption) (by assumption)) (by assumption)) ?_ | with_reducible refine need_look (look_put (look_lec (by assumption) (by assumption)) (by assumption)) ?_ | with_reducible refine need_look (look_lec (look_lec (by assumption) (by assumption)) (by assumption)) ?_ | with_reducible refine need_look (look_put (look_put (AH.put_same _ _ _) (by assumption)) (by assumption)) ?_ | with_reducible refine need_look (look_lec (look_put (AH.put_same _ _ _) (by assumption)) (by assumption)) ?_ | with_reducible refine need_look (look_put (look_lec (AH.put_same _ _ _) (by assumption)) (by assumption)) ?_ | with_reducible refine need_look (look_lec (look_lec (AH.put_same _ _ _) (by assumption)) (by assumption)) ?_) <;> (try simp -implicitDefEqProofs (disch := omega) only [go_sem, eq_self, decide_true, decide_false, Nat.reduceBEq, Nat.reduceAdd, Nat.reduceSub, Nat.reduceMul, Nat.reduceEqDiff, Nat.reduceLeDiff, Nat.reduceLT, Int.reduceLE, Int.reduceLT, Int.reduceToNat, Int.reduceAdd, Int.reduceEq, Int.reduceNeg, AH.put_ne, wrap_id, get_of_lt hlt2])))
          · refine ⟨n2 - 1, by omega, j + 1, v2, bcc ++ [k[j]], by omega, by simp, by rw [fldsE_append]; exact hacc, by simp; omega, fun f hf => ?_⟩
            rcases List.mem_append.1 hf with hf | hf
            · exact hmem2 f hf
            · rw [List.mem_singleton] at hf; subst hf; exact ⟨List.getElem_mem hlt2, by omega⟩
          · exact ⟨n2 - 1, by omega, j + 1, w, bcc, by omega, by simp, hacc2, by omega, hmem2⟩
        · have hob : ∀ f ∈ acc, f.n < 18446744073709551616 ∧ f.b.length < 10000000 := fun f hf => ⟨hn f (hmem f hf).1, by have := s2 f (hmem f hf).1; omega⟩
          have hob2 : ∀ f ∈ bcc, f.n < 18446744073709551616 ∧ f.b.length < 10000000 := fun f hf => ⟨hn2 f (hmem2 f hf).1, by have := s4 f (hmem2 f hf).1; omega⟩
          have ca := fun G => ACalls.sub (fun s => .cons (AccP.sub hacc s) .nil) (encode_calls (l := acc) (t := .no) (by omega) hob G)
          have cb := fun G => ACalls.sub (fun s => .cons (AccP.sub hacc2 s) .nil) (encode_calls (l := bcc) (t := .no) (by omega) hob2 G)
          have hle2 := hacc2.le
          have hle := AH.le_trans hacc.le hle2
          have x1 := enc_len acc
          have x2 := enc_len bcc
          repeat' (first | with_reducible refine am_seq ?_ | with_reducible refine am_block ?_ | ((with_reducible apply am_cond); (case hb => rfl); all_goals (intro hc; (try simp only [reduceCtorEq, decide_eq_true_eq, decide_eq_false_iff_not, Bool.or_eq_true, Bool.and_eq_true, Bool.or_eq_false_iff, Bool.not_eq_true', Bool.not_eq_false', beq_iff_eq] at hc); (try (exfalso; omega)))) | ((first | with_reducible refine am_reg ?_ | with_reducible refine am_drw ?_ | with_reducible refine am_skip ?_ | with_reducible refine am_exit ?_ | with_reducible refine am_ret ?_ | with_reducible refine And.intro (by first | exact AH.lec_refl _ | assumption | exact AccP.lec (by assumption) | omega) ?_ | with_reducible refine isnE_of (fun hc => ?_) (fun hc => ?_) (fun hc => ?_) | ((first | with_reducible refine gd_not (fun hc => ?_) (fun hc => ?_) | with_reducible refine gd_of (fun hc => ?_) (fun hc => ?_) | with_reducible refine gq_not (fun hc => ?_) (fun hc => ?_) | with_reducible refine gq_of (fun hc => ?_) (fun hc => ?_) | with_reducible refine pickB_of (fun hc => ?_) (fun hc => ?_)) <;> (try simp -implicitDefEqProofs (disch := omega) only [go_sem, eq_self, decide_true, decide_false, Nat.reduceBEq, Nat.reduceAdd, Nat.reduceSub, Nat.reduceMul, Nat.reduceEqDiff, Nat.reduceLeDiff, Nat.reduceLT, Int.reduceLE, Int.reduceLT, Int.reduceToNat, Int.reduceAdd, Int.reduceEq, Int.reduceNeg, AH.put_ne, hc, wrap_id]) <;> (try simp only [reduceCtorEq, decide_eq_true_eq, decide_eq_false_iff_not, Bool.or_eq_true, Bool.and_eq_true, Bool.or_eq_false_iff, Bool.not_eq_true', Bool.not_eq_false', beq_iff_eq] at hc) <;> (try (exfalso; omega))) | ((with_reducible refine alloc_intro (fun ko hko => ?_)) <;> (try have hne := fresh_ne (by assumption) hko) <;> (try simp only [AH.put_none] at hko)) | ((first | (with_reducible refine vapp_accL (by assumption) ?_ (fun v2 H2 hacc hlec => ?_)) | (with_reducible refine vapp_accL (AccP.mono (by assumption) (AccP.le (by assumption))) ?_ (fun v2 H2 hacc hlec => ?_)) | (with_reducible refine vapp_accL (AccP.new (by assumption) (by assumption) _) ?_ (fun v2 H2 hacc hlec => ?_))); · simp only [byteCells_length, List.length_cons, List.length_nil, List.length_map, List.length_append, fldsE_length]; omega) | with_reducible refine need_elems (by assumption) ?_ | with_reducible refine vlen_acc (by assumption) ?_ | with_reducible refine need_bytes (by assumption) ?_ | (first | with_reducible refine call_of (ca) ?_ | with_reducible refine qcall_of (ca) ?_) | (first | with_reducible refine call_of (cb) ?_ | with_reducible refine qcall_of (cb) ?_) | with_reducible refine need_look (by assumption) ?_ | with_reducible refine need_look (look_put (by assumption) (by assumption)) ?_ | with_reducible refine need_look (look_lec (by assumption) (by assumption)) ?_ | with_reducible refine need_look (look_put (AH.put_same _ _ _) (by assumption)) ?_ | with_reducible refine need_look (look_lec (AH.put_same _ _ _) (by assumption)) ?_ | with_reducible refine need_look (look_put (look_put (by assumption) (by assumption)) (by assumption)) ?_ | with_reducible refine need_look (look_lec (look_put (by assumption) (by assumption)) (by assumption)) ?_ | with_reducible refine need_look (look_put (look_lec (by assumption) (by assumption)) (by assumption)) ?_ | with_reducible refine need_look (look_lec (look_lec (by assumption) (by assumption)) (by assumption)) ?_ | with_reducible refine need_look (look_put (look_put (AH.put_same _ _ _) (by assumption)) (by assumption)) ?_ | with_reducible refine need_look (look_lec (look_put (AH.put_same _ _ _) (by assumption)) (by assumption)) ?_ | with_reducible refine need_look (look_put (look_lec (AH.put_same _ _ _) (by assumption)) (by assumption)) ?_ | with_reducible refine need_look (look_lec (look_lec (AH.put_same _ _ _) (by assumption)) (by assumption)) ?_) <;> (try simp -implicitDefEqProofs (disch := omega) only [go_sem, eq_self, decide_true, decide_false, Nat.reduceBEq, Nat.reduceAdd, Nat.reduceSub, Nat.reduceMul, Nat.reduceEqDiff, Nat.reduceLeDiff, Nat.reduceLT, Int.reduceLE, Int.reduceLT, Int.reduceToNat, Int.reduceAdd, Int.reduceEq, Int.reduceNeg, AH.put_ne, wrap_id])))
          all_goals first | exact drop_end (fun _ _ h => h) hle | skip
          have ea : encS acc = ((encS acc).1, 0) := Prod.ext rfl (by assumption)
          have eb : encS bcc = ((encS bcc).1, 0) := Prod.ext rfl (by assumption)
          have ej := enc_join ea eb (fun f hf => (hmem f hf).2) (fun f hf => (hmem2 f hf).2) (by omega) (by omega)
          have hj := hacc
          rw [← fldsE_append] at hj
          have cz := fun G => ACalls.sub (fun s => .cons (AccP.sub hj s) .nil) (encode_calls (l := acc ++ bcc) (t := .no) (by simp; omega) (fun f hf => by
            rcases List.mem_append.1 hf with hf | hf
            · exact hob f hf
            · exact hob2 f hf) G)
          rw [ej] at cz
          have hle3 := hj.le
          repeat' (first | with_reducible refine am_seq ?_ | with_reducible refine am_block ?_ | ((with_reducible apply am_cond); (case hb => rfl); all_goals (intro hc; (try simp only [reduceCtorEq, decide_eq_true_eq, decide_eq_false_iff_not, Bool.or_eq_true, Bool.and_eq_true, Bool.or_eq_false_iff, Bool.not_eq_true', Bool.not_eq_false', beq_iff_eq] at hc); (try (exfalso; omega)))) | ((first | with_reducible refine am_reg ?_ | with_reducible refine am_drw ?_ | with_reducible refine am_skip ?_ | with_reducible refine am_exit ?_ | with_reducible refine am_ret ?_ | with_reducible refine And.intro (by first | exact AH.lec_refl _ | assumption | exact AccP.lec (by assumption) | omega) ?_ | with_reducible refine isnE_of (fun hc => ?_) (fun hc => ?_) (fun hc => ?_) | ((first | with_reducible refine gd_not (fun hc => ?_) (fun hc => ?_) | with_reducible refine gd_of (fun hc => ?_) (fun hc => ?_) | with_reducible refine gq_not (fun hc => ?_) (fun hc => ?_) | with_reducible refine gq_of (fun hc => ?_) (fun hc => ?_) | with_reducible refine pickB_of (fun hc => ?_) (fun hc => ?_)) <;> (try simp -implicitDefEqProofs (disch := omega) only [go_sem, eq_self, decide_true, decide_false, Nat.reduceBEq, Nat.reduceAdd, Nat.reduceSub, Nat.reduceMul, Nat.reduceEqDiff, Nat.reduceLeDiff, Nat.reduceLT, Int.reduceLE, Int.reduceLT, Int.reduceToNat, Int.reduceAdd, Int.reduceEq, Int.reduceNeg, AH.put_ne, hc, wrap_id]) <;> (try simp only [reduceCtorEq, decide_eq_true_eq, decide_eq_false_iff_not, Bool.or_eq_true, Bool.and_eq_true, Bool.or_eq_false_iff, Bool.not_eq_true', Bool.not_eq_false', beq_iff_eq] at hc) <;> (try (exfalso; omega))) | ((with_reducible refine alloc_intro (fun ko hko => ?_)) <;> (try have hne := fresh_ne (by assumption) hko) <;> (try simp only [AH.put_none] at hko)) | ((first | (with_reducible refine vapp_accL (by assumption) ?_ (fun v2 H2 hacc hlec => ?_)) | (with_reducible refine vapp_accL (AccP.mono (by assumption) (AccP.le (by assumption))) ?_ (fun v2 H2 hacc hlec => ?_)) | (with_reducible refine vapp_accL (AccP.new (by assumption) (by assumption) _) ?_ (fun v2 H2 hacc hlec => ?_))); · simp only [byteCells_length, List.length_cons, List.length_nil, List.length_map, List.length_append, fldsE_length]; omega) | with_reducible refine need_elems (by assumption) ?_ | with_reducible refine vlen_acc (by assumption) ?_ | with_reducible refine need_bytes (by assumption) ?_ | (first | with_reducible refine call_of (cz) ?_ | with_reducible refine qcall_of (cz) ?_) | with_reducible refine need_look (by assumption) ?_ | with_reducible refine need_look (look_put (by assumption) (by assumption)) ?_ | with_reducible refine need_look (look_lec (by assumption) (by assumption)) ?_ | with_reducible refine need_look (look_put (AH.put_same _ _ _) (by assumption)) ?_ | with_reducible refine need_look (look_lec (AH.put_same _ _ _) (by assumption)) ?_ | with_reducible refine need_look (look_put (look_put (by assumption) (by assumption)) (by assumption)) ?_ | with_reducible refine need_look (look_lec (look_put (by assumption) (by assumption)) (by assumption)) ?_ | with_reducible refine need_look (look_put (look_lec (by assumption) (by assumption)) (by assumption)) ?_ | with_reducible refine need_look (look_lec (look_lec (by assumption) (by assumption)) (by assumption)) ?_ | with_reducible refine need_look (look_put (look_put (AH.put_same _ _ _) (by assumption)) (by assumption)) ?_ | with_reducible refine need_look (look_lec (look_put (AH.put_same _ _ _) (by assumption)) (by assumption)) ?_ | with_reducible refine need_look (look_put (look_lec (AH.put_same _ _ _) (by assumption)) (by assumption)) ?_ | with_reducible refine need_look (look_lec (look_lec (AH.put_same _ _ _) (by assumption)) (by assumption)) ?_) <;> (try simp -implicitDefEqProofs (disch := omega) only [go_sem, eq_self, decide_true, decide_false, Nat.reduceBEq, Nat.reduceAdd, Nat.reduceSub, Nat.reduceMul, Nat.reduceEqDiff, Nat.reduceLeDiff, Nat.reduceLT, Int.reduceLE, Int.reduceLT, Int.reduceToNat, Int.reduceAdd, Int.reduceEq, Int.reduceNeg, AH.put_ne, wrap_id])))
          all_goals exact drop_end (fun _ _ h => h) hle3
    · repeat' (first | with_reducible refine am_seq ?_ | with_reducible refine am_block ?_ | ((with_reducible apply am_cond); (case hb => rfl); all_goals (intro hc; (try simp only [reduceCtorEq, decide_eq_true_eq, decide_eq_false_iff_not, Bool.or_eq_true, Bool.and_eq_true, Bool.or_eq_false_iff, Bool.not_eq_true', Bool.not_eq_false', beq_iff_eq] at hc); (try (exfalso; omega)))) | ((first | with_reducible refine am_reg ?_ | with_reducible refine am_drw ?_ | with_reducible refine am_skip ?_ | with_reducible refine am_exit ?_ | with_reducible refine am_ret ?_ | with_reducible refine And.intro (by first | exact AH.lec_refl _ | assumption | exact AccP.lec (by assumption) | omega) ?_ | with_reducible refine isnE_of (fun hc => ?_) (fun hc => ?_) (fun hc => ?_) | ((first | with_reducible refine gd_not (fun hc => ?_) (fun hc => ?_) | with_reducible refine gd_of (fun hc => ?_) (fun hc => ?_) | with_reducible refine gq_not (fun hc => ?_) (fun hc => ?_) | with_reducible refine gq_of (fun hc => ?_) (fun hc => ?_) | with_reducible refine pickB_of (fun hc => ?_) (fun hc => ?_)) <;> (try simp -implicitDefEqProofs (disch := omega) only [go_sem, eq_self, decide_true, decide_false, Nat.reduceBEq, Nat.reduceAdd, Nat.reduceSub, Nat.reduceMul, Nat.reduceEqDiff, Nat.reduceLeDiff, Nat.reduceLT, Int.reduceLE, Int.reduceLT, Int.reduceToNat, Int.reduceAdd, Int.reduceEq, Int.reduceNeg, AH.put_ne, hc, wrap_id, hg, hg2]) <;> (try simp only [reduceCtorEq, decide_eq_true_eq, decide_eq_false_iff_not, Bool.or_eq_true, Bool.and_eq_true, Bool.or_eq_false_iff, Bool.not_eq_true', Bool.not_eq_false', beq_iff_eq] at hc) <;> (try (exfalso; omega))) | ((with_reducible refine alloc_intro (fun ko hko => ?_)) <;> (try have hne := fresh_ne (by assumption) hko) <;> (try simp only [AH.put_none] at hko)) | ((first | (with_reducible refine vapp_accL (by assumption) ?_ (fun v2 H2 hacc hlec => ?_)) | (with_reducible refine vapp_accL (AccP.mono (by assumption) (AccP.le (by assumption))) ?_ (fun v2 H2 hacc hlec => ?_)) | (with_reducible refine vapp_accL (AccP.new (by assumption) (by assumption) _) ?_ (fun v2 H2 hacc hlec => ?_))); · simp only [byteCells_length, List.length_cons, List.length_nil, List.length_map, List.length_append, fldsE_length]; omega) | with_reducible refine need_elems (by assumption) ?_ | with_reducible refine vlen_acc (by assumption) ?_ | with_reducible refine need_bytes (by assumption) ?_ | (first | with_reducible refine call_of (fgreat_calls hl) ?_ | with_reducible refine qcall_of (fgreat_calls hl) ?_) | (first | with_reducible refine call_of (fgreat_calls hk) ?_ | with_reducible refine qcall_of (fgreat_calls hk) ?_) | (first | with_reducible refine call_of (awake2_calls) ?_ | with_reducible refine qcall_of (awake2_calls) ?_) | with_reducible refine need_look (by assumption) ?_ | with_reducible refine need_look (look_put (by assumption) (by assumption)) ?_ | with_reducible refine need_look (look_lec (by assumption) (by assumption)) ?_ | with_reducible refine need_look (look_put (AH.put_same _ _ _) (by assumption)) ?_ | with_reducible refine need_look (look_lec (AH.put_same _ _ _) (by assumption)) ?_ | with_reducible refine need_look (look_put (look_put (by assumption) (by assumption)) (by assumption)) ?_ | with_reducible refine need_look (look_lec (look_put (by assumption) (by assumption)) (by assumption)) ?_ | with_reducible refine need_look (look_put (look_lec (by assumption) (by assumption)) (by assumption)) ?_ | with_reducible refine need_look (look_lec (look_lec (by assumption) (by assumption)) (by assumption)) ?_ | with_reducible refine need_look (look_put (look_put (AH.put_same _ _ _) (by assumption)) (by assumption)) ?_ | with_reducible refine need_look (look_lec (look_put (AH.put_same _ _ _) (by assumption)) (by assumption)) ?_ | with_reducible refine need_look (look_put (look_lec (AH.put_same _ _ _) (by assumption)) (by assumption)) ?_ | with_reducible refine need_look (look_lec (look_lec (AH.put_same _ _ _) (by assumption)) (by assumption)) ?_) <;> (try simp -implicitDefEqProofs (disch := omega) only [go_sem, eq_self, decide_true, decide_false, Nat.reduceBEq, Nat.reduceAdd, Nat.reduceSub, Nat.reduceMul, Nat.reduceEqDiff, Nat.reduceLeDiff, Nat.reduceLT, Int.reduceLE, Int.reduceLT, Int.reduceToNat, Int.reduceAdd, Int.reduceEq, Int.reduceNeg, AH.put_ne, wrap_id, hg, hg2])))
      all_goals exact drop_end (fun _ _ h => h) (AH.le_refl _)
  · repeat' (first | with_reducible refine am_seq ?_ | with_reducible refine am_block ?_ | ((with_reducible apply am_cond); (case hb => rfl); all_goals (intro hc; (try simp only [reduceCtorEq, decide_eq_true_eq, decide_eq_false_iff_not, Bool.or_eq_true, Bool.and_eq_true, Bool.or_eq_false_iff, Bool.not_eq_true', Bool.not_eq_false', beq_iff_eq] at hc); (try (exfalso; omega)))) | ((first | with_reducible refine am_reg ?_ | with_reducible refine am_drw ?_ | with_reducible refine am_skip ?_ | with_reducible refine am_exit ?_ | with_reducible refine am_ret ?_ | with_reducible refine And.intro (by first | exact AH.lec_refl _ | assumption | exact AccP.lec (by assumption) | omega) ?_ | with_reducible refine isnE_of (fun hc => ?_) (fun hc => ?_) (fun hc => ?_) | ((first | with_reducible refine gd_not (fun hc => ?_) (fun hc => ?_) | with_reducible refine gd_of (fun hc => ?_) (fun hc => ?_) | with_reducible refine gq_not (fun hc => ?_) (fun hc => ?_) | with_reducible refine gq_of (fun hc => ?_) (fun hc => ?_) | with_reducible refine pickB_of (fun hc => ?_) (fun hc => ?_)) <;> (try simp -implicitDefEqProofs (disch := omega) only [go_sem, eq_self, decide_true, decide_false, Nat.reduceBEq, Nat.reduceAdd, Nat.reduceSub, Nat.reduceMul, Nat.reduceEqDiff, Nat.reduceLeDiff, Nat.reduceLT, Int.reduceLE, Int.reduceLT, Int.reduceToNat, Int.reduceAdd, Int.reduceEq, Int.reduceNeg, AH.put_ne, hc, wrap_id, hg]) <;> (try simp only [reduceCtorEq, decide_eq_true_eq, decide_eq_false_iff_not, Bool.or_eq_true, Bool.and_eq_true, Bool.or_eq_false_iff, Bool.not_eq_true', Bool.not_eq_false', beq_iff_eq] at hc) <;> (try (exfalso; omega))) | ((with_reducible refine alloc_intro (fun ko hko => ?_)) <;> (try have hne := fresh_ne (by assumption) hko) <;> (try simp only [AH.put_none] at hko)) | ((first | (with_reducible refine vapp_accL (by assumption) ?_ (fun v2 H2 hacc hlec => ?_)) | (with_reducible refine vapp_accL (AccP.mono (by assumption) (AccP.le (by assumption))) ?_ (fun v2 H2 hacc hlec => ?_)) | (with_reducible refine vapp_accL (AccP.new (by assumption) (by assumption) _) ?_ (fun v2 H2 hacc hlec => ?_))); · simp only [byteCells_length, List.length_cons, List.length_nil, List.length_map, List.length_append, fldsE_length]; omega) | with_reducible refine need_elems (by assumption) ?_ | with_reducible refine vlen_acc (by assumption) ?_ | with_reducible refine need_bytes (by assumption) ?_ | (first | with_reducible refine call_of (fgreat_calls hl) ?_ | with_reducible refine qcall_of (fgreat_calls hl) ?_) | (first | with_reducible refine call_of (awake2_calls) ?_ | with_reducible refine qcall_of (awake2_calls) ?_) | with_reducible refine need_look (by assumption) ?_ | with_reducible refine need_look (look_put (by assumption) (by assumption)) ?_ | with_reducible refine need_look (look_lec (by assumption) (by assumption)) ?_ | with_reducible refine need_look (look_put (AH.put_same _ _ _) (by assumption)) ?_ | with_reducible refine need_look (look_lec (AH.put_same _ _ _) (by assumption)) ?_ | with_reducible refine need_look (look_put (look_put (by assumption) (by assumption)) (by assumption)) ?_ | with_reducible refine need_look (look_lec (look_put (by assumption) (by assumption)) (by assumption)) ?_ | with_reducible refine need_look (look_put (look_lec (by assumption) (by assumption)) (by assumption)) ?_ | with_reducible refine need_look (look_lec (look_lec (by assumption) (by assumption)) (by assumption)) ?_ | with_reducible refine need_look (look_put (look_put (AH.put_same _ _ _) (by assumption)) (by assumption)) ?_ | with_reducible refine need_look (look_lec (look_put (AH.put_same _ _ _) (by assumption)) (by assumption)) ?_ | with_reducible refine need_look (look_put (look_lec (AH.put_same _ _ _) (by assumption)) (by assumption)) ?_ | with_reducible refine need_look (look_lec (look_lec (AH.put_same _ _ _) (by assumption)) (by assumption)) ?_) <;> (try simp -implicitDefEqProofs (disch := omega) only [go_sem, eq_self, decide_true, decide_false, Nat.reduceBEq, Nat.reduceAdd, Nat.reduceSub, Nat.reduceMul, Nat.reduceEqDiff, Nat.reduceLeDiff, Nat.reduceLT, Int.reduceLE, Int.reduceLT, Int.reduceToNat, Int.reduceAdd, Int.reduceEq, Int.reduceNeg, AH.put_ne, wrap_id, hg])))
    all_goals exact drop_end (fun _ _ h => h) (AH.le_refl _)
end Go.Proofs.Ytmomncmddejcoaa
