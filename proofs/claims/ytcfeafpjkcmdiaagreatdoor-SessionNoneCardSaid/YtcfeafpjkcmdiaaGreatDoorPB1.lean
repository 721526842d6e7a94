/- Of the walks of this seat: contracts of functions of the given program, proved over the abstract values of the texts Vm. Conditions: as each theorem says. -/
import Derived.Test.YtcfeafpjkcmdiaaGreatDoorM1
import Derived.Test.YtcfeafpjkcmdiaaGreatDoorVm22
import Derived.Test.YtcfeafpjkcmdiaaGreatDoorProg
import Derived.KernelRfl
set_option linter.unusedVariables false
set_option linter.unusedSimpArgs false
namespace Go.Proofs.YtcfeafpjkcmdiaaGreatDoor.Hel
open Go.Vm
attribute [local go_sem] byteCells_get byteCells_length Int.toNat_natCast Option.map_some Int.natCast_nonneg decide_eq_true_eq decide_eq_false_iff_not
/- flange/varint.Append -/
abbrev k57_0 : MC :=
  .cond (.t 6) (.skip) (.exit 0)

abbrev k57_1 : MC :=
  .reg [
    ⟨(some 13), none, .val (.mv (.t 1))⟩,
    ⟨(some 14), none, .val (.bin .shr .num (.t 13) (.c (.int .u64 7)))⟩,
    ⟨(some 1), none, .val (.mv (.t 14))⟩] [0, 1]

abbrev k57_2 : MC :=
  .block 1 ((.seq (.reg [
     ⟨(some 7), none, .val (.mv (.t 0))⟩,
     ⟨(some 8), none, .val (.mv (.t 1))⟩,
     ⟨(some 9), none, .val (.i2i .u8 (.t 8))⟩,
     ⟨(some 10), none, .val (.bin .or .num (.t 9) (.c (.int .u8 128)))⟩,
     ⟨(some 11), none, .bslice 1 1 [(.int .u8 0)] [(0, 1, (.t 10))]⟩,
     ⟨(some 12), none, .app 1 1 (.t 7) (.t 11)⟩,
     ⟨(some 0), none, .val (.mv (.t 12))⟩] [0, 1]) k57_1))

abbrev k57_3 : MC :=
  (.seq ((.seq (.reg [
    ⟨(some 5), none, .val (.mv (.t 1))⟩,
    ⟨(some 6), none, .val (.bin .geq .num (.t 5) (.c (.int .u64 128)))⟩] [0, 1, 6]) k57_0)) k57_2)

abbrev k57_4 : MC :=
  (.seq (.reg [
    ⟨(some 15), none, .val (.mv (.t 0))⟩,
    ⟨(some 16), none, .val (.mv (.t 1))⟩,
    ⟨(some 17), none, .val (.i2i .u8 (.t 16))⟩,
    ⟨(some 18), none, .bslice 1 1 [(.int .u8 0)] [(0, 1, (.t 17))]⟩,
    ⟨(some 19), none, .app 1 1 (.t 15) (.t 18)⟩,
    ⟨(some 4), none, .val (.mv (.t 19))⟩] [4]) (.ret))

abbrev k57_5 : MC :=
  (.seq (.block 0 (.loop k57_3)) k57_4)
abbrev k57 : MC :=
  (.seq (.reg [
    ⟨(some 4), none, .val (.mv (.c .nilSl))⟩] [0, 1]) k57_5)
theorem c57 : Tryz.f57.body.bind (mcOf Tryz.prog (List.contains [] ·) (List.getD [([], [0, 1]), ([], [0, 1, 6]), ([], [0, 1]), ([], [0, 1]), ([], [4])] · ([], [])) 20) = some k57 := by kernel_rfl
theorem r57 : rvsOf Tryz.prog Tryz.f57.results.toList = some [.tmp 4] := by kernel_rfl

/- flange/varint.end -/
abbrev k141_0 : MC :=
  .cond (.t 12) ((.seq (.reg [
     ⟨(some 4), none, .val (.mv (.c (.int .i64 4)))⟩] [4]) (.ret))) (.skip)

abbrev k141_1 : MC :=
  .cond (.t 5) ((.seq (.reg [
     ⟨(some 4), none, .val (.mv (.c (.int .i64 4)))⟩] [4]) (.ret))) ((.seq (.reg [
     ⟨(some 13), none, .val (.mv (.t 1))⟩,
     ⟨(some 14), none, .val (.bin .eql .num (.t 13) (.c (.int .i64 9)))⟩,
     ⟨(some 15), none, .val (.mv (.t 14))⟩,
     ⟨(some 16), (some (15, true)), .val (.mv (.t 0))⟩,
     ⟨(some 17), (some (15, true)), .val (.bin .neq .num (.t 16) (.c (.int .u8 1)))⟩,
     ⟨(some 18), none, .val (.pick (.t 15) (.t 17) (.c (.bool false)))⟩,
     ⟨(some 12), none, .val (.mv (.t 18))⟩] [12]) k141_0))

abbrev k141_2 : MC :=
  (.seq (.reg [
    ⟨(some 4), none, .val (.mv (.c (.int .i64 0)))⟩] [4]) (.ret))

abbrev k141_3 : MC :=
  (.seq (.block 0 ((.seq (.reg [
     ⟨(some 6), none, .val (.mv (.t 0))⟩,
     ⟨(some 7), none, .val (.bin .eql .num (.t 6) (.c (.int .u8 0)))⟩,
     ⟨(some 8), none, .val (.mv (.t 7))⟩,
     ⟨(some 9), (some (8, true)), .val (.mv (.t 1))⟩,
     ⟨(some 10), (some (8, true)), .val (.bin .gtr .num (.t 9) (.c (.int .i64 0)))⟩,
     ⟨(some 11), none, .val (.pick (.t 8) (.t 10) (.c (.bool false)))⟩,
     ⟨(some 5), none, .val (.mv (.t 11))⟩] [0, 1, 5]) k141_1))) k141_2)
abbrev k141 : MC :=
  (.seq (.reg [
    ⟨(some 4), none, .val (.mv (.c (.int .i64 0)))⟩] [0, 1]) k141_3)
theorem c141 : Tryz.f141.body.bind (mcOf Tryz.prog (List.contains [] ·) (List.getD [([], [0, 1]), ([], [0, 1, 5]), ([], [4]), ([], [12]), ([], [4]), ([], [4])] · ([], [])) 19) = some k141 := by kernel_rfl
theorem r141 : rvsOf Tryz.prog Tryz.f141.results.toList = some [.tmp 4] := by kernel_rfl

/- flange/varint.Read -/
abbrev k113_0 : MC :=
  .cond (.t 22) ((.seq (.reg [
     ⟨(some 23), none, .val (.mv (.t 8))⟩,
     ⟨(some 2), none, .val (.mv (.c (.int .u64 0)))⟩,
     ⟨(some 3), none, .val (.mv (.c (.int .i64 0)))⟩,
     ⟨(some 4), none, .val (.mv (.t 23))⟩] [2, 3, 4]) (.ret))) (.skip)

abbrev k113_1 : MC :=
  (.seq (.reg [
    ⟨(some 21), none, .val (.mv (.t 8))⟩,
    ⟨(some 22), none, .val (.bin .neq .num (.t 21) (.c (.int .i64 0)))⟩] [5, 6, 7, 8, 22]) k113_0)

abbrev k113_2 : MC :=
  (.seq (.reg [
    ⟨(some 24), none, .val (.mv (.t 5))⟩,
    ⟨(some 25), none, .val (.mv (.t 7))⟩,
    ⟨(some 26), none, .val (.i2i .u64 (.t 25))⟩,
    ⟨(some 27), none, .val (.mv (.t 6))⟩,
    ⟨(some 28), none, .val (.bin .mul .num (.c (.int .i64 7)) (.t 27))⟩,
    ⟨(some 29), none, .val (.bin .shl .num (.t 26) (.t 28))⟩,
    ⟨(some 30), none, .val (.bin .or .num (.t 24) (.t 29))⟩,
    ⟨(some 31), none, .val (.mv (.t 6))⟩,
    ⟨(some 32), none, .val (.bin .add .num (.t 31) (.c (.int .i64 1)))⟩,
    ⟨(some 2), none, .val (.mv (.t 30))⟩,
    ⟨(some 3), none, .val (.mv (.t 32))⟩,
    ⟨(some 4), none, .val (.mv (.c (.int .i64 0)))⟩] [2, 3, 4]) (.ret))

abbrev k113_3 : MC :=
  .cond (.t 17) ((.seq ((.seq (.reg [
     ⟨(some 18), none, .val (.mv (.t 7))⟩,
     ⟨(some 19), none, .val (.mv (.t 6))⟩,
     ⟨(some 20), none, .call 141 [(.t 18), (.t 19)]⟩,
     ⟨(some 8), none, .val (.mv (.t 20))⟩] [5, 6, 7, 8]) k113_1)) k113_2)) (.skip)

abbrev k113_4 : MC :=
  .cond (.t 34) ((.seq (.reg [
     ⟨(some 2), none, .val (.mv (.c (.int .u64 0)))⟩,
     ⟨(some 3), none, .val (.mv (.c (.int .i64 0)))⟩,
     ⟨(some 4), none, .val (.mv (.c (.int .i64 4)))⟩] [2, 3, 4]) (.ret))) (.skip)

abbrev k113_5 : MC :=
  .reg [
    ⟨(some 35), none, .val (.mv (.t 5))⟩,
    ⟨(some 36), none, .val (.mv (.t 7))⟩,
    ⟨(some 37), none, .val (.bin .sub .num (.t 36) (.c (.int .u8 128)))⟩,
    ⟨(some 38), none, .val (.i2i .u64 (.t 37))⟩,
    ⟨(some 39), none, .val (.mv (.t 6))⟩,
    ⟨(some 40), none, .val (.bin .mul .num (.c (.int .i64 7)) (.t 39))⟩,
    ⟨(some 41), none, .val (.bin .shl .num (.t 38) (.t 40))⟩,
    ⟨(some 42), none, .val (.bin .or .num (.t 35) (.t 41))⟩,
    ⟨(some 5), none, .val (.mv (.t 42))⟩] [5, 9, 10, 11]

abbrev k113_6 : MC :=
  (.seq ((.seq (.reg [
    ⟨(some 33), none, .val (.mv (.t 6))⟩,
    ⟨(some 34), none, .val (.bin .eql .num (.t 33) (.c (.int .i64 9)))⟩] [5, 6, 7, 9, 10, 11, 34]) k113_4)) k113_5)

abbrev k113_7 : MC :=
  (.seq ((.seq (.reg [
    ⟨(some 16), none, .val (.mv (.t 7))⟩,
    ⟨(some 17), none, .val (.bin .lss .num (.t 16) (.c (.int .u8 128)))⟩] [5, 6, 7, 9, 10, 11, 17]) k113_3)) k113_6)

abbrev k113_8 : MC :=
  .reg [
    ⟨(some 43), none, .val (.bin .add .num (.t 11) (.c (.int .i64 1)))⟩,
    ⟨(some 11), none, .val (.mv (.t 43))⟩] [5, 9, 10, 11]

abbrev k113_9 : MC :=
  (.seq (.block 1 ((.seq (.reg [
     ⟨(some 13), none, .val (.mv (.t 11))⟩,
     ⟨(some 14), none, .val (.iaddr 1 (.t 9) (.t 11))⟩,
     ⟨(some 15), none, .val (.load false 1 (.t 14))⟩,
     ⟨(some 6), none, .val (.mv (.t 13))⟩,
     ⟨(some 7), none, .val (.mv (.t 15))⟩] [5, 6, 7, 9, 10, 11]) k113_7))) k113_8)

abbrev k113_10 : MC :=
  (.seq (.cond (.t 12) (.skip) (.exit 0)) k113_9)

abbrev k113_11 : MC :=
  (.seq (.reg [
    ⟨(some 12), none, .val (.bin .lss .num (.t 11) (.t 10))⟩] [5, 9, 10, 11, 12]) k113_10)

abbrev k113_12 : MC :=
  .block 0 (.loop k113_11)

abbrev k113_13 : MC :=
  (.seq (.reg [
    ⟨(some 2), none, .val (.mv (.c (.int .u64 0)))⟩,
    ⟨(some 3), none, .val (.mv (.c (.int .i64 0)))⟩,
    ⟨(some 4), none, .val (.mv (.c (.int .i64 5)))⟩] [2, 3, 4]) (.ret))

abbrev k113_14 : MC :=
  (.seq ((.seq (.reg [
    ⟨(some 9), none, .val (.mv (.t 0))⟩,
    ⟨(some 10), none, .val (.len .sl (.t 9))⟩,
    ⟨(some 11), none, .val (.mv (.c (.int .i64 0)))⟩] [5, 9, 10, 11]) k113_12)) k113_13)

abbrev k113_15 : MC :=
  (.seq (.reg [
    ⟨(some 5), none, .val (.mv (.c (.int .u64 0)))⟩] [0, 5]) k113_14)
abbrev k113 : MC :=
  (.seq (.reg [
    ⟨(some 2), none, .val (.mv (.c (.int .u64 0)))⟩,
    ⟨(some 3), none, .val (.mv (.c (.int .i64 0)))⟩,
    ⟨(some 4), none, .val (.mv (.c (.int .i64 0)))⟩] [0]) k113_15)
theorem c113 : Tryz.f113.body.bind (mcOf Tryz.prog (List.contains [] ·) (List.getD [([], [0]), ([], [0, 5]), ([], [5, 9, 10, 11]), ([], [5, 9, 10, 11, 12]), ([], [5, 6, 7, 9, 10, 11]), ([], [5, 6, 7, 9, 10, 11, 17]), ([], [5, 6, 7, 8]), ([], [5, 6, 7, 8, 22]), ([], [2, 3, 4]), ([], [2, 3, 4]), ([], [5, 6, 7, 9, 10, 11, 34]), ([], [2, 3, 4]), ([], [5, 9, 10, 11]), ([], [5, 9, 10, 11]), ([], [2, 3, 4])] · ([], [])) 44) = some k113 := by kernel_rfl
theorem r113 : rvsOf Tryz.prog Tryz.f113.results.toList = some [.tmp 2, .tmp 3, .tmp 4] := by kernel_rfl

theorem vappend_calls {H0 H : AH} {v : V} {l : List UInt8} {n : Nat} (hacc : AccP H0 1 (byteCells l) v H) (hl : l.length < 100000000) (hn : n < 18446744073709551616) :
    ACalls Tryz.prog 57 [v, .int .u64 n] H (fun o H' => ∃ v', o = .ret v' ∧ AccP H0 1 (byteCells (l ++ vb n)) v' H' ∧ H.lec H') := by
  refine acalls Tryz.func57 c57 r57 (by simp [Tryz.ntmps57]) ?_
  repeat (first | refine am_seq ?_ | (refine am_reg ?_; simp -implicitDefEqProofs (disch := omega) only [go_sem, eq_self, decide_true, decide_false, Nat.reduceBEq, Nat.reduceAdd, Nat.reduceSub, Nat.reduceMul, Nat.reduceEqDiff, Nat.reduceLeDiff, Nat.reduceLT, Int.reduceLE, Int.reduceLT, Int.reduceToNat, Int.reduceAdd, Int.reduceEq, Int.reduceNeg, AH.put_ne]) | (refine am_drw ?_; simp -implicitDefEqProofs (disch := omega) only [go_sem, eq_self, decide_true, decide_false, Nat.reduceBEq, Nat.reduceAdd, Nat.reduceSub, Nat.reduceMul, Nat.reduceEqDiff, Nat.reduceLeDiff, Nat.reduceLT, Int.reduceLE, Int.reduceLT, Int.reduceToNat, Int.reduceAdd, Int.reduceEq, Int.reduceNeg, AH.put_ne]) | refine am_block ?_)
  refine am_loop (fun k a H' => ∃ (l' : List UInt8) (n' : Nat) (v' : V), k = n' ∧ a = [(0, v'), (1, .int .u64 n')] ∧ AccP H0 1 (byteCells l') v' H' ∧ l' ++ vb n' = l ++ vb n ∧ n' < 18446744073709551616 ∧ H.lec H') ?_ n ⟨l, n, v, rfl, rfl, hacc, rfl, hn, AH.lec_refl _⟩
  rintro k a H' ⟨l', n', v', rfl, rfl, hacc', he, hn', hl'⟩
  have hlen : l'.length < 100000010 := by
    have := congrArg List.length he
    have := vb_len10 hn
    have := vb_pos k
    simp only [List.length_append] at *
    omega
  repeat' (first | with_reducible refine am_seq ?_ | with_reducible refine am_block ?_ | ((with_reducible apply am_cond); (case hb => rfl); all_goals (intro hc; (try simp only [reduceCtorEq, decide_eq_true_eq, decide_eq_false_iff_not, Bool.or_eq_true, Bool.and_eq_true, Bool.or_eq_false_iff, Bool.not_eq_true', Bool.not_eq_false', beq_iff_eq] at hc); (try (exfalso; omega)))) | ((first | with_reducible refine am_reg ?_ | with_reducible refine am_drw ?_ | with_reducible refine am_skip ?_ | with_reducible refine am_exit ?_ | with_reducible refine am_ret ?_ | with_reducible refine And.intro (by first | exact AH.lec_refl _ | assumption | exact AccP.lec (by assumption) | omega) ?_ | with_reducible refine isnE_of (fun hc => ?_) (fun hc => ?_) (fun hc => ?_) | ((first | with_reducible refine gd_not (fun hc => ?_) (fun hc => ?_) | with_reducible refine gd_of (fun hc => ?_) (fun hc => ?_) | with_reducible refine gq_not (fun hc => ?_) (fun hc => ?_) | with_reducible refine gq_of (fun hc => ?_) (fun hc => ?_) | with_reducible refine pickB_of (fun hc => ?_) (fun hc => ?_)) <;> (try simp -implicitDefEqProofs (disch := omega) only [go_sem, eq_self, decide_true, decide_false, Nat.reduceBEq, Nat.reduceAdd, Nat.reduceSub, Nat.reduceMul, Nat.reduceEqDiff, Nat.reduceLeDiff, Nat.reduceLT, Int.reduceLE, Int.reduceLT, Int.reduceToNat, Int.reduceAdd, Int.reduceEq, Int.reduceNeg, AH.put_ne, hc]) <;> (try simp only [reduceCtorEq, decide_eq_true_eq, decide_eq_false_iff_not, Bool.or_eq_true, Bool.and_eq_true, Bool.or_eq_false_iff, Bool.not_eq_true', Bool.not_eq_false', beq_iff_eq] at hc) <;> (try (exfalso; omega))) | ((with_reducible refine alloc_intro (fun ko hko => ?_)) <;> (try have hne := fresh_ne (by assumption) hko) <;> (try have hnk := fresh_ne hk hko) <;> (try have hnk2 := fresh_ne hk2 hko) <;> (try simp only [AH.put_none] at hko)) | ((first | (with_reducible refine vapp_accL (by assumption) ?_ (fun v2 H2 hacc hlec => ?_)) | (with_reducible refine vapp_accL (AccP.mono (by assumption) (AccP.le (by assumption))) ?_ (fun v2 H2 hacc hlec => ?_)) | (with_reducible refine vapp_accL (AccP.new (by assumption) (by assumption) _) ?_ (fun v2 H2 hacc hlec => ?_))); · simp only [byteCells_length, List.length_cons, List.length_nil, List.length_map, List.length_append]; omega) | with_reducible refine need_elems (by assumption) ?_ | with_reducible refine vlen_acc (by assumption) ?_ | with_reducible refine need_bytes (by assumption) ?_ | with_reducible refine need_look (by assumption) ?_ | with_reducible refine need_look (look_put (by assumption) (by assumption)) ?_ | with_reducible refine need_look (look_lec (by assumption) (by assumption)) ?_ | with_reducible refine need_look (look_put (AH.put_same _ _ _) (by assumption)) ?_ | with_reducible refine need_look (look_lec (AH.put_same _ _ _) (by assumption)) ?_ | with_reducible refine need_look (look_put (look_put (by assumption) (by assumption)) (by assumption)) ?_ | with_reducible refine need_look (look_lec (look_put (by assumption) (by assumption)) (by assumption)) ?_ | with_reducible refine need_look (look_put (look_lec (by assumption) (by assumption)) (by assumption)) ?_ | with_reducible refine need_look (look_lec (look_lec (by assumption) (by assumption)) (by assumption)) ?_ | with_reducible refine need_look (look_put (look_put (AH.put_same _ _ _) (by assumption)) (by assumption)) ?_ | with_reducible refine need_look (look_lec (look_put (AH.put_same _ _ _) (by assumption)) (by assumption)) ?_ | with_reducible refine need_look (look_put (look_lec (AH.put_same _ _ _) (by assumption)) (by assumption)) ?_ | with_reducible refine need_look (look_lec (look_lec (AH.put_same _ _ _) (by assumption)) (by assumption)) ?_) <;> (try simp -implicitDefEqProofs (disch := omega) only [go_sem, eq_self, decide_true, decide_false, Nat.reduceBEq, Nat.reduceAdd, Nat.reduceSub, Nat.reduceMul, Nat.reduceEqDiff, Nat.reduceLeDiff, Nat.reduceLT, Int.reduceLE, Int.reduceLT, Int.reduceToNat, Int.reduceAdd, Int.reduceEq, Int.reduceNeg, AH.put_ne])))
  · refine ⟨k / 128, by omega, l' ++ [UInt8.ofNat (k % 128 + 128)], k / 128, v2, rfl, ?_, ?_, ?_, by omega, AH.lec_trans hl' hlec⟩
    · rw [shr7]
    · rw [byteCells_append]
      rw [or128] at hacc
      exact hacc
    · rw [vb_ge (by omega)] at he
      rw [← he]; simp
  · refine ⟨v2, rfl, ?_, AH.lec_trans hl' hlec⟩
    rw [vb_lt (by omega)] at he
    rw [byte_cast (by omega)] at hacc
    rw [← he, byteCells_append]
    exact hacc
theorem end_calls {c : UInt8} {i : Nat} (H : AH) :
    ACalls Tryz.prog 141 [.int .u8 c.toNat, .int .i64 i] H (fun o H' => o = .ret (.int .i64 (if (c.toNat = 0 ∧ 0 < i) ∨ (i = 9 ∧ c.toNat ≠ 1) then 4 else 0)) ∧ H' = H) := by
  refine acalls Tryz.func141 c141 r141 (by simp [Tryz.ntmps141]) ?_
  repeat' (first | with_reducible refine am_seq ?_ | with_reducible refine am_block ?_ | ((with_reducible apply am_cond); (case hb => rfl); all_goals (intro hc; (try simp only [reduceCtorEq, decide_eq_true_eq, decide_eq_false_iff_not, Bool.or_eq_true, Bool.and_eq_true, Bool.or_eq_false_iff, Bool.not_eq_true', Bool.not_eq_false', beq_iff_eq] at hc); (try (exfalso; omega)))) | ((first | with_reducible refine am_reg ?_ | with_reducible refine am_drw ?_ | with_reducible refine am_skip ?_ | with_reducible refine am_exit ?_ | with_reducible refine am_ret ?_ | with_reducible refine And.intro (by first | exact AH.lec_refl _ | assumption | exact AccP.lec (by assumption) | omega) ?_ | with_reducible refine isnE_of (fun hc => ?_) (fun hc => ?_) (fun hc => ?_) | ((first | with_reducible refine gd_not (fun hc => ?_) (fun hc => ?_) | with_reducible refine gd_of (fun hc => ?_) (fun hc => ?_) | with_reducible refine gq_not (fun hc => ?_) (fun hc => ?_) | with_reducible refine gq_of (fun hc => ?_) (fun hc => ?_) | with_reducible refine pickB_of (fun hc => ?_) (fun hc => ?_)) <;> (try simp -implicitDefEqProofs (disch := omega) only [go_sem, eq_self, decide_true, decide_false, Nat.reduceBEq, Nat.reduceAdd, Nat.reduceSub, Nat.reduceMul, Nat.reduceEqDiff, Nat.reduceLeDiff, Nat.reduceLT, Int.reduceLE, Int.reduceLT, Int.reduceToNat, Int.reduceAdd, Int.reduceEq, Int.reduceNeg, AH.put_ne, hc]) <;> (try simp only [reduceCtorEq, decide_eq_true_eq, decide_eq_false_iff_not, Bool.or_eq_true, Bool.and_eq_true, Bool.or_eq_false_iff, Bool.not_eq_true', Bool.not_eq_false', beq_iff_eq] at hc) <;> (try (exfalso; omega))) | ((with_reducible refine alloc_intro (fun ko hko => ?_)) <;> (try have hne := fresh_ne (by assumption) hko) <;> (try have hnk := fresh_ne hk hko) <;> (try have hnk2 := fresh_ne hk2 hko) <;> (try simp only [AH.put_none] at hko)) | ((first | (with_reducible refine vapp_accL (by assumption) ?_ (fun v2 H2 hacc hlec => ?_)) | (with_reducible refine vapp_accL (AccP.mono (by assumption) (AccP.le (by assumption))) ?_ (fun v2 H2 hacc hlec => ?_)) | (with_reducible refine vapp_accL (AccP.new (by assumption) (by assumption) _) ?_ (fun v2 H2 hacc hlec => ?_))); · simp only [byteCells_length, List.length_cons, List.length_nil, List.length_map, List.length_append]; omega) | with_reducible refine need_elems (by assumption) ?_ | with_reducible refine vlen_acc (by assumption) ?_ | with_reducible refine need_bytes (by assumption) ?_ | with_reducible refine need_look (by assumption) ?_ | with_reducible refine need_look (look_put (by assumption) (by assumption)) ?_ | with_reducible refine need_look (look_lec (by assumption) (by assumption)) ?_ | with_reducible refine need_look (look_put (AH.put_same _ _ _) (by assumption)) ?_ | with_reducible refine need_look (look_lec (AH.put_same _ _ _) (by assumption)) ?_ | with_reducible refine need_look (look_put (look_put (by assumption) (by assumption)) (by assumption)) ?_ | with_reducible refine need_look (look_lec (look_put (by assumption) (by assumption)) (by assumption)) ?_ | with_reducible refine need_look (look_put (look_lec (by assumption) (by assumption)) (by assumption)) ?_ | with_reducible refine need_look (look_lec (look_lec (by assumption) (by assumption)) (by assumption)) ?_ | with_reducible refine need_look (look_put (look_put (AH.put_same _ _ _) (by assumption)) (by assumption)) ?_ | with_reducible refine need_look (look_lec (look_put (AH.put_same _ _ _) (by assumption)) (by assumption)) ?_ | with_reducible refine need_look (look_put (look_lec (AH.put_same _ _ _) (by assumption)) (by assumption)) ?_ | with_reducible refine need_look (look_lec (look_lec (AH.put_same _ _ _) (by assumption)) (by assumption)) ?_) <;> (try simp -implicitDefEqProofs (disch := omega) only [go_sem, eq_self, decide_true, decide_false, Nat.reduceBEq, Nat.reduceAdd, Nat.reduceSub, Nat.reduceMul, Nat.reduceEqDiff, Nat.reduceLeDiff, Nat.reduceLT, Int.reduceLE, Int.reduceLT, Int.reduceToNat, Int.reduceAdd, Int.reduceEq, Int.reduceNeg, AH.put_ne])))
  all_goals first | done | (simp_all; done) | (simp_all; omega) | (exfalso; omega) | skip
end Go.Proofs.YtcfeafpjkcmdiaaGreatDoor.Hel
