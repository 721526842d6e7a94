/- Of the walks of this seat: contracts of functions of the given program, proved over the abstract values of the texts Vm. Conditions: as each theorem says. -/
import Derived.Test.YtmomncmddejcoaaH3
import Derived.Test.YtmomncmddejcoaaA11
set_option linter.unusedVariables false
set_option linter.unusedSimpArgs false
namespace Go.Proofs.Ytmomncmddejcoaa
open Go.Vm
attribute [local go_sem] strsE_get strsE_length intsE_get intsE_length byteCells_get byteCells_length byteCells_take byteCells_drop bytes_cells fldC fldsE_get fldsE_length blobsE_get blobsE_length u64sE_length u64sE_get List.drop_zero bytesOf_cells toNat_succ Nat.sub_zero Int.toNat_natCast Option.map_some Int.natCast_nonneg decide_eq_true_eq decide_eq_false_iff_not
/- flange/flangelaw21.HelloCodes -/
abbrev k10_0 : MC :=
  .cond (.t 13) ((.seq (.reg [
     ⟨(some 14), none, .call 13 []⟩,
     ⟨(some 2), none, .val (.mv (.t 14))⟩] [2]) .ret)) (.skip)

abbrev k10_1 : MC :=
  .cond (.t 23) ((.seq (.reg [
     ⟨(some 24), none, .val (.mv (.t 3))⟩,
     ⟨(some 25), none, .val (.len .sl (.t 24))⟩,
     ⟨(some 26), none, .val (.bin .eql .num (.t 25) (.c (.int .i64 0)))⟩,
     ⟨(some 27), none, .val (.mv (.t 26))⟩,
     ⟨(some 28), (some (27, true)), .val (.mv (.t 4))⟩,
     ⟨(some 29), (some (27, true)), .val (.mv (.t 5))⟩,
     ⟨(some 30), (some (27, true)), .val (.bin .eql .num (.t 28) (.t 29))⟩,
     ⟨(some 31), none, .val (.pick (.t 27) (.t 30) (.c (.bool false)))⟩,
     ⟨(some 32), none, .val (.mv (.t 31))⟩,
     ⟨(some 33), (some (32, true)), .val (.load true 2 (.t 1))⟩,
     ⟨(some 34), (some (32, true)), .call 34 [(.t 33)]⟩,
     ⟨(some 35), (some (32, true)), .val (.mv (.t 4))⟩,
     ⟨(some 36), (some (32, true)), .val (.bin .eql .num (.t 34) (.t 35))⟩,
     ⟨(some 37), none, .val (.pick (.t 32) (.t 36) (.c (.bool false)))⟩,
     ⟨(some 2), none, .val (.mv (.t 37))⟩] [2]) .ret)) (.skip)

abbrev k10_2 : MC :=
  (.seq (.drw [
    ⟨(some 43), none, .val (.mv (.t 3))⟩,
    ⟨(some 44), none, .val (.b2s (.t 43))⟩,
    ⟨(some 45), none, .val (.load true 2 (.t 1))⟩,
    ⟨(some 46), none, .call 36 [(.t 45)]⟩,
    ⟨(some 47), none, .val (.b2s (.t 46))⟩,
    ⟨(some 48), none, .val (.bin .eql .num (.t 44) (.t 47))⟩,
    ⟨(some 49), none, .val (.mv (.t 48))⟩,
    ⟨(some 50), (some (49, true)), .val (.mv (.t 4))⟩,
    ⟨(some 51), (some (49, true)), .val (.bin .eql .num (.t 50) (.c (.int .i64 0)))⟩,
    ⟨(some 52), none, .val (.pick (.t 49) (.t 51) (.c (.bool false)))⟩,
    ⟨(some 53), none, .val (.mv (.t 52))⟩,
    ⟨(some 54), (some (53, true)), .val (.mv (.t 7))⟩,
    ⟨(some 55), (some (53, true)), .val (.bin .eql .num (.t 54) (.c (.int .i64 0)))⟩,
    ⟨(some 56), none, .val (.pick (.t 53) (.t 55) (.c (.bool false)))⟩,
    ⟨(some 57), none, .val (.mv (.t 56))⟩,
    ⟨(some 58), (some (57, true)), .val (.load true 2 (.t 6))⟩,
    ⟨(some 59), (some (57, true)), .val (.load true 2 (.t 1))⟩,
    ⟨(some 60), (some (57, true)), .call 18 [(.t 58), (.t 59)]⟩,
    ⟨(some 61), none, .val (.pick (.t 57) (.t 60) (.c (.bool false)))⟩,
    ⟨(some 62), none, .val (.mv (.t 61))⟩,
    ⟨(some 63), (some (62, true)), .val (.load true 2 (.t 1))⟩,
    ⟨(some 64), (some (62, true)), .call 34 [(.t 63)]⟩,
    ⟨(some 65), (some (62, true)), .val (.bin .eql .num (.t 64) (.c (.int .i64 0)))⟩,
    ⟨(some 66), none, .val (.pick (.t 62) (.t 65) (.c (.bool false)))⟩,
    ⟨(some 2), none, .val (.mv (.t 66))⟩] [
] [2]) .ret)

abbrev k10_3 : MC :=
  (.seq (.reg [
    ⟨(some 39), none, .val (.mv (.t 3))⟩,
    ⟨(some 40), none, .call 35 [(.t 39)]⟩,
    ⟨(some 38), none, .val (.mv (.t 40))⟩,
    ⟨(some 41), none, .val (.ext (.t 38) 0)⟩,
    ⟨(some 42), none, .val (.ext (.t 38) 1)⟩,
    ⟨(some 6), none, .zalloc [.nilSl, .nilSl]⟩,
    ⟨none, none, .store 2 (.t 6) (.t 41)⟩,
    ⟨(some 7), none, .val (.mv (.t 42))⟩] [1, 3, 4, 6, 7]) k10_2)

abbrev k10_4 : MC :=
  (.seq ((.seq (.reg [
    ⟨(some 22), none, .val (.mv (.t 5))⟩,
    ⟨(some 23), none, .val (.bin .neq .num (.t 22) (.c (.int .i64 0)))⟩] [1, 3, 4, 5, 23]) k10_1)) k10_3)

abbrev k10_5 : MC :=
  (.seq (.reg [
    ⟨(some 20), none, .val (.load true 2 (.t 1))⟩,
    ⟨(some 21), none, .call 15 [(.t 20)]⟩,
    ⟨(some 5), none, .val (.mv (.t 21))⟩] [1, 3, 4, 5]) k10_4)

abbrev k10_6 : MC :=
  (.seq (.reg [
    ⟨(some 16), none, .val (.load true 2 (.t 1))⟩,
    ⟨(some 17), none, .call 33 [(.t 16)]⟩,
    ⟨(some 15), none, .val (.mv (.t 17))⟩,
    ⟨(some 18), none, .val (.ext (.t 15) 0)⟩,
    ⟨(some 19), none, .val (.ext (.t 15) 1)⟩,
    ⟨(some 3), none, .val (.mv (.t 18))⟩,
    ⟨(some 4), none, .val (.mv (.t 19))⟩] [1, 3, 4]) k10_5)

abbrev k10_7 : MC :=
  (.seq ((.seq (.reg [
    ⟨(some 8), none, .val (.load true 2 (.t 1))⟩,
    ⟨(some 9), none, .call 12 [(.t 8)]⟩,
    ⟨(some 10), none, .val (.mv (.t 9))⟩,
    ⟨(some 11), (some (10, false)), .call 13 []⟩,
    ⟨(some 12), (some (10, false)), .val (.not (.t 11))⟩,
    ⟨(some 13), none, .val (.pick (.t 10) (.c (.bool true)) (.t 12))⟩] [1, 13]) k10_0)) k10_6)
abbrev k10 : MC :=
  (.seq (.reg [
    ⟨(some 1), none, .boxi (.t 0)⟩,
    ⟨(some 2), none, .val (.mv (.c (.bool false)))⟩] [1]) k10_7)
theorem c10 : Try.f10.body.bind (mcOf Try.prog (List.contains [1] ·) (List.getD [([], [1]), ([], [1, 13]), ([], [2]), ([], [1, 3, 4]), ([], [1, 3, 4, 5]), ([], [1, 3, 4, 5, 23]), ([], [2]), ([], [1, 3, 4, 6, 7]), ([0, 0, 0, 0, 0, 0, 0, 0, 0, 0, 0, 0, 0, 0, 0, 0, 0, 0, 0, 0, 0, 0, 0, 0, 0], [2])] · ([], [])) 67) = some k10 := by kernel_rfl
theorem r10 : rvsOf Try.prog Try.f10.results.toList = some [.tmp 2] := by kernel_rfl

/- flange/flangelaw21.HelloDecodes -/
abbrev k11_0 : MC :=
  .cond (.t 11) ((.seq (.reg [
     ⟨(some 12), none, .call 13 []⟩,
     ⟨(some 2), none, .val (.mv (.t 12))⟩] [2]) .ret)) (.skip)

abbrev k11_1 : MC :=
  .cond (.t 19) ((.seq (.reg [
     ⟨(some 20), none, .val (.load true 2 (.t 3))⟩,
     ⟨(some 21), none, .build [.nilSl, .nilSl] []⟩,
     ⟨(some 22), none, .call 18 [(.t 20), (.t 21)]⟩,
     ⟨(some 23), none, .val (.mv (.t 22))⟩,
     ⟨(some 24), (some (23, true)), .val (.mv (.t 4))⟩,
     ⟨(some 25), (some (23, true)), .val (.bin .eql .num (.t 24) (.c (.int .i64 4)))⟩,
     ⟨(some 26), none, .val (.pick (.t 23) (.t 25) (.c (.bool false)))⟩,
     ⟨(some 2), none, .val (.mv (.t 26))⟩] [2]) .ret)) (.skip)

abbrev k11_2 : MC :=
  (.seq (.drw [
    ⟨(some 27), none, .val (.load true 2 (.t 3))⟩,
    ⟨(some 28), none, .call 15 [(.t 27)]⟩,
    ⟨(some 29), none, .val (.bin .eql .num (.t 28) (.c (.int .i64 0)))⟩,
    ⟨(some 30), none, .val (.mv (.t 29))⟩,
    ⟨(some 31), (some (30, true)), .val (.load true 2 (.t 3))⟩,
    ⟨(some 32), (some (30, true)), .call 36 [(.t 31)]⟩,
    ⟨(some 33), (some (30, true)), .val (.b2s (.t 32))⟩,
    ⟨(some 34), (some (30, true)), .val (.mv (.t 0))⟩,
    ⟨(some 35), (some (30, true)), .val (.b2s (.t 34))⟩,
    ⟨(some 36), (some (30, true)), .val (.bin .eql .num (.t 33) (.t 35))⟩,
    ⟨(some 37), none, .val (.pick (.t 30) (.t 36) (.c (.bool false)))⟩,
    ⟨(some 2), none, .val (.mv (.t 37))⟩] [
] [2]) .ret)

abbrev k11_3 : MC :=
  (.seq ((.seq (.reg [
    ⟨(some 18), none, .val (.mv (.t 4))⟩,
    ⟨(some 19), none, .val (.bin .neq .num (.t 18) (.c (.int .i64 0)))⟩] [0, 3, 4, 19]) k11_1)) k11_2)

abbrev k11_4 : MC :=
  (.seq (.reg [
    ⟨(some 14), none, .val (.mv (.t 0))⟩,
    ⟨(some 15), none, .call 35 [(.t 14)]⟩,
    ⟨(some 13), none, .val (.mv (.t 15))⟩,
    ⟨(some 16), none, .val (.ext (.t 13) 0)⟩,
    ⟨(some 17), none, .val (.ext (.t 13) 1)⟩,
    ⟨(some 3), none, .zalloc [.nilSl, .nilSl]⟩,
    ⟨none, none, .store 2 (.t 3) (.t 16)⟩,
    ⟨(some 4), none, .val (.mv (.t 17))⟩] [0, 3, 4]) k11_3)

abbrev k11_5 : MC :=
  (.seq ((.seq (.reg [
    ⟨(some 5), none, .val (.mv (.t 0))⟩,
    ⟨(some 6), none, .val (.len .sl (.t 5))⟩,
    ⟨(some 7), none, .val (.bin .gtr .num (.t 6) (.c (.int .i64 600)))⟩,
    ⟨(some 8), none, .val (.mv (.t 7))⟩,
    ⟨(some 9), (some (8, false)), .call 13 []⟩,
    ⟨(some 10), (some (8, false)), .val (.not (.t 9))⟩,
    ⟨(some 11), none, .val (.pick (.t 8) (.c (.bool true)) (.t 10))⟩] [0, 11]) k11_0)) k11_4)
abbrev k11 : MC :=
  (.seq (.reg [
    ⟨(some 2), none, .val (.mv (.c (.bool false)))⟩] [0]) k11_5)
theorem c11 : Try.f11.body.bind (mcOf Try.prog (List.contains [] ·) (List.getD [([], [0]), ([], [0, 11]), ([], [2]), ([], [0, 3, 4]), ([], [0, 3, 4, 19]), ([], [2]), ([0, 0, 0, 0, 0, 0, 0, 0, 0, 0, 0, 0], [2])] · ([], [])) 38) = some k11 := by kernel_rfl
theorem r11 : rvsOf Try.prog Try.f11.results.toList = some [.tmp 2] := by kernel_rfl

theorem hcodes_calls {va : List Int} {sa : List (List UInt8)} {tv ts : Tok} (hl : sa.length < 9223372036854775808) (H : AH) :
    ACalls Try.prog 10 [.agg [.sl 1 (intsE va) tv, .sl 1 (strsE sa) ts]] H (fun o H' => o = .ret (.bool true) ∧ H' = H) := by
  refine ACalls.drop ?_
  refine acalls Try.func10 c10 r10 (by simp [Try.ntmps10]) ?_
  have gc := fun H => great_calls va sa tv ts hl H
  cases hg : greatS va sa
  · obtain ⟨g1, g2, g3⟩ := great_le hg
    have ec := fun H => hencode_calls (va := va) (sa := sa) (tv := tv) (ts := ts) (by omega) (by omega) (fun s h => by have := g3 s h; omega) H
    have rc := fun H => lright_calls va sa tv ts (by omega) (by omega) (fun s h => by have := g3 s h; omega) H
    have rc2 := fun H => right_calls va sa tv ts (by omega) (by omega) (fun s h => by have := g3 s h; omega) H
    by_cases hw : wrong va sa = 0
    · obtain ⟨w1, w2, w3, w4⟩ := wrong_le hw
      have er := encH_right hw
      have hlen : (encS (helloF va sa)).1.length ≤ 4096 := enc_len _
      have dc := fun H => hdecode_calls (b := (encS (helloF va sa)).1) (t := .no) (by omega) H
      have hd := dec_hello hw
      rw [er] at ec hd
      rw [hw] at rc rc2
      simp only at hd ec
      rw [hd] at dc
      have bc := fun H => lbytes_calls (va := va) (sa := sa) (tv := tv) (ts := ts) (by omega) (by omega) (fun s h => by have := g3 s h; omega) w3 H
      have sc := fun H => same_calls va sa va sa .no .no tv ts (by omega) (by omega) H
      repeat' (first | with_reducible refine am_seq ?_ | with_reducible refine am_block ?_ | ((with_reducible apply am_cond); (case hb => rfl); all_goals (intro hc; (try simp only [reduceCtorEq, decide_eq_true_eq, decide_eq_false_iff_not, Bool.or_eq_true, Bool.and_eq_true, Bool.or_eq_false_iff, Bool.not_eq_true', Bool.not_eq_false', beq_iff_eq] at hc); (try (exfalso; omega)))) | ((first | with_reducible refine am_reg ?_ | with_reducible refine am_drw ?_ | with_reducible refine am_skip ?_ | with_reducible refine am_exit ?_ | with_reducible refine am_ret ?_ | with_reducible refine And.intro (by first | exact AH.lec_refl _ | assumption | exact AccP.lec (by assumption) | omega) ?_ | with_reducible refine isnE_of (fun hc => ?_) (fun hc => ?_) (fun hc => ?_) | ((first | with_reducible refine gd_not (fun hc => ?_) (fun hc => ?_) | with_reducible refine gd_of (fun hc => ?_) (fun hc => ?_) | with_reducible refine gq_not (fun hc => ?_) (fun hc => ?_) | with_reducible refine gq_of (fun hc => ?_) (fun hc => ?_) | with_reducible refine pickB_of (fun hc => ?_) (fun hc => ?_)) <;> (try simp -implicitDefEqProofs (disch := omega) only [go_sem, eq_self, decide_true, decide_false, Nat.reduceBEq, Nat.reduceAdd, Nat.reduceSub, Nat.reduceMul, Nat.reduceEqDiff, Nat.reduceLeDiff, Nat.reduceLT, Int.reduceLE, Int.reduceLT, Int.reduceToNat, Int.reduceAdd, Int.reduceEq, Int.reduceNeg, AH.put_ne, hc, wrap_id, hg]) <;> (try simp only [reduceCtorEq, decide_eq_true_eq, decide_eq_false_iff_not, Bool.or_eq_true, Bool.and_eq_true, Bool.or_eq_false_iff, Bool.not_eq_true', Bool.not_eq_false', beq_iff_eq] at hc) <;> (try (exfalso; omega))) | ((with_reducible refine alloc_intro (fun ko hko => ?_)) <;> (try have hne := fresh_ne (by assumption) hko) <;> (try simp only [AH.put_none] at hko)) | ((first | (with_reducible refine vapp_accL (by assumption) ?_ (fun v2 H2 hacc hlec => ?_)) | (with_reducible refine vapp_accL (AccP.mono (by assumption) (AccP.le (by assumption))) ?_ (fun v2 H2 hacc hlec => ?_)) | (with_reducible refine vapp_accL (AccP.new (by assumption) (by assumption) _) ?_ (fun v2 H2 hacc hlec => ?_))); · simp only [byteCells_length, List.length_cons, List.length_nil, List.length_map, List.length_append, fldsE_length, blobsE_length, u64sE_length, intsE_length, strsE_length]; omega) | with_reducible refine need_elems (by assumption) ?_ | with_reducible refine vlen_acc (by assumption) ?_ | with_reducible refine need_bytes (by assumption) ?_ | (first | with_reducible refine call_of (gc) ?_ | with_reducible refine qcall_of (gc) ?_) | (first | with_reducible refine call_of (awake_calls) ?_ | with_reducible refine qcall_of (awake_calls) ?_) | (first | with_reducible refine call_of (ec) ?_ | with_reducible refine qcall_of (ec) ?_) | (first | with_reducible refine call_of (rc) ?_ | with_reducible refine qcall_of (rc) ?_) | (first | with_reducible refine call_of (dc) ?_ | with_reducible refine qcall_of (dc) ?_) | (first | with_reducible refine call_of (bc) ?_ | with_reducible refine qcall_of (bc) ?_) | (first | with_reducible refine call_of (sc) ?_ | with_reducible refine qcall_of (sc) ?_) | (first | with_reducible refine call_of (rc2) ?_ | with_reducible refine qcall_of (rc2) ?_) | with_reducible refine need_look (by assumption) ?_ | with_reducible refine need_look (look_put (by assumption) (by assumption)) ?_ | with_reducible refine need_look (look_lec (by assumption) (by assumption)) ?_ | with_reducible refine need_look (look_put (AH.put_same _ _ _) (by assumption)) ?_ | with_reducible refine need_look (look_lec (AH.put_same _ _ _) (by assumption)) ?_ | with_reducible refine need_look (look_put (look_put (by assumption) (by assumption)) (by assumption)) ?_ | with_reducible refine need_look (look_lec (look_put (by assumption) (by assumption)) (by assumption)) ?_ | with_reducible refine need_look (look_put (look_lec (by assumption) (by assumption)) (by assumption)) ?_ | with_reducible refine need_look (look_lec (look_lec (by assumption) (by assumption)) (by assumption)) ?_ | with_reducible refine need_look (look_put (look_put (AH.put_same _ _ _) (by assumption)) (by assumption)) ?_ | with_reducible refine need_look (look_lec (look_put (AH.put_same _ _ _) (by assumption)) (by assumption)) ?_ | with_reducible refine need_look (look_put (look_lec (AH.put_same _ _ _) (by assumption)) (by assumption)) ?_ | with_reducible refine need_look (look_lec (look_lec (AH.put_same _ _ _) (by assumption)) (by assumption)) ?_) <;> (try simp -implicitDefEqProofs (disch := omega) only [go_sem, eq_self, decide_true, decide_false, Nat.reduceBEq, Nat.reduceAdd, Nat.reduceSub, Nat.reduceMul, Nat.reduceEqDiff, Nat.reduceLeDiff, Nat.reduceLT, Int.reduceLE, Int.reduceLT, Int.reduceToNat, Int.reduceAdd, Int.reduceEq, Int.reduceNeg, AH.put_ne, wrap_id, hg])))
      all_goals first | exact drop_end (fun _ _ h => h) (AH.le_refl _) | exact drop_end (fun _ _ h => h) (AH.le_put (AH.le_refl _) (by assumption) _)
    · have er : encH va sa = ([], wrong va sa) := by rw [encH, if_pos hw]
      rw [er] at ec
      simp only at ec
      repeat' (first | with_reducible refine am_seq ?_ | with_reducible refine am_block ?_ | ((with_reducible apply am_cond); (case hb => rfl); all_goals (intro hc; (try simp only [reduceCtorEq, decide_eq_true_eq, decide_eq_false_iff_not, Bool.or_eq_true, Bool.and_eq_true, Bool.or_eq_false_iff, Bool.not_eq_true', Bool.not_eq_false', beq_iff_eq] at hc); (try (exfalso; omega)))) | ((first | with_reducible refine am_reg ?_ | with_reducible refine am_drw ?_ | with_reducible refine am_skip ?_ | with_reducible refine am_exit ?_ | with_reducible refine am_ret ?_ | with_reducible refine And.intro (by first | exact AH.lec_refl _ | assumption | exact AccP.lec (by assumption) | omega) ?_ | with_reducible refine isnE_of (fun hc => ?_) (fun hc => ?_) (fun hc => ?_) | ((first | with_reducible refine gd_not (fun hc => ?_) (fun hc => ?_) | with_reducible refine gd_of (fun hc => ?_) (fun hc => ?_) | with_reducible refine gq_not (fun hc => ?_) (fun hc => ?_) | with_reducible refine gq_of (fun hc => ?_) (fun hc => ?_) | with_reducible refine pickB_of (fun hc => ?_) (fun hc => ?_)) <;> (try simp -implicitDefEqProofs (disch := omega) only [go_sem, eq_self, decide_true, decide_false, Nat.reduceBEq, Nat.reduceAdd, Nat.reduceSub, Nat.reduceMul, Nat.reduceEqDiff, Nat.reduceLeDiff, Nat.reduceLT, Int.reduceLE, Int.reduceLT, Int.reduceToNat, Int.reduceAdd, Int.reduceEq, Int.reduceNeg, AH.put_ne, hc, wrap_id, hg]) <;> (try simp only [reduceCtorEq, decide_eq_true_eq, decide_eq_false_iff_not, Bool.or_eq_true, Bool.and_eq_true, Bool.or_eq_false_iff, Bool.not_eq_true', Bool.not_eq_false', beq_iff_eq] at hc) <;> (try (exfalso; omega))) | ((with_reducible refine alloc_intro (fun ko hko => ?_)) <;> (try have hne := fresh_ne (by assumption) hko) <;> (try simp only [AH.put_none] at hko)) | ((first | (with_reducible refine vapp_accL (by assumption) ?_ (fun v2 H2 hacc hlec => ?_)) | (with_reducible refine vapp_accL (AccP.mono (by assumption) (AccP.le (by assumption))) ?_ (fun v2 H2 hacc hlec => ?_)) | (with_reducible refine vapp_accL (AccP.new (by assumption) (by assumption) _) ?_ (fun v2 H2 hacc hlec => ?_))); · simp only [byteCells_length, List.length_cons, List.length_nil, List.length_map, List.length_append, fldsE_length, blobsE_length, u64sE_length, intsE_length, strsE_length]; omega) | with_reducible refine need_elems (by assumption) ?_ | with_reducible refine vlen_acc (by assumption) ?_ | with_reducible refine need_bytes (by assumption) ?_ | (first | with_reducible refine call_of (gc) ?_ | with_reducible refine qcall_of (gc) ?_) | (first | with_reducible refine call_of (awake_calls) ?_ | with_reducible refine qcall_of (awake_calls) ?_) | (first | with_reducible refine call_of (ec) ?_ | with_reducible refine qcall_of (ec) ?_) | (first | with_reducible refine call_of (rc) ?_ | with_reducible refine qcall_of (rc) ?_) | (first | with_reducible refine call_of (rc2) ?_ | with_reducible refine qcall_of (rc2) ?_) | with_reducible refine need_look (by assumption) ?_ | with_reducible refine need_look (look_put (by assumption) (by assumption)) ?_ | with_reducible refine need_look (look_lec (by assumption) (by assumption)) ?_ | with_reducible refine need_look (look_put (AH.put_same _ _ _) (by assumption)) ?_ | with_reducible refine need_look (look_lec (AH.put_same _ _ _) (by assumption)) ?_ | with_reducible refine need_look (look_put (look_put (by assumption) (by assumption)) (by assumption)) ?_ | with_reducible refine need_look (look_lec (look_put (by assumption) (by assumption)) (by assumption)) ?_ | with_reducible refine need_look (look_put (look_lec (by assumption) (by assumption)) (by assumption)) ?_ | with_reducible refine need_look (look_lec (look_lec (by assumption) (by assumption)) (by assumption)) ?_ | with_reducible refine need_look (look_put (look_put (AH.put_same _ _ _) (by assumption)) (by assumption)) ?_ | with_reducible refine need_look (look_lec (look_put (AH.put_same _ _ _) (by assumption)) (by assumption)) ?_ | with_reducible refine need_look (look_put (look_lec (AH.put_same _ _ _) (by assumption)) (by assumption)) ?_ | with_reducible refine need_look (look_lec (look_lec (AH.put_same _ _ _) (by assumption)) (by assumption)) ?_) <;> (try simp -implicitDefEqProofs (disch := omega) only [go_sem, eq_self, decide_true, decide_false, Nat.reduceBEq, Nat.reduceAdd, Nat.reduceSub, Nat.reduceMul, Nat.reduceEqDiff, Nat.reduceLeDiff, Nat.reduceLT, Int.reduceLE, Int.reduceLT, Int.reduceToNat, Int.reduceAdd, Int.reduceEq, Int.reduceNeg, AH.put_ne, wrap_id, hg])))
      all_goals first | exact drop_end (fun _ _ h => h) (AH.le_refl _) | exact drop_end (fun _ _ h => h) (AH.le_put (AH.le_refl _) (by assumption) _)
  · repeat' (first | with_reducible refine am_seq ?_ | with_reducible refine am_block ?_ | ((with_reducible apply am_cond); (case hb => rfl); all_goals (intro hc; (try simp only [reduceCtorEq, decide_eq_true_eq, decide_eq_false_iff_not, Bool.or_eq_true, Bool.and_eq_true, Bool.or_eq_false_iff, Bool.not_eq_true', Bool.not_eq_false', beq_iff_eq] at hc); (try (exfalso; omega)))) | ((first | with_reducible refine am_reg ?_ | with_reducible refine am_drw ?_ | with_reducible refine am_skip ?_ | with_reducible refine am_exit ?_ | with_reducible refine am_ret ?_ | with_reducible refine And.intro (by first | exact AH.lec_refl _ | assumption | exact AccP.lec (by assumption) | omega) ?_ | with_reducible refine isnE_of (fun hc => ?_) (fun hc => ?_) (fun hc => ?_) | ((first | with_reducible refine gd_not (fun hc => ?_) (fun hc => ?_) | with_reducible refine gd_of (fun hc => ?_) (fun hc => ?_) | with_reducible refine gq_not (fun hc => ?_) (fun hc => ?_) | with_reducible refine gq_of (fun hc => ?_) (fun hc => ?_) | with_reducible refine pickB_of (fun hc => ?_) (fun hc => ?_)) <;> (try simp -implicitDefEqProofs (disch := omega) only [go_sem, eq_self, decide_true, decide_false, Nat.reduceBEq, Nat.reduceAdd, Nat.reduceSub, Nat.reduceMul, Nat.reduceEqDiff, Nat.reduceLeDiff, Nat.reduceLT, Int.reduceLE, Int.reduceLT, Int.reduceToNat, Int.reduceAdd, Int.reduceEq, Int.reduceNeg, AH.put_ne, hc, wrap_id, hg]) <;> (try simp only [reduceCtorEq, decide_eq_true_eq, decide_eq_false_iff_not, Bool.or_eq_true, Bool.and_eq_true, Bool.or_eq_false_iff, Bool.not_eq_true', Bool.not_eq_false', beq_iff_eq] at hc) <;> (try (exfalso; omega))) | ((with_reducible refine alloc_intro (fun ko hko => ?_)) <;> (try have hne := fresh_ne (by assumption) hko) <;> (try simp only [AH.put_none] at hko)) | ((first | (with_reducible refine vapp_accL (by assumption) ?_ (fun v2 H2 hacc hlec => ?_)) | (with_reducible refine vapp_accL (AccP.mono (by assumption) (AccP.le (by assumption))) ?_ (fun v2 H2 hacc hlec => ?_)) | (with_reducible refine vapp_accL (AccP.new (by assumption) (by assumption) _) ?_ (fun v2 H2 hacc hlec => ?_))); · simp only [byteCells_length, List.length_cons, List.length_nil, List.length_map, List.length_append, fldsE_length, blobsE_length, u64sE_length, intsE_length, strsE_length]; omega) | with_reducible refine need_elems (by assumption) ?_ | with_reducible refine vlen_acc (by assumption) ?_ | with_reducible refine need_bytes (by assumption) ?_ | (first | with_reducible refine call_of (gc) ?_ | with_reducible refine qcall_of (gc) ?_) | (first | with_reducible refine call_of (awake_calls) ?_ | with_reducible refine qcall_of (awake_calls) ?_) | with_reducible refine need_look (by assumption) ?_ | with_reducible refine need_look (look_put (by assumption) (by assumption)) ?_ | with_reducible refine need_look (look_lec (by assumption) (by assumption)) ?_ | with_reducible refine need_look (look_put (AH.put_same _ _ _) (by assumption)) ?_ | with_reducible refine need_look (look_lec (AH.put_same _ _ _) (by assumption)) ?_ | with_reducible refine need_look (look_put (look_put (by assumption) (by assumption)) (by assumption)) ?_ | with_reducible refine need_look (look_lec (look_put (by assumption) (by assumption)) (by assumption)) ?_ | with_reducible refine need_look (look_put (look_lec (by assumption) (by assumption)) (by assumption)) ?_ | with_reducible refine need_look (look_lec (look_lec (by assumption) (by assumption)) (by assumption)) ?_ | with_reducible refine need_look (look_put (look_put (AH.put_same _ _ _) (by assumption)) (by assumption)) ?_ | with_reducible refine need_look (look_lec (look_put (AH.put_same _ _ _) (by assumption)) (by assumption)) ?_ | with_reducible refine need_look (look_put (look_lec (AH.put_same _ _ _) (by assumption)) (by assumption)) ?_ | with_reducible refine need_look (look_lec (look_lec (AH.put_same _ _ _) (by assumption)) (by assumption)) ?_) <;> (try simp -implicitDefEqProofs (disch := omega) only [go_sem, eq_self, decide_true, decide_false, Nat.reduceBEq, Nat.reduceAdd, Nat.reduceSub, Nat.reduceMul, Nat.reduceEqDiff, Nat.reduceLeDiff, Nat.reduceLT, Int.reduceLE, Int.reduceLT, Int.reduceToNat, Int.reduceAdd, Int.reduceEq, Int.reduceNeg, AH.put_ne, wrap_id, hg])))
    all_goals first | exact drop_end (fun _ _ h => h) (AH.le_refl _) | exact drop_end (fun _ _ h => h) (AH.le_put (AH.le_refl _) (by assumption) _)
theorem hdecodes_calls {b : List UInt8} {t : Tok} (hl : b.length < 9223372036854775808) (H : AH) :
    ACalls Try.prog 11 [.sl 1 (byteCells b) t] H (fun o H' => o = .ret (.bool true) ∧ H' = H) := by
  refine ACalls.drop ?_
  refine acalls Try.func11 c11 r11 (by simp [Try.ntmps11]) ?_
  by_cases hg : 600 < b.length
  · repeat' (first | with_reducible refine am_seq ?_ | with_reducible refine am_block ?_ | ((with_reducible apply am_cond); (case hb => rfl); all_goals (intro hc; (try simp only [reduceCtorEq, decide_eq_true_eq, decide_eq_false_iff_not, Bool.or_eq_true, Bool.and_eq_true, Bool.or_eq_false_iff, Bool.not_eq_true', Bool.not_eq_false', beq_iff_eq] at hc); (try (exfalso; omega)))) | ((first | with_reducible refine am_reg ?_ | with_reducible refine am_drw ?_ | with_reducible refine am_skip ?_ | with_reducible refine am_exit ?_ | with_reducible refine am_ret ?_ | with_reducible refine And.intro (by first | exact AH.lec_refl _ | assumption | exact AccP.lec (by assumption) | omega) ?_ | with_reducible refine isnE_of (fun hc => ?_) (fun hc => ?_) (fun hc => ?_) | ((first | with_reducible refine gd_not (fun hc => ?_) (fun hc => ?_) | with_reducible refine gd_of (fun hc => ?_) (fun hc => ?_) | with_reducible refine gq_not (fun hc => ?_) (fun hc => ?_) | with_reducible refine gq_of (fun hc => ?_) (fun hc => ?_) | with_reducible refine pickB_of (fun hc => ?_) (fun hc => ?_)) <;> (try simp -implicitDefEqProofs (disch := omega) only [go_sem, eq_self, decide_true, decide_false, Nat.reduceBEq, Nat.reduceAdd, Nat.reduceSub, Nat.reduceMul, Nat.reduceEqDiff, Nat.reduceLeDiff, Nat.reduceLT, Int.reduceLE, Int.reduceLT, Int.reduceToNat, Int.reduceAdd, Int.reduceEq, Int.reduceNeg, AH.put_ne, hc, wrap_id]) <;> (try simp only [reduceCtorEq, decide_eq_true_eq, decide_eq_false_iff_not, Bool.or_eq_true, Bool.and_eq_true, Bool.or_eq_false_iff, Bool.not_eq_true', Bool.not_eq_false', beq_iff_eq] at hc) <;> (try (exfalso; omega))) | ((with_reducible refine alloc_intro (fun ko hko => ?_)) <;> (try have hne := fresh_ne (by assumption) hko) <;> (try simp only [AH.put_none] at hko)) | ((first | (with_reducible refine vapp_accL (by assumption) ?_ (fun v2 H2 hacc hlec => ?_)) | (with_reducible refine vapp_accL (AccP.mono (by assumption) (AccP.le (by assumption))) ?_ (fun v2 H2 hacc hlec => ?_)) | (with_reducible refine vapp_accL (AccP.new (by assumption) (by assumption) _) ?_ (fun v2 H2 hacc hlec => ?_))); · simp only [byteCells_length, List.length_cons, List.length_nil, List.length_map, List.length_append, fldsE_length, blobsE_length, u64sE_length, intsE_length, strsE_length]; omega) | with_reducible refine need_elems (by assumption) ?_ | with_reducible refine vlen_acc (by assumption) ?_ | with_reducible refine need_bytes (by assumption) ?_ | (first | with_reducible refine call_of (awake_calls) ?_ | with_reducible refine qcall_of (awake_calls) ?_) | with_reducible refine need_look (by assumption) ?_ | with_reducible refine need_look (look_put (by assumption) (by assumption)) ?_ | with_reducible refine need_look (look_lec (by assumption) (by assumption)) ?_ | with_reducible refine need_look (look_put (AH.put_same _ _ _) (by assumption)) ?_ | with_reducible refine need_look (look_lec (AH.put_same _ _ _) (by assumption)) ?_ | with_reducible refine need_look (look_put (look_put (by assumption) (by assumption)) (by assumption)) ?_ | with_reducible refine need_look (look_lec (look_put (by assumption) (by assumption)) (by assumption)) ?_ | with_reducible refine need_look (look_put (look_lec (by assumption) (by assumption)) (by assumption)) ?_ | with_reducible refine need_look (look_lec (look_lec (by assumption) (by assumption)) (by assumption)) ?_ | with_reducible refine need_look (look_put (look_put (AH.put_same _ _ _) (by assumption)) (by assumption)) ?_ | with_reducible refine need_look (look_lec (look_put (AH.put_same _ _ _) (by assumption)) (by assumption)) ?_ | with_reducible refine need_look (look_put (look_lec (AH.put_same _ _ _) (by assumption)) (by assumption)) ?_ | with_reducible refine need_look (look_lec (look_lec (AH.put_same _ _ _) (by assumption)) (by assumption)) ?_) <;> (try simp -implicitDefEqProofs (disch := omega) only [go_sem, eq_self, decide_true, decide_false, Nat.reduceBEq, Nat.reduceAdd, Nat.reduceSub, Nat.reduceMul, Nat.reduceEqDiff, Nat.reduceLeDiff, Nat.reduceLT, Int.reduceLE, Int.reduceLT, Int.reduceToNat, Int.reduceAdd, Int.reduceEq, Int.reduceNeg, AH.put_ne, wrap_id])))
    all_goals first | exact drop_end (fun _ _ h => h) (AH.le_refl _) | exact drop_end (fun _ _ h => h) (AH.le_put (AH.le_refl _) (by assumption) _)
  · have dc := fun H => hdecode_calls (b := b) (t := t) (by omega) H
    by_cases hz : (decH b).2.2 = 0
    · obtain ⟨w0, hbk⟩ := decH_good hz
      obtain ⟨w1, w2, w3, w4⟩ := wrong_le w0
      have rc := fun H => lright_calls (decH b).1 (decH b).2.1 .no .no (by omega) (by omega) (fun s h => by have := w4 s h; omega) H
      have bc := fun H => lbytes_calls (va := (decH b).1) (sa := (decH b).2.1) (tv := .no) (ts := .no) (by omega) (by omega) (fun s h => by have := w4 s h; omega) w3 H
      rw [w0] at rc
      rw [hbk] at bc
      repeat' (first | with_reducible refine am_seq ?_ | with_reducible refine am_block ?_ | ((with_reducible apply am_cond); (case hb => rfl); all_goals (intro hc; (try simp only [reduceCtorEq, decide_eq_true_eq, decide_eq_false_iff_not, Bool.or_eq_true, Bool.and_eq_true, Bool.or_eq_false_iff, Bool.not_eq_true', Bool.not_eq_false', beq_iff_eq] at hc); (try (exfalso; omega)))) | ((first | with_reducible refine am_reg ?_ | with_reducible refine am_drw ?_ | with_reducible refine am_skip ?_ | with_reducible refine am_exit ?_ | with_reducible refine am_ret ?_ | with_reducible refine And.intro (by first | exact AH.lec_refl _ | assumption | exact AccP.lec (by assumption) | omega) ?_ | with_reducible refine isnE_of (fun hc => ?_) (fun hc => ?_) (fun hc => ?_) | ((first | with_reducible refine gd_not (fun hc => ?_) (fun hc => ?_) | with_reducible refine gd_of (fun hc => ?_) (fun hc => ?_) | with_reducible refine gq_not (fun hc => ?_) (fun hc => ?_) | with_reducible refine gq_of (fun hc => ?_) (fun hc => ?_) | with_reducible refine pickB_of (fun hc => ?_) (fun hc => ?_)) <;> (try simp -implicitDefEqProofs (disch := omega) only [go_sem, eq_self, decide_true, decide_false, Nat.reduceBEq, Nat.reduceAdd, Nat.reduceSub, Nat.reduceMul, Nat.reduceEqDiff, Nat.reduceLeDiff, Nat.reduceLT, Int.reduceLE, Int.reduceLT, Int.reduceToNat, Int.reduceAdd, Int.reduceEq, Int.reduceNeg, AH.put_ne, hc, wrap_id]) <;> (try simp only [reduceCtorEq, decide_eq_true_eq, decide_eq_false_iff_not, Bool.or_eq_true, Bool.and_eq_true, Bool.or_eq_false_iff, Bool.not_eq_true', Bool.not_eq_false', beq_iff_eq] at hc) <;> (try (exfalso; omega))) | ((with_reducible refine alloc_intro (fun ko hko => ?_)) <;> (try have hne := fresh_ne (by assumption) hko) <;> (try simp only [AH.put_none] at hko)) | ((first | (with_reducible refine vapp_accL (by assumption) ?_ (fun v2 H2 hacc hlec => ?_)) | (with_reducible refine vapp_accL (AccP.mono (by assumption) (AccP.le (by assumption))) ?_ (fun v2 H2 hacc hlec => ?_)) | (with_reducible refine vapp_accL (AccP.new (by assumption) (by assumption) _) ?_ (fun v2 H2 hacc hlec => ?_))); · simp only [byteCells_length, List.length_cons, List.length_nil, List.length_map, List.length_append, fldsE_length, blobsE_length, u64sE_length, intsE_length, strsE_length]; omega) | with_reducible refine need_elems (by assumption) ?_ | with_reducible refine vlen_acc (by assumption) ?_ | with_reducible refine need_bytes (by assumption) ?_ | (first | with_reducible refine call_of (awake_calls) ?_ | with_reducible refine qcall_of (awake_calls) ?_) | (first | with_reducible refine call_of (dc) ?_ | with_reducible refine qcall_of (dc) ?_) | (first | with_reducible refine call_of (rc) ?_ | with_reducible refine qcall_of (rc) ?_) | (first | with_reducible refine call_of (bc) ?_ | with_reducible refine qcall_of (bc) ?_) | with_reducible refine need_look (by assumption) ?_ | with_reducible refine need_look (look_put (by assumption) (by assumption)) ?_ | with_reducible refine need_look (look_lec (by assumption) (by assumption)) ?_ | with_reducible refine need_look (look_put (AH.put_same _ _ _) (by assumption)) ?_ | with_reducible refine need_look (look_lec (AH.put_same _ _ _) (by assumption)) ?_ | with_reducible refine need_look (look_put (look_put (by assumption) (by assumption)) (by assumption)) ?_ | with_reducible refine need_look (look_lec (look_put (by assumption) (by assumption)) (by assumption)) ?_ | with_reducible refine need_look (look_put (look_lec (by assumption) (by assumption)) (by assumption)) ?_ | with_reducible refine need_look (look_lec (look_lec (by assumption) (by assumption)) (by assumption)) ?_ | with_reducible refine need_look (look_put (look_put (AH.put_same _ _ _) (by assumption)) (by assumption)) ?_ | with_reducible refine need_look (look_lec (look_put (AH.put_same _ _ _) (by assumption)) (by assumption)) ?_ | with_reducible refine need_look (look_put (look_lec (AH.put_same _ _ _) (by assumption)) (by assumption)) ?_ | with_reducible refine need_look (look_lec (look_lec (AH.put_same _ _ _) (by assumption)) (by assumption)) ?_) <;> (try simp -implicitDefEqProofs (disch := omega) only [go_sem, eq_self, decide_true, decide_false, Nat.reduceBEq, Nat.reduceAdd, Nat.reduceSub, Nat.reduceMul, Nat.reduceEqDiff, Nat.reduceLeDiff, Nat.reduceLT, Int.reduceLE, Int.reduceLT, Int.reduceToNat, Int.reduceAdd, Int.reduceEq, Int.reduceNeg, AH.put_ne, wrap_id])))
      all_goals first | exact drop_end (fun _ _ h => h) (AH.le_refl _) | exact drop_end (fun _ _ h => h) (AH.le_put (AH.le_refl _) (by assumption) _)
    · have hb := decH_bad hz
      rw [hb] at dc
      have sc := fun H => same_calls [] [] [] [] .no .no .no .no (by simp) (by simp) H
      have sc2 := fun H => ACalls.sub (fun s => .cons (fun _ h => h) (.cons (agg_sub rfl (.cons (fun _ h => nil_no _ h) (.cons (fun _ h => nil_no _ h) .nil))) .nil)) (sc H)
      repeat' (first | with_reducible refine am_seq ?_ | with_reducible refine am_block ?_ | ((with_reducible apply am_cond); (case hb => rfl); all_goals (intro hc; (try simp only [reduceCtorEq, decide_eq_true_eq, decide_eq_false_iff_not, Bool.or_eq_true, Bool.and_eq_true, Bool.or_eq_false_iff, Bool.not_eq_true', Bool.not_eq_false', beq_iff_eq] at hc); (try (exfalso; omega)))) | ((first | with_reducible refine am_reg ?_ | with_reducible refine am_drw ?_ | with_reducible refine am_skip ?_ | with_reducible refine am_exit ?_ | with_reducible refine am_ret ?_ | with_reducible refine And.intro (by first | exact AH.lec_refl _ | assumption | exact AccP.lec (by assumption) | omega) ?_ | with_reducible refine isnE_of (fun hc => ?_) (fun hc => ?_) (fun hc => ?_) | ((first | with_reducible refine gd_not (fun hc => ?_) (fun hc => ?_) | with_reducible refine gd_of (fun hc => ?_) (fun hc => ?_) | with_reducible refine gq_not (fun hc => ?_) (fun hc => ?_) | with_reducible refine gq_of (fun hc => ?_) (fun hc => ?_) | with_reducible refine pickB_of (fun hc => ?_) (fun hc => ?_)) <;> (try simp -implicitDefEqProofs (disch := omega) only [go_sem, eq_self, decide_true, decide_false, Nat.reduceBEq, Nat.reduceAdd, Nat.reduceSub, Nat.reduceMul, Nat.reduceEqDiff, Nat.reduceLeDiff, Nat.reduceLT, Int.reduceLE, Int.reduceLT, Int.reduceToNat, Int.reduceAdd, Int.reduceEq, Int.reduceNeg, AH.put_ne, hc, wrap_id]) <;> (try simp only [reduceCtorEq, decide_eq_true_eq, decide_eq_false_iff_not, Bool.or_eq_true, Bool.and_eq_true, Bool.or_eq_false_iff, Bool.not_eq_true', Bool.not_eq_false', beq_iff_eq] at hc) <;> (try (exfalso; omega))) | ((with_reducible refine alloc_intro (fun ko hko => ?_)) <;> (try have hne := fresh_ne (by assumption) hko) <;> (try simp only [AH.put_none] at hko)) | ((first | (with_reducible refine vapp_accL (by assumption) ?_ (fun v2 H2 hacc hlec => ?_)) | (with_reducible refine vapp_accL (AccP.mono (by assumption) (AccP.le (by assumption))) ?_ (fun v2 H2 hacc hlec => ?_)) | (with_reducible refine vapp_accL (AccP.new (by assumption) (by assumption) _) ?_ (fun v2 H2 hacc hlec => ?_))); · simp only [byteCells_length, List.length_cons, List.length_nil, List.length_map, List.length_append, fldsE_length, blobsE_length, u64sE_length, intsE_length, strsE_length]; omega) | with_reducible refine need_elems (by assumption) ?_ | with_reducible refine vlen_acc (by assumption) ?_ | with_reducible refine need_bytes (by assumption) ?_ | (first | with_reducible refine call_of (awake_calls) ?_ | with_reducible refine qcall_of (awake_calls) ?_) | (first | with_reducible refine call_of (dc) ?_ | with_reducible refine qcall_of (dc) ?_) | (first | with_reducible refine call_of (sc2) ?_ | with_reducible refine qcall_of (sc2) ?_) | with_reducible refine need_look (by assumption) ?_ | with_reducible refine need_look (look_put (by assumption) (by assumption)) ?_ | with_reducible refine need_look (look_lec (by assumption) (by assumption)) ?_ | with_reducible refine need_look (look_put (AH.put_same _ _ _) (by assumption)) ?_ | with_reducible refine need_look (look_lec (AH.put_same _ _ _) (by assumption)) ?_ | with_reducible refine need_look (look_put (look_put (by assumption) (by assumption)) (by assumption)) ?_ | with_reducible refine need_look (look_lec (look_put (by assumption) (by assumption)) (by assumption)) ?_ | with_reducible refine need_look (look_put (look_lec (by assumption) (by assumption)) (by assumption)) ?_ | with_reducible refine need_look (look_lec (look_lec (by assumption) (by assumption)) (by assumption)) ?_ | with_reducible refine need_look (look_put (look_put (AH.put_same _ _ _) (by assumption)) (by assumption)) ?_ | with_reducible refine need_look (look_lec (look_put (AH.put_same _ _ _) (by assumption)) (by assumption)) ?_ | with_reducible refine need_look (look_put (look_lec (AH.put_same _ _ _) (by assumption)) (by assumption)) ?_ | with_reducible refine need_look (look_lec (look_lec (AH.put_same _ _ _) (by assumption)) (by assumption)) ?_) <;> (try simp -implicitDefEqProofs (disch := omega) only [go_sem, eq_self, decide_true, decide_false, Nat.reduceBEq, Nat.reduceAdd, Nat.reduceSub, Nat.reduceMul, Nat.reduceEqDiff, Nat.reduceLeDiff, Nat.reduceLT, Int.reduceLE, Int.reduceLT, Int.reduceToNat, Int.reduceAdd, Int.reduceEq, Int.reduceNeg, AH.put_ne, wrap_id])))
      all_goals first | exact drop_end (fun _ _ h => h) (AH.le_refl _) | exact drop_end (fun _ _ h => h) (AH.le_put (AH.le_refl _) (by assumption) _)
end Go.Proofs.Ytmomncmddejcoaa
