/- Of the walks of this seat: contracts of functions of the given program, proved over the abstract values of the texts Vm. Conditions: as each theorem says. -/
import Derived.Test.YtjlphncecdlmcaaVm28
import Derived.Test.YtjlphncecdlmcaaProg
set_option linter.unusedVariables false
set_option linter.unusedSimpArgs false
namespace Go.Proofs.Ytjlphncecdlmcaa
open Go.Vm
attribute [local go_sem] List.drop_zero toNat_succ Nat.sub_zero Int.toNat_natCast Option.map_some Int.natCast_nonneg decide_eq_true_eq decide_eq_false_iff_not
/- cmp.isNaN[int] -/
abbrev k145_0 : MC :=
  (.seq (.reg [
    ⟨(some 3), none, .val (.mv (.t 0))⟩,
    ⟨(some 4), none, .val (.mv (.t 0))⟩,
    ⟨(some 5), none, .val (.bin .neq .num (.t 3) (.t 4))⟩,
    ⟨(some 2), none, .val (.mv (.t 5))⟩] [2]) (.ret))
abbrev k145 : MC :=
  (.seq (.reg [
    ⟨(some 2), none, .val (.mv (.c (.bool false)))⟩] [0]) k145_0)
theorem c145 : Try.f145.body.bind (mcOf Try.prog (List.contains [] ·) (List.getD [([], [0]), ([], [2])] · ([], [])) 6) = some k145 := by kernel_rfl
theorem r145 : rvsOf Try.prog Try.f145.results.toList = some [.tmp 2] := by kernel_rfl

/- cmp.isNaN[string] -/
abbrev k146_0 : MC :=
  (.seq (.reg [
    ⟨(some 3), none, .val (.mv (.t 0))⟩,
    ⟨(some 4), none, .val (.mv (.t 0))⟩,
    ⟨(some 5), none, .val (.bin .neq .num (.t 3) (.t 4))⟩,
    ⟨(some 2), none, .val (.mv (.t 5))⟩] [2]) (.ret))
abbrev k146 : MC :=
  (.seq (.reg [
    ⟨(some 2), none, .val (.mv (.c (.bool false)))⟩] [0]) k146_0)
theorem c146 : Try.f146.body.bind (mcOf Try.prog (List.contains [] ·) (List.getD [([], [0]), ([], [2])] · ([], [])) 6) = some k146 := by kernel_rfl
theorem r146 : rvsOf Try.prog Try.f146.results.toList = some [.tmp 2] := by kernel_rfl

/- cmp.Compare[int] -/
abbrev k124_0 : MC :=
  .cond (.t 12) ((.seq (.reg [
     ⟨(some 4), none, .val (.mv (.c (.int .i64 0)))⟩] [4]) (.ret))) (.skip)

abbrev k124_1 : MC :=
  (.seq (.reg [
    ⟨(some 4), none, .val (.mv (.c (.int .i64 (-1))))⟩] [4]) (.ret))

abbrev k124_2 : MC :=
  .cond (.t 11) ((.seq ((.seq (.reg [
     ⟨(some 12), none, .val (.mv (.t 6))⟩] [12]) k124_0)) k124_1)) (.skip)

abbrev k124_3 : MC :=
  .cond (.t 13) ((.seq (.reg [
     ⟨(some 4), none, .val (.mv (.c (.int .i64 1)))⟩] [4]) (.ret))) (.skip)

abbrev k124_4 : MC :=
  .cond (.t 16) ((.seq (.reg [
     ⟨(some 4), none, .val (.mv (.c (.int .i64 (-1))))⟩] [4]) (.ret))) (.skip)

abbrev k124_5 : MC :=
  .cond (.t 19) ((.seq (.reg [
     ⟨(some 4), none, .val (.mv (.c (.int .i64 1)))⟩] [4]) (.ret))) (.skip)

abbrev k124_6 : MC :=
  (.seq (.reg [
    ⟨(some 4), none, .val (.mv (.c (.int .i64 0)))⟩] [4]) (.ret))

abbrev k124_7 : MC :=
  (.seq ((.seq (.reg [
    ⟨(some 17), none, .val (.mv (.t 0))⟩,
    ⟨(some 18), none, .val (.mv (.t 1))⟩,
    ⟨(some 19), none, .val (.bin .gtr .num (.t 17) (.t 18))⟩] [19]) k124_5)) k124_6)

abbrev k124_8 : MC :=
  (.seq ((.seq (.reg [
    ⟨(some 14), none, .val (.mv (.t 0))⟩,
    ⟨(some 15), none, .val (.mv (.t 1))⟩,
    ⟨(some 16), none, .val (.bin .lss .num (.t 14) (.t 15))⟩] [0, 1, 16]) k124_4)) k124_7)

abbrev k124_9 : MC :=
  (.seq ((.seq (.reg [
    ⟨(some 13), none, .val (.mv (.t 6))⟩] [0, 1, 13]) k124_3)) k124_8)

abbrev k124_10 : MC :=
  (.seq ((.seq (.reg [
    ⟨(some 11), none, .val (.mv (.t 5))⟩] [0, 1, 6, 11]) k124_2)) k124_9)

abbrev k124_11 : MC :=
  (.seq (.reg [
    ⟨(some 9), none, .val (.mv (.t 1))⟩,
    ⟨(some 10), none, .call 145 [(.t 9)]⟩,
    ⟨(some 6), none, .val (.mv (.t 10))⟩] [0, 1, 5, 6]) k124_10)

abbrev k124_12 : MC :=
  (.seq (.reg [
    ⟨(some 7), none, .val (.mv (.t 0))⟩,
    ⟨(some 8), none, .call 145 [(.t 7)]⟩,
    ⟨(some 5), none, .val (.mv (.t 8))⟩] [0, 1, 5]) k124_11)
abbrev k124 : MC :=
  (.seq (.reg [
    ⟨(some 4), none, .val (.mv (.c (.int .i64 0)))⟩] [0, 1]) k124_12)
theorem c124 : Try.f124.body.bind (mcOf Try.prog (List.contains [] ·) (List.getD [([], [0, 1]), ([], [0, 1, 5]), ([], [0, 1, 5, 6]), ([], [0, 1, 6, 11]), ([], [12]), ([], [4]), ([], [4]), ([], [0, 1, 13]), ([], [4]), ([], [0, 1, 16]), ([], [4]), ([], [19]), ([], [4]), ([], [4])] · ([], [])) 20) = some k124 := by kernel_rfl
theorem r124 : rvsOf Try.prog Try.f124.results.toList = some [.tmp 4] := by kernel_rfl

/- cmp.Compare[string] -/
abbrev k125_0 : MC :=
  .cond (.t 12) ((.seq (.reg [
     ⟨(some 4), none, .val (.mv (.c (.int .i64 0)))⟩] [4]) (.ret))) (.skip)

abbrev k125_1 : MC :=
  (.seq (.reg [
    ⟨(some 4), none, .val (.mv (.c (.int .i64 (-1))))⟩] [4]) (.ret))

abbrev k125_2 : MC :=
  .cond (.t 11) ((.seq ((.seq (.reg [
     ⟨(some 12), none, .val (.mv (.t 6))⟩] [12]) k125_0)) k125_1)) (.skip)

abbrev k125_3 : MC :=
  .cond (.t 13) ((.seq (.reg [
     ⟨(some 4), none, .val (.mv (.c (.int .i64 1)))⟩] [4]) (.ret))) (.skip)

abbrev k125_4 : MC :=
  .cond (.t 16) ((.seq (.reg [
     ⟨(some 4), none, .val (.mv (.c (.int .i64 (-1))))⟩] [4]) (.ret))) (.skip)

abbrev k125_5 : MC :=
  .cond (.t 19) ((.seq (.reg [
     ⟨(some 4), none, .val (.mv (.c (.int .i64 1)))⟩] [4]) (.ret))) (.skip)

abbrev k125_6 : MC :=
  (.seq (.reg [
    ⟨(some 4), none, .val (.mv (.c (.int .i64 0)))⟩] [4]) (.ret))

abbrev k125_7 : MC :=
  (.seq ((.seq (.reg [
    ⟨(some 17), none, .val (.mv (.t 0))⟩,
    ⟨(some 18), none, .val (.mv (.t 1))⟩,
    ⟨(some 19), none, .val (.bin .gtr .num (.t 17) (.t 18))⟩] [19]) k125_5)) k125_6)

abbrev k125_8 : MC :=
  (.seq ((.seq (.reg [
    ⟨(some 14), none, .val (.mv (.t 0))⟩,
    ⟨(some 15), none, .val (.mv (.t 1))⟩,
    ⟨(some 16), none, .val (.bin .lss .num (.t 14) (.t 15))⟩] [0, 1, 16]) k125_4)) k125_7)

abbrev k125_9 : MC :=
  (.seq ((.seq (.reg [
    ⟨(some 13), none, .val (.mv (.t 6))⟩] [0, 1, 13]) k125_3)) k125_8)

abbrev k125_10 : MC :=
  (.seq ((.seq (.reg [
    ⟨(some 11), none, .val (.mv (.t 5))⟩] [0, 1, 6, 11]) k125_2)) k125_9)

abbrev k125_11 : MC :=
  (.seq (.reg [
    ⟨(some 9), none, .val (.mv (.t 1))⟩,
    ⟨(some 10), none, .call 146 [(.t 9)]⟩,
    ⟨(some 6), none, .val (.mv (.t 10))⟩] [0, 1, 5, 6]) k125_10)

abbrev k125_12 : MC :=
  (.seq (.reg [
    ⟨(some 7), none, .val (.mv (.t 0))⟩,
    ⟨(some 8), none, .call 146 [(.t 7)]⟩,
    ⟨(some 5), none, .val (.mv (.t 8))⟩] [0, 1, 5]) k125_11)
abbrev k125 : MC :=
  (.seq (.reg [
    ⟨(some 4), none, .val (.mv (.c (.int .i64 0)))⟩] [0, 1]) k125_12)
theorem c125 : Try.f125.body.bind (mcOf Try.prog (List.contains [] ·) (List.getD [([], [0, 1]), ([], [0, 1, 5]), ([], [0, 1, 5, 6]), ([], [0, 1, 6, 11]), ([], [12]), ([], [4]), ([], [4]), ([], [0, 1, 13]), ([], [4]), ([], [0, 1, 16]), ([], [4]), ([], [19]), ([], [4]), ([], [4])] · ([], [])) 20) = some k125 := by kernel_rfl
theorem r125 : rvsOf Try.prog Try.f125.results.toList = some [.tmp 4] := by kernel_rfl

def cmpI (x y : Int) : Int := if x < y then -1 else if y < x then 1 else 0
def cmpS (x y : List UInt8) : Int := if Op.bytesLess x y = true then -1 else if x = y then 0 else 1
theorem nan_calls {x : Int} (H : AH) : ACalls Try.prog 145 [.int .i64 x] H (fun o H' => o = .ret (.bool false) ∧ H' = H) := by
  refine ACalls.drop ?_
  refine acalls Try.func145 c145 r145 (by simp [Try.ntmps145]) ?_
  repeat' (first | with_reducible refine am_seq ?_ | with_reducible refine am_block ?_ | ((with_reducible apply am_cond); (case hb => rfl); all_goals (intro hc; (try simp only [reduceCtorEq, decide_eq_true_eq, decide_eq_false_iff_not, Bool.or_eq_true, Bool.and_eq_true, Bool.or_eq_false_iff, Bool.not_eq_true', Bool.not_eq_false', beq_iff_eq] at hc); (try (exfalso; omega)))) | ((first | with_reducible refine am_reg ?_ | with_reducible refine am_drw ?_ | with_reducible refine am_drx ?_ | with_reducible refine am_skip ?_ | with_reducible refine am_exit ?_ | with_reducible refine am_ret ?_ | with_reducible refine And.intro (by first | exact AH.lec_refl _ | assumption | exact AccP.lec (by assumption) | omega) ?_ | with_reducible refine isnE_of (fun hc => ?_) (fun hc => ?_) (fun hc => ?_) | ((first | with_reducible refine gd_not (fun hc => ?_) (fun hc => ?_) | with_reducible refine gd_of (fun hc => ?_) (fun hc => ?_) | with_reducible refine gq_not (fun hc => ?_) (fun hc => ?_) | with_reducible refine gq_of (fun hc => ?_) (fun hc => ?_) | with_reducible refine pickB_of (fun hc => ?_) (fun hc => ?_)) <;> (try simp -implicitDefEqProofs (disch := omega) only [go_sem, eq_self, decide_true, decide_false, Nat.reduceBEq, Nat.reduceAdd, Nat.reduceSub, Nat.reduceMul, Nat.reduceEqDiff, Nat.reduceLeDiff, Nat.reduceLT, Int.reduceLE, Int.reduceLT, Int.reduceToNat, Int.reduceAdd, Int.reduceEq, Int.reduceNeg, AH.put_ne, hc]) <;> (try simp only [reduceCtorEq, decide_eq_true_eq, decide_eq_false_iff_not, Bool.or_eq_true, Bool.and_eq_true, Bool.or_eq_false_iff, Bool.not_eq_true', Bool.not_eq_false', beq_iff_eq] at hc) <;> (try (exfalso; omega))) | ((with_reducible refine alloc_intro (fun ko hko => ?_)) <;> (try have hne := fresh_ne (by assumption) hko) <;> (try have hnk := fresh_ne hk hko) <;> (try have hnk2 := fresh_ne hk2 hko) <;> (try simp only [AH.put_none] at hko)) | ((first | (with_reducible refine vapp_accL (by assumption) ?_ (fun v2 H2 hacc hlec => ?_)) | (with_reducible refine vapp_accL (AccP.mono (by assumption) (AccP.le (by assumption))) ?_ (fun v2 H2 hacc hlec => ?_)) | (with_reducible refine vapp_accL (AccP.new (by assumption) (by assumption) _) ?_ (fun v2 H2 hacc hlec => ?_))); · simp only [byteCells_length, List.length_cons, List.length_nil, List.length_map, List.length_append]; omega) | with_reducible refine need_elems (by assumption) ?_ | with_reducible refine vlen_acc (by assumption) ?_ | with_reducible refine need_bytes (by assumption) ?_ | with_reducible refine need_look (by assumption) ?_ | with_reducible refine need_look (look_put (by assumption) (by assumption)) ?_ | with_reducible refine need_look (look_lec (by assumption) (by assumption)) ?_ | with_reducible refine need_look (look_put (AH.put_same _ _ _) (by assumption)) ?_ | with_reducible refine need_look (look_lec (AH.put_same _ _ _) (by assumption)) ?_ | with_reducible refine need_look (look_put (look_put (by assumption) (by assumption)) (by assumption)) ?_ | with_reducible refine need_look (look_lec (look_put (by assumption) (by assumption)) (by assumption)) ?_ | with_reducible refine need_look (look_put (look_lec (by assumption) (by assumption)) (by assumption)) ?_ | with_reducible refine need_look (look_lec (look_lec (by assumption) (by assumption)) (by assumption)) ?_ | with_reducible refine need_look (look_put (look_put (AH.put_same _ _ _) (by assumption)) (by assumption)) ?_ | with_reducible refine need_look (look_lec (look_put (AH.put_same _ _ _) (by assumption)) (by assumption)) ?_ | with_reducible refine need_look (look_put (look_lec (AH.put_same _ _ _) (by assumption)) (by assumption)) ?_ | with_reducible refine need_look (look_lec (look_lec (AH.put_same _ _ _) (by assumption)) (by assumption)) ?_) <;> (try simp -implicitDefEqProofs (disch := omega) only [go_sem, eq_self, decide_true, decide_false, Nat.reduceBEq, Nat.reduceAdd, Nat.reduceSub, Nat.reduceMul, Nat.reduceEqDiff, Nat.reduceLeDiff, Nat.reduceLT, Int.reduceLE, Int.reduceLT, Int.reduceToNat, Int.reduceAdd, Int.reduceEq, Int.reduceNeg, AH.put_ne])))
  all_goals exact end_eq (by simp) (AH.le_refl _)
theorem cmpi_calls {x y : Int} (H : AH) : ACalls Try.prog 124 [.int .i64 x, .int .i64 y] H (fun o H' => o = .ret (.int .i64 (cmpI x y)) ∧ H' = H) := by
  refine ACalls.drop ?_
  refine acalls Try.func124 c124 r124 (by simp [Try.ntmps124]) ?_
  repeat' (first | with_reducible refine am_seq ?_ | with_reducible refine am_block ?_ | ((with_reducible apply am_cond); (case hb => rfl); all_goals (intro hc; (try simp only [reduceCtorEq, decide_eq_true_eq, decide_eq_false_iff_not, Bool.or_eq_true, Bool.and_eq_true, Bool.or_eq_false_iff, Bool.not_eq_true', Bool.not_eq_false', beq_iff_eq] at hc); (try (exfalso; omega)))) | ((first | with_reducible refine am_reg ?_ | with_reducible refine am_drw ?_ | with_reducible refine am_drx ?_ | with_reducible refine am_skip ?_ | with_reducible refine am_exit ?_ | with_reducible refine am_ret ?_ | with_reducible refine And.intro (by first | exact AH.lec_refl _ | assumption | exact AccP.lec (by assumption) | omega) ?_ | with_reducible refine isnE_of (fun hc => ?_) (fun hc => ?_) (fun hc => ?_) | ((first | with_reducible refine gd_not (fun hc => ?_) (fun hc => ?_) | with_reducible refine gd_of (fun hc => ?_) (fun hc => ?_) | with_reducible refine gq_not (fun hc => ?_) (fun hc => ?_) | with_reducible refine gq_of (fun hc => ?_) (fun hc => ?_) | with_reducible refine pickB_of (fun hc => ?_) (fun hc => ?_)) <;> (try simp -implicitDefEqProofs (disch := omega) only [go_sem, eq_self, decide_true, decide_false, Nat.reduceBEq, Nat.reduceAdd, Nat.reduceSub, Nat.reduceMul, Nat.reduceEqDiff, Nat.reduceLeDiff, Nat.reduceLT, Int.reduceLE, Int.reduceLT, Int.reduceToNat, Int.reduceAdd, Int.reduceEq, Int.reduceNeg, AH.put_ne, hc]) <;> (try simp only [reduceCtorEq, decide_eq_true_eq, decide_eq_false_iff_not, Bool.or_eq_true, Bool.and_eq_true, Bool.or_eq_false_iff, Bool.not_eq_true', Bool.not_eq_false', beq_iff_eq] at hc) <;> (try (exfalso; omega))) | ((with_reducible refine alloc_intro (fun ko hko => ?_)) <;> (try have hne := fresh_ne (by assumption) hko) <;> (try have hnk := fresh_ne hk hko) <;> (try have hnk2 := fresh_ne hk2 hko) <;> (try simp only [AH.put_none] at hko)) | ((first | (with_reducible refine vapp_accL (by assumption) ?_ (fun v2 H2 hacc hlec => ?_)) | (with_reducible refine vapp_accL (AccP.mono (by assumption) (AccP.le (by assumption))) ?_ (fun v2 H2 hacc hlec => ?_)) | (with_reducible refine vapp_accL (AccP.new (by assumption) (by assumption) _) ?_ (fun v2 H2 hacc hlec => ?_))); · simp only [byteCells_length, List.length_cons, List.length_nil, List.length_map, List.length_append]; omega) | with_reducible refine need_elems (by assumption) ?_ | with_reducible refine vlen_acc (by assumption) ?_ | with_reducible refine need_bytes (by assumption) ?_ | (first | with_reducible refine call_of (nan_calls) ?_ | with_reducible refine qcall_of (nan_calls) ?_) | with_reducible refine need_look (by assumption) ?_ | with_reducible refine need_look (look_put (by assumption) (by assumption)) ?_ | with_reducible refine need_look (look_lec (by assumption) (by assumption)) ?_ | with_reducible refine need_look (look_put (AH.put_same _ _ _) (by assumption)) ?_ | with_reducible refine need_look (look_lec (AH.put_same _ _ _) (by assumption)) ?_ | with_reducible refine need_look (look_put (look_put (by assumption) (by assumption)) (by assumption)) ?_ | with_reducible refine need_look (look_lec (look_put (by assumption) (by assumption)) (by assumption)) ?_ | with_reducible refine need_look (look_put (look_lec (by assumption) (by assumption)) (by assumption)) ?_ | with_reducible refine need_look (look_lec (look_lec (by assumption) (by assumption)) (by assumption)) ?_ | with_reducible refine need_look (look_put (look_put (AH.put_same _ _ _) (by assumption)) (by assumption)) ?_ | with_reducible refine need_look (look_lec (look_put (AH.put_same _ _ _) (by assumption)) (by assumption)) ?_ | with_reducible refine need_look (look_put (look_lec (AH.put_same _ _ _) (by assumption)) (by assumption)) ?_ | with_reducible refine need_look (look_lec (look_lec (AH.put_same _ _ _) (by assumption)) (by assumption)) ?_) <;> (try simp -implicitDefEqProofs (disch := omega) only [go_sem, eq_self, decide_true, decide_false, Nat.reduceBEq, Nat.reduceAdd, Nat.reduceSub, Nat.reduceMul, Nat.reduceEqDiff, Nat.reduceLeDiff, Nat.reduceLT, Int.reduceLE, Int.reduceLT, Int.reduceToNat, Int.reduceAdd, Int.reduceEq, Int.reduceNeg, AH.put_ne])))
  all_goals refine end_eq ?_ (AH.le_refl _)
  all_goals (unfold cmpI; congr 1; (repeat' split) <;> first | rfl | omega)
theorem nans_calls {x : List UInt8} (H : AH) : ACalls Try.prog 146 [.str x] H (fun o H' => o = .ret (.bool false) ∧ H' = H) := by
  refine ACalls.drop ?_
  refine acalls Try.func146 c146 r146 (by simp [Try.ntmps146]) ?_
  repeat' (first | with_reducible refine am_seq ?_ | with_reducible refine am_block ?_ | ((with_reducible apply am_cond); (case hb => rfl); all_goals (intro hc; (try simp only [reduceCtorEq, decide_eq_true_eq, decide_eq_false_iff_not, Bool.or_eq_true, Bool.and_eq_true, Bool.or_eq_false_iff, Bool.not_eq_true', Bool.not_eq_false', beq_iff_eq] at hc); (try (exfalso; omega)))) | ((first | with_reducible refine am_reg ?_ | with_reducible refine am_drw ?_ | with_reducible refine am_drx ?_ | with_reducible refine am_skip ?_ | with_reducible refine am_exit ?_ | with_reducible refine am_ret ?_ | with_reducible refine And.intro (by first | exact AH.lec_refl _ | assumption | exact AccP.lec (by assumption) | omega) ?_ | with_reducible refine isnE_of (fun hc => ?_) (fun hc => ?_) (fun hc => ?_) | ((first | with_reducible refine gd_not (fun hc => ?_) (fun hc => ?_) | with_reducible refine gd_of (fun hc => ?_) (fun hc => ?_) | with_reducible refine gq_not (fun hc => ?_) (fun hc => ?_) | with_reducible refine gq_of (fun hc => ?_) (fun hc => ?_) | with_reducible refine pickB_of (fun hc => ?_) (fun hc => ?_)) <;> (try simp -implicitDefEqProofs (disch := omega) only [go_sem, eq_self, decide_true, decide_false, Nat.reduceBEq, Nat.reduceAdd, Nat.reduceSub, Nat.reduceMul, Nat.reduceEqDiff, Nat.reduceLeDiff, Nat.reduceLT, Int.reduceLE, Int.reduceLT, Int.reduceToNat, Int.reduceAdd, Int.reduceEq, Int.reduceNeg, AH.put_ne, hc]) <;> (try simp only [reduceCtorEq, decide_eq_true_eq, decide_eq_false_iff_not, Bool.or_eq_true, Bool.and_eq_true, Bool.or_eq_false_iff, Bool.not_eq_true', Bool.not_eq_false', beq_iff_eq] at hc) <;> (try (exfalso; omega))) | ((with_reducible refine alloc_intro (fun ko hko => ?_)) <;> (try have hne := fresh_ne (by assumption) hko) <;> (try have hnk := fresh_ne hk hko) <;> (try have hnk2 := fresh_ne hk2 hko) <;> (try simp only [AH.put_none] at hko)) | ((first | (with_reducible refine vapp_accL (by assumption) ?_ (fun v2 H2 hacc hlec => ?_)) | (with_reducible refine vapp_accL (AccP.mono (by assumption) (AccP.le (by assumption))) ?_ (fun v2 H2 hacc hlec => ?_)) | (with_reducible refine vapp_accL (AccP.new (by assumption) (by assumption) _) ?_ (fun v2 H2 hacc hlec => ?_))); · simp only [byteCells_length, List.length_cons, List.length_nil, List.length_map, List.length_append]; omega) | with_reducible refine need_elems (by assumption) ?_ | with_reducible refine vlen_acc (by assumption) ?_ | with_reducible refine need_bytes (by assumption) ?_ | with_reducible refine need_look (by assumption) ?_ | with_reducible refine need_look (look_put (by assumption) (by assumption)) ?_ | with_reducible refine need_look (look_lec (by assumption) (by assumption)) ?_ | with_reducible refine need_look (look_put (AH.put_same _ _ _) (by assumption)) ?_ | with_reducible refine need_look (look_lec (AH.put_same _ _ _) (by assumption)) ?_ | with_reducible refine need_look (look_put (look_put (by assumption) (by assumption)) (by assumption)) ?_ | with_reducible refine need_look (look_lec (look_put (by assumption) (by assumption)) (by assumption)) ?_ | with_reducible refine need_look (look_put (look_lec (by assumption) (by assumption)) (by assumption)) ?_ | with_reducible refine need_look (look_lec (look_lec (by assumption) (by assumption)) (by assumption)) ?_ | with_reducible refine need_look (look_put (look_put (AH.put_same _ _ _) (by assumption)) (by assumption)) ?_ | with_reducible refine need_look (look_lec (look_put (AH.put_same _ _ _) (by assumption)) (by assumption)) ?_ | with_reducible refine need_look (look_put (look_lec (AH.put_same _ _ _) (by assumption)) (by assumption)) ?_ | with_reducible refine need_look (look_lec (look_lec (AH.put_same _ _ _) (by assumption)) (by assumption)) ?_) <;> (try simp -implicitDefEqProofs (disch := omega) only [go_sem, eq_self, decide_true, decide_false, Nat.reduceBEq, Nat.reduceAdd, Nat.reduceSub, Nat.reduceMul, Nat.reduceEqDiff, Nat.reduceLeDiff, Nat.reduceLT, Int.reduceLE, Int.reduceLT, Int.reduceToNat, Int.reduceAdd, Int.reduceEq, Int.reduceNeg, AH.put_ne])))
  all_goals exact end_eq (by simp) (AH.le_refl _)
theorem cmps_calls {x y : List UInt8} (H : AH) : ACalls Try.prog 125 [.str x, .str y] H (fun o H' => o = .ret (.int .i64 (cmpS x y)) ∧ H' = H) := by
  refine ACalls.drop ?_
  refine acalls Try.func125 c125 r125 (by simp [Try.ntmps125]) ?_
  repeat' (first | with_reducible refine am_seq ?_ | with_reducible refine am_block ?_ | ((with_reducible apply am_cond); (case hb => rfl); all_goals (intro hc; (try simp only [reduceCtorEq, decide_eq_true_eq, decide_eq_false_iff_not, Bool.or_eq_true, Bool.and_eq_true, Bool.or_eq_false_iff, Bool.not_eq_true', Bool.not_eq_false', beq_iff_eq] at hc); (try (exfalso; omega)))) | ((first | with_reducible refine am_reg ?_ | with_reducible refine am_drw ?_ | with_reducible refine am_drx ?_ | with_reducible refine am_skip ?_ | with_reducible refine am_exit ?_ | with_reducible refine am_ret ?_ | with_reducible refine And.intro (by first | exact AH.lec_refl _ | assumption | exact AccP.lec (by assumption) | omega) ?_ | with_reducible refine isnE_of (fun hc => ?_) (fun hc => ?_) (fun hc => ?_) | ((first | with_reducible refine gd_not (fun hc => ?_) (fun hc => ?_) | with_reducible refine gd_of (fun hc => ?_) (fun hc => ?_) | with_reducible refine gq_not (fun hc => ?_) (fun hc => ?_) | with_reducible refine gq_of (fun hc => ?_) (fun hc => ?_) | with_reducible refine pickB_of (fun hc => ?_) (fun hc => ?_)) <;> (try simp -implicitDefEqProofs (disch := omega) only [go_sem, eq_self, decide_true, decide_false, Nat.reduceBEq, Nat.reduceAdd, Nat.reduceSub, Nat.reduceMul, Nat.reduceEqDiff, Nat.reduceLeDiff, Nat.reduceLT, Int.reduceLE, Int.reduceLT, Int.reduceToNat, Int.reduceAdd, Int.reduceEq, Int.reduceNeg, AH.put_ne, hc]) <;> (try simp only [reduceCtorEq, decide_eq_true_eq, decide_eq_false_iff_not, Bool.or_eq_true, Bool.and_eq_true, Bool.or_eq_false_iff, Bool.not_eq_true', Bool.not_eq_false', beq_iff_eq] at hc) <;> (try (exfalso; omega))) | ((with_reducible refine alloc_intro (fun ko hko => ?_)) <;> (try have hne := fresh_ne (by assumption) hko) <;> (try have hnk := fresh_ne hk hko) <;> (try have hnk2 := fresh_ne hk2 hko) <;> (try simp only [AH.put_none] at hko)) | ((first | (with_reducible refine vapp_accL (by assumption) ?_ (fun v2 H2 hacc hlec => ?_)) | (with_reducible refine vapp_accL (AccP.mono (by assumption) (AccP.le (by assumption))) ?_ (fun v2 H2 hacc hlec => ?_)) | (with_reducible refine vapp_accL (AccP.new (by assumption) (by assumption) _) ?_ (fun v2 H2 hacc hlec => ?_))); · simp only [byteCells_length, List.length_cons, List.length_nil, List.length_map, List.length_append]; omega) | with_reducible refine need_elems (by assumption) ?_ | with_reducible refine vlen_acc (by assumption) ?_ | with_reducible refine need_bytes (by assumption) ?_ | (first | with_reducible refine call_of (nans_calls) ?_ | with_reducible refine qcall_of (nans_calls) ?_) | with_reducible refine need_look (by assumption) ?_ | with_reducible refine need_look (look_put (by assumption) (by assumption)) ?_ | with_reducible refine need_look (look_lec (by assumption) (by assumption)) ?_ | with_reducible refine need_look (look_put (AH.put_same _ _ _) (by assumption)) ?_ | with_reducible refine need_look (look_lec (AH.put_same _ _ _) (by assumption)) ?_ | with_reducible refine need_look (look_put (look_put (by assumption) (by assumption)) (by assumption)) ?_ | with_reducible refine need_look (look_lec (look_put (by assumption) (by assumption)) (by assumption)) ?_ | with_reducible refine need_look (look_put (look_lec (by assumption) (by assumption)) (by assumption)) ?_ | with_reducible refine need_look (look_lec (look_lec (by assumption) (by assumption)) (by assumption)) ?_ | with_reducible refine need_look (look_put (look_put (AH.put_same _ _ _) (by assumption)) (by assumption)) ?_ | with_reducible refine need_look (look_lec (look_put (AH.put_same _ _ _) (by assumption)) (by assumption)) ?_ | with_reducible refine need_look (look_put (look_lec (AH.put_same _ _ _) (by assumption)) (by assumption)) ?_ | with_reducible refine need_look (look_lec (look_lec (AH.put_same _ _ _) (by assumption)) (by assumption)) ?_) <;> (try simp -implicitDefEqProofs (disch := omega) only [go_sem, eq_self, decide_true, decide_false, Nat.reduceBEq, Nat.reduceAdd, Nat.reduceSub, Nat.reduceMul, Nat.reduceEqDiff, Nat.reduceLeDiff, Nat.reduceLT, Int.reduceLE, Int.reduceLT, Int.reduceToNat, Int.reduceAdd, Int.reduceEq, Int.reduceNeg, AH.put_ne])))
  all_goals refine end_eq ?_ (AH.le_refl _)
  all_goals (unfold cmpS; congr 1; (repeat' split) <;> first | rfl | (simp_all; done))
/- flange/clock.New -/
abbrev k35_0 : MC :=
  (.seq (.reg [
    ⟨(some 1), none, .xo .mkmap []⟩,
    ⟨(some 2), none, .build [(.int .i64 0), .nilMap] [(1, 1, (.t 1))]⟩,
    ⟨(some 3), none, .box (.t 2)⟩,
    ⟨(some 0), none, .val (.mv (.t 3))⟩] [0]) (.ret))
abbrev k35 : MC :=
  (.seq (.reg [
    ⟨(some 0), none, .val (.mv (.c .nilPtr))⟩] []) k35_0)
theorem c35 : Try.f35.body.bind (mcOf Try.prog (List.contains [] ·) (List.getD [([], []), ([], [0])] · ([], [])) 4) = some k35 := by kernel_rfl
theorem r35 : rvsOf Try.prog Try.f35.results.toList = some [.tmp 0] := by kernel_rfl

/- (*flange/clock.Alarms).At -/
abbrev k46_0 : MC :=
  .cond (.t 9) ((.seq (.reg [
     ⟨(some 4), none, .val (.mv (.c (.int .i64 0)))⟩,
     ⟨(some 5), none, .val (.mv (.c (.bool false)))⟩] [4, 5]) (.ret))) (.skip)

abbrev k46_1 : MC :=
  (.seq (.reg [
    ⟨(some 19), none, .val (.mv (.t 6))⟩,
    ⟨(some 20), none, .val (.mv (.t 7))⟩,
    ⟨(some 4), none, .val (.mv (.t 19))⟩,
    ⟨(some 5), none, .val (.mv (.t 20))⟩] [4, 5]) (.ret))

abbrev k46_2 : MC :=
  (.seq (.reg [
    ⟨(some 11), none, .val (.mv (.t 0))⟩,
    ⟨(some 12), none, .val (.nilc (.t 11))⟩,
    ⟨(some 13), none, .val (.faddr 1 (.t 12))⟩,
    ⟨(some 14), none, .val (.load false 1 (.t 13))⟩,
    ⟨(some 15), none, .val (.mv (.t 1))⟩,
    ⟨(some 16), none, .val (.yo (.look .str (.int .i64 0) true) [(.t 14), (.t 15)])⟩,
    ⟨(some 10), none, .val (.mv (.t 16))⟩,
    ⟨(some 17), none, .val (.ext (.t 10) 0)⟩,
    ⟨(some 18), none, .val (.ext (.t 10) 1)⟩,
    ⟨(some 6), none, .val (.mv (.t 17))⟩,
    ⟨(some 7), none, .val (.mv (.t 18))⟩] [6, 7]) k46_1)

abbrev k46_3 : MC :=
  (.seq ((.seq (.reg [
    ⟨(some 8), none, .val (.mv (.t 0))⟩,
    ⟨(some 9), none, .val (.bin .eql .ptr (.t 8) (.c .nilPtr))⟩] [0, 1, 9]) k46_0)) k46_2)
abbrev k46 : MC :=
  (.seq (.reg [
    ⟨(some 4), none, .val (.mv (.c (.int .i64 0)))⟩,
    ⟨(some 5), none, .val (.mv (.c (.bool false)))⟩] [0, 1]) k46_3)
theorem c46 : Try.f46.body.bind (mcOf Try.prog (List.contains [] ·) (List.getD [([], [0, 1]), ([], [0, 1, 9]), ([], [4, 5]), ([], [6, 7]), ([], [4, 5])] · ([], [])) 21) = some k46 := by kernel_rfl
theorem r46 : rvsOf Try.prog Try.f46.results.toList = some [.tmp 4, .tmp 5] := by kernel_rfl

/- flange/clock.Add -/
abbrev k48_0 : MC :=
  (.seq (.reg [
    ⟨(some 5), none, .val (.mv (.t 0))⟩,
    ⟨(some 6), none, .call 47 [(.t 5)]⟩,
    ⟨(some 7), none, .val (.mv (.t 1))⟩,
    ⟨(some 8), none, .call 47 [(.t 7)]⟩,
    ⟨(some 9), none, .val (.bin .add .num (.t 6) (.t 8))⟩,
    ⟨(some 10), none, .call 47 [(.t 9)]⟩,
    ⟨(some 4), none, .val (.mv (.t 10))⟩] [4]) (.ret))
abbrev k48 : MC :=
  (.seq (.reg [
    ⟨(some 4), none, .val (.mv (.c (.int .i64 0)))⟩] [0, 1]) k48_0)
theorem c48 : Try.f48.body.bind (mcOf Try.prog (List.contains [] ·) (List.getD [([], [0, 1]), ([], [4])] · ([], [])) 11) = some k48 := by kernel_rfl
theorem r48 : rvsOf Try.prog Try.f48.results.toList = some [.tmp 4] := by kernel_rfl

/- flange/clock.Clip -/
abbrev k47_0 : MC :=
  (.seq (.reg [
    ⟨(some 3), none, .val (.mv (.t 0))⟩,
    ⟨(some 4), none, .val (.mx true (.t 3) (.c (.int .i64 0)))⟩,
    ⟨(some 5), none, .val (.mx false (.t 4) (.c (.int .i64 1152921504606846976)))⟩,
    ⟨(some 2), none, .val (.mv (.t 5))⟩] [2]) (.ret))
abbrev k47 : MC :=
  (.seq (.reg [
    ⟨(some 2), none, .val (.mv (.c (.int .i64 0)))⟩] [0]) k47_0)
theorem c47 : Try.f47.body.bind (mcOf Try.prog (List.contains [] ·) (List.getD [([], [0]), ([], [2])] · ([], [])) 6) = some k47 := by kernel_rfl
theorem r47 : rvsOf Try.prog Try.f47.results.toList = some [.tmp 2] := by kernel_rfl

/- (*flange/clock.Alarms).Set -/
abbrev k36_0 : MC :=
  .cond (.t 10) ((.seq (.reg [
     ⟨(some 6), none, .val (.mv (.c (.int .i64 11)))⟩] [6]) (.ret))) (.skip)

abbrev k36_1 : MC :=
  .cond (.t 23) ((.seq (.reg [
     ⟨(some 6), none, .val (.mv (.c (.int .i64 10)))⟩] [6]) (.ret))) (.skip)

abbrev k36_2 : MC :=
  .cond (.t 20) ((.seq (.reg [
     ⟨(some 6), none, .val (.mv (.c (.int .i64 1)))⟩] [6]) (.ret))) ((.seq (.reg [
     ⟨(some 24), none, .val (.mv (.t 8))⟩,
     ⟨(some 25), none, .val (.not (.t 24))⟩,
     ⟨(some 26), none, .val (.mv (.t 25))⟩,
     ⟨(some 27), (some (26, true)), .val (.mv (.t 0))⟩,
     ⟨(some 28), (some (26, true)), .val (.nilc (.t 27))⟩,
     ⟨(some 29), (some (26, true)), .val (.faddr 1 (.t 28))⟩,
     ⟨(some 30), (some (26, true)), .val (.load false 1 (.t 29))⟩,
     ⟨(some 31), (some (26, true)), .val (.len .map (.t 30))⟩,
     ⟨(some 32), (some (26, true)), .val (.bin .geq .num (.t 31) (.c (.int .i64 32)))⟩,
     ⟨(some 33), none, .val (.pick (.t 26) (.t 32) (.c (.bool false)))⟩,
     ⟨(some 23), none, .val (.mv (.t 33))⟩] [0, 1, 2, 23]) k36_1))

abbrev k36_3 : MC :=
  (.seq (.reg [
    ⟨(some 6), none, .val (.mv (.c (.int .i64 0)))⟩] [6]) (.ret))

abbrev k36_4 : MC :=
  (.seq (.drw [
    ⟨(some 34), none, .val (.mv (.t 0))⟩,
    ⟨(some 35), none, .val (.nilc (.t 34))⟩,
    ⟨(some 36), none, .val (.faddr 1 (.t 35))⟩,
    ⟨(some 37), none, .val (.load false 1 (.t 36))⟩,
    ⟨(some 38), none, .val (.mv (.t 1))⟩,
    ⟨(some 39), none, .val (.mv (.t 0))⟩,
    ⟨(some 40), none, .val (.nilc (.t 39))⟩,
    ⟨(some 41), none, .val (.faddr 0 (.t 40))⟩,
    ⟨(some 42), none, .val (.load false 1 (.t 41))⟩,
    ⟨(some 43), none, .val (.mv (.t 2))⟩,
    ⟨(some 44), none, .call 48 [(.t 42), (.t 43)]⟩] [
    ⟨none, none, .xo (.mset .str) [(.t 37), (.t 38), (.t 44)]⟩] []) k36_3)

abbrev k36_5 : MC :=
  (.seq (.block 0 ((.seq (.reg [
     ⟨(some 21), none, .val (.mv (.t 2))⟩,
     ⟨(some 22), none, .val (.bin .lss .num (.t 21) (.c (.int .i64 0)))⟩,
     ⟨(some 20), none, .val (.mv (.t 22))⟩] [0, 1, 2, 8, 20]) k36_2))) k36_4)

abbrev k36_6 : MC :=
  (.seq (.reg [
    ⟨(some 12), none, .val (.mv (.t 0))⟩,
    ⟨(some 13), none, .val (.nilc (.t 12))⟩,
    ⟨(some 14), none, .val (.faddr 1 (.t 13))⟩,
    ⟨(some 15), none, .val (.load false 1 (.t 14))⟩,
    ⟨(some 16), none, .val (.mv (.t 1))⟩,
    ⟨(some 17), none, .val (.yo (.look .str (.int .i64 0) true) [(.t 15), (.t 16)])⟩,
    ⟨(some 11), none, .val (.mv (.t 17))⟩,
    ⟨(some 18), none, .val (.ext (.t 11) 0)⟩,
    ⟨(some 19), none, .val (.ext (.t 11) 1)⟩,
    ⟨(some 7), none, .val (.mv (.t 18))⟩,
    ⟨(some 8), none, .val (.mv (.t 19))⟩] [0, 1, 2, 8]) k36_5)

abbrev k36_7 : MC :=
  (.seq ((.seq (.reg [
    ⟨(some 9), none, .val (.mv (.t 0))⟩,
    ⟨(some 10), none, .val (.bin .eql .ptr (.t 9) (.c .nilPtr))⟩] [0, 1, 2, 10]) k36_0)) k36_6)
abbrev k36 : MC :=
  (.seq (.reg [
    ⟨(some 6), none, .val (.mv (.c (.int .i64 0)))⟩] [0, 1, 2]) k36_7)
theorem c36 : Try.f36.body.bind (mcOf Try.prog (List.contains [] ·) (List.getD [([], [0, 1, 2]), ([], [0, 1, 2, 10]), ([], [6]), ([], [0, 1, 2, 8]), ([], [0, 1, 2, 8, 20]), ([], [6]), ([], [0, 1, 2, 23]), ([], [6]), ([0, 0, 0, 0, 0, 0, 0, 0, 0, 0, 0, 2], []), ([], [6])] · ([], [])) 45) = some k36 := by kernel_rfl
theorem r36 : rvsOf Try.prog Try.f36.results.toList = some [.tmp 6] := by kernel_rfl

/- (*flange/clock.Alarms).Drop -/
abbrev k45_0 : MC :=
  .cond (.t 13) (.reg [
     ⟨(some 14), none, .val (.mv (.t 0))⟩,
     ⟨(some 15), none, .val (.nilc (.t 14))⟩,
     ⟨(some 16), none, .val (.faddr 1 (.t 15))⟩,
     ⟨(some 17), none, .val (.load false 1 (.t 16))⟩,
     ⟨(some 18), none, .val (.mv (.t 1))⟩,
     ⟨none, none, .xo (.mdel .str) [(.t 17), (.t 18)]⟩] [6]) (.skip)

abbrev k45_1 : MC :=
  (.seq (.reg [
    ⟨(some 19), none, .val (.mv (.t 6))⟩,
    ⟨(some 4), none, .val (.mv (.t 19))⟩] [4]) (.ret))

abbrev k45_2 : MC :=
  (.seq ((.seq (.reg [
    ⟨(some 13), none, .val (.mv (.t 6))⟩] [0, 1, 6, 13]) k45_0)) k45_1)

abbrev k45_3 : MC :=
  (.seq (.reg [
    ⟨(some 8), none, .val (.mv (.t 0))⟩,
    ⟨(some 9), none, .val (.mv (.t 1))⟩,
    ⟨(some 10), none, .call 46 [(.t 8), (.t 9)]⟩,
    ⟨(some 7), none, .val (.mv (.t 10))⟩,
    ⟨(some 11), none, .val (.ext (.t 7) 0)⟩,
    ⟨(some 12), none, .val (.ext (.t 7) 1)⟩,
    ⟨(some 5), none, .val (.mv (.t 11))⟩,
    ⟨(some 6), none, .val (.mv (.t 12))⟩] [0, 1, 6]) k45_2)
abbrev k45 : MC :=
  (.seq (.reg [
    ⟨(some 4), none, .val (.mv (.c (.bool false)))⟩] [0, 1]) k45_3)
theorem c45 : Try.f45.body.bind (mcOf Try.prog (List.contains [] ·) (List.getD [([], [0, 1]), ([], [0, 1, 6]), ([], [0, 1, 6, 13]), ([], [6]), ([], [4])] · ([], [])) 20) = some k45 := by kernel_rfl
theorem r45 : rvsOf Try.prog Try.f45.results.toList = some [.tmp 4] := by kernel_rfl

theorem cclip_calls {x : Int} (H : AH) : ACalls Try.prog 47 [.int .i64 x] H (fun o H' => o = .ret (.int .i64 (min (max x 0) 1152921504606846976)) ∧ H' = H) := by
  refine ACalls.drop ?_
  refine acalls Try.func47 c47 r47 (by simp [Try.ntmps47]) ?_
  repeat' (first | with_reducible refine am_seq ?_ | with_reducible refine am_block ?_ | ((with_reducible apply am_cond); (case hb => rfl); all_goals (intro hc; (try simp only [reduceCtorEq, decide_eq_true_eq, decide_eq_false_iff_not, Bool.or_eq_true, Bool.and_eq_true, Bool.or_eq_false_iff, Bool.not_eq_true', Bool.not_eq_false', beq_iff_eq] at hc); (try (exfalso; omega)))) | ((first | with_reducible refine am_reg ?_ | with_reducible refine am_drw ?_ | with_reducible refine am_drx ?_ | with_reducible refine am_skip ?_ | with_reducible refine am_exit ?_ | with_reducible refine am_ret ?_ | with_reducible refine And.intro (by first | exact AH.lec_refl _ | assumption | exact AccP.lec (by assumption) | omega) ?_ | with_reducible refine isnE_of (fun hc => ?_) (fun hc => ?_) (fun hc => ?_) | ((first | with_reducible refine gd_not (fun hc => ?_) (fun hc => ?_) | with_reducible refine gd_of (fun hc => ?_) (fun hc => ?_) | with_reducible refine gq_not (fun hc => ?_) (fun hc => ?_) | with_reducible refine gq_of (fun hc => ?_) (fun hc => ?_) | with_reducible refine pickB_of (fun hc => ?_) (fun hc => ?_)) <;> (try simp -implicitDefEqProofs (disch := omega) only [go_sem, eq_self, decide_true, decide_false, Nat.reduceBEq, Nat.reduceAdd, Nat.reduceSub, Nat.reduceMul, Nat.reduceEqDiff, Nat.reduceLeDiff, Nat.reduceLT, Int.reduceLE, Int.reduceLT, Int.reduceToNat, Int.reduceAdd, Int.reduceEq, Int.reduceNeg, AH.put_ne, hc]) <;> (try simp only [reduceCtorEq, decide_eq_true_eq, decide_eq_false_iff_not, Bool.or_eq_true, Bool.and_eq_true, Bool.or_eq_false_iff, Bool.not_eq_true', Bool.not_eq_false', beq_iff_eq] at hc) <;> (try (exfalso; omega))) | ((with_reducible refine alloc_intro (fun ko hko => ?_)) <;> (try have hne := fresh_ne (by assumption) hko) <;> (try have hnk := fresh_ne hk hko) <;> (try have hnk2 := fresh_ne hk2 hko) <;> (try simp only [AH.put_none] at hko)) | ((first | (with_reducible refine vapp_accL (by assumption) ?_ (fun v2 H2 hacc hlec => ?_)) | (with_reducible refine vapp_accL (AccP.mono (by assumption) (AccP.le (by assumption))) ?_ (fun v2 H2 hacc hlec => ?_)) | (with_reducible refine vapp_accL (AccP.new (by assumption) (by assumption) _) ?_ (fun v2 H2 hacc hlec => ?_))); · simp only [byteCells_length, List.length_cons, List.length_nil, List.length_map, List.length_append]; omega) | with_reducible refine need_elems (by assumption) ?_ | with_reducible refine vlen_acc (by assumption) ?_ | with_reducible refine need_bytes (by assumption) ?_ | with_reducible refine need_look (by assumption) ?_ | with_reducible refine need_look (look_put (by assumption) (by assumption)) ?_ | with_reducible refine need_look (look_lec (by assumption) (by assumption)) ?_ | with_reducible refine need_look (look_put (AH.put_same _ _ _) (by assumption)) ?_ | with_reducible refine need_look (look_lec (AH.put_same _ _ _) (by assumption)) ?_ | with_reducible refine need_look (look_put (look_put (by assumption) (by assumption)) (by assumption)) ?_ | with_reducible refine need_look (look_lec (look_put (by assumption) (by assumption)) (by assumption)) ?_ | with_reducible refine need_look (look_put (look_lec (by assumption) (by assumption)) (by assumption)) ?_ | with_reducible refine need_look (look_lec (look_lec (by assumption) (by assumption)) (by assumption)) ?_ | with_reducible refine need_look (look_put (look_put (AH.put_same _ _ _) (by assumption)) (by assumption)) ?_ | with_reducible refine need_look (look_lec (look_put (AH.put_same _ _ _) (by assumption)) (by assumption)) ?_ | with_reducible refine need_look (look_put (look_lec (AH.put_same _ _ _) (by assumption)) (by assumption)) ?_ | with_reducible refine need_look (look_lec (look_lec (AH.put_same _ _ _) (by assumption)) (by assumption)) ?_) <;> (try simp -implicitDefEqProofs (disch := omega) only [go_sem, eq_self, decide_true, decide_false, Nat.reduceBEq, Nat.reduceAdd, Nat.reduceSub, Nat.reduceMul, Nat.reduceEqDiff, Nat.reduceLeDiff, Nat.reduceLT, Int.reduceLE, Int.reduceLT, Int.reduceToNat, Int.reduceAdd, Int.reduceEq, Int.reduceNeg, AH.put_ne])))
  all_goals exact end_same
/-- The entries of alarms. -/
def alE (l : List (List UInt8 × Int)) : List (V × V) := l.map fun p => (.str p.1, .int .i64 p.2)
def alF (n : List UInt8) : List (List UInt8 × Int) → Option Int
  | [] => none
  | p :: l => if n = p.1 then some p.2 else alF n l
/-- An alarm is set. -/
def alP (n : List UInt8) (t : Int) : List (List UInt8 × Int) → List (List UInt8 × Int)
  | [] => [(n, t)]
  | p :: l => if n = p.1 then (n, t) :: l else p :: alP n t l
theorem alF_mfind (n : List UInt8) : ∀ l, mfind .str (.str n) (alE l) = some ((alF n l).map fun t => V.int .i64 t)
  | [] => rfl
  | p :: l => by
    simp only [alE, List.map_cons, mfind, BK.eq, alF]
    have := alF_mfind n l
    by_cases h : n = p.1
    · simp [h]
    · simp only [h, decide_false, if_false]; exact this
theorem at_calls {k m : Nat} {now : Int} {l : List (List UInt8 × Int)} {n : List UInt8} {H : AH} (hk : H k = some (.cells [.int .i64 now, .map m])) (hk2 : H m = some (.map (alE l))) :
    ACalls Try.prog 46 [.ptr k 0, .str n] H (fun o H' => o = .ret (.tuple [.int .i64 ((alF n l).getD 0), .bool (alF n l).isSome]) ∧ H' = H) := by
  refine ACalls.drop ?_
  refine acalls Try.func46 c46 r46 (by simp [Try.ntmps46]) ?_
  cases h : alF n l with
  | none =>
    repeat' (first | with_reducible refine am_seq ?_ | with_reducible refine am_block ?_ | ((with_reducible apply am_cond); (case hb => rfl); all_goals (intro hc; (try simp only [reduceCtorEq, decide_eq_true_eq, decide_eq_false_iff_not, Bool.or_eq_true, Bool.and_eq_true, Bool.or_eq_false_iff, Bool.not_eq_true', Bool.not_eq_false', beq_iff_eq] at hc); (try (exfalso; omega)))) | ((first | with_reducible refine am_reg ?_ | with_reducible refine am_drw ?_ | with_reducible refine am_drx ?_ | with_reducible refine am_skip ?_ | with_reducible refine am_exit ?_ | with_reducible refine am_ret ?_ | with_reducible refine And.intro (by first | exact AH.lec_refl _ | assumption | exact AccP.lec (by assumption) | omega) ?_ | with_reducible refine isnE_of (fun hc => ?_) (fun hc => ?_) (fun hc => ?_) | ((first | with_reducible refine gd_not (fun hc => ?_) (fun hc => ?_) | with_reducible refine gd_of (fun hc => ?_) (fun hc => ?_) | with_reducible refine gq_not (fun hc => ?_) (fun hc => ?_) | with_reducible refine gq_of (fun hc => ?_) (fun hc => ?_) | with_reducible refine pickB_of (fun hc => ?_) (fun hc => ?_)) <;> (try simp -implicitDefEqProofs (disch := omega) only [go_sem, eq_self, decide_true, decide_false, Nat.reduceBEq, Nat.reduceAdd, Nat.reduceSub, Nat.reduceMul, Nat.reduceEqDiff, Nat.reduceLeDiff, Nat.reduceLT, Int.reduceLE, Int.reduceLT, Int.reduceToNat, Int.reduceAdd, Int.reduceEq, Int.reduceNeg, AH.put_ne, hc, hk, hk2, alF_mfind, h, Option.map_none, Option.map_some]) <;> (try simp only [reduceCtorEq, decide_eq_true_eq, decide_eq_false_iff_not, Bool.or_eq_true, Bool.and_eq_true, Bool.or_eq_false_iff, Bool.not_eq_true', Bool.not_eq_false', beq_iff_eq] at hc) <;> (try (exfalso; omega))) | ((with_reducible refine alloc_intro (fun ko hko => ?_)) <;> (try have hne := fresh_ne (by assumption) hko) <;> (try have hnk := fresh_ne hk hko) <;> (try have hnk2 := fresh_ne hk2 hko) <;> (try simp only [AH.put_none] at hko)) | ((first | (with_reducible refine vapp_accL (by assumption) ?_ (fun v2 H2 hacc hlec => ?_)) | (with_reducible refine vapp_accL (AccP.mono (by assumption) (AccP.le (by assumption))) ?_ (fun v2 H2 hacc hlec => ?_)) | (with_reducible refine vapp_accL (AccP.new (by assumption) (by assumption) _) ?_ (fun v2 H2 hacc hlec => ?_))); · simp only [byteCells_length, List.length_cons, List.length_nil, List.length_map, List.length_append]; omega) | with_reducible refine need_elems (by assumption) ?_ | with_reducible refine vlen_acc (by assumption) ?_ | with_reducible refine need_bytes (by assumption) ?_ | with_reducible refine need_look (by assumption) ?_ | with_reducible refine need_look (look_put (by assumption) (by assumption)) ?_ | with_reducible refine need_look (look_lec (by assumption) (by assumption)) ?_ | with_reducible refine need_look (look_put (AH.put_same _ _ _) (by assumption)) ?_ | with_reducible refine need_look (look_lec (AH.put_same _ _ _) (by assumption)) ?_ | with_reducible refine need_look (look_put (look_put (by assumption) (by assumption)) (by assumption)) ?_ | with_reducible refine need_look (look_lec (look_put (by assumption) (by assumption)) (by assumption)) ?_ | with_reducible refine need_look (look_put (look_lec (by assumption) (by assumption)) (by assumption)) ?_ | with_reducible refine need_look (look_lec (look_lec (by assumption) (by assumption)) (by assumption)) ?_ | with_reducible refine need_look (look_put (look_put (AH.put_same _ _ _) (by assumption)) (by assumption)) ?_ | with_reducible refine need_look (look_lec (look_put (AH.put_same _ _ _) (by assumption)) (by assumption)) ?_ | with_reducible refine need_look (look_put (look_lec (AH.put_same _ _ _) (by assumption)) (by assumption)) ?_ | with_reducible refine need_look (look_lec (look_lec (AH.put_same _ _ _) (by assumption)) (by assumption)) ?_) <;> (try simp -implicitDefEqProofs (disch := omega) only [go_sem, eq_self, decide_true, decide_false, Nat.reduceBEq, Nat.reduceAdd, Nat.reduceSub, Nat.reduceMul, Nat.reduceEqDiff, Nat.reduceLeDiff, Nat.reduceLT, Int.reduceLE, Int.reduceLT, Int.reduceToNat, Int.reduceAdd, Int.reduceEq, Int.reduceNeg, AH.put_ne, hk, hk2, alF_mfind, h, Option.map_none, Option.map_some])))
    all_goals exact end_eq rfl (AH.le_refl _)
  | some t =>
    repeat' (first | with_reducible refine am_seq ?_ | with_reducible refine am_block ?_ | ((with_reducible apply am_cond); (case hb => rfl); all_goals (intro hc; (try simp only [reduceCtorEq, decide_eq_true_eq, decide_eq_false_iff_not, Bool.or_eq_true, Bool.and_eq_true, Bool.or_eq_false_iff, Bool.not_eq_true', Bool.not_eq_false', beq_iff_eq] at hc); (try (exfalso; omega)))) | ((first | with_reducible refine am_reg ?_ | with_reducible refine am_drw ?_ | with_reducible refine am_drx ?_ | with_reducible refine am_skip ?_ | with_reducible refine am_exit ?_ | with_reducible refine am_ret ?_ | with_reducible refine And.intro (by first | exact AH.lec_refl _ | assumption | exact AccP.lec (by assumption) | omega) ?_ | with_reducible refine isnE_of (fun hc => ?_) (fun hc => ?_) (fun hc => ?_) | ((first | with_reducible refine gd_not (fun hc => ?_) (fun hc => ?_) | with_reducible refine gd_of (fun hc => ?_) (fun hc => ?_) | with_reducible refine gq_not (fun hc => ?_) (fun hc => ?_) | with_reducible refine gq_of (fun hc => ?_) (fun hc => ?_) | with_reducible refine pickB_of (fun hc => ?_) (fun hc => ?_)) <;> (try simp -implicitDefEqProofs (disch := omega) only [go_sem, eq_self, decide_true, decide_false, Nat.reduceBEq, Nat.reduceAdd, Nat.reduceSub, Nat.reduceMul, Nat.reduceEqDiff, Nat.reduceLeDiff, Nat.reduceLT, Int.reduceLE, Int.reduceLT, Int.reduceToNat, Int.reduceAdd, Int.reduceEq, Int.reduceNeg, AH.put_ne, hc, hk, hk2, alF_mfind, h, Option.map_none, Option.map_some]) <;> (try simp only [reduceCtorEq, decide_eq_true_eq, decide_eq_false_iff_not, Bool.or_eq_true, Bool.and_eq_true, Bool.or_eq_false_iff, Bool.not_eq_true', Bool.not_eq_false', beq_iff_eq] at hc) <;> (try (exfalso; omega))) | ((with_reducible refine alloc_intro (fun ko hko => ?_)) <;> (try have hne := fresh_ne (by assumption) hko) <;> (try have hnk := fresh_ne hk hko) <;> (try have hnk2 := fresh_ne hk2 hko) <;> (try simp only [AH.put_none] at hko)) | ((first | (with_reducible refine vapp_accL (by assumption) ?_ (fun v2 H2 hacc hlec => ?_)) | (with_reducible refine vapp_accL (AccP.mono (by assumption) (AccP.le (by assumption))) ?_ (fun v2 H2 hacc hlec => ?_)) | (with_reducible refine vapp_accL (AccP.new (by assumption) (by assumption) _) ?_ (fun v2 H2 hacc hlec => ?_))); · simp only [byteCells_length, List.length_cons, List.length_nil, List.length_map, List.length_append]; omega) | with_reducible refine need_elems (by assumption) ?_ | with_reducible refine vlen_acc (by assumption) ?_ | with_reducible refine need_bytes (by assumption) ?_ | with_reducible refine need_look (by assumption) ?_ | with_reducible refine need_look (look_put (by assumption) (by assumption)) ?_ | with_reducible refine need_look (look_lec (by assumption) (by assumption)) ?_ | with_reducible refine need_look (look_put (AH.put_same _ _ _) (by assumption)) ?_ | with_reducible refine need_look (look_lec (AH.put_same _ _ _) (by assumption)) ?_ | with_reducible refine need_look (look_put (look_put (by assumption) (by assumption)) (by assumption)) ?_ | with_reducible refine need_look (look_lec (look_put (by assumption) (by assumption)) (by assumption)) ?_ | with_reducible refine need_look (look_put (look_lec (by assumption) (by assumption)) (by assumption)) ?_ | with_reducible refine need_look (look_lec (look_lec (by assumption) (by assumption)) (by assumption)) ?_ | with_reducible refine need_look (look_put (look_put (AH.put_same _ _ _) (by assumption)) (by assumption)) ?_ | with_reducible refine need_look (look_lec (look_put (AH.put_same _ _ _) (by assumption)) (by assumption)) ?_ | with_reducible refine need_look (look_put (look_lec (AH.put_same _ _ _) (by assumption)) (by assumption)) ?_ | with_reducible refine need_look (look_lec (look_lec (AH.put_same _ _ _) (by assumption)) (by assumption)) ?_) <;> (try simp -implicitDefEqProofs (disch := omega) only [go_sem, eq_self, decide_true, decide_false, Nat.reduceBEq, Nat.reduceAdd, Nat.reduceSub, Nat.reduceMul, Nat.reduceEqDiff, Nat.reduceLeDiff, Nat.reduceLT, Int.reduceLE, Int.reduceLT, Int.reduceToNat, Int.reduceAdd, Int.reduceEq, Int.reduceNeg, AH.put_ne, hk, hk2, alF_mfind, h, Option.map_none, Option.map_some])))
    all_goals exact end_eq rfl (AH.le_refl _)
theorem set_mfind (n : List UInt8) (l : List (List UInt8 × Int)) (t : Int) : mput .str (.str n) (.int .i64 t) (alE l) = alE (alP n t l) := by
  induction l with
  | nil => rfl
  | cons p l ih =>
    simp only [alE, List.map_cons, mput, BK.eq, alP] at ih ⊢
    by_cases h : n = p.1
    · simp [h]
    · simp only [h, decide_false, if_false, List.map_cons]; rw [← ih]; rfl
end Go.Proofs.Ytjlphncecdlmcaa
