/- Of the walks of this seat: contracts of functions of the given program, proved over the abstract values of the texts Vm. Conditions: as each theorem says. -/
import Derived.Test.YtjlphncecdlmcaaVA
import Derived.Test.YtjlphncecdlmcaaVF
set_option linter.unusedVariables false
set_option linter.unusedSimpArgs false
namespace Go.Proofs.Ytjlphncecdlmcaa
open Go.Vm Go.Sort
attribute [local go_sem] List.drop_zero toNat_succ Nat.sub_zero Int.toNat_natCast Option.map_some Int.natCast_nonneg decide_eq_true_eq decide_eq_false_iff_not
/- flange/value.near -/
abbrev k95_0 : MC :=
  (.seq (.reg [
    ⟨(some 3), none, .val (.mv (.t 0))⟩,
    ⟨(some 4), none, .val (.bin .geq .num (.t 3) (.c (.int .i64 (-9007199254740992))))⟩,
    ⟨(some 5), none, .val (.mv (.t 4))⟩,
    ⟨(some 6), (some (5, true)), .val (.mv (.t 0))⟩,
    ⟨(some 7), (some (5, true)), .val (.bin .leq .num (.t 6) (.c (.int .i64 9007199254740992)))⟩,
    ⟨(some 8), none, .val (.pick (.t 5) (.t 7) (.c (.bool false)))⟩,
    ⟨(some 2), none, .val (.mv (.t 8))⟩] [2]) (.ret))
abbrev k95 : MC :=
  (.seq (.reg [
    ⟨(some 2), none, .val (.mv (.c (.bool false)))⟩] [0]) k95_0)
theorem c95 : Try.f95.body.bind (mcOf Try.prog (List.contains [] ·) (List.getD [([], [0]), ([], [2])] · ([], [])) 9) = some k95 := by kernel_rfl
theorem r95 : rvsOf Try.prog Try.f95.results.toList = some [.tmp 2] := by kernel_rfl
/- flange/value.Point -/
abbrev k50_0 : MC :=
  .cond (.t 13) ((.seq (.reg [
     ⟨(some 14), none, .build [.nilIface] []⟩,
     ⟨none, none, .store 1 (.t 4) (.t 14)⟩,
     ⟨(some 5), none, .val (.mv (.c (.int .i64 2)))⟩] [4, 5]) (.ret))) (.skip)
abbrev k50_1 : MC :=
  (.seq (.reg [
    ⟨(some 15), none, .val (.mv (.t 0))⟩,
    ⟨(some 16), none, .val (.yo .i2f [(.t 15)])⟩,
    ⟨(some 17), none, .val (.mv (.t 1))⟩,
    ⟨(some 18), none, .val (.yo .i2f [(.t 17)])⟩,
    ⟨(some 19), none, .val (.yo .cplx [(.t 16), (.t 18)])⟩,
    ⟨(some 20), none, .val (.mkif 128 (.t 19))⟩,
    ⟨(some 21), none, .build [.nilIface] [(0, 1, (.t 20))]⟩,
    ⟨none, none, .store 1 (.t 4) (.t 21)⟩,
    ⟨(some 5), none, .val (.mv (.c (.int .i64 0)))⟩] [4, 5]) (.ret))
abbrev k50_2 : MC :=
  (.seq ((.seq (.reg [
    ⟨(some 6), none, .val (.mv (.t 0))⟩,
    ⟨(some 7), none, .call 95 [(.t 6)]⟩,
    ⟨(some 8), none, .val (.not (.t 7))⟩,
    ⟨(some 9), none, .val (.mv (.t 8))⟩,
    ⟨(some 10), (some (9, false)), .val (.mv (.t 1))⟩,
    ⟨(some 11), (some (9, false)), .call 95 [(.t 10)]⟩,
    ⟨(some 12), (some (9, false)), .val (.not (.t 11))⟩,
    ⟨(some 13), none, .val (.pick (.t 9) (.c (.bool true)) (.t 12))⟩] [0, 1, 4, 13]) k50_0)) k50_1)
abbrev k50 : MC :=
  (.seq (.reg [
    ⟨(some 4), none, .zalloc [.nilIface]⟩,
    ⟨(some 5), none, .val (.mv (.c (.int .i64 0)))⟩] [0, 1, 4]) k50_2)
theorem c50 : Try.f50.body.bind (mcOf Try.prog (List.contains [] ·) (List.getD [([], [0, 1, 4]), ([], [0, 1, 4, 13]), ([], [4, 5]), ([], [4, 5])] · ([], [])) 22) = some k50 := by kernel_rfl
theorem r50 : rvsOf Try.prog Try.f50.results.toList = some [.cell 4 true 1, .tmp 5] := by kernel_rfl
/- (flange/value.Value).Point -/
abbrev k51_0 : MC :=
  (.seq (.reg [
    ⟨(some 13), none, .val (.mv (.t 5))⟩,
    ⟨(some 14), none, .val (.yo .creal [(.t 13)])⟩,
    ⟨(some 15), none, .val (.yo (.f2i .i64) [(.t 14)])⟩,
    ⟨(some 16), none, .val (.mv (.t 5))⟩,
    ⟨(some 17), none, .val (.yo .cimag [(.t 16)])⟩,
    ⟨(some 18), none, .val (.yo (.f2i .i64) [(.t 17)])⟩,
    ⟨(some 19), none, .val (.mv (.t 6))⟩,
    ⟨(some 2), none, .val (.mv (.t 15))⟩,
    ⟨(some 3), none, .val (.mv (.t 18))⟩,
    ⟨(some 4), none, .val (.mv (.t 19))⟩] [2, 3, 4]) (.ret))
abbrev k51_1 : MC :=
  (.seq (.reg [
    ⟨(some 8), none, .val (.faddr 0 (.t 1))⟩,
    ⟨(some 9), none, .val (.load false 1 (.t 8))⟩,
    ⟨(some 10), none, .val (.tya 128 true (.complex .f64 0 0) (.t 9))⟩,
    ⟨(some 7), none, .val (.mv (.t 10))⟩,
    ⟨(some 11), none, .val (.ext (.t 7) 0)⟩,
    ⟨(some 12), none, .val (.ext (.t 7) 1)⟩,
    ⟨(some 5), none, .val (.mv (.t 11))⟩,
    ⟨(some 6), none, .val (.mv (.t 12))⟩] [5, 6]) k51_0)
abbrev k51 : MC :=
  (.seq (.reg [
    ⟨(some 1), none, .boxi (.t 0)⟩,
    ⟨(some 2), none, .val (.mv (.c (.int .i64 0)))⟩,
    ⟨(some 3), none, .val (.mv (.c (.int .i64 0)))⟩,
    ⟨(some 4), none, .val (.mv (.c (.bool false)))⟩] [1]) k51_1)
theorem c51 : Try.f51.body.bind (mcOf Try.prog (List.contains [1] ·) (List.getD [([], [1]), ([], [5, 6]), ([], [2, 3, 4])] · ([], [])) 20) = some k51 := by kernel_rfl
theorem r51 : rvsOf Try.prog Try.f51.results.toList = some [.tmp 2, .tmp 3, .tmp 4] := by kernel_rfl
def nearB (n : Int) : Bool := decide (-9007199254740992 ≤ n ∧ n ≤ 9007199254740992)
theorem near_calls (n : Int) (H : AH) : ACalls Try.prog 95 [.int .i64 n] H (fun o H' => o = .ret (.bool (nearB n)) ∧ H' = H) := by
  refine ACalls.drop ?_
  refine acalls Try.func95 c95 r95 (by simp [Try.ntmps95]) ?_
  repeat' (first | with_reducible (first | refine am_seq ?_ | refine am_block ?_) | ((with_reducible apply am_cond); (case hb => rfl); all_goals (intro hc; (try simp only [reduceCtorEq, decide_eq_true_eq, decide_eq_false_iff_not, Bool.or_eq_true, Bool.and_eq_true, Bool.or_eq_false_iff, Bool.not_eq_true', Bool.not_eq_false', beq_iff_eq] at hc); (try (exfalso; omega)))) | ((first | with_reducible (first | refine am_reg ?_ | refine am_drw ?_ | refine am_drx ?_ | refine am_skip ?_ | refine am_exit ?_ | refine am_ret ?_ | refine And.intro (by first | exact AH.lec_refl _ | assumption | exact AccP.lec (by assumption) | omega) ?_ | refine isnE_of (fun hc => ?_) (fun hc => ?_) (fun hc => ?_) | refine need_elems (by assumption) ?_ | refine vlen_acc (by assumption) ?_ | refine need_bytes (by assumption) ?_ | refine need_look (by repeat (first | assumption | exact AH.put_same _ _ _ | refine look_put ?_ (by assumption) | refine look_lec ?_ (by assumption))) ?_) | ((with_reducible (first | refine gd_not (fun hc => ?_) (fun hc => ?_) | refine gd_of (fun hc => ?_) (fun hc => ?_) | refine gq_not (fun hc => ?_) (fun hc => ?_) | refine gq_of (fun hc => ?_) (fun hc => ?_) | refine pickB_of (fun hc => ?_) (fun hc => ?_))) <;> (try simp -implicitDefEqProofs (disch := omega) only [go_sem, eq_self, decide_true, decide_false, Nat.reduceBEq, Nat.reduceAdd, Nat.reduceSub, Nat.reduceMul, Nat.reduceEqDiff, Nat.reduceLeDiff, Nat.reduceLT, Int.reduceLE, Int.reduceLT, Int.reduceToNat, Int.reduceAdd, Int.reduceEq, Int.reduceNeg, AH.put_ne, hc]) <;> (try simp only [reduceCtorEq, decide_eq_true_eq, decide_eq_false_iff_not, Bool.or_eq_true, Bool.and_eq_true, Bool.or_eq_false_iff, Bool.not_eq_true', Bool.not_eq_false', beq_iff_eq] at hc) <;> (try (exfalso; omega))) | ((with_reducible refine alloc_intro (fun ko hko => ?_)) <;> (try have hne := fresh_ne (by assumption) hko) <;> (try have hnk := fresh_ne hk hko) <;> (try have hnk2 := fresh_ne hk2 hko) <;> (try simp only [AH.put_none] at hko)) | ((with_reducible (first | refine vapp_accL (by assumption) ?_ (fun v2 H2 hacc hlec => ?_) | refine vapp_accL (AccP.mono (by assumption) (AccP.le (by assumption))) ?_ (fun v2 H2 hacc hlec => ?_) | refine vapp_accL (AccP.new (by assumption) (by assumption) _) ?_ (fun v2 H2 hacc hlec => ?_))); · simp only [byteCells_length, List.length_cons, List.length_nil, List.length_map, List.length_append, vE_length, mE_length, strE_len, List.length_take]; omega)) <;> (try simp -implicitDefEqProofs (disch := omega) only [go_sem, eq_self, decide_true, decide_false, Nat.reduceBEq, Nat.reduceAdd, Nat.reduceSub, Nat.reduceMul, Nat.reduceEqDiff, Nat.reduceLeDiff, Nat.reduceLT, Int.reduceLE, Int.reduceLT, Int.reduceToNat, Int.reduceAdd, Int.reduceEq, Int.reduceNeg, AH.put_ne])))
  all_goals refine end_eq ?_ (AH.le_refl _)
  all_goals (unfold nearB; simp; try omega)
def ptV (n m : Int) : Vl := if nearB n && nearB m then .pt n m else .nul
def ptE (n m : Int) : Int := if nearB n && nearB m then 0 else 2
theorem mpoint_calls (n m : Int) (H : AH) : ACalls Try.prog 50 [.int .i64 n, .int .i64 m] H (fun o H' => o = .ret (.tuple [.agg [vV (ptV n m)], .int .i64 (ptE n m)]) ∧ H' = H) := by
  refine ACalls.drop ?_
  unfold ptV ptE
  refine acalls Try.func50 c50 r50 (by simp [Try.ntmps50]) ?_
  cases hn : nearB n <;> cases hm : nearB m
  · repeat' (first | with_reducible (first | refine am_seq ?_ | refine am_block ?_) | ((with_reducible apply am_cond); (case hb => rfl); all_goals (intro hc; (try simp only [reduceCtorEq, decide_eq_true_eq, decide_eq_false_iff_not, Bool.or_eq_true, Bool.and_eq_true, Bool.or_eq_false_iff, Bool.not_eq_true', Bool.not_eq_false', beq_iff_eq] at hc); (try (exfalso; omega)))) | ((first | with_reducible (first | refine am_reg ?_ | refine am_drw ?_ | refine am_drx ?_ | refine am_skip ?_ | refine am_exit ?_ | refine am_ret ?_ | refine And.intro (by first | exact AH.lec_refl _ | assumption | exact AccP.lec (by assumption) | omega) ?_ | refine isnE_of (fun hc => ?_) (fun hc => ?_) (fun hc => ?_) | refine need_elems (by assumption) ?_ | refine vlen_acc (by assumption) ?_ | refine need_bytes (by assumption) ?_ | refine call_of (near_calls _) ?_ | refine qcall_of (near_calls _) ?_ | refine need_look (by repeat (first | assumption | exact AH.put_same _ _ _ | refine look_put ?_ (by assumption) | refine look_lec ?_ (by assumption))) ?_) | ((with_reducible (first | refine gd_not (fun hc => ?_) (fun hc => ?_) | refine gd_of (fun hc => ?_) (fun hc => ?_) | refine gq_not (fun hc => ?_) (fun hc => ?_) | refine gq_of (fun hc => ?_) (fun hc => ?_) | refine pickB_of (fun hc => ?_) (fun hc => ?_))) <;> (try simp -implicitDefEqProofs (disch := omega) only [go_sem, eq_self, decide_true, decide_false, Nat.reduceBEq, Nat.reduceAdd, Nat.reduceSub, Nat.reduceMul, Nat.reduceEqDiff, Nat.reduceLeDiff, Nat.reduceLT, Int.reduceLE, Int.reduceLT, Int.reduceToNat, Int.reduceAdd, Int.reduceEq, Int.reduceNeg, AH.put_ne, hc, hn, hm, Bool.not_false, Bool.not_true]) <;> (try simp only [reduceCtorEq, decide_eq_true_eq, decide_eq_false_iff_not, Bool.or_eq_true, Bool.and_eq_true, Bool.or_eq_false_iff, Bool.not_eq_true', Bool.not_eq_false', beq_iff_eq] at hc) <;> (try (exfalso; omega))) | ((with_reducible refine alloc_intro (fun ko hko => ?_)) <;> (try have hne := fresh_ne (by assumption) hko) <;> (try have hnk := fresh_ne hk hko) <;> (try have hnk2 := fresh_ne hk2 hko) <;> (try simp only [AH.put_none] at hko)) | ((with_reducible (first | refine vapp_accL (by assumption) ?_ (fun v2 H2 hacc hlec => ?_) | refine vapp_accL (AccP.mono (by assumption) (AccP.le (by assumption))) ?_ (fun v2 H2 hacc hlec => ?_) | refine vapp_accL (AccP.new (by assumption) (by assumption) _) ?_ (fun v2 H2 hacc hlec => ?_))); · simp only [byteCells_length, List.length_cons, List.length_nil, List.length_map, List.length_append, vE_length, mE_length, strE_len, List.length_take]; omega)) <;> (try simp -implicitDefEqProofs (disch := omega) only [go_sem, eq_self, decide_true, decide_false, Nat.reduceBEq, Nat.reduceAdd, Nat.reduceSub, Nat.reduceMul, Nat.reduceEqDiff, Nat.reduceLeDiff, Nat.reduceLT, Int.reduceLE, Int.reduceLT, Int.reduceToNat, Int.reduceAdd, Int.reduceEq, Int.reduceNeg, AH.put_ne, hn, hm, Bool.not_false, Bool.not_true])))
    all_goals simp only [Bool.and_false, Bool.false_and, Bool.and_true, if_true, Bool.false_eq_true, if_false, vV_nul]
    all_goals (refine drop_end (by (first | exact fun _ _ h => h | (intro s x h; first | exact no_sub _ h | exact nil_no _ h | exact AccP.sub (by assumption) _ _ h | (refine agg_sub rfl ?_ x h; repeat (first | exact .nil | refine .cons (fun _ h => h) ?_ | refine .cons (fun _ h => nil_no _ h) ?_ | refine .cons (fun _ h => no_sub _ h) ?_ | refine .cons (fun _ h => AccP.sub (by assumption) _ _ h) ?_)) | (refine tuple_sub ?_ x h; repeat (first | exact .nil | refine .cons (fun _ h => h) ?_ | refine .cons (fun _ h => nil_no _ h) ?_ | refine .cons (fun _ h => no_sub _ h) ?_ | refine .cons (fun _ h => AccP.sub (by assumption) _ _ h) ?_ | refine .cons (fun _ h => agg_sub rfl (by repeat (first | exact .nil | refine .cons (fun _ h => h) ?_ | refine .cons (fun _ h => nil_no _ h) ?_ | refine .cons (fun _ h => no_sub _ h) ?_ | refine .cons (fun _ h => AccP.sub (by assumption) _ _ h) ?_)) _ h) ?_))))) (by (repeat (first | exact AH.le_refl _ | assumption | exact AccP.le (by assumption) | refine AH.le_put ?_ (by first | assumption | exact none_of_le (by assumption) (by assumption) | exact And.right (by assumption) | exact And.right (And.right (by assumption))) _ | refine AH.le_trans ?_ (AccP.le (by assumption))))))
  · repeat' (first | with_reducible (first | refine am_seq ?_ | refine am_block ?_) | ((with_reducible apply am_cond); (case hb => rfl); all_goals (intro hc; (try simp only [reduceCtorEq, decide_eq_true_eq, decide_eq_false_iff_not, Bool.or_eq_true, Bool.and_eq_true, Bool.or_eq_false_iff, Bool.not_eq_true', Bool.not_eq_false', beq_iff_eq] at hc); (try (exfalso; omega)))) | ((first | with_reducible (first | refine am_reg ?_ | refine am_drw ?_ | refine am_drx ?_ | refine am_skip ?_ | refine am_exit ?_ | refine am_ret ?_ | refine And.intro (by first | exact AH.lec_refl _ | assumption | exact AccP.lec (by assumption) | omega) ?_ | refine isnE_of (fun hc => ?_) (fun hc => ?_) (fun hc => ?_) | refine need_elems (by assumption) ?_ | refine vlen_acc (by assumption) ?_ | refine need_bytes (by assumption) ?_ | refine call_of (near_calls _) ?_ | refine qcall_of (near_calls _) ?_ | refine need_look (by repeat (first | assumption | exact AH.put_same _ _ _ | refine look_put ?_ (by assumption) | refine look_lec ?_ (by assumption))) ?_) | ((with_reducible (first | refine gd_not (fun hc => ?_) (fun hc => ?_) | refine gd_of (fun hc => ?_) (fun hc => ?_) | refine gq_not (fun hc => ?_) (fun hc => ?_) | refine gq_of (fun hc => ?_) (fun hc => ?_) | refine pickB_of (fun hc => ?_) (fun hc => ?_))) <;> (try simp -implicitDefEqProofs (disch := omega) only [go_sem, eq_self, decide_true, decide_false, Nat.reduceBEq, Nat.reduceAdd, Nat.reduceSub, Nat.reduceMul, Nat.reduceEqDiff, Nat.reduceLeDiff, Nat.reduceLT, Int.reduceLE, Int.reduceLT, Int.reduceToNat, Int.reduceAdd, Int.reduceEq, Int.reduceNeg, AH.put_ne, hc, hn, hm, Bool.not_false, Bool.not_true]) <;> (try simp only [reduceCtorEq, decide_eq_true_eq, decide_eq_false_iff_not, Bool.or_eq_true, Bool.and_eq_true, Bool.or_eq_false_iff, Bool.not_eq_true', Bool.not_eq_false', beq_iff_eq] at hc) <;> (try (exfalso; omega))) | ((with_reducible refine alloc_intro (fun ko hko => ?_)) <;> (try have hne := fresh_ne (by assumption) hko) <;> (try have hnk := fresh_ne hk hko) <;> (try have hnk2 := fresh_ne hk2 hko) <;> (try simp only [AH.put_none] at hko)) | ((with_reducible (first | refine vapp_accL (by assumption) ?_ (fun v2 H2 hacc hlec => ?_) | refine vapp_accL (AccP.mono (by assumption) (AccP.le (by assumption))) ?_ (fun v2 H2 hacc hlec => ?_) | refine vapp_accL (AccP.new (by assumption) (by assumption) _) ?_ (fun v2 H2 hacc hlec => ?_))); · simp only [byteCells_length, List.length_cons, List.length_nil, List.length_map, List.length_append, vE_length, mE_length, strE_len, List.length_take]; omega)) <;> (try simp -implicitDefEqProofs (disch := omega) only [go_sem, eq_self, decide_true, decide_false, Nat.reduceBEq, Nat.reduceAdd, Nat.reduceSub, Nat.reduceMul, Nat.reduceEqDiff, Nat.reduceLeDiff, Nat.reduceLT, Int.reduceLE, Int.reduceLT, Int.reduceToNat, Int.reduceAdd, Int.reduceEq, Int.reduceNeg, AH.put_ne, hn, hm, Bool.not_false, Bool.not_true])))
    all_goals simp only [Bool.and_false, Bool.false_and, Bool.and_true, if_true, Bool.false_eq_true, if_false, vV_nul]
    all_goals (refine drop_end (by (first | exact fun _ _ h => h | (intro s x h; first | exact no_sub _ h | exact nil_no _ h | exact AccP.sub (by assumption) _ _ h | (refine agg_sub rfl ?_ x h; repeat (first | exact .nil | refine .cons (fun _ h => h) ?_ | refine .cons (fun _ h => nil_no _ h) ?_ | refine .cons (fun _ h => no_sub _ h) ?_ | refine .cons (fun _ h => AccP.sub (by assumption) _ _ h) ?_)) | (refine tuple_sub ?_ x h; repeat (first | exact .nil | refine .cons (fun _ h => h) ?_ | refine .cons (fun _ h => nil_no _ h) ?_ | refine .cons (fun _ h => no_sub _ h) ?_ | refine .cons (fun _ h => AccP.sub (by assumption) _ _ h) ?_ | refine .cons (fun _ h => agg_sub rfl (by repeat (first | exact .nil | refine .cons (fun _ h => h) ?_ | refine .cons (fun _ h => nil_no _ h) ?_ | refine .cons (fun _ h => no_sub _ h) ?_ | refine .cons (fun _ h => AccP.sub (by assumption) _ _ h) ?_)) _ h) ?_))))) (by (repeat (first | exact AH.le_refl _ | assumption | exact AccP.le (by assumption) | refine AH.le_put ?_ (by first | assumption | exact none_of_le (by assumption) (by assumption) | exact And.right (by assumption) | exact And.right (And.right (by assumption))) _ | refine AH.le_trans ?_ (AccP.le (by assumption))))))
  · repeat' (first | with_reducible (first | refine am_seq ?_ | refine am_block ?_) | ((with_reducible apply am_cond); (case hb => rfl); all_goals (intro hc; (try simp only [reduceCtorEq, decide_eq_true_eq, decide_eq_false_iff_not, Bool.or_eq_true, Bool.and_eq_true, Bool.or_eq_false_iff, Bool.not_eq_true', Bool.not_eq_false', beq_iff_eq] at hc); (try (exfalso; omega)))) | ((first | with_reducible (first | refine am_reg ?_ | refine am_drw ?_ | refine am_drx ?_ | refine am_skip ?_ | refine am_exit ?_ | refine am_ret ?_ | refine And.intro (by first | exact AH.lec_refl _ | assumption | exact AccP.lec (by assumption) | omega) ?_ | refine isnE_of (fun hc => ?_) (fun hc => ?_) (fun hc => ?_) | refine need_elems (by assumption) ?_ | refine vlen_acc (by assumption) ?_ | refine need_bytes (by assumption) ?_ | refine call_of (near_calls _) ?_ | refine qcall_of (near_calls _) ?_ | refine need_look (by repeat (first | assumption | exact AH.put_same _ _ _ | refine look_put ?_ (by assumption) | refine look_lec ?_ (by assumption))) ?_) | ((with_reducible (first | refine gd_not (fun hc => ?_) (fun hc => ?_) | refine gd_of (fun hc => ?_) (fun hc => ?_) | refine gq_not (fun hc => ?_) (fun hc => ?_) | refine gq_of (fun hc => ?_) (fun hc => ?_) | refine pickB_of (fun hc => ?_) (fun hc => ?_))) <;> (try simp -implicitDefEqProofs (disch := omega) only [go_sem, eq_self, decide_true, decide_false, Nat.reduceBEq, Nat.reduceAdd, Nat.reduceSub, Nat.reduceMul, Nat.reduceEqDiff, Nat.reduceLeDiff, Nat.reduceLT, Int.reduceLE, Int.reduceLT, Int.reduceToNat, Int.reduceAdd, Int.reduceEq, Int.reduceNeg, AH.put_ne, hc, hn, hm, Bool.not_false, Bool.not_true]) <;> (try simp only [reduceCtorEq, decide_eq_true_eq, decide_eq_false_iff_not, Bool.or_eq_true, Bool.and_eq_true, Bool.or_eq_false_iff, Bool.not_eq_true', Bool.not_eq_false', beq_iff_eq] at hc) <;> (try (exfalso; omega))) | ((with_reducible refine alloc_intro (fun ko hko => ?_)) <;> (try have hne := fresh_ne (by assumption) hko) <;> (try have hnk := fresh_ne hk hko) <;> (try have hnk2 := fresh_ne hk2 hko) <;> (try simp only [AH.put_none] at hko)) | ((with_reducible (first | refine vapp_accL (by assumption) ?_ (fun v2 H2 hacc hlec => ?_) | refine vapp_accL (AccP.mono (by assumption) (AccP.le (by assumption))) ?_ (fun v2 H2 hacc hlec => ?_) | refine vapp_accL (AccP.new (by assumption) (by assumption) _) ?_ (fun v2 H2 hacc hlec => ?_))); · simp only [byteCells_length, List.length_cons, List.length_nil, List.length_map, List.length_append, vE_length, mE_length, strE_len, List.length_take]; omega)) <;> (try simp -implicitDefEqProofs (disch := omega) only [go_sem, eq_self, decide_true, decide_false, Nat.reduceBEq, Nat.reduceAdd, Nat.reduceSub, Nat.reduceMul, Nat.reduceEqDiff, Nat.reduceLeDiff, Nat.reduceLT, Int.reduceLE, Int.reduceLT, Int.reduceToNat, Int.reduceAdd, Int.reduceEq, Int.reduceNeg, AH.put_ne, hn, hm, Bool.not_false, Bool.not_true])))
    all_goals simp only [Bool.and_false, Bool.false_and, Bool.and_true, if_true, Bool.false_eq_true, if_false, vV_nul]
    all_goals (refine drop_end (by (first | exact fun _ _ h => h | (intro s x h; first | exact no_sub _ h | exact nil_no _ h | exact AccP.sub (by assumption) _ _ h | (refine agg_sub rfl ?_ x h; repeat (first | exact .nil | refine .cons (fun _ h => h) ?_ | refine .cons (fun _ h => nil_no _ h) ?_ | refine .cons (fun _ h => no_sub _ h) ?_ | refine .cons (fun _ h => AccP.sub (by assumption) _ _ h) ?_)) | (refine tuple_sub ?_ x h; repeat (first | exact .nil | refine .cons (fun _ h => h) ?_ | refine .cons (fun _ h => nil_no _ h) ?_ | refine .cons (fun _ h => no_sub _ h) ?_ | refine .cons (fun _ h => AccP.sub (by assumption) _ _ h) ?_ | refine .cons (fun _ h => agg_sub rfl (by repeat (first | exact .nil | refine .cons (fun _ h => h) ?_ | refine .cons (fun _ h => nil_no _ h) ?_ | refine .cons (fun _ h => no_sub _ h) ?_ | refine .cons (fun _ h => AccP.sub (by assumption) _ _ h) ?_)) _ h) ?_))))) (by (repeat (first | exact AH.le_refl _ | assumption | exact AccP.le (by assumption) | refine AH.le_put ?_ (by first | assumption | exact none_of_le (by assumption) (by assumption) | exact And.right (by assumption) | exact And.right (And.right (by assumption))) _ | refine AH.le_trans ?_ (AccP.le (by assumption))))))
  · repeat' (first | with_reducible (first | refine am_seq ?_ | refine am_block ?_) | ((with_reducible apply am_cond); (case hb => rfl); all_goals (intro hc; (try simp only [reduceCtorEq, decide_eq_true_eq, decide_eq_false_iff_not, Bool.or_eq_true, Bool.and_eq_true, Bool.or_eq_false_iff, Bool.not_eq_true', Bool.not_eq_false', beq_iff_eq] at hc); (try (exfalso; omega)))) | ((first | with_reducible (first | refine am_reg ?_ | refine am_drw ?_ | refine am_drx ?_ | refine am_skip ?_ | refine am_exit ?_ | refine am_ret ?_ | refine And.intro (by first | exact AH.lec_refl _ | assumption | exact AccP.lec (by assumption) | omega) ?_ | refine isnE_of (fun hc => ?_) (fun hc => ?_) (fun hc => ?_) | refine need_elems (by assumption) ?_ | refine vlen_acc (by assumption) ?_ | refine need_bytes (by assumption) ?_ | refine call_of (near_calls _) ?_ | refine qcall_of (near_calls _) ?_ | refine need_look (by repeat (first | assumption | exact AH.put_same _ _ _ | refine look_put ?_ (by assumption) | refine look_lec ?_ (by assumption))) ?_) | ((with_reducible (first | refine gd_not (fun hc => ?_) (fun hc => ?_) | refine gd_of (fun hc => ?_) (fun hc => ?_) | refine gq_not (fun hc => ?_) (fun hc => ?_) | refine gq_of (fun hc => ?_) (fun hc => ?_) | refine pickB_of (fun hc => ?_) (fun hc => ?_))) <;> (try simp -implicitDefEqProofs (disch := omega) only [go_sem, eq_self, decide_true, decide_false, Nat.reduceBEq, Nat.reduceAdd, Nat.reduceSub, Nat.reduceMul, Nat.reduceEqDiff, Nat.reduceLeDiff, Nat.reduceLT, Int.reduceLE, Int.reduceLT, Int.reduceToNat, Int.reduceAdd, Int.reduceEq, Int.reduceNeg, AH.put_ne, hc, hn, hm, Bool.not_false, Bool.not_true]) <;> (try simp only [reduceCtorEq, decide_eq_true_eq, decide_eq_false_iff_not, Bool.or_eq_true, Bool.and_eq_true, Bool.or_eq_false_iff, Bool.not_eq_true', Bool.not_eq_false', beq_iff_eq] at hc) <;> (try (exfalso; omega))) | ((with_reducible refine alloc_intro (fun ko hko => ?_)) <;> (try have hne := fresh_ne (by assumption) hko) <;> (try have hnk := fresh_ne hk hko) <;> (try have hnk2 := fresh_ne hk2 hko) <;> (try simp only [AH.put_none] at hko)) | ((with_reducible (first | refine vapp_accL (by assumption) ?_ (fun v2 H2 hacc hlec => ?_) | refine vapp_accL (AccP.mono (by assumption) (AccP.le (by assumption))) ?_ (fun v2 H2 hacc hlec => ?_) | refine vapp_accL (AccP.new (by assumption) (by assumption) _) ?_ (fun v2 H2 hacc hlec => ?_))); · simp only [byteCells_length, List.length_cons, List.length_nil, List.length_map, List.length_append, vE_length, mE_length, strE_len, List.length_take]; omega)) <;> (try simp -implicitDefEqProofs (disch := omega) only [go_sem, eq_self, decide_true, decide_false, Nat.reduceBEq, Nat.reduceAdd, Nat.reduceSub, Nat.reduceMul, Nat.reduceEqDiff, Nat.reduceLeDiff, Nat.reduceLT, Int.reduceLE, Int.reduceLT, Int.reduceToNat, Int.reduceAdd, Int.reduceEq, Int.reduceNeg, AH.put_ne, hn, hm, Bool.not_false, Bool.not_true])))
    all_goals simp only [Bool.and_false, Bool.false_and, Bool.and_true, if_true, Bool.false_eq_true, if_false, vV_pt, fl]
    all_goals (refine drop_end (by (first | exact fun _ _ h => h | (intro s x h; first | exact no_sub _ h | exact nil_no _ h | exact AccP.sub (by assumption) _ _ h | (refine agg_sub rfl ?_ x h; repeat (first | exact .nil | refine .cons (fun _ h => h) ?_ | refine .cons (fun _ h => nil_no _ h) ?_ | refine .cons (fun _ h => no_sub _ h) ?_ | refine .cons (fun _ h => AccP.sub (by assumption) _ _ h) ?_)) | (refine tuple_sub ?_ x h; repeat (first | exact .nil | refine .cons (fun _ h => h) ?_ | refine .cons (fun _ h => nil_no _ h) ?_ | refine .cons (fun _ h => no_sub _ h) ?_ | refine .cons (fun _ h => AccP.sub (by assumption) _ _ h) ?_ | refine .cons (fun _ h => agg_sub rfl (by repeat (first | exact .nil | refine .cons (fun _ h => h) ?_ | refine .cons (fun _ h => nil_no _ h) ?_ | refine .cons (fun _ h => no_sub _ h) ?_ | refine .cons (fun _ h => AccP.sub (by assumption) _ _ h) ?_)) _ h) ?_))))) (by (repeat (first | exact AH.le_refl _ | assumption | exact AccP.le (by assumption) | refine AH.le_put ?_ (by first | assumption | exact none_of_le (by assumption) (by assumption) | exact And.right (by assumption) | exact And.right (And.right (by assumption))) _ | refine AH.le_trans ?_ (AccP.le (by assumption))))))
def Vl.isP : Vl → Int × Int × Bool
  | .pt n m => (n, m, true)
  | _ => (0, 0, false)
theorem fl_back {n : Int} (h1 : -9007199254740992 ≤ n) (h2 : n ≤ 9007199254740992) : floatToIntVal .f64 (fl n) .i64 = some n := near_back n h1 h2
theorem fl_zero : floatToIntVal .f64 0 .i64 = some 0 := by decide
theorem point_calls {v : Vl} (ho : v.Ok) (H : AH) : ACalls Try.prog 51 [.agg [vV v]] H (fun o H' => o = .ret (.tuple [.int .i64 v.isP.1, .int .i64 v.isP.2.1, .bool v.isP.2.2]) ∧ H' = H) := by
  refine ACalls.drop ?_
  refine acalls Try.func51 c51 r51 (by simp [Try.ntmps51]) ?_
  cases v
  case pt n m =>
    rw [vV_pt]
    cases ho with
    | pt _ _ h1 h2 h3 h4 =>
      repeat' (first | with_reducible (first | refine am_seq ?_ | refine am_block ?_) | ((with_reducible apply am_cond); (case hb => rfl); all_goals (intro hc; (try simp only [reduceCtorEq, decide_eq_true_eq, decide_eq_false_iff_not, Bool.or_eq_true, Bool.and_eq_true, Bool.or_eq_false_iff, Bool.not_eq_true', Bool.not_eq_false', beq_iff_eq] at hc); (try (exfalso; omega)))) | ((first | with_reducible (first | refine am_reg ?_ | refine am_drw ?_ | refine am_drx ?_ | refine am_skip ?_ | refine am_exit ?_ | refine am_ret ?_ | refine And.intro (by first | exact AH.lec_refl _ | assumption | exact AccP.lec (by assumption) | omega) ?_ | refine isnE_of (fun hc => ?_) (fun hc => ?_) (fun hc => ?_) | refine need_elems (by assumption) ?_ | refine vlen_acc (by assumption) ?_ | refine need_bytes (by assumption) ?_ | refine need_look (by repeat (first | assumption | exact AH.put_same _ _ _ | refine look_put ?_ (by assumption) | refine look_lec ?_ (by assumption))) ?_) | ((with_reducible (first | refine gd_not (fun hc => ?_) (fun hc => ?_) | refine gd_of (fun hc => ?_) (fun hc => ?_) | refine gq_not (fun hc => ?_) (fun hc => ?_) | refine gq_of (fun hc => ?_) (fun hc => ?_) | refine pickB_of (fun hc => ?_) (fun hc => ?_))) <;> (try simp -implicitDefEqProofs (disch := omega) only [go_sem, eq_self, decide_true, decide_false, Nat.reduceBEq, Nat.reduceAdd, Nat.reduceSub, Nat.reduceMul, Nat.reduceEqDiff, Nat.reduceLeDiff, Nat.reduceLT, Int.reduceLE, Int.reduceLT, Int.reduceToNat, Int.reduceAdd, Int.reduceEq, Int.reduceNeg, AH.put_ne, hc, true_or, or_true, true_and, fl_back h1 h2, fl_back h3 h4]) <;> (try simp only [reduceCtorEq, decide_eq_true_eq, decide_eq_false_iff_not, Bool.or_eq_true, Bool.and_eq_true, Bool.or_eq_false_iff, Bool.not_eq_true', Bool.not_eq_false', beq_iff_eq] at hc) <;> (try (exfalso; omega))) | ((with_reducible refine alloc_intro (fun ko hko => ?_)) <;> (try have hne := fresh_ne (by assumption) hko) <;> (try have hnk := fresh_ne hk hko) <;> (try have hnk2 := fresh_ne hk2 hko) <;> (try simp only [AH.put_none] at hko)) | ((with_reducible (first | refine vapp_accL (by assumption) ?_ (fun v2 H2 hacc hlec => ?_) | refine vapp_accL (AccP.mono (by assumption) (AccP.le (by assumption))) ?_ (fun v2 H2 hacc hlec => ?_) | refine vapp_accL (AccP.new (by assumption) (by assumption) _) ?_ (fun v2 H2 hacc hlec => ?_))); · simp only [byteCells_length, List.length_cons, List.length_nil, List.length_map, List.length_append, vE_length, mE_length, strE_len, List.length_take]; omega)) <;> (try simp -implicitDefEqProofs (disch := omega) only [go_sem, eq_self, decide_true, decide_false, Nat.reduceBEq, Nat.reduceAdd, Nat.reduceSub, Nat.reduceMul, Nat.reduceEqDiff, Nat.reduceLeDiff, Nat.reduceLT, Int.reduceLE, Int.reduceLT, Int.reduceToNat, Int.reduceAdd, Int.reduceEq, Int.reduceNeg, AH.put_ne, true_or, or_true, true_and, fl_back h1 h2, fl_back h3 h4])))
      all_goals (refine drop_end (by (first | exact fun _ _ h => h | (intro s x h; first | exact no_sub _ h | exact nil_no _ h | exact AccP.sub (by assumption) _ _ h | (refine agg_sub rfl ?_ x h; repeat (first | exact .nil | refine .cons (fun _ h => h) ?_ | refine .cons (fun _ h => nil_no _ h) ?_ | refine .cons (fun _ h => no_sub _ h) ?_ | refine .cons (fun _ h => AccP.sub (by assumption) _ _ h) ?_)) | (refine tuple_sub ?_ x h; repeat (first | exact .nil | refine .cons (fun _ h => h) ?_ | refine .cons (fun _ h => nil_no _ h) ?_ | refine .cons (fun _ h => no_sub _ h) ?_ | refine .cons (fun _ h => AccP.sub (by assumption) _ _ h) ?_ | refine .cons (fun _ h => agg_sub rfl (by repeat (first | exact .nil | refine .cons (fun _ h => h) ?_ | refine .cons (fun _ h => nil_no _ h) ?_ | refine .cons (fun _ h => no_sub _ h) ?_ | refine .cons (fun _ h => AccP.sub (by assumption) _ _ h) ?_)) _ h) ?_))))) (by (repeat (first | exact AH.le_refl _ | assumption | exact AccP.le (by assumption) | refine AH.le_put ?_ (by first | assumption | exact none_of_le (by assumption) (by assumption) | exact And.right (by assumption) | exact And.right (And.right (by assumption))) _ | refine AH.le_trans ?_ (AccP.le (by assumption))))))
  all_goals simp only [vV_nul, vV_unk, vV_bool, vV_int, vV_pt, vV_text, vV_list, vV_map]
  repeat' (first | with_reducible (first | refine am_seq ?_ | refine am_block ?_) | ((with_reducible apply am_cond); (case hb => rfl); all_goals (intro hc; (try simp only [reduceCtorEq, decide_eq_true_eq, decide_eq_false_iff_not, Bool.or_eq_true, Bool.and_eq_true, Bool.or_eq_false_iff, Bool.not_eq_true', Bool.not_eq_false', beq_iff_eq] at hc); (try (exfalso; omega)))) | ((first | with_reducible (first | refine am_reg ?_ | refine am_drw ?_ | refine am_drx ?_ | refine am_skip ?_ | refine am_exit ?_ | refine am_ret ?_ | refine And.intro (by first | exact AH.lec_refl _ | assumption | exact AccP.lec (by assumption) | omega) ?_ | refine isnE_of (fun hc => ?_) (fun hc => ?_) (fun hc => ?_) | refine need_elems (by assumption) ?_ | refine vlen_acc (by assumption) ?_ | refine need_bytes (by assumption) ?_ | refine need_look (by repeat (first | assumption | exact AH.put_same _ _ _ | refine look_put ?_ (by assumption) | refine look_lec ?_ (by assumption))) ?_) | ((with_reducible (first | refine gd_not (fun hc => ?_) (fun hc => ?_) | refine gd_of (fun hc => ?_) (fun hc => ?_) | refine gq_not (fun hc => ?_) (fun hc => ?_) | refine gq_of (fun hc => ?_) (fun hc => ?_) | refine pickB_of (fun hc => ?_) (fun hc => ?_))) <;> (try simp -implicitDefEqProofs (disch := omega) only [go_sem, eq_self, decide_true, decide_false, Nat.reduceBEq, Nat.reduceAdd, Nat.reduceSub, Nat.reduceMul, Nat.reduceEqDiff, Nat.reduceLeDiff, Nat.reduceLT, Int.reduceLE, Int.reduceLT, Int.reduceToNat, Int.reduceAdd, Int.reduceEq, Int.reduceNeg, AH.put_ne, hc, true_or, or_true, true_and, fl_zero]) <;> (try simp only [reduceCtorEq, decide_eq_true_eq, decide_eq_false_iff_not, Bool.or_eq_true, Bool.and_eq_true, Bool.or_eq_false_iff, Bool.not_eq_true', Bool.not_eq_false', beq_iff_eq] at hc) <;> (try (exfalso; omega))) | ((with_reducible refine alloc_intro (fun ko hko => ?_)) <;> (try have hne := fresh_ne (by assumption) hko) <;> (try have hnk := fresh_ne hk hko) <;> (try have hnk2 := fresh_ne hk2 hko) <;> (try simp only [AH.put_none] at hko)) | ((with_reducible (first | refine vapp_accL (by assumption) ?_ (fun v2 H2 hacc hlec => ?_) | refine vapp_accL (AccP.mono (by assumption) (AccP.le (by assumption))) ?_ (fun v2 H2 hacc hlec => ?_) | refine vapp_accL (AccP.new (by assumption) (by assumption) _) ?_ (fun v2 H2 hacc hlec => ?_))); · simp only [byteCells_length, List.length_cons, List.length_nil, List.length_map, List.length_append, vE_length, mE_length, strE_len, List.length_take]; omega)) <;> (try simp -implicitDefEqProofs (disch := omega) only [go_sem, eq_self, decide_true, decide_false, Nat.reduceBEq, Nat.reduceAdd, Nat.reduceSub, Nat.reduceMul, Nat.reduceEqDiff, Nat.reduceLeDiff, Nat.reduceLT, Int.reduceLE, Int.reduceLT, Int.reduceToNat, Int.reduceAdd, Int.reduceEq, Int.reduceNeg, AH.put_ne, true_or, or_true, true_and, fl_zero])))
  all_goals (refine drop_end (by (first | exact fun _ _ h => h | (intro s x h; first | exact no_sub _ h | exact nil_no _ h | exact AccP.sub (by assumption) _ _ h | (refine agg_sub rfl ?_ x h; repeat (first | exact .nil | refine .cons (fun _ h => h) ?_ | refine .cons (fun _ h => nil_no _ h) ?_ | refine .cons (fun _ h => no_sub _ h) ?_ | refine .cons (fun _ h => AccP.sub (by assumption) _ _ h) ?_)) | (refine tuple_sub ?_ x h; repeat (first | exact .nil | refine .cons (fun _ h => h) ?_ | refine .cons (fun _ h => nil_no _ h) ?_ | refine .cons (fun _ h => no_sub _ h) ?_ | refine .cons (fun _ h => AccP.sub (by assumption) _ _ h) ?_ | refine .cons (fun _ h => agg_sub rfl (by repeat (first | exact .nil | refine .cons (fun _ h => h) ?_ | refine .cons (fun _ h => nil_no _ h) ?_ | refine .cons (fun _ h => no_sub _ h) ?_ | refine .cons (fun _ h => AccP.sub (by assumption) _ _ h) ?_)) _ h) ?_))))) (by (repeat (first | exact AH.le_refl _ | assumption | exact AccP.le (by assumption) | refine AH.le_put ?_ (by first | assumption | exact none_of_le (by assumption) (by assumption) | exact And.right (by assumption) | exact And.right (And.right (by assumption))) _ | refine AH.le_trans ?_ (AccP.le (by assumption))))))
end Go.Proofs.Ytjlphncecdlmcaa
namespace Go.Proofs.Ytjlphncecdlmcaa
open Go.Vm Go.Sort
attribute [local go_sem] List.drop_zero toNat_succ Nat.sub_zero Int.toNat_natCast Option.map_some Int.natCast_nonneg decide_eq_true_eq decide_eq_false_iff_not
/- flange/value.Map -/
abbrev k49_0 : MC :=
  .cond (.t 15) ((.seq (.reg [
     ⟨(some 16), none, .build [.nilIface] []⟩,
     ⟨none, none, .store 1 (.t 4) (.t 16)⟩,
     ⟨(some 5), none, .val (.mv (.c (.int .i64 1)))⟩] [4, 5]) (.ret))) (.skip)
abbrev k49_1 : MC :=
  .cond (.t 31) ((.seq (.reg [
     ⟨(some 32), none, .build [.nilIface] []⟩,
     ⟨none, none, .store 1 (.t 4) (.t 32)⟩,
     ⟨(some 5), none, .val (.mv (.c (.int .i64 9)))⟩] [4, 5]) (.ret))) (.skip)
abbrev k49_2 : MC :=
  (.seq (.reg [
    ⟨(some 31), none, .val (.mv (.t 10))⟩] [1, 4, 6, 7, 8, 18, 19, 20, 31]) k49_1)
abbrev k49_3 : MC :=
  .reg [
    ⟨(some 33), none, .val (.mv (.t 6))⟩,
    ⟨(some 34), none, .val (.mv (.t 8))⟩,
    ⟨(some 35), none, .val (.mv (.t 1))⟩,
    ⟨(some 36), none, .val (.mv (.t 7))⟩,
    ⟨(some 37), none, .val (.iaddr 1 (.t 35) (.t 36))⟩,
    ⟨(some 38), none, .val (.load true 1 (.t 37))⟩,
    ⟨none, none, .xo (.mset .str) [(.t 33), (.t 34), (.t 38)]⟩] [1, 4, 6, 18, 19, 20]
abbrev k49_4 : MC :=
  (.seq ((.seq (.reg [
    ⟨(some 26), none, .val (.mv (.t 6))⟩,
    ⟨(some 27), none, .val (.mv (.t 8))⟩,
    ⟨(some 28), none, .val (.yo (.look .str (.agg [.nilIface]) true) [(.t 26), (.t 27)])⟩,
    ⟨(some 25), none, .val (.mv (.t 28))⟩,
    ⟨(some 29), none, .val (.ext (.t 25) 0)⟩,
    ⟨(some 30), none, .val (.ext (.t 25) 1)⟩,
    ⟨(some 9), none, .zalloc [.nilIface]⟩,
    ⟨none, none, .store 1 (.t 9) (.t 29)⟩,
    ⟨(some 10), none, .val (.mv (.t 30))⟩] [1, 4, 6, 7, 8, 10, 18, 19, 20]) k49_2)) k49_3)
abbrev k49_5 : MC :=
  .reg [
    ⟨(some 39), none, .val (.bin .add .num (.t 20) (.c (.int .i64 1)))⟩,
    ⟨(some 20), none, .val (.mv (.t 39))⟩] [1, 4, 6, 18, 19, 20]
abbrev k49_6 : MC :=
  (.seq (.block 1 ((.seq (.reg [
     ⟨(some 22), none, .val (.mv (.t 20))⟩,
     ⟨(some 23), none, .val (.iaddr 1 (.t 18) (.t 20))⟩,
     ⟨(some 24), none, .val (.load false 1 (.t 23))⟩,
     ⟨(some 7), none, .val (.mv (.t 22))⟩,
     ⟨(some 8), none, .val (.mv (.t 24))⟩] [1, 4, 6, 7, 8, 18, 19, 20]) k49_4))) k49_5)
abbrev k49_7 : MC :=
  (.seq (.cond (.t 21) (.skip) (.exit 0)) k49_6)
abbrev k49_8 : MC :=
  (.seq (.reg [
    ⟨(some 21), none, .val (.bin .lss .num (.t 20) (.t 19))⟩] [1, 4, 6, 18, 19, 20, 21]) k49_7)
abbrev k49_9 : MC :=
  .block 0 (.loop k49_8)
abbrev k49_10 : MC :=
  (.seq (.reg [
    ⟨(some 40), none, .val (.mv (.t 6))⟩,
    ⟨(some 41), none, .val (.mkif 131 (.t 40))⟩,
    ⟨(some 42), none, .build [.nilIface] [(0, 1, (.t 41))]⟩,
    ⟨none, none, .store 1 (.t 4) (.t 42)⟩,
    ⟨(some 5), none, .val (.mv (.c (.int .i64 0)))⟩] [4, 5]) (.ret))
abbrev k49_11 : MC :=
  (.seq ((.seq (.reg [
    ⟨(some 18), none, .val (.mv (.t 0))⟩,
    ⟨(some 19), none, .val (.len .sl (.t 18))⟩,
    ⟨(some 20), none, .val (.mv (.c (.int .i64 0)))⟩] [1, 4, 6, 18, 19, 20]) k49_9)) k49_10)
abbrev k49_12 : MC :=
  (.seq (.reg [
    ⟨(some 17), none, .xo .mkmap []⟩,
    ⟨(some 6), none, .val (.mv (.t 17))⟩] [0, 1, 4, 6]) k49_11)
abbrev k49_13 : MC :=
  (.seq ((.seq (.reg [
    ⟨(some 11), none, .val (.mv (.t 0))⟩,
    ⟨(some 12), none, .val (.len .sl (.t 11))⟩,
    ⟨(some 13), none, .val (.mv (.t 1))⟩,
    ⟨(some 14), none, .val (.len .sl (.t 13))⟩,
    ⟨(some 15), none, .val (.bin .neq .num (.t 12) (.t 14))⟩] [0, 1, 4, 15]) k49_0)) k49_12)
abbrev k49 : MC :=
  (.seq (.reg [
    ⟨(some 4), none, .zalloc [.nilIface]⟩,
    ⟨(some 5), none, .val (.mv (.c (.int .i64 0)))⟩] [0, 1, 4]) k49_13)
theorem c49 : Try.f49.body.bind (mcOf Try.prog (List.contains [] ·) (List.getD [([], [0, 1, 4]), ([], [0, 1, 4, 15]), ([], [4, 5]), ([], [0, 1, 4, 6]), ([], [1, 4, 6, 18, 19, 20]), ([], [1, 4, 6, 18, 19, 20, 21]), ([], [1, 4, 6, 7, 8, 18, 19, 20]), ([], [1, 4, 6, 7, 8, 10, 18, 19, 20]), ([], [1, 4, 6, 7, 8, 18, 19, 20, 31]), ([], [4, 5]), ([], [1, 4, 6, 18, 19, 20]), ([], [1, 4, 6, 18, 19, 20]), ([], [4, 5])] · ([], [])) 43) = some k49 := by kernel_rfl
theorem r49 : rvsOf Try.prog Try.f49.results.toList = some [.cell 4 true 1, .tmp 5] := by kernel_rfl
def mkR (acc : List (List UInt8 × Vl)) : List (List UInt8 × Vl) → Option (List (List UInt8 × Vl))
  | [] => some acc
  | p :: r => if (fnd p.1 acc).isSome then none else mkR (acc ++ [p]) r
def mapR (ks : List (List UInt8)) (l : List Vl) : Vl × Int :=
  if ks.length ≠ l.length then (.nul, 1) else match mkR [] (ks.zip l) with
  | none => (.nul, 9)
  | some es => (.map es, 0)
theorem mE_put (k : List UInt8) (x : Vl) : ∀ es, fnd k es = none → mput .str (.str k) (.agg [vV x]) (mE es) = mE (es ++ [(k, x)])
  | [], _ => rfl
  | p :: es, h => by
    rw [fnd] at h
    split at h
    · cases h
    · rename_i hne
      have h' : ¬ k = p.1 := fun e => hne e.symm
      have := mE_put k x es h
      simp only [mE, List.map_cons, List.cons_append, mput, BK.eq, h', decide_false] at this ⊢
      rw [if_neg (by decide), this]
theorem map_raw {ks : List (List UInt8)} {l : List Vl} {t t2 : Tok} (hb : l.length * 16 ≤ 140000000000000) (H : AH) : ACalls Try.prog 49 [.sl 1 (strE ks) t, .sl 1 (vE l) t2] H (fun o H' => ∃ v, o = .ret v ∧
    (((∀ (s : St) x, s.val v x → s.val (.tuple [.agg [vV (mapR ks l).1], .int .i64 (mapR ks l).2]) x) ∧ H.le H') ∨
    ∃ k es v', H' k = some (.map es) ∧ (∀ s : St, FrozeM s k es → ∀ x, s.val v x → s.val v' x) ∧ (∀ (s : St) x, s.val v' x → s.val (.tuple [.agg [vV (mapR ks l).1], .int .i64 (mapR ks l).2]) x) ∧ H.le (H'.del k))) := by
  refine acalls Try.func49 c49 r49 (by simp [Try.ntmps49]) ?_
  by_cases hlen : ks.length = l.length
  · repeat' (first | with_reducible (first | refine am_seq ?_ | refine am_block ?_) | ((with_reducible apply am_cond); (case hb => rfl); all_goals (intro hc; (try simp only [reduceCtorEq, decide_eq_true_eq, decide_eq_false_iff_not, Bool.or_eq_true, Bool.and_eq_true, Bool.or_eq_false_iff, Bool.not_eq_true', Bool.not_eq_false', beq_iff_eq] at hc); (try (exfalso; omega)))) | ((first | with_reducible (first | refine am_reg ?_ | refine am_drw ?_ | refine am_drx ?_ | refine am_skip ?_ | refine am_exit ?_ | refine am_ret ?_ | refine And.intro (by first | exact AH.lec_refl _ | assumption | exact AccP.lec (by assumption) | omega) ?_ | refine isnE_of (fun hc => ?_) (fun hc => ?_) (fun hc => ?_) | refine need_elems (by assumption) ?_ | refine vlen_acc (by assumption) ?_ | refine need_bytes (by assumption) ?_ | refine need_look (by repeat (first | assumption | exact AH.put_same _ _ _ | refine look_put ?_ (by assumption) | refine look_lec ?_ (by assumption))) ?_) | ((with_reducible (first | refine gd_not (fun hc => ?_) (fun hc => ?_) | refine gd_of (fun hc => ?_) (fun hc => ?_) | refine gq_not (fun hc => ?_) (fun hc => ?_) | refine gq_of (fun hc => ?_) (fun hc => ?_) | refine pickB_of (fun hc => ?_) (fun hc => ?_))) <;> (try simp -implicitDefEqProofs (disch := omega) only [go_sem, eq_self, decide_true, decide_false, Nat.reduceBEq, Nat.reduceAdd, Nat.reduceSub, Nat.reduceMul, Nat.reduceEqDiff, Nat.reduceLeDiff, Nat.reduceLT, Int.reduceLE, Int.reduceLT, Int.reduceToNat, Int.reduceAdd, Int.reduceEq, Int.reduceNeg, AH.put_ne, hc, strE_len, vE_length, hlen]) <;> (try simp only [reduceCtorEq, decide_eq_true_eq, decide_eq_false_iff_not, Bool.or_eq_true, Bool.and_eq_true, Bool.or_eq_false_iff, Bool.not_eq_true', Bool.not_eq_false', beq_iff_eq] at hc) <;> (try (exfalso; omega))) | ((with_reducible refine alloc_intro (fun ko hko => ?_)) <;> (try have hne := fresh_ne (by assumption) hko) <;> (try have hnk := fresh_ne hk hko) <;> (try have hnk2 := fresh_ne hk2 hko) <;> (try simp only [AH.put_none] at hko)) | ((with_reducible (first | refine vapp_accL (by assumption) ?_ (fun v2 H2 hacc hlec => ?_) | refine vapp_accL (AccP.mono (by assumption) (AccP.le (by assumption))) ?_ (fun v2 H2 hacc hlec => ?_) | refine vapp_accL (AccP.new (by assumption) (by assumption) _) ?_ (fun v2 H2 hacc hlec => ?_))); · simp only [byteCells_length, List.length_cons, List.length_nil, List.length_map, List.length_append, vE_length, mE_length, strE_len, List.length_take]; omega)) <;> (try simp -implicitDefEqProofs (disch := omega) only [go_sem, eq_self, decide_true, decide_false, Nat.reduceBEq, Nat.reduceAdd, Nat.reduceSub, Nat.reduceMul, Nat.reduceEqDiff, Nat.reduceLeDiff, Nat.reduceLT, Int.reduceLE, Int.reduceLT, Int.reduceToNat, Int.reduceAdd, Int.reduceEq, Int.reduceNeg, AH.put_ne, strE_len, vE_length, hlen])))
    rename_i kz hkz
    generalize ko = km at *
    have hkm := hko
    clear hko
    have hkm2 := hkm.2
    have nzm : kz ≠ km := fun e => hkm.1 e.symm
    refine am_loop (fun n a H' => ∃ (i : Nat) (acc : List (List UInt8 × Vl)), i + n = l.length ∧ a = [(1, .sl 1 (vE l) t2), (4, .ptr kz 0), (6, .map km), (18, .sl 1 (strE ks) t), (19, .int .i64 l.length), (20, .int .i64 i)] ∧ H' kz = some (.cells [.nilIface]) ∧ H' km = some (.map (mE acc)) ∧ H.le H' ∧ mkR [] (ks.zip l) = mkR acc ((ks.zip l).drop i)) ?_ l.length ⟨0, [], by omega, rfl, look_put (AH.put_same _ _ _) (by rw [AH.put_none]; exact ⟨hkm.1, hkm2⟩), AH.put_same _ _ _, AH.le_put (AH.le_put (AH.le_refl _) hkz _) hkm2 _, rfl⟩
    rintro n a H' ⟨i, acc, hi, rfl, hk, hk2, hle, hr⟩
    have hzl : (ks.zip l).length = l.length := by rw [List.length_zip]; omega
    by_cases hlt : i < l.length
    · have hlt2 : i < ks.length := by omega
      rw [List.drop_eq_getElem_cons (by omega), mkR, List.getElem_zip] at hr
      cases hf : fnd ks[i] acc with
      | some y =>
        rw [hf] at hr
        repeat' (first | with_reducible (first | refine am_seq ?_ | refine am_block ?_) | ((with_reducible apply am_cond); (case hb => rfl); all_goals (intro hc; (try simp only [reduceCtorEq, decide_eq_true_eq, decide_eq_false_iff_not, Bool.or_eq_true, Bool.and_eq_true, Bool.or_eq_false_iff, Bool.not_eq_true', Bool.not_eq_false', beq_iff_eq] at hc); (try (exfalso; omega)))) | ((first | with_reducible (first | refine am_reg ?_ | refine am_drw ?_ | refine am_drx ?_ | refine am_skip ?_ | refine am_exit ?_ | refine am_ret ?_ | refine And.intro (by first | exact AH.lec_refl _ | assumption | exact AccP.lec (by assumption) | omega) ?_ | refine isnE_of (fun hc => ?_) (fun hc => ?_) (fun hc => ?_) | refine need_elems (by assumption) ?_ | refine vlen_acc (by assumption) ?_ | refine need_bytes (by assumption) ?_ | refine need_look (by repeat (first | assumption | exact AH.put_same _ _ _ | refine look_put ?_ (by assumption) | refine look_lec ?_ (by assumption))) ?_) | ((with_reducible (first | refine gd_not (fun hc => ?_) (fun hc => ?_) | refine gd_of (fun hc => ?_) (fun hc => ?_) | refine gq_not (fun hc => ?_) (fun hc => ?_) | refine gq_of (fun hc => ?_) (fun hc => ?_) | refine pickB_of (fun hc => ?_) (fun hc => ?_))) <;> (try simp -implicitDefEqProofs (disch := omega) only [go_sem, eq_self, decide_true, decide_false, Nat.reduceBEq, Nat.reduceAdd, Nat.reduceSub, Nat.reduceMul, Nat.reduceEqDiff, Nat.reduceLeDiff, Nat.reduceLT, Int.reduceLE, Int.reduceLT, Int.reduceToNat, Int.reduceAdd, Int.reduceEq, Int.reduceNeg, AH.put_ne, hc, wrap_id, strE_len, vE_length, strE_get hlt2, vE_get hlt, mE_find, hf, hk, hk2, nzm]) <;> (try simp only [reduceCtorEq, decide_eq_true_eq, decide_eq_false_iff_not, Bool.or_eq_true, Bool.and_eq_true, Bool.or_eq_false_iff, Bool.not_eq_true', Bool.not_eq_false', beq_iff_eq] at hc) <;> (try (exfalso; omega))) | ((with_reducible refine alloc_intro (fun ko hko => ?_)) <;> (try have hne := fresh_ne (by assumption) hko) <;> (try have hnk := fresh_ne hk hko) <;> (try have hnk2 := fresh_ne hk2 hko) <;> (try simp only [AH.put_none] at hko)) | ((with_reducible (first | refine vapp_accL (by assumption) ?_ (fun v2 H2 hacc hlec => ?_) | refine vapp_accL (AccP.mono (by assumption) (AccP.le (by assumption))) ?_ (fun v2 H2 hacc hlec => ?_) | refine vapp_accL (AccP.new (by assumption) (by assumption) _) ?_ (fun v2 H2 hacc hlec => ?_))); · simp only [byteCells_length, List.length_cons, List.length_nil, List.length_map, List.length_append, vE_length, mE_length, strE_len, List.length_take]; omega)) <;> (try simp -implicitDefEqProofs (disch := omega) only [go_sem, eq_self, decide_true, decide_false, Nat.reduceBEq, Nat.reduceAdd, Nat.reduceSub, Nat.reduceMul, Nat.reduceEqDiff, Nat.reduceLeDiff, Nat.reduceLT, Int.reduceLE, Int.reduceLT, Int.reduceToNat, Int.reduceAdd, Int.reduceEq, Int.reduceNeg, AH.put_ne, wrap_id, strE_len, vE_length, strE_get hlt2, vE_get hlt, mE_find, hf, hk, hk2, nzm])))
        all_goals (have e : mapR ks l = (.nul, 9) := by { unfold mapR; rw [if_neg (by omega), hr]; rfl }; rw [e, vV_nul]; exact ⟨_, rfl, .inl ⟨fun s x h => h, AH.le_put (AH.le_put hle (none_of_le hle hko) _) hkz _⟩⟩)
      | none =>
        rw [hf] at hr
        repeat' (first | with_reducible (first | refine am_seq ?_ | refine am_block ?_) | ((with_reducible apply am_cond); (case hb => rfl); all_goals (intro hc; (try simp only [reduceCtorEq, decide_eq_true_eq, decide_eq_false_iff_not, Bool.or_eq_true, Bool.and_eq_true, Bool.or_eq_false_iff, Bool.not_eq_true', Bool.not_eq_false', beq_iff_eq] at hc); (try (exfalso; omega)))) | ((first | with_reducible (first | refine am_reg ?_ | refine am_drw ?_ | refine am_drx ?_ | refine am_skip ?_ | refine am_exit ?_ | refine am_ret ?_ | refine And.intro (by first | exact AH.lec_refl _ | assumption | exact AccP.lec (by assumption) | omega) ?_ | refine isnE_of (fun hc => ?_) (fun hc => ?_) (fun hc => ?_) | refine need_elems (by assumption) ?_ | refine vlen_acc (by assumption) ?_ | refine need_bytes (by assumption) ?_ | refine need_look (by repeat (first | assumption | exact AH.put_same _ _ _ | refine look_put ?_ (by assumption) | refine look_lec ?_ (by assumption))) ?_) | ((with_reducible (first | refine gd_not (fun hc => ?_) (fun hc => ?_) | refine gd_of (fun hc => ?_) (fun hc => ?_) | refine gq_not (fun hc => ?_) (fun hc => ?_) | refine gq_of (fun hc => ?_) (fun hc => ?_) | refine pickB_of (fun hc => ?_) (fun hc => ?_))) <;> (try simp -implicitDefEqProofs (disch := omega) only [go_sem, eq_self, decide_true, decide_false, Nat.reduceBEq, Nat.reduceAdd, Nat.reduceSub, Nat.reduceMul, Nat.reduceEqDiff, Nat.reduceLeDiff, Nat.reduceLT, Int.reduceLE, Int.reduceLT, Int.reduceToNat, Int.reduceAdd, Int.reduceEq, Int.reduceNeg, AH.put_ne, hc, wrap_id, strE_len, vE_length, strE_get hlt2, vE_get hlt, mE_find, mE_put _ _ _ hf, hf, hk, hk2, nzm, Option.map_none]) <;> (try simp only [reduceCtorEq, decide_eq_true_eq, decide_eq_false_iff_not, Bool.or_eq_true, Bool.and_eq_true, Bool.or_eq_false_iff, Bool.not_eq_true', Bool.not_eq_false', beq_iff_eq] at hc) <;> (try (exfalso; omega))) | ((with_reducible refine alloc_intro (fun ko hko => ?_)) <;> (try have hne := fresh_ne (by assumption) hko) <;> (try have hnk := fresh_ne hk hko) <;> (try have hnk2 := fresh_ne hk2 hko) <;> (try simp only [AH.put_none] at hko)) | ((with_reducible (first | refine vapp_accL (by assumption) ?_ (fun v2 H2 hacc hlec => ?_) | refine vapp_accL (AccP.mono (by assumption) (AccP.le (by assumption))) ?_ (fun v2 H2 hacc hlec => ?_) | refine vapp_accL (AccP.new (by assumption) (by assumption) _) ?_ (fun v2 H2 hacc hlec => ?_))); · simp only [byteCells_length, List.length_cons, List.length_nil, List.length_map, List.length_append, vE_length, mE_length, strE_len, List.length_take]; omega)) <;> (try simp -implicitDefEqProofs (disch := omega) only [go_sem, eq_self, decide_true, decide_false, Nat.reduceBEq, Nat.reduceAdd, Nat.reduceSub, Nat.reduceMul, Nat.reduceEqDiff, Nat.reduceLeDiff, Nat.reduceLT, Int.reduceLE, Int.reduceLT, Int.reduceToNat, Int.reduceAdd, Int.reduceEq, Int.reduceNeg, AH.put_ne, wrap_id, strE_len, vE_length, strE_get hlt2, vE_get hlt, mE_find, mE_put _ _ _ hf, hf, hk, hk2, nzm, Option.map_none])))
        all_goals exact ⟨n - 1, by omega, i + 1, _, by omega, rfl, rfl, AH.le_put (AH.le_put hle (none_of_le hle hko) _) hkm2 _, hr⟩
    · rw [List.drop_eq_nil_of_le (by omega), mkR] at hr
      repeat' (first | with_reducible (first | refine am_seq ?_ | refine am_block ?_) | ((with_reducible apply am_cond); (case hb => rfl); all_goals (intro hc; (try simp only [reduceCtorEq, decide_eq_true_eq, decide_eq_false_iff_not, Bool.or_eq_true, Bool.and_eq_true, Bool.or_eq_false_iff, Bool.not_eq_true', Bool.not_eq_false', beq_iff_eq] at hc); (try (exfalso; omega)))) | ((first | with_reducible (first | refine am_reg ?_ | refine am_drw ?_ | refine am_drx ?_ | refine am_skip ?_ | refine am_exit ?_ | refine am_ret ?_ | refine And.intro (by first | exact AH.lec_refl _ | assumption | exact AccP.lec (by assumption) | omega) ?_ | refine isnE_of (fun hc => ?_) (fun hc => ?_) (fun hc => ?_) | refine need_elems (by assumption) ?_ | refine vlen_acc (by assumption) ?_ | refine need_bytes (by assumption) ?_ | refine need_look (by repeat (first | assumption | exact AH.put_same _ _ _ | refine look_put ?_ (by assumption) | refine look_lec ?_ (by assumption))) ?_) | ((with_reducible (first | refine gd_not (fun hc => ?_) (fun hc => ?_) | refine gd_of (fun hc => ?_) (fun hc => ?_) | refine gq_not (fun hc => ?_) (fun hc => ?_) | refine gq_of (fun hc => ?_) (fun hc => ?_) | refine pickB_of (fun hc => ?_) (fun hc => ?_))) <;> (try simp -implicitDefEqProofs (disch := omega) only [go_sem, eq_self, decide_true, decide_false, Nat.reduceBEq, Nat.reduceAdd, Nat.reduceSub, Nat.reduceMul, Nat.reduceEqDiff, Nat.reduceLeDiff, Nat.reduceLT, Int.reduceLE, Int.reduceLT, Int.reduceToNat, Int.reduceAdd, Int.reduceEq, Int.reduceNeg, AH.put_ne, hc, wrap_id, strE_len, vE_length, hk, hk2, nzm]) <;> (try simp only [reduceCtorEq, decide_eq_true_eq, decide_eq_false_iff_not, Bool.or_eq_true, Bool.and_eq_true, Bool.or_eq_false_iff, Bool.not_eq_true', Bool.not_eq_false', beq_iff_eq] at hc) <;> (try (exfalso; omega))) | ((with_reducible refine alloc_intro (fun ko hko => ?_)) <;> (try have hne := fresh_ne (by assumption) hko) <;> (try have hnk := fresh_ne hk hko) <;> (try have hnk2 := fresh_ne hk2 hko) <;> (try simp only [AH.put_none] at hko)) | ((with_reducible (first | refine vapp_accL (by assumption) ?_ (fun v2 H2 hacc hlec => ?_) | refine vapp_accL (AccP.mono (by assumption) (AccP.le (by assumption))) ?_ (fun v2 H2 hacc hlec => ?_) | refine vapp_accL (AccP.new (by assumption) (by assumption) _) ?_ (fun v2 H2 hacc hlec => ?_))); · simp only [byteCells_length, List.length_cons, List.length_nil, List.length_map, List.length_append, vE_length, mE_length, strE_len, List.length_take]; omega)) <;> (try simp -implicitDefEqProofs (disch := omega) only [go_sem, eq_self, decide_true, decide_false, Nat.reduceBEq, Nat.reduceAdd, Nat.reduceSub, Nat.reduceMul, Nat.reduceEqDiff, Nat.reduceLeDiff, Nat.reduceLT, Int.reduceLE, Int.reduceLT, Int.reduceToNat, Int.reduceAdd, Int.reduceEq, Int.reduceNeg, AH.put_ne, wrap_id, strE_len, vE_length, hk, hk2, nzm])))
      have e : mapR ks l = (.map acc, 0) := by unfold mapR; rw [if_neg (by omega), hr]
      rw [e, vV_map]
      refine ⟨_, rfl, .inr ⟨km, mE acc, _, by rw [AH.put_ne _ _ (Ne.symm nzm)]; exact hk2, fun s hf x h => ?_, fun s x h => h, AH.le_del (AH.le_put hle hkz _) hkm2⟩⟩
      exact tuple_sub (.cons (fun y h => agg_sub rfl (.cons (fun y h => iface_sub hf y h) .nil) y h) (.cons (fun y h => h) .nil)) x h
  · repeat' (first | with_reducible (first | refine am_seq ?_ | refine am_block ?_) | ((with_reducible apply am_cond); (case hb => rfl); all_goals (intro hc; (try simp only [reduceCtorEq, decide_eq_true_eq, decide_eq_false_iff_not, Bool.or_eq_true, Bool.and_eq_true, Bool.or_eq_false_iff, Bool.not_eq_true', Bool.not_eq_false', beq_iff_eq] at hc); (try (exfalso; omega)))) | ((first | with_reducible (first | refine am_reg ?_ | refine am_drw ?_ | refine am_drx ?_ | refine am_skip ?_ | refine am_exit ?_ | refine am_ret ?_ | refine And.intro (by first | exact AH.lec_refl _ | assumption | exact AccP.lec (by assumption) | omega) ?_ | refine isnE_of (fun hc => ?_) (fun hc => ?_) (fun hc => ?_) | refine need_elems (by assumption) ?_ | refine vlen_acc (by assumption) ?_ | refine need_bytes (by assumption) ?_ | refine need_look (by repeat (first | assumption | exact AH.put_same _ _ _ | refine look_put ?_ (by assumption) | refine look_lec ?_ (by assumption))) ?_) | ((with_reducible (first | refine gd_not (fun hc => ?_) (fun hc => ?_) | refine gd_of (fun hc => ?_) (fun hc => ?_) | refine gq_not (fun hc => ?_) (fun hc => ?_) | refine gq_of (fun hc => ?_) (fun hc => ?_) | refine pickB_of (fun hc => ?_) (fun hc => ?_))) <;> (try simp -implicitDefEqProofs (disch := omega) only [go_sem, eq_self, decide_true, decide_false, Nat.reduceBEq, Nat.reduceAdd, Nat.reduceSub, Nat.reduceMul, Nat.reduceEqDiff, Nat.reduceLeDiff, Nat.reduceLT, Int.reduceLE, Int.reduceLT, Int.reduceToNat, Int.reduceAdd, Int.reduceEq, Int.reduceNeg, AH.put_ne, hc, strE_len, vE_length, hlen]) <;> (try simp only [reduceCtorEq, decide_eq_true_eq, decide_eq_false_iff_not, Bool.or_eq_true, Bool.and_eq_true, Bool.or_eq_false_iff, Bool.not_eq_true', Bool.not_eq_false', beq_iff_eq] at hc) <;> (try (exfalso; omega))) | ((with_reducible refine alloc_intro (fun ko hko => ?_)) <;> (try have hne := fresh_ne (by assumption) hko) <;> (try have hnk := fresh_ne hk hko) <;> (try have hnk2 := fresh_ne hk2 hko) <;> (try simp only [AH.put_none] at hko)) | ((with_reducible (first | refine vapp_accL (by assumption) ?_ (fun v2 H2 hacc hlec => ?_) | refine vapp_accL (AccP.mono (by assumption) (AccP.le (by assumption))) ?_ (fun v2 H2 hacc hlec => ?_) | refine vapp_accL (AccP.new (by assumption) (by assumption) _) ?_ (fun v2 H2 hacc hlec => ?_))); · simp only [byteCells_length, List.length_cons, List.length_nil, List.length_map, List.length_append, vE_length, mE_length, strE_len, List.length_take]; omega)) <;> (try simp -implicitDefEqProofs (disch := omega) only [go_sem, eq_self, decide_true, decide_false, Nat.reduceBEq, Nat.reduceAdd, Nat.reduceSub, Nat.reduceMul, Nat.reduceEqDiff, Nat.reduceLeDiff, Nat.reduceLT, Int.reduceLE, Int.reduceLT, Int.reduceToNat, Int.reduceAdd, Int.reduceEq, Int.reduceNeg, AH.put_ne, strE_len, vE_length, hlen])))
    all_goals (have e : mapR ks l = (.nul, 1) := by { unfold mapR; rw [if_pos hlen] }; rw [e, vV_nul]; exact ⟨_, rfl, .inl ⟨fun s x h => h, AH.le_put (AH.le_refl _) hko _⟩⟩)
theorem map_calls {ks : List (List UInt8)} {l : List Vl} {t t2 : Tok} (hb : l.length * 16 ≤ 140000000000000) (H : AH) : ACalls Try.prog 49 [.sl 1 (strE ks) t, .sl 1 (vE l) t2] H (fun o H' => o = .ret (.tuple [.agg [vV (mapR ks l).1], .int .i64 (mapR ks l).2]) ∧ H' = H) := by
  refine ACalls.drop (ACalls.mono (ACalls.freezeM (map_raw hb H) (R := fun v H' => (∀ (s : St) x, s.val v x → s.val (.tuple [.agg [vV (mapR ks l).1], .int .i64 (mapR ks l).2]) x) ∧ H.le H') ?_) ?_)
  · rintro o H' ⟨v, rfl, h | ⟨k, es, v', h1, h2, h3, h4⟩⟩
    · exact ⟨v, rfl, .inl h⟩
    · exact ⟨v, rfl, .inr ⟨k, es, v', h1, h2, h3, h4⟩⟩
  · rintro o H' ⟨v, rfl, h1, h2⟩
    exact drop_end h1 h2
end Go.Proofs.Ytjlphncecdlmcaa
namespace Go.Proofs.Ytjlphncecdlmcaa
open Go.Vm Go.Sort
attribute [local go_sem] List.drop_zero toNat_succ Nat.sub_zero Int.toNat_natCast Option.map_some Int.natCast_nonneg decide_eq_true_eq decide_eq_false_iff_not
inductive Rv where
  | mk (K : Int) (B : Bool) (N M : Int) (S : List UInt8) (L : List Rv) (Keys : List (List UInt8))
def Rv.K : Rv → Int | .mk a _ _ _ _ _ _ => a
def Rv.B : Rv → Bool | .mk _ a _ _ _ _ _ => a
def Rv.N : Rv → Int | .mk _ _ a _ _ _ _ => a
def Rv.M : Rv → Int | .mk _ _ _ a _ _ _ => a
def Rv.S : Rv → List UInt8 | .mk _ _ _ _ a _ _ => a
def Rv.L : Rv → List Rv | .mk _ _ _ _ _ a _ => a
def Rv.Keys : Rv → List (List UInt8) | .mk _ _ _ _ _ _ a => a
theorem Rv.ind {Q : Rv → Prop} (h : ∀ r : Rv, (∀ x ∈ r.L, Q x) → Q r) : ∀ r, Q r
  | .mk K B N M S L Keys => h _ fun x hx => Rv.ind h x
termination_by r => SizeOf.sizeOf r
decreasing_by
  have hx' : x ∈ L := hx
  have := List.sizeOf_lt_of_mem hx'; simp only [Rv.mk.sizeOf_spec]; omega
def rvC : Rv → List V
  | .mk K B N M S L Keys => [.int .i64 K, .bool B, .int .i64 N, .int .i64 M, .str S, .sl 7 (L.map fun x => rvC x) .no, .sl 1 (strE Keys) .no]
termination_by r => SizeOf.sizeOf r
decreasing_by
  have := List.sizeOf_lt_of_mem ‹_ ∈ L›; simp only [Rv.mk.sizeOf_spec]; omega
def rvE (l : List Rv) : List (List V) := l.map rvC
theorem rvC_eq (r : Rv) : rvC r = [.int .i64 r.K, .bool r.B, .int .i64 r.N, .int .i64 r.M, .str r.S, .sl 7 (rvE r.L) .no, .sl 1 (strE r.Keys) .no] := by
  cases r; rw [rvC]; rfl
theorem rvE_length (l : List Rv) : (rvE l).length = l.length := by simp [rvE]
theorem rvE_get {l : List Rv} {i : Nat} (h : i < l.length) : (rvE l)[i]? = some [.int .i64 l[i].K, .bool l[i].B, .int .i64 l[i].N, .int .i64 l[i].M, .str l[i].S, .sl 7 (rvE l[i].L) .no, .sl 1 (strE l[i].Keys) .no] := by
  rw [← rvC_eq]; simp [rvE, h]
theorem rvE_app (a b : List Rv) : rvE a ++ rvE b = rvE (a ++ b) := by simp [rvE]
def deepI : Rv → Int
  | .mk _ _ _ _ _ L _ => IntKind.i64.wrap ((L.map fun x => deepI x).foldl max 0 + 1)
termination_by r => SizeOf.sizeOf r
decreasing_by
  have := List.sizeOf_lt_of_mem ‹_ ∈ L›; simp only [Rv.mk.sizeOf_spec]; omega
def deepL (l : List Rv) : Int := (l.map deepI).foldl max 0
theorem deepI_eq (r : Rv) : deepI r = IntKind.i64.wrap (deepL r.L + 1) := by cases r; rw [deepI]; rfl
def sizeI : Rv → Int
  | .mk _ _ _ _ _ L _ => (L.map fun x => sizeI x).foldl (fun n x => IntKind.i64.wrap (n + x)) 1
termination_by r => SizeOf.sizeOf r
decreasing_by
  have := List.sizeOf_lt_of_mem ‹_ ∈ L›; simp only [Rv.mk.sizeOf_spec]; omega
def sizeL (l : List Rv) : Int := (l.map sizeI).foldl (fun n x => IntKind.i64.wrap (n + x)) 1
theorem sizeI_eq (r : Rv) : sizeI r = sizeL r.L := by cases r; rw [sizeI]; rfl
inductive Rv.FitB (B : Nat) : Rv → Prop where
  | mk (r : Rv) : r.L.length * 96 ≤ B → r.Keys.length * 16 ≤ B → (∀ k ∈ r.Keys, k.length ≤ 140737488355328) → r.S.length ≤ 140737488355328 → (∀ x ∈ r.L, Rv.FitB B x) → Rv.FitB B r
theorem Rv.FitB.l {B : Nat} {r : Rv} (h : r.FitB B) : r.L.length * 96 ≤ B := by cases h; assumption
theorem Rv.FitB.k {B : Nat} {r : Rv} (h : r.FitB B) : r.Keys.length * 16 ≤ B := by cases h; assumption
theorem Rv.FitB.kl {B : Nat} {r : Rv} (h : r.FitB B) : ∀ k ∈ r.Keys, k.length ≤ 140737488355328 := by cases h; assumption
theorem Rv.FitB.s {B : Nat} {r : Rv} (h : r.FitB B) : r.S.length ≤ 140737488355328 := by cases h; assumption
theorem Rv.FitB.m {B : Nat} {r : Rv} (h : r.FitB B) : ∀ x ∈ r.L, x.FitB B := by cases h; assumption
abbrev Rv.Fit (r : Rv) : Prop := r.FitB 140737488355328
theorem Rv.Fit.l {r : Rv} (h : r.Fit) : r.L.length * 96 ≤ 140737488355328 := FitB.l h
theorem Rv.Fit.k {r : Rv} (h : r.Fit) : r.Keys.length * 16 ≤ 140737488355328 := FitB.k h
theorem Rv.Fit.kl {r : Rv} (h : r.Fit) : ∀ k ∈ r.Keys, k.length ≤ 140737488355328 := FitB.kl h
theorem Rv.Fit.s {r : Rv} (h : r.Fit) : r.S.length ≤ 140737488355328 := FitB.s h
theorem Rv.Fit.m {r : Rv} (h : r.Fit) : ∀ x ∈ r.L, x.Fit := FitB.m h
end Go.Proofs.Ytjlphncecdlmcaa
namespace Go.Proofs.Ytjlphncecdlmcaa
open Go.Vm Go.Sort
attribute [local go_sem] List.drop_zero toNat_succ Nat.sub_zero Int.toNat_natCast Option.map_some Int.natCast_nonneg decide_eq_true_eq decide_eq_false_iff_not
/- flange/flangeref04.Deep -/
abbrev k55_0 : MC :=
  .cond (.t 9) (.skip) (.exit 0)
abbrev k55_1 : MC :=
  .reg [
    ⟨(some 10), none, .val (.mv (.t 4))⟩,
    ⟨(some 11), none, .val (.bin .add .num (.t 10) (.c (.int .i64 1)))⟩,
    ⟨(some 4), none, .val (.mv (.t 11))⟩] [1, 3, 4]
abbrev k55_2 : MC :=
  (.seq (.block 1 (.reg [
     ⟨(some 12), none, .val (.mv (.t 3))⟩,
     ⟨(some 13), none, .val (.faddr 5 (.t 1))⟩,
     ⟨(some 14), none, .val (.load false 1 (.t 13))⟩,
     ⟨(some 15), none, .val (.mv (.t 4))⟩,
     ⟨(some 16), none, .val (.iaddr 7 (.t 14) (.t 15))⟩,
     ⟨(some 17), none, .val (.load true 7 (.t 16))⟩,
     ⟨(some 18), none, .call 55 [(.t 17)]⟩,
     ⟨(some 19), none, .val (.mx true (.t 12) (.t 18))⟩,
     ⟨(some 3), none, .val (.mv (.t 19))⟩] [1, 3, 4])) k55_1)
abbrev k55_3 : MC :=
  (.seq ((.seq (.reg [
    ⟨(some 5), none, .val (.mv (.t 4))⟩,
    ⟨(some 6), none, .val (.faddr 5 (.t 1))⟩,
    ⟨(some 7), none, .val (.load false 1 (.t 6))⟩,
    ⟨(some 8), none, .val (.len .sl (.t 7))⟩,
    ⟨(some 9), none, .val (.bin .lss .num (.t 5) (.t 8))⟩] [1, 3, 4, 9]) k55_0)) k55_2)
abbrev k55_4 : MC :=
  .block 0 (.loop k55_3)
abbrev k55_5 : MC :=
  (.seq (.reg [
    ⟨(some 20), none, .val (.mv (.t 3))⟩,
    ⟨(some 21), none, .val (.bin .add .num (.t 20) (.c (.int .i64 1)))⟩,
    ⟨(some 2), none, .val (.mv (.t 21))⟩] [2]) (.ret))
abbrev k55_6 : MC :=
  (.seq ((.seq (.reg [
    ⟨(some 4), none, .val (.mv (.c (.int .i64 0)))⟩] [1, 3, 4]) k55_4)) k55_5)
abbrev k55_7 : MC :=
  (.seq (.reg [
    ⟨(some 3), none, .val (.mv (.c (.int .i64 0)))⟩] [1, 3]) k55_6)
abbrev k55 : MC :=
  (.seq (.reg [
    ⟨(some 1), none, .boxi (.t 0)⟩,
    ⟨(some 2), none, .val (.mv (.c (.int .i64 0)))⟩] [1]) k55_7)
theorem c55 : Try.f55.body.bind (mcOf Try.prog (List.contains [1] ·) (List.getD [([], [1]), ([], [1, 3]), ([], [1, 3, 4]), ([], [1, 3, 4, 9]), ([], [1, 3, 4]), ([], [1, 3, 4]), ([], [2])] · ([], [])) 22) = some k55 := by kernel_rfl
theorem r55 : rvsOf Try.prog Try.f55.results.toList = some [.tmp 2] := by kernel_rfl
/- flange/flangeref04.Size -/
abbrev k57_0 : MC :=
  .cond (.t 9) (.skip) (.exit 0)
abbrev k57_1 : MC :=
  .reg [
    ⟨(some 10), none, .val (.mv (.t 4))⟩,
    ⟨(some 11), none, .val (.bin .add .num (.t 10) (.c (.int .i64 1)))⟩,
    ⟨(some 4), none, .val (.mv (.t 11))⟩] [1, 3, 4]
abbrev k57_2 : MC :=
  (.seq (.block 1 (.reg [
     ⟨(some 12), none, .val (.mv (.t 3))⟩,
     ⟨(some 13), none, .val (.faddr 5 (.t 1))⟩,
     ⟨(some 14), none, .val (.load false 1 (.t 13))⟩,
     ⟨(some 15), none, .val (.mv (.t 4))⟩,
     ⟨(some 16), none, .val (.iaddr 7 (.t 14) (.t 15))⟩,
     ⟨(some 17), none, .val (.load true 7 (.t 16))⟩,
     ⟨(some 18), none, .call 57 [(.t 17)]⟩,
     ⟨(some 19), none, .val (.bin .add .num (.t 12) (.t 18))⟩,
     ⟨(some 3), none, .val (.mv (.t 19))⟩] [1, 3, 4])) k57_1)
abbrev k57_3 : MC :=
  (.seq ((.seq (.reg [
    ⟨(some 5), none, .val (.mv (.t 4))⟩,
    ⟨(some 6), none, .val (.faddr 5 (.t 1))⟩,
    ⟨(some 7), none, .val (.load false 1 (.t 6))⟩,
    ⟨(some 8), none, .val (.len .sl (.t 7))⟩,
    ⟨(some 9), none, .val (.bin .lss .num (.t 5) (.t 8))⟩] [1, 3, 4, 9]) k57_0)) k57_2)
abbrev k57_4 : MC :=
  .block 0 (.loop k57_3)
abbrev k57_5 : MC :=
  (.seq (.reg [
    ⟨(some 20), none, .val (.mv (.t 3))⟩,
    ⟨(some 2), none, .val (.mv (.t 20))⟩] [2]) (.ret))
abbrev k57_6 : MC :=
  (.seq ((.seq (.reg [
    ⟨(some 4), none, .val (.mv (.c (.int .i64 0)))⟩] [1, 3, 4]) k57_4)) k57_5)
abbrev k57_7 : MC :=
  (.seq (.reg [
    ⟨(some 3), none, .val (.mv (.c (.int .i64 1)))⟩] [1, 3]) k57_6)
abbrev k57 : MC :=
  (.seq (.reg [
    ⟨(some 1), none, .boxi (.t 0)⟩,
    ⟨(some 2), none, .val (.mv (.c (.int .i64 0)))⟩] [1]) k57_7)
theorem c57 : Try.f57.body.bind (mcOf Try.prog (List.contains [1] ·) (List.getD [([], [1]), ([], [1, 3]), ([], [1, 3, 4]), ([], [1, 3, 4, 9]), ([], [1, 3, 4]), ([], [1, 3, 4]), ([], [2])] · ([], [])) 21) = some k57 := by kernel_rfl
theorem r57 : rvsOf Try.prog Try.f57.results.toList = some [.tmp 2] := by kernel_rfl
theorem deepL_take {l : List Rv} {i : Nat} (h : i < l.length) : deepL (l.take (i + 1)) = max (deepL (l.take i)) (deepI l[i]) := by
  rw [List.take_succ_eq_append_getElem h, deepL, List.map_append, List.foldl_append]; rfl
theorem sizeL_take {l : List Rv} {i : Nat} (h : i < l.length) : sizeL (l.take (i + 1)) = IntKind.i64.wrap (sizeL (l.take i) + sizeI l[i]) := by
  rw [List.take_succ_eq_append_getElem h, sizeL, List.map_append, List.foldl_append]; rfl
theorem rdeep_calls : ∀ (r : Rv), r.Fit → ∀ (H : AH), ACalls Try.prog 55 [.agg [.int .i64 r.K, .bool r.B, .int .i64 r.N, .int .i64 r.M, .str r.S, .sl 7 (rvE r.L) .no, .sl 1 (strE r.Keys) .no]] H (fun o H' => o = .ret (.int .i64 (deepI r)) ∧ H' = H) := by
  refine Rv.ind fun r ih hf H => ?_
  refine ACalls.drop ?_
  have hb := hf.l
  refine acalls Try.func55 c55 r55 (by simp [Try.ntmps55]) ?_
  repeat' (first | with_reducible (first | refine am_seq ?_ | refine am_block ?_) | ((with_reducible apply am_cond); (case hb => rfl); all_goals (intro hc; (try simp only [reduceCtorEq, decide_eq_true_eq, decide_eq_false_iff_not, Bool.or_eq_true, Bool.and_eq_true, Bool.or_eq_false_iff, Bool.not_eq_true', Bool.not_eq_false', beq_iff_eq] at hc); (try (exfalso; omega)))) | ((first | with_reducible (first | refine am_reg ?_ | refine am_drw ?_ | refine am_drx ?_ | refine am_skip ?_ | refine am_exit ?_ | refine am_ret ?_ | refine And.intro (by first | exact AH.lec_refl _ | assumption | exact AccP.lec (by assumption) | omega) ?_ | refine isnE_of (fun hc => ?_) (fun hc => ?_) (fun hc => ?_) | refine need_elems (by assumption) ?_ | refine vlen_acc (by assumption) ?_ | refine need_bytes (by assumption) ?_ | refine need_look (by repeat (first | assumption | exact AH.put_same _ _ _ | refine look_put ?_ (by assumption) | refine look_lec ?_ (by assumption))) ?_) | ((with_reducible (first | refine gd_not (fun hc => ?_) (fun hc => ?_) | refine gd_of (fun hc => ?_) (fun hc => ?_) | refine gq_not (fun hc => ?_) (fun hc => ?_) | refine gq_of (fun hc => ?_) (fun hc => ?_) | refine pickB_of (fun hc => ?_) (fun hc => ?_))) <;> (try simp -implicitDefEqProofs (disch := omega) only [go_sem, eq_self, decide_true, decide_false, Nat.reduceBEq, Nat.reduceAdd, Nat.reduceSub, Nat.reduceMul, Nat.reduceEqDiff, Nat.reduceLeDiff, Nat.reduceLT, Int.reduceLE, Int.reduceLT, Int.reduceToNat, Int.reduceAdd, Int.reduceEq, Int.reduceNeg, AH.put_ne, hc]) <;> (try simp only [reduceCtorEq, decide_eq_true_eq, decide_eq_false_iff_not, Bool.or_eq_true, Bool.and_eq_true, Bool.or_eq_false_iff, Bool.not_eq_true', Bool.not_eq_false', beq_iff_eq] at hc) <;> (try (exfalso; omega))) | ((with_reducible refine alloc_intro (fun ko hko => ?_)) <;> (try have hne := fresh_ne (by assumption) hko) <;> (try have hnk := fresh_ne hk hko) <;> (try have hnk2 := fresh_ne hk2 hko) <;> (try simp only [AH.put_none] at hko)) | ((with_reducible (first | refine vapp_accL (by assumption) ?_ (fun v2 H2 hacc hlec => ?_) | refine vapp_accL (AccP.mono (by assumption) (AccP.le (by assumption))) ?_ (fun v2 H2 hacc hlec => ?_) | refine vapp_accL (AccP.new (by assumption) (by assumption) _) ?_ (fun v2 H2 hacc hlec => ?_))); · simp only [byteCells_length, List.length_cons, List.length_nil, List.length_map, List.length_append, vE_length, mE_length, strE_len, List.length_take, rvE_length]; omega)) <;> (try simp -implicitDefEqProofs (disch := omega) only [go_sem, eq_self, decide_true, decide_false, Nat.reduceBEq, Nat.reduceAdd, Nat.reduceSub, Nat.reduceMul, Nat.reduceEqDiff, Nat.reduceLeDiff, Nat.reduceLT, Int.reduceLE, Int.reduceLT, Int.reduceToNat, Int.reduceAdd, Int.reduceEq, Int.reduceNeg, AH.put_ne])))
  refine am_loop (fun n a H' => ∃ i : Nat, i + n = r.L.length ∧ a = [(1, .rptr [.int .i64 r.K, .bool r.B, .int .i64 r.N, .int .i64 r.M, .str r.S, .sl 7 (rvE r.L) .no, .sl 1 (strE r.Keys) .no] 0), (3, .int .i64 (deepL (r.L.take i))), (4, .int .i64 i)] ∧ H' = H) ?_ r.L.length ⟨0, by omega, rfl, rfl⟩
  rintro n a H' ⟨i, hi, rfl, rfl⟩
  by_cases hlt : i < r.L.length
  · have hc1 := ih r.L[i] (List.getElem_mem hlt) (hf.m _ (List.getElem_mem hlt))
    repeat' (first | with_reducible (first | refine am_seq ?_ | refine am_block ?_) | ((with_reducible apply am_cond); (case hb => rfl); all_goals (intro hc; (try simp only [reduceCtorEq, decide_eq_true_eq, decide_eq_false_iff_not, Bool.or_eq_true, Bool.and_eq_true, Bool.or_eq_false_iff, Bool.not_eq_true', Bool.not_eq_false', beq_iff_eq] at hc); (try (exfalso; omega)))) | ((first | with_reducible (first | refine am_reg ?_ | refine am_drw ?_ | refine am_drx ?_ | refine am_skip ?_ | refine am_exit ?_ | refine am_ret ?_ | refine And.intro (by first | exact AH.lec_refl _ | assumption | exact AccP.lec (by assumption) | omega) ?_ | refine isnE_of (fun hc => ?_) (fun hc => ?_) (fun hc => ?_) | refine need_elems (by assumption) ?_ | refine vlen_acc (by assumption) ?_ | refine need_bytes (by assumption) ?_ | refine call_of (hc1) ?_ | refine qcall_of (hc1) ?_ | refine need_look (by repeat (first | assumption | exact AH.put_same _ _ _ | refine look_put ?_ (by assumption) | refine look_lec ?_ (by assumption))) ?_) | ((with_reducible (first | refine gd_not (fun hc => ?_) (fun hc => ?_) | refine gd_of (fun hc => ?_) (fun hc => ?_) | refine gq_not (fun hc => ?_) (fun hc => ?_) | refine gq_of (fun hc => ?_) (fun hc => ?_) | refine pickB_of (fun hc => ?_) (fun hc => ?_))) <;> (try simp -implicitDefEqProofs (disch := omega) only [go_sem, eq_self, decide_true, decide_false, Nat.reduceBEq, Nat.reduceAdd, Nat.reduceSub, Nat.reduceMul, Nat.reduceEqDiff, Nat.reduceLeDiff, Nat.reduceLT, Int.reduceLE, Int.reduceLT, Int.reduceToNat, Int.reduceAdd, Int.reduceEq, Int.reduceNeg, AH.put_ne, hc, wrap_id, rvE_length, rvE_get hlt]) <;> (try simp only [reduceCtorEq, decide_eq_true_eq, decide_eq_false_iff_not, Bool.or_eq_true, Bool.and_eq_true, Bool.or_eq_false_iff, Bool.not_eq_true', Bool.not_eq_false', beq_iff_eq] at hc) <;> (try (exfalso; omega))) | ((with_reducible refine alloc_intro (fun ko hko => ?_)) <;> (try have hne := fresh_ne (by assumption) hko) <;> (try have hnk := fresh_ne hk hko) <;> (try have hnk2 := fresh_ne hk2 hko) <;> (try simp only [AH.put_none] at hko)) | ((with_reducible (first | refine vapp_accL (by assumption) ?_ (fun v2 H2 hacc hlec => ?_) | refine vapp_accL (AccP.mono (by assumption) (AccP.le (by assumption))) ?_ (fun v2 H2 hacc hlec => ?_) | refine vapp_accL (AccP.new (by assumption) (by assumption) _) ?_ (fun v2 H2 hacc hlec => ?_))); · simp only [byteCells_length, List.length_cons, List.length_nil, List.length_map, List.length_append, vE_length, mE_length, strE_len, List.length_take, rvE_length]; omega)) <;> (try simp -implicitDefEqProofs (disch := omega) only [go_sem, eq_self, decide_true, decide_false, Nat.reduceBEq, Nat.reduceAdd, Nat.reduceSub, Nat.reduceMul, Nat.reduceEqDiff, Nat.reduceLeDiff, Nat.reduceLT, Int.reduceLE, Int.reduceLT, Int.reduceToNat, Int.reduceAdd, Int.reduceEq, Int.reduceNeg, AH.put_ne, wrap_id, rvE_length, rvE_get hlt])))
    all_goals exact ⟨n - 1, by omega, i + 1, by omega, by rw [deepL_take hlt]; rfl⟩
  · have e : r.L.take i = r.L := List.take_of_length_le (by omega)
    repeat' (first | with_reducible (first | refine am_seq ?_ | refine am_block ?_) | ((with_reducible apply am_cond); (case hb => rfl); all_goals (intro hc; (try simp only [reduceCtorEq, decide_eq_true_eq, decide_eq_false_iff_not, Bool.or_eq_true, Bool.and_eq_true, Bool.or_eq_false_iff, Bool.not_eq_true', Bool.not_eq_false', beq_iff_eq] at hc); (try (exfalso; omega)))) | ((first | with_reducible (first | refine am_reg ?_ | refine am_drw ?_ | refine am_drx ?_ | refine am_skip ?_ | refine am_exit ?_ | refine am_ret ?_ | refine And.intro (by first | exact AH.lec_refl _ | assumption | exact AccP.lec (by assumption) | omega) ?_ | refine isnE_of (fun hc => ?_) (fun hc => ?_) (fun hc => ?_) | refine need_elems (by assumption) ?_ | refine vlen_acc (by assumption) ?_ | refine need_bytes (by assumption) ?_ | refine need_look (by repeat (first | assumption | exact AH.put_same _ _ _ | refine look_put ?_ (by assumption) | refine look_lec ?_ (by assumption))) ?_) | ((with_reducible (first | refine gd_not (fun hc => ?_) (fun hc => ?_) | refine gd_of (fun hc => ?_) (fun hc => ?_) | refine gq_not (fun hc => ?_) (fun hc => ?_) | refine gq_of (fun hc => ?_) (fun hc => ?_) | refine pickB_of (fun hc => ?_) (fun hc => ?_))) <;> (try simp -implicitDefEqProofs (disch := omega) only [go_sem, eq_self, decide_true, decide_false, Nat.reduceBEq, Nat.reduceAdd, Nat.reduceSub, Nat.reduceMul, Nat.reduceEqDiff, Nat.reduceLeDiff, Nat.reduceLT, Int.reduceLE, Int.reduceLT, Int.reduceToNat, Int.reduceAdd, Int.reduceEq, Int.reduceNeg, AH.put_ne, hc, wrap_id, rvE_length, e]) <;> (try simp only [reduceCtorEq, decide_eq_true_eq, decide_eq_false_iff_not, Bool.or_eq_true, Bool.and_eq_true, Bool.or_eq_false_iff, Bool.not_eq_true', Bool.not_eq_false', beq_iff_eq] at hc) <;> (try (exfalso; omega))) | ((with_reducible refine alloc_intro (fun ko hko => ?_)) <;> (try have hne := fresh_ne (by assumption) hko) <;> (try have hnk := fresh_ne hk hko) <;> (try have hnk2 := fresh_ne hk2 hko) <;> (try simp only [AH.put_none] at hko)) | ((with_reducible (first | refine vapp_accL (by assumption) ?_ (fun v2 H2 hacc hlec => ?_) | refine vapp_accL (AccP.mono (by assumption) (AccP.le (by assumption))) ?_ (fun v2 H2 hacc hlec => ?_) | refine vapp_accL (AccP.new (by assumption) (by assumption) _) ?_ (fun v2 H2 hacc hlec => ?_))); · simp only [byteCells_length, List.length_cons, List.length_nil, List.length_map, List.length_append, vE_length, mE_length, strE_len, List.length_take, rvE_length]; omega)) <;> (try simp -implicitDefEqProofs (disch := omega) only [go_sem, eq_self, decide_true, decide_false, Nat.reduceBEq, Nat.reduceAdd, Nat.reduceSub, Nat.reduceMul, Nat.reduceEqDiff, Nat.reduceLeDiff, Nat.reduceLT, Int.reduceLE, Int.reduceLT, Int.reduceToNat, Int.reduceAdd, Int.reduceEq, Int.reduceNeg, AH.put_ne, wrap_id, rvE_length, e])))
    all_goals (rw [deepI_eq]; (refine drop_end (by (first | exact fun _ _ h => h | (intro s x h; first | exact no_sub _ h | exact nil_no _ h | exact AccP.sub (by assumption) _ _ h | (refine agg_sub rfl ?_ x h; repeat (first | exact .nil | refine .cons (fun _ h => h) ?_ | refine .cons (fun _ h => nil_no _ h) ?_ | refine .cons (fun _ h => no_sub _ h) ?_ | refine .cons (fun _ h => AccP.sub (by assumption) _ _ h) ?_)) | (refine tuple_sub ?_ x h; repeat (first | exact .nil | refine .cons (fun _ h => h) ?_ | refine .cons (fun _ h => nil_no _ h) ?_ | refine .cons (fun _ h => no_sub _ h) ?_ | refine .cons (fun _ h => AccP.sub (by assumption) _ _ h) ?_ | refine .cons (fun _ h => agg_sub rfl (by repeat (first | exact .nil | refine .cons (fun _ h => h) ?_ | refine .cons (fun _ h => nil_no _ h) ?_ | refine .cons (fun _ h => no_sub _ h) ?_ | refine .cons (fun _ h => AccP.sub (by assumption) _ _ h) ?_)) _ h) ?_))))) (by (repeat (first | exact AH.le_refl _ | assumption | exact AccP.le (by assumption) | refine AH.le_put ?_ (by first | assumption | exact none_of_le (by assumption) (by assumption) | exact And.right (by assumption) | exact And.right (And.right (by assumption))) _ | refine AH.le_trans ?_ (AccP.le (by assumption)))))))
theorem rsize_calls : ∀ (r : Rv), r.Fit → ∀ (H : AH), ACalls Try.prog 57 [.agg [.int .i64 r.K, .bool r.B, .int .i64 r.N, .int .i64 r.M, .str r.S, .sl 7 (rvE r.L) .no, .sl 1 (strE r.Keys) .no]] H (fun o H' => o = .ret (.int .i64 (sizeI r)) ∧ H' = H) := by
  refine Rv.ind fun r ih hf H => ?_
  refine ACalls.drop ?_
  have hb := hf.l
  refine acalls Try.func57 c57 r57 (by simp [Try.ntmps57]) ?_
  repeat' (first | with_reducible (first | refine am_seq ?_ | refine am_block ?_) | ((with_reducible apply am_cond); (case hb => rfl); all_goals (intro hc; (try simp only [reduceCtorEq, decide_eq_true_eq, decide_eq_false_iff_not, Bool.or_eq_true, Bool.and_eq_true, Bool.or_eq_false_iff, Bool.not_eq_true', Bool.not_eq_false', beq_iff_eq] at hc); (try (exfalso; omega)))) | ((first | with_reducible (first | refine am_reg ?_ | refine am_drw ?_ | refine am_drx ?_ | refine am_skip ?_ | refine am_exit ?_ | refine am_ret ?_ | refine And.intro (by first | exact AH.lec_refl _ | assumption | exact AccP.lec (by assumption) | omega) ?_ | refine isnE_of (fun hc => ?_) (fun hc => ?_) (fun hc => ?_) | refine need_elems (by assumption) ?_ | refine vlen_acc (by assumption) ?_ | refine need_bytes (by assumption) ?_ | refine need_look (by repeat (first | assumption | exact AH.put_same _ _ _ | refine look_put ?_ (by assumption) | refine look_lec ?_ (by assumption))) ?_) | ((with_reducible (first | refine gd_not (fun hc => ?_) (fun hc => ?_) | refine gd_of (fun hc => ?_) (fun hc => ?_) | refine gq_not (fun hc => ?_) (fun hc => ?_) | refine gq_of (fun hc => ?_) (fun hc => ?_) | refine pickB_of (fun hc => ?_) (fun hc => ?_))) <;> (try simp -implicitDefEqProofs (disch := omega) only [go_sem, eq_self, decide_true, decide_false, Nat.reduceBEq, Nat.reduceAdd, Nat.reduceSub, Nat.reduceMul, Nat.reduceEqDiff, Nat.reduceLeDiff, Nat.reduceLT, Int.reduceLE, Int.reduceLT, Int.reduceToNat, Int.reduceAdd, Int.reduceEq, Int.reduceNeg, AH.put_ne, hc]) <;> (try simp only [reduceCtorEq, decide_eq_true_eq, decide_eq_false_iff_not, Bool.or_eq_true, Bool.and_eq_true, Bool.or_eq_false_iff, Bool.not_eq_true', Bool.not_eq_false', beq_iff_eq] at hc) <;> (try (exfalso; omega))) | ((with_reducible refine alloc_intro (fun ko hko => ?_)) <;> (try have hne := fresh_ne (by assumption) hko) <;> (try have hnk := fresh_ne hk hko) <;> (try have hnk2 := fresh_ne hk2 hko) <;> (try simp only [AH.put_none] at hko)) | ((with_reducible (first | refine vapp_accL (by assumption) ?_ (fun v2 H2 hacc hlec => ?_) | refine vapp_accL (AccP.mono (by assumption) (AccP.le (by assumption))) ?_ (fun v2 H2 hacc hlec => ?_) | refine vapp_accL (AccP.new (by assumption) (by assumption) _) ?_ (fun v2 H2 hacc hlec => ?_))); · simp only [byteCells_length, List.length_cons, List.length_nil, List.length_map, List.length_append, vE_length, mE_length, strE_len, List.length_take, rvE_length]; omega)) <;> (try simp -implicitDefEqProofs (disch := omega) only [go_sem, eq_self, decide_true, decide_false, Nat.reduceBEq, Nat.reduceAdd, Nat.reduceSub, Nat.reduceMul, Nat.reduceEqDiff, Nat.reduceLeDiff, Nat.reduceLT, Int.reduceLE, Int.reduceLT, Int.reduceToNat, Int.reduceAdd, Int.reduceEq, Int.reduceNeg, AH.put_ne])))
  refine am_loop (fun n a H' => ∃ i : Nat, i + n = r.L.length ∧ a = [(1, .rptr [.int .i64 r.K, .bool r.B, .int .i64 r.N, .int .i64 r.M, .str r.S, .sl 7 (rvE r.L) .no, .sl 1 (strE r.Keys) .no] 0), (3, .int .i64 (sizeL (r.L.take i))), (4, .int .i64 i)] ∧ H' = H) ?_ r.L.length ⟨0, by omega, rfl, rfl⟩
  rintro n a H' ⟨i, hi, rfl, rfl⟩
  by_cases hlt : i < r.L.length
  · have hc1 := ih r.L[i] (List.getElem_mem hlt) (hf.m _ (List.getElem_mem hlt))
    repeat' (first | with_reducible (first | refine am_seq ?_ | refine am_block ?_) | ((with_reducible apply am_cond); (case hb => rfl); all_goals (intro hc; (try simp only [reduceCtorEq, decide_eq_true_eq, decide_eq_false_iff_not, Bool.or_eq_true, Bool.and_eq_true, Bool.or_eq_false_iff, Bool.not_eq_true', Bool.not_eq_false', beq_iff_eq] at hc); (try (exfalso; omega)))) | ((first | with_reducible (first | refine am_reg ?_ | refine am_drw ?_ | refine am_drx ?_ | refine am_skip ?_ | refine am_exit ?_ | refine am_ret ?_ | refine And.intro (by first | exact AH.lec_refl _ | assumption | exact AccP.lec (by assumption) | omega) ?_ | refine isnE_of (fun hc => ?_) (fun hc => ?_) (fun hc => ?_) | refine need_elems (by assumption) ?_ | refine vlen_acc (by assumption) ?_ | refine need_bytes (by assumption) ?_ | refine call_of (hc1) ?_ | refine qcall_of (hc1) ?_ | refine need_look (by repeat (first | assumption | exact AH.put_same _ _ _ | refine look_put ?_ (by assumption) | refine look_lec ?_ (by assumption))) ?_) | ((with_reducible (first | refine gd_not (fun hc => ?_) (fun hc => ?_) | refine gd_of (fun hc => ?_) (fun hc => ?_) | refine gq_not (fun hc => ?_) (fun hc => ?_) | refine gq_of (fun hc => ?_) (fun hc => ?_) | refine pickB_of (fun hc => ?_) (fun hc => ?_))) <;> (try simp -implicitDefEqProofs (disch := omega) only [go_sem, eq_self, decide_true, decide_false, Nat.reduceBEq, Nat.reduceAdd, Nat.reduceSub, Nat.reduceMul, Nat.reduceEqDiff, Nat.reduceLeDiff, Nat.reduceLT, Int.reduceLE, Int.reduceLT, Int.reduceToNat, Int.reduceAdd, Int.reduceEq, Int.reduceNeg, AH.put_ne, hc, wrap_id, rvE_length, rvE_get hlt]) <;> (try simp only [reduceCtorEq, decide_eq_true_eq, decide_eq_false_iff_not, Bool.or_eq_true, Bool.and_eq_true, Bool.or_eq_false_iff, Bool.not_eq_true', Bool.not_eq_false', beq_iff_eq] at hc) <;> (try (exfalso; omega))) | ((with_reducible refine alloc_intro (fun ko hko => ?_)) <;> (try have hne := fresh_ne (by assumption) hko) <;> (try have hnk := fresh_ne hk hko) <;> (try have hnk2 := fresh_ne hk2 hko) <;> (try simp only [AH.put_none] at hko)) | ((with_reducible (first | refine vapp_accL (by assumption) ?_ (fun v2 H2 hacc hlec => ?_) | refine vapp_accL (AccP.mono (by assumption) (AccP.le (by assumption))) ?_ (fun v2 H2 hacc hlec => ?_) | refine vapp_accL (AccP.new (by assumption) (by assumption) _) ?_ (fun v2 H2 hacc hlec => ?_))); · simp only [byteCells_length, List.length_cons, List.length_nil, List.length_map, List.length_append, vE_length, mE_length, strE_len, List.length_take, rvE_length]; omega)) <;> (try simp -implicitDefEqProofs (disch := omega) only [go_sem, eq_self, decide_true, decide_false, Nat.reduceBEq, Nat.reduceAdd, Nat.reduceSub, Nat.reduceMul, Nat.reduceEqDiff, Nat.reduceLeDiff, Nat.reduceLT, Int.reduceLE, Int.reduceLT, Int.reduceToNat, Int.reduceAdd, Int.reduceEq, Int.reduceNeg, AH.put_ne, wrap_id, rvE_length, rvE_get hlt])))
    all_goals exact ⟨n - 1, by omega, i + 1, by omega, by rw [sizeL_take hlt]; rfl⟩
  · have e : r.L.take i = r.L := List.take_of_length_le (by omega)
    repeat' (first | with_reducible (first | refine am_seq ?_ | refine am_block ?_) | ((with_reducible apply am_cond); (case hb => rfl); all_goals (intro hc; (try simp only [reduceCtorEq, decide_eq_true_eq, decide_eq_false_iff_not, Bool.or_eq_true, Bool.and_eq_true, Bool.or_eq_false_iff, Bool.not_eq_true', Bool.not_eq_false', beq_iff_eq] at hc); (try (exfalso; omega)))) | ((first | with_reducible (first | refine am_reg ?_ | refine am_drw ?_ | refine am_drx ?_ | refine am_skip ?_ | refine am_exit ?_ | refine am_ret ?_ | refine And.intro (by first | exact AH.lec_refl _ | assumption | exact AccP.lec (by assumption) | omega) ?_ | refine isnE_of (fun hc => ?_) (fun hc => ?_) (fun hc => ?_) | refine need_elems (by assumption) ?_ | refine vlen_acc (by assumption) ?_ | refine need_bytes (by assumption) ?_ | refine need_look (by repeat (first | assumption | exact AH.put_same _ _ _ | refine look_put ?_ (by assumption) | refine look_lec ?_ (by assumption))) ?_) | ((with_reducible (first | refine gd_not (fun hc => ?_) (fun hc => ?_) | refine gd_of (fun hc => ?_) (fun hc => ?_) | refine gq_not (fun hc => ?_) (fun hc => ?_) | refine gq_of (fun hc => ?_) (fun hc => ?_) | refine pickB_of (fun hc => ?_) (fun hc => ?_))) <;> (try simp -implicitDefEqProofs (disch := omega) only [go_sem, eq_self, decide_true, decide_false, Nat.reduceBEq, Nat.reduceAdd, Nat.reduceSub, Nat.reduceMul, Nat.reduceEqDiff, Nat.reduceLeDiff, Nat.reduceLT, Int.reduceLE, Int.reduceLT, Int.reduceToNat, Int.reduceAdd, Int.reduceEq, Int.reduceNeg, AH.put_ne, hc, wrap_id, rvE_length, e]) <;> (try simp only [reduceCtorEq, decide_eq_true_eq, decide_eq_false_iff_not, Bool.or_eq_true, Bool.and_eq_true, Bool.or_eq_false_iff, Bool.not_eq_true', Bool.not_eq_false', beq_iff_eq] at hc) <;> (try (exfalso; omega))) | ((with_reducible refine alloc_intro (fun ko hko => ?_)) <;> (try have hne := fresh_ne (by assumption) hko) <;> (try have hnk := fresh_ne hk hko) <;> (try have hnk2 := fresh_ne hk2 hko) <;> (try simp only [AH.put_none] at hko)) | ((with_reducible (first | refine vapp_accL (by assumption) ?_ (fun v2 H2 hacc hlec => ?_) | refine vapp_accL (AccP.mono (by assumption) (AccP.le (by assumption))) ?_ (fun v2 H2 hacc hlec => ?_) | refine vapp_accL (AccP.new (by assumption) (by assumption) _) ?_ (fun v2 H2 hacc hlec => ?_))); · simp only [byteCells_length, List.length_cons, List.length_nil, List.length_map, List.length_append, vE_length, mE_length, strE_len, List.length_take, rvE_length]; omega)) <;> (try simp -implicitDefEqProofs (disch := omega) only [go_sem, eq_self, decide_true, decide_false, Nat.reduceBEq, Nat.reduceAdd, Nat.reduceSub, Nat.reduceMul, Nat.reduceEqDiff, Nat.reduceLeDiff, Nat.reduceLT, Int.reduceLE, Int.reduceLT, Int.reduceToNat, Int.reduceAdd, Int.reduceEq, Int.reduceNeg, AH.put_ne, wrap_id, rvE_length, e])))
    all_goals (rw [sizeI_eq]; (refine drop_end (by (first | exact fun _ _ h => h | (intro s x h; first | exact no_sub _ h | exact nil_no _ h | exact AccP.sub (by assumption) _ _ h | (refine agg_sub rfl ?_ x h; repeat (first | exact .nil | refine .cons (fun _ h => h) ?_ | refine .cons (fun _ h => nil_no _ h) ?_ | refine .cons (fun _ h => no_sub _ h) ?_ | refine .cons (fun _ h => AccP.sub (by assumption) _ _ h) ?_)) | (refine tuple_sub ?_ x h; repeat (first | exact .nil | refine .cons (fun _ h => h) ?_ | refine .cons (fun _ h => nil_no _ h) ?_ | refine .cons (fun _ h => no_sub _ h) ?_ | refine .cons (fun _ h => AccP.sub (by assumption) _ _ h) ?_ | refine .cons (fun _ h => agg_sub rfl (by repeat (first | exact .nil | refine .cons (fun _ h => h) ?_ | refine .cons (fun _ h => nil_no _ h) ?_ | refine .cons (fun _ h => no_sub _ h) ?_ | refine .cons (fun _ h => AccP.sub (by assumption) _ _ h) ?_)) _ h) ?_))))) (by (repeat (first | exact AH.le_refl _ | assumption | exact AccP.le (by assumption) | refine AH.le_put ?_ (by first | assumption | exact none_of_le (by assumption) (by assumption) | exact And.right (by assumption) | exact And.right (And.right (by assumption))) _ | refine AH.le_trans ?_ (AccP.le (by assumption)))))))
end Go.Proofs.Ytjlphncecdlmcaa
namespace Go.Proofs.Ytjlphncecdlmcaa
open Go.Vm Go.Sort
attribute [local go_sem] List.drop_zero toNat_succ Nat.sub_zero Int.toNat_natCast Option.map_some Int.natCast_nonneg decide_eq_true_eq decide_eq_false_iff_not
/- flange/flangelaw04.Great -/
abbrev k22_0 : MC :=
  .cond (.t 41) (.skip) (.exit 0)
abbrev k22_1 : MC :=
  .reg [
    ⟨(some 42), none, .val (.mv (.t 4))⟩,
    ⟨(some 43), none, .val (.bin .add .num (.t 42) (.c (.int .i64 1)))⟩,
    ⟨(some 4), none, .val (.mv (.t 43))⟩] [1, 3, 4]
abbrev k22_2 : MC :=
  (.seq (.block 1 (.reg [
     ⟨(some 44), none, .val (.mv (.t 3))⟩,
     ⟨(some 45), none, .val (.faddr 6 (.t 1))⟩,
     ⟨(some 46), none, .val (.load false 1 (.t 45))⟩,
     ⟨(some 47), none, .val (.mv (.t 4))⟩,
     ⟨(some 48), none, .val (.iaddr 1 (.t 46) (.t 47))⟩,
     ⟨(some 49), none, .val (.load false 1 (.t 48))⟩,
     ⟨(some 50), none, .val (.len .str (.t 49))⟩,
     ⟨(some 51), none, .val (.bin .sub .num (.t 50) (.c (.int .i64 300)))⟩,
     ⟨(some 52), none, .val (.mx true (.t 51) (.c (.int .i64 0)))⟩,
     ⟨(some 53), none, .val (.bin .add .num (.t 44) (.t 52))⟩,
     ⟨(some 3), none, .val (.mv (.t 53))⟩] [1, 3, 4])) k22_1)
abbrev k22_3 : MC :=
  (.seq ((.seq (.reg [
    ⟨(some 33), none, .val (.mv (.t 4))⟩,
    ⟨(some 34), none, .val (.faddr 6 (.t 1))⟩,
    ⟨(some 35), none, .val (.load false 1 (.t 34))⟩,
    ⟨(some 36), none, .val (.len .sl (.t 35))⟩,
    ⟨(some 37), none, .val (.bin .lss .num (.t 33) (.t 36))⟩,
    ⟨(some 38), none, .val (.mv (.t 37))⟩,
    ⟨(some 39), (some (38, true)), .val (.mv (.t 4))⟩,
    ⟨(some 40), (some (38, true)), .val (.bin .lss .num (.t 39) (.c (.int .i64 80)))⟩,
    ⟨(some 41), none, .val (.pick (.t 38) (.t 40) (.c (.bool false)))⟩] [1, 3, 4, 41]) k22_0)) k22_2)
abbrev k22_4 : MC :=
  .block 0 (.loop k22_3)
abbrev k22_5 : MC :=
  .cond (.t 62) (.skip) (.exit 2)
abbrev k22_6 : MC :=
  .reg [
    ⟨(some 63), none, .val (.mv (.t 5))⟩,
    ⟨(some 64), none, .val (.bin .add .num (.t 63) (.c (.int .i64 1)))⟩,
    ⟨(some 5), none, .val (.mv (.t 64))⟩] [1, 3, 5]
abbrev k22_7 : MC :=
  (.seq (.block 3 (.reg [
     ⟨(some 65), none, .val (.mv (.t 3))⟩,
     ⟨(some 66), none, .val (.faddr 5 (.t 1))⟩,
     ⟨(some 67), none, .val (.load false 1 (.t 66))⟩,
     ⟨(some 68), none, .val (.mv (.t 5))⟩,
     ⟨(some 69), none, .val (.iaddr 7 (.t 67) (.t 68))⟩,
     ⟨(some 70), none, .val (.load true 7 (.t 69))⟩,
     ⟨(some 71), none, .call 22 [(.t 70)]⟩,
     ⟨(some 72), none, .val (.bin .add .num (.t 65) (.t 71))⟩,
     ⟨(some 3), none, .val (.mv (.t 72))⟩] [1, 3, 5])) k22_6)
abbrev k22_8 : MC :=
  (.seq ((.seq (.reg [
    ⟨(some 54), none, .val (.mv (.t 5))⟩,
    ⟨(some 55), none, .val (.faddr 5 (.t 1))⟩,
    ⟨(some 56), none, .val (.load false 1 (.t 55))⟩,
    ⟨(some 57), none, .val (.len .sl (.t 56))⟩,
    ⟨(some 58), none, .val (.bin .lss .num (.t 54) (.t 57))⟩,
    ⟨(some 59), none, .val (.mv (.t 58))⟩,
    ⟨(some 60), (some (59, true)), .val (.mv (.t 3))⟩,
    ⟨(some 61), (some (59, true)), .val (.bin .eql .num (.t 60) (.c (.int .i64 0)))⟩,
    ⟨(some 62), none, .val (.pick (.t 59) (.t 61) (.c (.bool false)))⟩] [1, 3, 5, 62]) k22_5)) k22_7)
abbrev k22_9 : MC :=
  .block 2 (.loop k22_8)
abbrev k22_10 : MC :=
  (.seq (.reg [
    ⟨(some 73), none, .val (.mv (.t 3))⟩,
    ⟨(some 2), none, .val (.mv (.t 73))⟩] [2]) (.ret))
abbrev k22_11 : MC :=
  (.seq ((.seq (.reg [
    ⟨(some 5), none, .val (.mv (.c (.int .i64 0)))⟩] [1, 3, 5]) k22_9)) k22_10)
abbrev k22_12 : MC :=
  (.seq ((.seq (.reg [
    ⟨(some 4), none, .val (.mv (.c (.int .i64 0)))⟩] [1, 3, 4]) k22_4)) k22_11)
abbrev k22_13 : MC :=
  (.seq (.drw [
    ⟨(some 6), none, .val (.faddr 5 (.t 1))⟩,
    ⟨(some 7), none, .val (.load false 1 (.t 6))⟩,
    ⟨(some 8), none, .val (.len .sl (.t 7))⟩,
    ⟨(some 9), none, .val (.bin .sub .num (.t 8) (.c (.int .i64 70)))⟩,
    ⟨(some 10), none, .val (.mx true (.t 9) (.c (.int .i64 0)))⟩,
    ⟨(some 11), none, .val (.faddr 6 (.t 1))⟩,
    ⟨(some 12), none, .val (.load false 1 (.t 11))⟩,
    ⟨(some 13), none, .val (.len .sl (.t 12))⟩,
    ⟨(some 14), none, .val (.bin .sub .num (.t 13) (.c (.int .i64 70)))⟩,
    ⟨(some 15), none, .val (.mx true (.t 14) (.c (.int .i64 0)))⟩,
    ⟨(some 16), none, .val (.bin .add .num (.t 10) (.t 15))⟩,
    ⟨(some 17), none, .val (.faddr 4 (.t 1))⟩,
    ⟨(some 18), none, .val (.load false 1 (.t 17))⟩,
    ⟨(some 19), none, .val (.len .str (.t 18))⟩,
    ⟨(some 20), none, .val (.bin .sub .num (.t 19) (.c (.int .i64 300)))⟩,
    ⟨(some 21), none, .val (.mx true (.t 20) (.c (.int .i64 0)))⟩,
    ⟨(some 22), none, .val (.bin .add .num (.t 16) (.t 21))⟩,
    ⟨(some 23), none, .val (.load true 7 (.t 1))⟩,
    ⟨(some 24), none, .call 57 [(.t 23)]⟩,
    ⟨(some 25), none, .val (.bin .sub .num (.t 24) (.c (.int .i64 200)))⟩,
    ⟨(some 26), none, .val (.mx true (.t 25) (.c (.int .i64 0)))⟩,
    ⟨(some 27), none, .val (.bin .add .num (.t 22) (.t 26))⟩,
    ⟨(some 28), none, .val (.load true 7 (.t 1))⟩,
    ⟨(some 29), none, .call 55 [(.t 28)]⟩,
    ⟨(some 30), none, .val (.bin .sub .num (.t 29) (.c (.int .i64 12)))⟩,
    ⟨(some 31), none, .val (.mx true (.t 30) (.c (.int .i64 0)))⟩,
    ⟨(some 32), none, .val (.bin .add .num (.t 27) (.t 31))⟩,
    ⟨(some 3), none, .val (.mv (.t 32))⟩] [
] [1, 3]) k22_12)
abbrev k22 : MC :=
  (.seq (.reg [
    ⟨(some 1), none, .boxi (.t 0)⟩,
    ⟨(some 2), none, .val (.mv (.c (.int .i64 0)))⟩] [1]) k22_13)
theorem c22 : Try.f22.body.bind (mcOf Try.prog (List.contains [1] ·) (List.getD [([], [1]), ([0, 0, 0, 0, 0, 0, 0, 0, 0, 0, 0, 0, 0, 0, 0, 0, 0, 0, 0, 0, 0, 0, 0, 0, 0, 0, 0, 0], [1, 3]), ([], [1, 3, 4]), ([], [1, 3, 4, 41]), ([], [1, 3, 4]), ([], [1, 3, 4]), ([], [1, 3, 5]), ([], [1, 3, 5, 62]), ([], [1, 3, 5]), ([], [1, 3, 5]), ([], [2])] · ([], [])) 74) = some k22 := by kernel_rfl
theorem r22 : rvsOf Try.prog Try.f22.results.toList = some [.tmp 2] := by kernel_rfl
def w64 (x : Int) : Int := IntKind.i64.wrap x
def great0 (r : Rv) : Int := w64 (w64 (w64 (w64 (max (w64 (r.L.length - 70)) 0 + max (w64 (r.Keys.length - 70)) 0) + max (w64 (r.S.length - 300)) 0) + max (w64 (sizeI r - 200)) 0) + max (w64 (deepI r - 12)) 0)
def greatK (n : Int) (ks : List (List UInt8)) : Int := ks.foldl (fun n k => w64 (n + max (w64 (k.length - 300)) 0)) n
def greatF (n g : Int) : Int := if n = 0 then w64 (n + g) else n
def greatI : Rv → Int
  | .mk K B N M S L Keys => (L.map fun x => greatI x).foldl greatF (greatK (great0 (.mk K B N M S L Keys)) (Keys.take 80))
termination_by r => SizeOf.sizeOf r
decreasing_by
  have := List.sizeOf_lt_of_mem ‹_ ∈ L›; simp only [Rv.mk.sizeOf_spec]; omega
def greatL (n : Int) (l : List Rv) : Int := (l.map greatI).foldl greatF n
theorem greatI_eq (r : Rv) : greatI r = greatL (greatK (great0 r) (r.Keys.take 80)) r.L := by cases r; rw [greatI]; rfl
theorem greatK_take {n : Int} {l : List (List UInt8)} {i : Nat} (h : i < l.length) : greatK n (l.take (i + 1)) = w64 (greatK n (l.take i) + max (w64 (l[i].length - 300)) 0) := by
  rw [List.take_succ_eq_append_getElem h, greatK, List.foldl_append]; rfl
theorem greatL_take {n : Int} {l : List Rv} {i : Nat} (h : i < l.length) : greatL n (l.take (i + 1)) = greatF (greatL n (l.take i)) (greatI l[i]) := by
  rw [List.take_succ_eq_append_getElem h, greatL, List.map_append, List.foldl_append]; rfl
theorem greatF_stop {n : Int} (h : n ≠ 0) : ∀ l : List Int, l.foldl greatF n = n
  | [] => rfl
  | x :: l => by rw [List.foldl_cons, greatF, if_neg h]; exact greatF_stop h l
theorem greatL_stop {n : Int} {l : List Rv} {i : Nat} (h : greatL n (l.take i) ≠ 0) : greatL n l = greatL n (l.take i) := by
  have e : l = l.take i ++ l.drop i := (List.take_append_drop i l).symm
  rw [show greatL n l = greatL n (l.take i ++ l.drop i) by rw [← e], greatL, List.map_append, List.foldl_append]
  exact greatF_stop h _
theorem great_calls : ∀ (r : Rv), r.Fit → ∀ (H : AH), ACalls Try.prog 22 [.agg [.int .i64 r.K, .bool r.B, .int .i64 r.N, .int .i64 r.M, .str r.S, .sl 7 (rvE r.L) .no, .sl 1 (strE r.Keys) .no]] H (fun o H' => o = .ret (.int .i64 (greatI r)) ∧ H' = H) := by
  refine Rv.ind fun r ih hf H => ?_
  refine ACalls.drop ?_
  have hb := hf.l
  have hb2 := hf.k
  refine acalls Try.func22 c22 r22 (by simp [Try.ntmps22]) ?_
  repeat' (first | with_reducible (first | refine am_seq ?_ | refine am_block ?_) | ((with_reducible apply am_cond); (case hb => rfl); all_goals (intro hc; (try simp only [reduceCtorEq, decide_eq_true_eq, decide_eq_false_iff_not, Bool.or_eq_true, Bool.and_eq_true, Bool.or_eq_false_iff, Bool.not_eq_true', Bool.not_eq_false', beq_iff_eq] at hc); (try (exfalso; omega)))) | ((first | with_reducible (first | refine am_reg ?_ | refine am_drw ?_ | refine am_drx ?_ | refine am_skip ?_ | refine am_exit ?_ | refine am_ret ?_ | refine And.intro (by first | exact AH.lec_refl _ | assumption | exact AccP.lec (by assumption) | omega) ?_ | refine isnE_of (fun hc => ?_) (fun hc => ?_) (fun hc => ?_) | refine need_elems (by assumption) ?_ | refine vlen_acc (by assumption) ?_ | refine need_bytes (by assumption) ?_ | refine call_of (rsize_calls r hf) ?_ | refine qcall_of (rsize_calls r hf) ?_ | refine call_of (rdeep_calls r hf) ?_ | refine qcall_of (rdeep_calls r hf) ?_ | refine need_look (by repeat (first | assumption | exact AH.put_same _ _ _ | refine look_put ?_ (by assumption) | refine look_lec ?_ (by assumption))) ?_) | ((with_reducible (first | refine gd_not (fun hc => ?_) (fun hc => ?_) | refine gd_of (fun hc => ?_) (fun hc => ?_) | refine gq_not (fun hc => ?_) (fun hc => ?_) | refine gq_of (fun hc => ?_) (fun hc => ?_) | refine pickB_of (fun hc => ?_) (fun hc => ?_))) <;> (try simp -implicitDefEqProofs (disch := omega) only [go_sem, eq_self, decide_true, decide_false, Nat.reduceBEq, Nat.reduceAdd, Nat.reduceSub, Nat.reduceMul, Nat.reduceEqDiff, Nat.reduceLeDiff, Nat.reduceLT, Int.reduceLE, Int.reduceLT, Int.reduceToNat, Int.reduceAdd, Int.reduceEq, Int.reduceNeg, AH.put_ne, hc, rvE_length, strE_len]) <;> (try simp only [reduceCtorEq, decide_eq_true_eq, decide_eq_false_iff_not, Bool.or_eq_true, Bool.and_eq_true, Bool.or_eq_false_iff, Bool.not_eq_true', Bool.not_eq_false', beq_iff_eq] at hc) <;> (try (exfalso; omega))) | ((with_reducible refine alloc_intro (fun ko hko => ?_)) <;> (try have hne := fresh_ne (by assumption) hko) <;> (try have hnk := fresh_ne hk hko) <;> (try have hnk2 := fresh_ne hk2 hko) <;> (try simp only [AH.put_none] at hko)) | ((with_reducible (first | refine vapp_accL (by assumption) ?_ (fun v2 H2 hacc hlec => ?_) | refine vapp_accL (AccP.mono (by assumption) (AccP.le (by assumption))) ?_ (fun v2 H2 hacc hlec => ?_) | refine vapp_accL (AccP.new (by assumption) (by assumption) _) ?_ (fun v2 H2 hacc hlec => ?_))); · simp only [byteCells_length, List.length_cons, List.length_nil, List.length_map, List.length_append, vE_length, mE_length, strE_len, List.length_take, rvE_length]; omega)) <;> (try simp -implicitDefEqProofs (disch := omega) only [go_sem, eq_self, decide_true, decide_false, Nat.reduceBEq, Nat.reduceAdd, Nat.reduceSub, Nat.reduceMul, Nat.reduceEqDiff, Nat.reduceLeDiff, Nat.reduceLT, Int.reduceLE, Int.reduceLT, Int.reduceToNat, Int.reduceAdd, Int.reduceEq, Int.reduceNeg, AH.put_ne, rvE_length, strE_len])))
  refine am_loop (fun n a H' => ∃ i : Nat, i + n = 80 ∧ i ≤ r.Keys.length ∧ a = [(1, .rptr [.int .i64 r.K, .bool r.B, .int .i64 r.N, .int .i64 r.M, .str r.S, .sl 7 (rvE r.L) .no, .sl 1 (strE r.Keys) .no] 0), (3, .int .i64 (greatK (great0 r) (r.Keys.take i))), (4, .int .i64 i)] ∧ H' = H) ?_ 80 ⟨0, by omega, by omega, rfl, rfl⟩
  rintro n a H' ⟨i, hi, hi2, rfl, rfl⟩
  have hw : ∀ i : Nat, i ≤ r.L.length ∨ i ≤ 80 → IntKind.i64.wrap ((i : Int) + 1) = ((i + 1 : Nat) : Int) := fun i h => (wrap_id ((i : Int) + 1) (by omega) (by omega)).trans rfl
  by_cases hlt : i < r.Keys.length ∧ i < 80
  · have hw := hw i (by omega)
    repeat' (first | with_reducible (first | refine am_seq ?_ | refine am_block ?_) | ((with_reducible apply am_cond); (case hb => rfl); all_goals (intro hc; (try simp only [reduceCtorEq, decide_eq_true_eq, decide_eq_false_iff_not, Bool.or_eq_true, Bool.and_eq_true, Bool.or_eq_false_iff, Bool.not_eq_true', Bool.not_eq_false', beq_iff_eq] at hc); (try (exfalso; omega)))) | ((first | with_reducible (first | refine am_reg ?_ | refine am_drw ?_ | refine am_drx ?_ | refine am_skip ?_ | refine am_exit ?_ | refine am_ret ?_ | refine And.intro (by first | exact AH.lec_refl _ | assumption | exact AccP.lec (by assumption) | omega) ?_ | refine isnE_of (fun hc => ?_) (fun hc => ?_) (fun hc => ?_) | refine need_elems (by assumption) ?_ | refine vlen_acc (by assumption) ?_ | refine need_bytes (by assumption) ?_ | refine need_look (by repeat (first | assumption | exact AH.put_same _ _ _ | refine look_put ?_ (by assumption) | refine look_lec ?_ (by assumption))) ?_) | ((with_reducible (first | refine gd_not (fun hc => ?_) (fun hc => ?_) | refine gd_of (fun hc => ?_) (fun hc => ?_) | refine gq_not (fun hc => ?_) (fun hc => ?_) | refine gq_of (fun hc => ?_) (fun hc => ?_) | refine pickB_of (fun hc => ?_) (fun hc => ?_))) <;> (try simp -implicitDefEqProofs (disch := omega) only [go_sem, eq_self, decide_true, decide_false, Nat.reduceBEq, Nat.reduceAdd, Nat.reduceSub, Nat.reduceMul, Nat.reduceEqDiff, Nat.reduceLeDiff, Nat.reduceLT, Int.reduceLE, Int.reduceLT, Int.reduceToNat, Int.reduceAdd, Int.reduceEq, Int.reduceNeg, AH.put_ne, hc, hw, rvE_length, strE_len, strE_get hlt.1]) <;> (try simp only [reduceCtorEq, decide_eq_true_eq, decide_eq_false_iff_not, Bool.or_eq_true, Bool.and_eq_true, Bool.or_eq_false_iff, Bool.not_eq_true', Bool.not_eq_false', beq_iff_eq] at hc) <;> (try (exfalso; omega))) | ((with_reducible refine alloc_intro (fun ko hko => ?_)) <;> (try have hne := fresh_ne (by assumption) hko) <;> (try have hnk := fresh_ne hk hko) <;> (try have hnk2 := fresh_ne hk2 hko) <;> (try simp only [AH.put_none] at hko)) | ((with_reducible (first | refine vapp_accL (by assumption) ?_ (fun v2 H2 hacc hlec => ?_) | refine vapp_accL (AccP.mono (by assumption) (AccP.le (by assumption))) ?_ (fun v2 H2 hacc hlec => ?_) | refine vapp_accL (AccP.new (by assumption) (by assumption) _) ?_ (fun v2 H2 hacc hlec => ?_))); · simp only [byteCells_length, List.length_cons, List.length_nil, List.length_map, List.length_append, vE_length, mE_length, strE_len, List.length_take, rvE_length]; omega)) <;> (try simp -implicitDefEqProofs (disch := omega) only [go_sem, eq_self, decide_true, decide_false, Nat.reduceBEq, Nat.reduceAdd, Nat.reduceSub, Nat.reduceMul, Nat.reduceEqDiff, Nat.reduceLeDiff, Nat.reduceLT, Int.reduceLE, Int.reduceLT, Int.reduceToNat, Int.reduceAdd, Int.reduceEq, Int.reduceNeg, AH.put_ne, hw, rvE_length, strE_len, strE_get hlt.1])))
    all_goals exact ⟨n - 1, by omega, i + 1, by omega, by omega, by rw [greatK_take hlt.1]; rfl⟩
  · have e : r.Keys.take i = r.Keys.take 80 := by
      by_cases h8 : i = 80
      · rw [h8]
      · rw [List.take_of_length_le (by omega), List.take_of_length_le (by omega)]
    rw [e]
    have hwi : (i : Int) < r.Keys.length → ¬ (i : Int) < 80 := by omega
    have tail : AM Try.prog Try.f22.ntmps (.loop k22_8) (BQ 2 (SQ Try.prog Try.f22.ntmps k22_10 (Body [RV.tmp 2] fun o G => (∃ u, o = Out.ret u ∧ ∀ (s : St) (x : Value), s.val u x → s.val (V.int IntKind.i64 (greatI r)) x) ∧ AH.le H' G))) [(1, .rptr [.int .i64 r.K, .bool r.B, .int .i64 r.N, .int .i64 r.M, .str r.S, .sl 7 (rvE r.L) .no, .sl 1 (strE r.Keys) .no] 0), (3, .int .i64 (greatK (great0 r) (r.Keys.take 80))), (5, .int .i64 0)] H' := by
      refine am_loop (fun n a G => ∃ j : Nat, j + n = r.L.length ∧ a = [(1, .rptr [.int .i64 r.K, .bool r.B, .int .i64 r.N, .int .i64 r.M, .str r.S, .sl 7 (rvE r.L) .no, .sl 1 (strE r.Keys) .no] 0), (3, .int .i64 (greatL (greatK (great0 r) (r.Keys.take 80)) (r.L.take j))), (5, .int .i64 j)] ∧ G = H') ?_ r.L.length ⟨0, by omega, rfl, rfl⟩
      rintro n a G ⟨j, hj, rfl, rfl⟩
      by_cases hlt2 : j < r.L.length
      · by_cases hz : greatL (greatK (great0 r) (r.Keys.take 80)) (r.L.take j) = 0
        · have hc1 := ih r.L[j] (List.getElem_mem hlt2) (hf.m _ (List.getElem_mem hlt2))
          have hw := hw j (by omega)
          repeat' (first | with_reducible (first | refine am_seq ?_ | refine am_block ?_) | ((with_reducible apply am_cond); (case hb => rfl); all_goals (intro hc; (try simp only [reduceCtorEq, decide_eq_true_eq, decide_eq_false_iff_not, Bool.or_eq_true, Bool.and_eq_true, Bool.or_eq_false_iff, Bool.not_eq_true', Bool.not_eq_false', beq_iff_eq] at hc); (try (exfalso; omega)))) | ((first | with_reducible (first | refine am_reg ?_ | refine am_drw ?_ | refine am_drx ?_ | refine am_skip ?_ | refine am_exit ?_ | refine am_ret ?_ | refine And.intro (by first | exact AH.lec_refl _ | assumption | exact AccP.lec (by assumption) | omega) ?_ | refine isnE_of (fun hc => ?_) (fun hc => ?_) (fun hc => ?_) | refine need_elems (by assumption) ?_ | refine vlen_acc (by assumption) ?_ | refine need_bytes (by assumption) ?_ | refine call_of (hc1) ?_ | refine qcall_of (hc1) ?_ | refine need_look (by repeat (first | assumption | exact AH.put_same _ _ _ | refine look_put ?_ (by assumption) | refine look_lec ?_ (by assumption))) ?_) | ((with_reducible (first | refine gd_not (fun hc => ?_) (fun hc => ?_) | refine gd_of (fun hc => ?_) (fun hc => ?_) | refine gq_not (fun hc => ?_) (fun hc => ?_) | refine gq_of (fun hc => ?_) (fun hc => ?_) | refine pickB_of (fun hc => ?_) (fun hc => ?_))) <;> (try simp -implicitDefEqProofs (disch := omega) only [go_sem, eq_self, decide_true, decide_false, Nat.reduceBEq, Nat.reduceAdd, Nat.reduceSub, Nat.reduceMul, Nat.reduceEqDiff, Nat.reduceLeDiff, Nat.reduceLT, Int.reduceLE, Int.reduceLT, Int.reduceToNat, Int.reduceAdd, Int.reduceEq, Int.reduceNeg, AH.put_ne, hc, hw, rvE_length, strE_len, rvE_get hlt2, hz]) <;> (try simp only [reduceCtorEq, decide_eq_true_eq, decide_eq_false_iff_not, Bool.or_eq_true, Bool.and_eq_true, Bool.or_eq_false_iff, Bool.not_eq_true', Bool.not_eq_false', beq_iff_eq] at hc) <;> (try (exfalso; omega))) | ((with_reducible refine alloc_intro (fun ko hko => ?_)) <;> (try have hne := fresh_ne (by assumption) hko) <;> (try have hnk := fresh_ne hk hko) <;> (try have hnk2 := fresh_ne hk2 hko) <;> (try simp only [AH.put_none] at hko)) | ((with_reducible (first | refine vapp_accL (by assumption) ?_ (fun v2 H2 hacc hlec => ?_) | refine vapp_accL (AccP.mono (by assumption) (AccP.le (by assumption))) ?_ (fun v2 H2 hacc hlec => ?_) | refine vapp_accL (AccP.new (by assumption) (by assumption) _) ?_ (fun v2 H2 hacc hlec => ?_))); · simp only [byteCells_length, List.length_cons, List.length_nil, List.length_map, List.length_append, vE_length, mE_length, strE_len, List.length_take, rvE_length]; omega)) <;> (try simp -implicitDefEqProofs (disch := omega) only [go_sem, eq_self, decide_true, decide_false, Nat.reduceBEq, Nat.reduceAdd, Nat.reduceSub, Nat.reduceMul, Nat.reduceEqDiff, Nat.reduceLeDiff, Nat.reduceLT, Int.reduceLE, Int.reduceLT, Int.reduceToNat, Int.reduceAdd, Int.reduceEq, Int.reduceNeg, AH.put_ne, hw, rvE_length, strE_len, rvE_get hlt2, hz])))
          all_goals exact ⟨n - 1, by omega, j + 1, by omega, by rw [greatL_take hlt2, greatF, if_pos hz, hz]; rfl⟩
        · have e2 := greatL_stop hz
          repeat' (first | with_reducible (first | refine am_seq ?_ | refine am_block ?_) | ((with_reducible apply am_cond); (case hb => rfl); all_goals (intro hc; (try simp only [reduceCtorEq, decide_eq_true_eq, decide_eq_false_iff_not, Bool.or_eq_true, Bool.and_eq_true, Bool.or_eq_false_iff, Bool.not_eq_true', Bool.not_eq_false', beq_iff_eq] at hc); (try (exfalso; omega)))) | ((first | with_reducible (first | refine am_reg ?_ | refine am_drw ?_ | refine am_drx ?_ | refine am_skip ?_ | refine am_exit ?_ | refine am_ret ?_ | refine And.intro (by first | exact AH.lec_refl _ | assumption | exact AccP.lec (by assumption) | omega) ?_ | refine isnE_of (fun hc => ?_) (fun hc => ?_) (fun hc => ?_) | refine need_elems (by assumption) ?_ | refine vlen_acc (by assumption) ?_ | refine need_bytes (by assumption) ?_ | refine need_look (by repeat (first | assumption | exact AH.put_same _ _ _ | refine look_put ?_ (by assumption) | refine look_lec ?_ (by assumption))) ?_) | ((with_reducible (first | refine gd_not (fun hc => ?_) (fun hc => ?_) | refine gd_of (fun hc => ?_) (fun hc => ?_) | refine gq_not (fun hc => ?_) (fun hc => ?_) | refine gq_of (fun hc => ?_) (fun hc => ?_) | refine pickB_of (fun hc => ?_) (fun hc => ?_))) <;> (try simp -implicitDefEqProofs (disch := omega) only [go_sem, eq_self, decide_true, decide_false, Nat.reduceBEq, Nat.reduceAdd, Nat.reduceSub, Nat.reduceMul, Nat.reduceEqDiff, Nat.reduceLeDiff, Nat.reduceLT, Int.reduceLE, Int.reduceLT, Int.reduceToNat, Int.reduceAdd, Int.reduceEq, Int.reduceNeg, AH.put_ne, hc, rvE_length, strE_len, hz]) <;> (try simp only [reduceCtorEq, decide_eq_true_eq, decide_eq_false_iff_not, Bool.or_eq_true, Bool.and_eq_true, Bool.or_eq_false_iff, Bool.not_eq_true', Bool.not_eq_false', beq_iff_eq] at hc) <;> (try (exfalso; omega))) | ((with_reducible refine alloc_intro (fun ko hko => ?_)) <;> (try have hne := fresh_ne (by assumption) hko) <;> (try have hnk := fresh_ne hk hko) <;> (try have hnk2 := fresh_ne hk2 hko) <;> (try simp only [AH.put_none] at hko)) | ((with_reducible (first | refine vapp_accL (by assumption) ?_ (fun v2 H2 hacc hlec => ?_) | refine vapp_accL (AccP.mono (by assumption) (AccP.le (by assumption))) ?_ (fun v2 H2 hacc hlec => ?_) | refine vapp_accL (AccP.new (by assumption) (by assumption) _) ?_ (fun v2 H2 hacc hlec => ?_))); · simp only [byteCells_length, List.length_cons, List.length_nil, List.length_map, List.length_append, vE_length, mE_length, strE_len, List.length_take, rvE_length]; omega)) <;> (try simp -implicitDefEqProofs (disch := omega) only [go_sem, eq_self, decide_true, decide_false, Nat.reduceBEq, Nat.reduceAdd, Nat.reduceSub, Nat.reduceMul, Nat.reduceEqDiff, Nat.reduceLeDiff, Nat.reduceLT, Int.reduceLE, Int.reduceLT, Int.reduceToNat, Int.reduceAdd, Int.reduceEq, Int.reduceNeg, AH.put_ne, rvE_length, strE_len, hz])))
          all_goals (rw [greatI_eq, e2]; (refine drop_end (by (first | exact fun _ _ h => h | (intro s x h; first | exact no_sub _ h | exact nil_no _ h | exact AccP.sub (by assumption) _ _ h | (refine agg_sub rfl ?_ x h; repeat (first | exact .nil | refine .cons (fun _ h => h) ?_ | refine .cons (fun _ h => nil_no _ h) ?_ | refine .cons (fun _ h => no_sub _ h) ?_ | refine .cons (fun _ h => AccP.sub (by assumption) _ _ h) ?_)) | (refine tuple_sub ?_ x h; repeat (first | exact .nil | refine .cons (fun _ h => h) ?_ | refine .cons (fun _ h => nil_no _ h) ?_ | refine .cons (fun _ h => no_sub _ h) ?_ | refine .cons (fun _ h => AccP.sub (by assumption) _ _ h) ?_ | refine .cons (fun _ h => agg_sub rfl (by repeat (first | exact .nil | refine .cons (fun _ h => h) ?_ | refine .cons (fun _ h => nil_no _ h) ?_ | refine .cons (fun _ h => no_sub _ h) ?_ | refine .cons (fun _ h => AccP.sub (by assumption) _ _ h) ?_)) _ h) ?_))))) (by (repeat (first | exact AH.le_refl _ | assumption | exact AccP.le (by assumption) | refine AH.le_put ?_ (by first | assumption | exact none_of_le (by assumption) (by assumption) | exact And.right (by assumption) | exact And.right (And.right (by assumption))) _ | refine AH.le_trans ?_ (AccP.le (by assumption)))))))
      · have e2 : r.L.take j = r.L := List.take_of_length_le (by omega)
        rw [e2]
        repeat' (first | with_reducible (first | refine am_seq ?_ | refine am_block ?_) | ((with_reducible apply am_cond); (case hb => rfl); all_goals (intro hc; (try simp only [reduceCtorEq, decide_eq_true_eq, decide_eq_false_iff_not, Bool.or_eq_true, Bool.and_eq_true, Bool.or_eq_false_iff, Bool.not_eq_true', Bool.not_eq_false', beq_iff_eq] at hc); (try (exfalso; omega)))) | ((first | with_reducible (first | refine am_reg ?_ | refine am_drw ?_ | refine am_drx ?_ | refine am_skip ?_ | refine am_exit ?_ | refine am_ret ?_ | refine And.intro (by first | exact AH.lec_refl _ | assumption | exact AccP.lec (by assumption) | omega) ?_ | refine isnE_of (fun hc => ?_) (fun hc => ?_) (fun hc => ?_) | refine need_elems (by assumption) ?_ | refine vlen_acc (by assumption) ?_ | refine need_bytes (by assumption) ?_ | refine need_look (by repeat (first | assumption | exact AH.put_same _ _ _ | refine look_put ?_ (by assumption) | refine look_lec ?_ (by assumption))) ?_) | ((with_reducible (first | refine gd_not (fun hc => ?_) (fun hc => ?_) | refine gd_of (fun hc => ?_) (fun hc => ?_) | refine gq_not (fun hc => ?_) (fun hc => ?_) | refine gq_of (fun hc => ?_) (fun hc => ?_) | refine pickB_of (fun hc => ?_) (fun hc => ?_))) <;> (try simp -implicitDefEqProofs (disch := omega) only [go_sem, eq_self, decide_true, decide_false, Nat.reduceBEq, Nat.reduceAdd, Nat.reduceSub, Nat.reduceMul, Nat.reduceEqDiff, Nat.reduceLeDiff, Nat.reduceLT, Int.reduceLE, Int.reduceLT, Int.reduceToNat, Int.reduceAdd, Int.reduceEq, Int.reduceNeg, AH.put_ne, hc, rvE_length, strE_len]) <;> (try simp only [reduceCtorEq, decide_eq_true_eq, decide_eq_false_iff_not, Bool.or_eq_true, Bool.and_eq_true, Bool.or_eq_false_iff, Bool.not_eq_true', Bool.not_eq_false', beq_iff_eq] at hc) <;> (try (exfalso; omega))) | ((with_reducible refine alloc_intro (fun ko hko => ?_)) <;> (try have hne := fresh_ne (by assumption) hko) <;> (try have hnk := fresh_ne hk hko) <;> (try have hnk2 := fresh_ne hk2 hko) <;> (try simp only [AH.put_none] at hko)) | ((with_reducible (first | refine vapp_accL (by assumption) ?_ (fun v2 H2 hacc hlec => ?_) | refine vapp_accL (AccP.mono (by assumption) (AccP.le (by assumption))) ?_ (fun v2 H2 hacc hlec => ?_) | refine vapp_accL (AccP.new (by assumption) (by assumption) _) ?_ (fun v2 H2 hacc hlec => ?_))); · simp only [byteCells_length, List.length_cons, List.length_nil, List.length_map, List.length_append, vE_length, mE_length, strE_len, List.length_take, rvE_length]; omega)) <;> (try simp -implicitDefEqProofs (disch := omega) only [go_sem, eq_self, decide_true, decide_false, Nat.reduceBEq, Nat.reduceAdd, Nat.reduceSub, Nat.reduceMul, Nat.reduceEqDiff, Nat.reduceLeDiff, Nat.reduceLT, Int.reduceLE, Int.reduceLT, Int.reduceToNat, Int.reduceAdd, Int.reduceEq, Int.reduceNeg, AH.put_ne, rvE_length, strE_len])))
        all_goals (rw [greatI_eq]; (refine drop_end (by (first | exact fun _ _ h => h | (intro s x h; first | exact no_sub _ h | exact nil_no _ h | exact AccP.sub (by assumption) _ _ h | (refine agg_sub rfl ?_ x h; repeat (first | exact .nil | refine .cons (fun _ h => h) ?_ | refine .cons (fun _ h => nil_no _ h) ?_ | refine .cons (fun _ h => no_sub _ h) ?_ | refine .cons (fun _ h => AccP.sub (by assumption) _ _ h) ?_)) | (refine tuple_sub ?_ x h; repeat (first | exact .nil | refine .cons (fun _ h => h) ?_ | refine .cons (fun _ h => nil_no _ h) ?_ | refine .cons (fun _ h => no_sub _ h) ?_ | refine .cons (fun _ h => AccP.sub (by assumption) _ _ h) ?_ | refine .cons (fun _ h => agg_sub rfl (by repeat (first | exact .nil | refine .cons (fun _ h => h) ?_ | refine .cons (fun _ h => nil_no _ h) ?_ | refine .cons (fun _ h => no_sub _ h) ?_ | refine .cons (fun _ h => AccP.sub (by assumption) _ _ h) ?_)) _ h) ?_))))) (by (repeat (first | exact AH.le_refl _ | assumption | exact AccP.le (by assumption) | refine AH.le_put ?_ (by first | assumption | exact none_of_le (by assumption) (by assumption) | exact And.right (by assumption) | exact And.right (And.right (by assumption))) _ | refine AH.le_trans ?_ (AccP.le (by assumption)))))))
    repeat' (first | with_reducible (first | refine am_seq ?_ | refine am_block ?_) | ((with_reducible apply am_cond); (case hb => rfl); all_goals (intro hc; (try simp only [reduceCtorEq, decide_eq_true_eq, decide_eq_false_iff_not, Bool.or_eq_true, Bool.and_eq_true, Bool.or_eq_false_iff, Bool.not_eq_true', Bool.not_eq_false', beq_iff_eq] at hc); (try (exfalso; omega)))) | ((first | with_reducible (first | refine am_reg ?_ | refine am_drw ?_ | refine am_drx ?_ | refine am_skip ?_ | refine am_exit ?_ | refine am_ret ?_ | refine And.intro (by first | exact AH.lec_refl _ | assumption | exact AccP.lec (by assumption) | omega) ?_ | refine isnE_of (fun hc => ?_) (fun hc => ?_) (fun hc => ?_) | refine need_elems (by assumption) ?_ | refine vlen_acc (by assumption) ?_ | refine need_bytes (by assumption) ?_ | refine need_look (by repeat (first | assumption | exact AH.put_same _ _ _ | refine look_put ?_ (by assumption) | refine look_lec ?_ (by assumption))) ?_) | ((with_reducible (first | refine gd_not (fun hc => ?_) (fun hc => ?_) | refine gd_of (fun hc => ?_) (fun hc => ?_) | refine gq_not (fun hc => ?_) (fun hc => ?_) | refine gq_of (fun hc => ?_) (fun hc => ?_) | refine pickB_of (fun hc => ?_) (fun hc => ?_))) <;> (try simp -implicitDefEqProofs (disch := omega) only [go_sem, eq_self, decide_true, decide_false, Nat.reduceBEq, Nat.reduceAdd, Nat.reduceSub, Nat.reduceMul, Nat.reduceEqDiff, Nat.reduceLeDiff, Nat.reduceLT, Int.reduceLE, Int.reduceLT, Int.reduceToNat, Int.reduceAdd, Int.reduceEq, Int.reduceNeg, AH.put_ne, hc, rvE_length, strE_len]) <;> (try simp only [reduceCtorEq, decide_eq_true_eq, decide_eq_false_iff_not, Bool.or_eq_true, Bool.and_eq_true, Bool.or_eq_false_iff, Bool.not_eq_true', Bool.not_eq_false', beq_iff_eq] at hc) <;> (try (exfalso; omega))) | ((with_reducible refine alloc_intro (fun ko hko => ?_)) <;> (try have hne := fresh_ne (by assumption) hko) <;> (try have hnk := fresh_ne hk hko) <;> (try have hnk2 := fresh_ne hk2 hko) <;> (try simp only [AH.put_none] at hko)) | ((with_reducible (first | refine vapp_accL (by assumption) ?_ (fun v2 H2 hacc hlec => ?_) | refine vapp_accL (AccP.mono (by assumption) (AccP.le (by assumption))) ?_ (fun v2 H2 hacc hlec => ?_) | refine vapp_accL (AccP.new (by assumption) (by assumption) _) ?_ (fun v2 H2 hacc hlec => ?_))); · simp only [byteCells_length, List.length_cons, List.length_nil, List.length_map, List.length_append, vE_length, mE_length, strE_len, List.length_take, rvE_length]; omega)) <;> (try simp -implicitDefEqProofs (disch := omega) only [go_sem, eq_self, decide_true, decide_false, Nat.reduceBEq, Nat.reduceAdd, Nat.reduceSub, Nat.reduceMul, Nat.reduceEqDiff, Nat.reduceLeDiff, Nat.reduceLT, Int.reduceLE, Int.reduceLT, Int.reduceToNat, Int.reduceAdd, Int.reduceEq, Int.reduceNeg, AH.put_ne, rvE_length, strE_len])))
    all_goals exact tail
end Go.Proofs.Ytjlphncecdlmcaa
