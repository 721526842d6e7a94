/- Of the walks of this seat: contracts of functions of the given program, proved over the abstract values of the texts Vm. Conditions: as each theorem says. -/
import Derived.Test.YtoicninkfmfnbaaKGA
import Derived.Test.YtoicninkfmfnbaaKVF
import Derived.Test.YtoicninkfmfnbaaVm36
set_option linter.unusedVariables false
set_option linter.unusedSimpArgs false
namespace Go.Proofs.Ytoicninkfmfnbaa
open Go.Vm Go.Sort
attribute [local go_sem] eq_self decide_true decide_false AH.put_ne
attribute [local go_sem_proc] Nat.reduceBEq Nat.reduceAdd Nat.reduceSub Nat.reduceMul Nat.reduceEqDiff Nat.reduceLeDiff Nat.reduceLT Int.reduceLE Int.reduceLT Int.reduceToNat Int.reduceAdd Int.reduceEq Int.reduceNeg
attribute [local go_sem] List.drop_zero toNat_succ Nat.sub_zero Int.toNat_natCast Option.map_some Int.natCast_nonneg decide_eq_true_eq decide_eq_false_iff_not
/- flange/value.near -/
abbrev k58_0 : MC :=
 (.seq (.reg [
 ⟨some 3, none, .val (.mv (.t 0))⟩,
 ⟨some 4, none, .val (.bin .geq .num (.t 3) (.c (.int .i64 (-9007199254740992))))⟩,
 ⟨some 5, none, .val (.mv (.t 4))⟩,
 ⟨some 6, (some (5, true)), .val (.mv (.t 0))⟩,
 ⟨some 7, (some (5, true)), .val (.bin .leq .num (.t 6) (.c (.int .i64 9007199254740992)))⟩,
 ⟨some 8, none, .val (.pick (.t 5) (.t 7) (.c (.bool false)))⟩,
 ⟨some 2, none, .val (.mv (.t 8))⟩] [2]) (.ret))
abbrev k58 : MC :=
 (.seq (.reg [
 ⟨some 2, none, .val (.mv (.c (.bool false)))⟩] [0]) k58_0)
theorem c58 : Try.f58.body.bind (mcOf Try.prog (List.contains [] ·) (List.getD [([], [0]), ([], [2])] · ([], [])) 9) = some k58 := by kernel_rfl
theorem r58 : rvsOf Try.prog Try.f58.results.toList = some [.tmp 2] := by kernel_rfl
/- flange/value.Point -/
abbrev k28_0 : MC :=
 .cond (.t 13) ((.seq (.reg [
 ⟨some 14, none, .build [.nilIface] []⟩,
 ⟨none, none, .store 1 (.t 4) (.t 14)⟩,
 ⟨some 5, none, .val (.mv (.c (.int .i64 2)))⟩] [4, 5]) (.ret))) (.skip)
abbrev k28_1 : MC :=
 (.seq (.reg [
 ⟨some 15, none, .val (.mv (.t 0))⟩,
 ⟨some 16, none, .val (.yo .i2f [(.t 15)])⟩,
 ⟨some 17, none, .val (.mv (.t 1))⟩,
 ⟨some 18, none, .val (.yo .i2f [(.t 17)])⟩,
 ⟨some 19, none, .val (.yo .cplx [(.t 16), (.t 18)])⟩,
 ⟨some 20, none, .val (.mkif 56 (.t 19))⟩,
 ⟨some 21, none, .build [.nilIface] [(0, 1, (.t 20))]⟩,
 ⟨none, none, .store 1 (.t 4) (.t 21)⟩,
 ⟨some 5, none, .val (.mv (.c (.int .i64 0)))⟩] [4, 5]) (.ret))
abbrev k28_2 : MC :=
 (.seq ((.seq (.reg [
 ⟨some 6, none, .val (.mv (.t 0))⟩,
 ⟨some 7, none, .call 58 [(.t 6)]⟩,
 ⟨some 8, none, .val (.not (.t 7))⟩,
 ⟨some 9, none, .val (.mv (.t 8))⟩,
 ⟨some 10, (some (9, false)), .val (.mv (.t 1))⟩,
 ⟨some 11, (some (9, false)), .call 58 [(.t 10)]⟩,
 ⟨some 12, (some (9, false)), .val (.not (.t 11))⟩,
 ⟨some 13, none, .val (.pick (.t 9) (.c (.bool true)) (.t 12))⟩] [0, 1, 4, 13]) k28_0)) k28_1)
abbrev k28 : MC :=
 (.seq (.reg [
 ⟨some 4, none, .zalloc [.nilIface]⟩,
 ⟨some 5, none, .val (.mv (.c (.int .i64 0)))⟩] [0, 1, 4]) k28_2)
theorem c28 : Try.f28.body.bind (mcOf Try.prog (List.contains [] ·) (List.getD [([], [0, 1, 4]), ([], [0, 1, 4, 13]), ([], [4, 5]), ([], [4, 5])] · ([], [])) 22) = some k28 := by kernel_rfl
theorem r28 : rvsOf Try.prog Try.f28.results.toList = some [.cell 4 true 1, .tmp 5] := by kernel_rfl
/- (flange/value.Value).Point -/
abbrev k46_0 : MC :=
 (.seq (.reg [
 ⟨some 13, none, .val (.mv (.t 5))⟩,
 ⟨some 14, none, .val (.yo .creal [(.t 13)])⟩,
 ⟨some 15, none, .val (.yo (.f2i .i64) [(.t 14)])⟩,
 ⟨some 16, none, .val (.mv (.t 5))⟩,
 ⟨some 17, none, .val (.yo .cimag [(.t 16)])⟩,
 ⟨some 18, none, .val (.yo (.f2i .i64) [(.t 17)])⟩,
 ⟨some 19, none, .val (.mv (.t 6))⟩,
 ⟨some 2, none, .val (.mv (.t 15))⟩,
 ⟨some 3, none, .val (.mv (.t 18))⟩,
 ⟨some 4, none, .val (.mv (.t 19))⟩] [2, 3, 4]) (.ret))
abbrev k46_1 : MC :=
 (.seq (.reg [
 ⟨some 8, none, .val (.faddr 0 (.t 1))⟩,
 ⟨some 9, none, .val (.load false 1 (.t 8))⟩,
 ⟨some 10, none, .val (.tya 56 true (.complex .f64 0 0) (.t 9))⟩,
 ⟨some 7, none, .val (.mv (.t 10))⟩,
 ⟨some 11, none, .val (.ext (.t 7) 0)⟩,
 ⟨some 12, none, .val (.ext (.t 7) 1)⟩,
 ⟨some 5, none, .val (.mv (.t 11))⟩,
 ⟨some 6, none, .val (.mv (.t 12))⟩] [5, 6]) k46_0)
abbrev k46 : MC :=
 (.seq (.reg [
 ⟨some 1, none, .boxi (.t 0)⟩,
 ⟨some 2, none, .val (.mv (.c (.int .i64 0)))⟩,
 ⟨some 3, none, .val (.mv (.c (.int .i64 0)))⟩,
 ⟨some 4, none, .val (.mv (.c (.bool false)))⟩] [1]) k46_1)
theorem c46 : Try.f46.body.bind (mcOf Try.prog (List.contains [1] ·) (List.getD [([], [1]), ([], [5, 6]), ([], [2, 3, 4])] · ([], [])) 20) = some k46 := by kernel_rfl
theorem r46 : rvsOf Try.prog Try.f46.results.toList = some [.tmp 2, .tmp 3, .tmp 4] := by kernel_rfl
def nearB (n : Int) : Bool := decide (-9007199254740992 ≤ n ∧ n ≤ 9007199254740992)
theorem near_calls (n : Int) (H : AH) : ACalls Try.prog 58 [.int .i64 n] H (fun o H' => o = .ret (.bool (nearB n)) ∧ H' = H) := by
  refine ACalls.drop ?_
  refine acalls Try.func58 c58 r58 (by simp [Try.ntmps58]) ?_
  repeat' (first | with_reducible (first | refine am_seq ?_ | refine am_block ?_) | ((with_reducible apply am_cond); (case hb => rfl); all_goals (intro hc; (try simp only [reduceCtorEq, bD, beq_iff_eq] at hc); (try (exfalso; omega)))) | ((first | with_reducible (first | refine am_reg ?_ | refine am_skip ?_ | refine am_exit ?_ | refine am_ret ?_ | refine vc_intro ?_ | refine need_elems (by assumption) ?_ | refine vlen_acc (by assumption) ?_ | refine need_bytes (by assumption) ?_ | refine need_lk ?_) | ((with_reducible (first | apply gd_not | apply gd_of | apply gq_not | apply gq_of | apply pickB_of)) <;> intro hc <;> (try simp -implicitDefEqProofs (disch := omega) only [go_sem, hc]) <;> (try simp only [reduceCtorEq, bD, beq_iff_eq] at hc) <;> (try (exfalso; omega))) | done) <;> (try simp -implicitDefEqProofs (disch := omega) only [go_sem])))
  all_goals refine end_eq ?_ (AH.le_refl _)
  all_goals (unfold nearB; simp; try omega)
def ptV (n m : Int) : Vl := if nearB n && nearB m then .pt n m else .nul
def ptE (n m : Int) : Int := if nearB n && nearB m then 0 else 2
theorem mpoint_calls (n m : Int) (H : AH) : ACalls Try.prog 28 [.int .i64 n, .int .i64 m] H (fun o H' => o = .ret (.tuple [.agg [vV (ptV n m)], .int .i64 (ptE n m)]) ∧ H' = H) := by
  refine ACalls.drop ?_
  unfold ptV ptE
  refine acalls Try.func28 c28 r28 (by simp [Try.ntmps28]) ?_
  cases hn : nearB n <;> cases hm : nearB m
  · repeat' (first | with_reducible (first | refine am_seq ?_ | refine am_block ?_) | ((with_reducible apply am_cond); (case hb => rfl); all_goals (intro hc; (try simp only [reduceCtorEq, bD, beq_iff_eq] at hc); (try (exfalso; omega)))) | ((first | with_reducible (first | refine am_reg ?_ | refine am_skip ?_ | refine am_exit ?_ | refine am_ret ?_ | refine vc_intro ?_ | refine need_elems (by assumption) ?_ | refine vlen_acc (by assumption) ?_ | refine need_bytes (by assumption) ?_ | refine call_of (near_calls _) ?_ | refine qcall_of (near_calls _) ?_ | refine need_lk ?_) | ((with_reducible (first | apply gd_not | apply gd_of | apply gq_not | apply gq_of | apply pickB_of)) <;> intro hc <;> (try simp -implicitDefEqProofs (disch := omega) only [go_sem, hc, hn, hm, Bool.not_false, Bool.not_true]) <;> (try simp only [reduceCtorEq, bD, beq_iff_eq] at hc) <;> (try (exfalso; omega))) | ((with_reducible refine alloc_intro (fun ko hko => ?_)) <;> (try have hne := fresh_ne (by assumption) hko) <;> (try have hnk := fresh_ne hk hko) <;> (try have hnk2 := fresh_ne hk2 hko) <;> (try simp only [AH.put_none] at hko)) | done) <;> (try simp -implicitDefEqProofs (disch := omega) only [go_sem, hn, hm, Bool.not_false, Bool.not_true])))
    all_goals simp only [Bool.and_false, Bool.false_and, Bool.and_true, if_true, Bool.false_eq_true, if_false, vV_nul]
    all_goals (refine drop_end (by (first | exact fun _ _ h => h | (intro s x h; first | exact no_sub _ h | exact nil_no _ h | exact AccP.sub (by assumption) _ _ h | (refine agg_sub rfl ?_ x h; repeat (first | exact .nil | refine .cons (fun _ h => h) ?_ | refine .cons (fun _ h => nil_no _ h) ?_ | refine .cons (fun _ h => no_sub _ h) ?_ | refine .cons (fun _ h => AccP.sub (by assumption) _ _ h) ?_)) | (refine tuple_sub ?_ x h; repeat (first | exact .nil | refine .cons (fun _ h => h) ?_ | refine .cons (fun _ h => nil_no _ h) ?_ | refine .cons (fun _ h => no_sub _ h) ?_ | refine .cons (fun _ h => AccP.sub (by assumption) _ _ h) ?_ | refine .cons (fun _ h => agg_sub rfl (by repeat (first | exact .nil | refine .cons (fun _ h => h) ?_ | refine .cons (fun _ h => nil_no _ h) ?_ | refine .cons (fun _ h => no_sub _ h) ?_ | refine .cons (fun _ h => AccP.sub (by assumption) _ _ h) ?_)) _ h) ?_))))) (by (repeat (first | exact AH.le_refl _ | assumption | exact AccP.le (by assumption) | refine AH.le_put ?_ (by first | assumption | exact none_of_le (by assumption) (by assumption) | exact And.right (by assumption) | exact And.right (And.right (by assumption))) _ | refine AH.le_trans ?_ (AccP.le (by assumption))))))
  · repeat' (first | with_reducible (first | refine am_seq ?_ | refine am_block ?_) | ((with_reducible apply am_cond); (case hb => rfl); all_goals (intro hc; (try simp only [reduceCtorEq, bD, beq_iff_eq] at hc); (try (exfalso; omega)))) | ((first | with_reducible (first | refine am_reg ?_ | refine am_skip ?_ | refine am_exit ?_ | refine am_ret ?_ | refine vc_intro ?_ | refine need_elems (by assumption) ?_ | refine vlen_acc (by assumption) ?_ | refine need_bytes (by assumption) ?_ | refine call_of (near_calls _) ?_ | refine qcall_of (near_calls _) ?_ | refine need_lk ?_) | ((with_reducible (first | apply gd_not | apply gd_of | apply gq_not | apply gq_of | apply pickB_of)) <;> intro hc <;> (try simp -implicitDefEqProofs (disch := omega) only [go_sem, hc, hn, hm, Bool.not_false, Bool.not_true]) <;> (try simp only [reduceCtorEq, bD, beq_iff_eq] at hc) <;> (try (exfalso; omega))) | ((with_reducible refine alloc_intro (fun ko hko => ?_)) <;> (try have hne := fresh_ne (by assumption) hko) <;> (try have hnk := fresh_ne hk hko) <;> (try have hnk2 := fresh_ne hk2 hko) <;> (try simp only [AH.put_none] at hko)) | done) <;> (try simp -implicitDefEqProofs (disch := omega) only [go_sem, hn, hm, Bool.not_false, Bool.not_true])))
    all_goals simp only [Bool.and_false, Bool.false_and, Bool.and_true, if_true, Bool.false_eq_true, if_false, vV_nul]
    all_goals (refine drop_end (by (first | exact fun _ _ h => h | (intro s x h; first | exact no_sub _ h | exact nil_no _ h | exact AccP.sub (by assumption) _ _ h | (refine agg_sub rfl ?_ x h; repeat (first | exact .nil | refine .cons (fun _ h => h) ?_ | refine .cons (fun _ h => nil_no _ h) ?_ | refine .cons (fun _ h => no_sub _ h) ?_ | refine .cons (fun _ h => AccP.sub (by assumption) _ _ h) ?_)) | (refine tuple_sub ?_ x h; repeat (first | exact .nil | refine .cons (fun _ h => h) ?_ | refine .cons (fun _ h => nil_no _ h) ?_ | refine .cons (fun _ h => no_sub _ h) ?_ | refine .cons (fun _ h => AccP.sub (by assumption) _ _ h) ?_ | refine .cons (fun _ h => agg_sub rfl (by repeat (first | exact .nil | refine .cons (fun _ h => h) ?_ | refine .cons (fun _ h => nil_no _ h) ?_ | refine .cons (fun _ h => no_sub _ h) ?_ | refine .cons (fun _ h => AccP.sub (by assumption) _ _ h) ?_)) _ h) ?_))))) (by (repeat (first | exact AH.le_refl _ | assumption | exact AccP.le (by assumption) | refine AH.le_put ?_ (by first | assumption | exact none_of_le (by assumption) (by assumption) | exact And.right (by assumption) | exact And.right (And.right (by assumption))) _ | refine AH.le_trans ?_ (AccP.le (by assumption))))))
  · repeat' (first | with_reducible (first | refine am_seq ?_ | refine am_block ?_) | ((with_reducible apply am_cond); (case hb => rfl); all_goals (intro hc; (try simp only [reduceCtorEq, bD, beq_iff_eq] at hc); (try (exfalso; omega)))) | ((first | with_reducible (first | refine am_reg ?_ | refine am_skip ?_ | refine am_exit ?_ | refine am_ret ?_ | refine vc_intro ?_ | refine need_elems (by assumption) ?_ | refine vlen_acc (by assumption) ?_ | refine need_bytes (by assumption) ?_ | refine call_of (near_calls _) ?_ | refine qcall_of (near_calls _) ?_ | refine need_lk ?_) | ((with_reducible (first | apply gd_not | apply gd_of | apply gq_not | apply gq_of | apply pickB_of)) <;> intro hc <;> (try simp -implicitDefEqProofs (disch := omega) only [go_sem, hc, hn, hm, Bool.not_false, Bool.not_true]) <;> (try simp only [reduceCtorEq, bD, beq_iff_eq] at hc) <;> (try (exfalso; omega))) | ((with_reducible refine alloc_intro (fun ko hko => ?_)) <;> (try have hne := fresh_ne (by assumption) hko) <;> (try have hnk := fresh_ne hk hko) <;> (try have hnk2 := fresh_ne hk2 hko) <;> (try simp only [AH.put_none] at hko)) | done) <;> (try simp -implicitDefEqProofs (disch := omega) only [go_sem, hn, hm, Bool.not_false, Bool.not_true])))
    all_goals simp only [Bool.and_false, Bool.false_and, Bool.and_true, if_true, Bool.false_eq_true, if_false, vV_nul]
    all_goals (refine drop_end (by (first | exact fun _ _ h => h | (intro s x h; first | exact no_sub _ h | exact nil_no _ h | exact AccP.sub (by assumption) _ _ h | (refine agg_sub rfl ?_ x h; repeat (first | exact .nil | refine .cons (fun _ h => h) ?_ | refine .cons (fun _ h => nil_no _ h) ?_ | refine .cons (fun _ h => no_sub _ h) ?_ | refine .cons (fun _ h => AccP.sub (by assumption) _ _ h) ?_)) | (refine tuple_sub ?_ x h; repeat (first | exact .nil | refine .cons (fun _ h => h) ?_ | refine .cons (fun _ h => nil_no _ h) ?_ | refine .cons (fun _ h => no_sub _ h) ?_ | refine .cons (fun _ h => AccP.sub (by assumption) _ _ h) ?_ | refine .cons (fun _ h => agg_sub rfl (by repeat (first | exact .nil | refine .cons (fun _ h => h) ?_ | refine .cons (fun _ h => nil_no _ h) ?_ | refine .cons (fun _ h => no_sub _ h) ?_ | refine .cons (fun _ h => AccP.sub (by assumption) _ _ h) ?_)) _ h) ?_))))) (by (repeat (first | exact AH.le_refl _ | assumption | exact AccP.le (by assumption) | refine AH.le_put ?_ (by first | assumption | exact none_of_le (by assumption) (by assumption) | exact And.right (by assumption) | exact And.right (And.right (by assumption))) _ | refine AH.le_trans ?_ (AccP.le (by assumption))))))
  · repeat' (first | with_reducible (first | refine am_seq ?_ | refine am_block ?_) | ((with_reducible apply am_cond); (case hb => rfl); all_goals (intro hc; (try simp only [reduceCtorEq, bD, beq_iff_eq] at hc); (try (exfalso; omega)))) | ((first | with_reducible (first | refine am_reg ?_ | refine am_skip ?_ | refine am_exit ?_ | refine am_ret ?_ | refine vc_intro ?_ | refine need_elems (by assumption) ?_ | refine vlen_acc (by assumption) ?_ | refine need_bytes (by assumption) ?_ | refine call_of (near_calls _) ?_ | refine qcall_of (near_calls _) ?_ | refine need_lk ?_) | ((with_reducible (first | apply gd_not | apply gd_of | apply gq_not | apply gq_of | apply pickB_of)) <;> intro hc <;> (try simp -implicitDefEqProofs (disch := omega) only [go_sem, hc, hn, hm, Bool.not_false, Bool.not_true]) <;> (try simp only [reduceCtorEq, bD, beq_iff_eq] at hc) <;> (try (exfalso; omega))) | ((with_reducible refine alloc_intro (fun ko hko => ?_)) <;> (try have hne := fresh_ne (by assumption) hko) <;> (try have hnk := fresh_ne hk hko) <;> (try have hnk2 := fresh_ne hk2 hko) <;> (try simp only [AH.put_none] at hko)) | done) <;> (try simp -implicitDefEqProofs (disch := omega) only [go_sem, hn, hm, Bool.not_false, Bool.not_true])))
    all_goals simp only [Bool.and_false, Bool.false_and, Bool.and_true, if_true, Bool.false_eq_true, if_false, vV_pt, fl]
    all_goals (refine drop_end (by (first | exact fun _ _ h => h | (intro s x h; first | exact no_sub _ h | exact nil_no _ h | exact AccP.sub (by assumption) _ _ h | (refine agg_sub rfl ?_ x h; repeat (first | exact .nil | refine .cons (fun _ h => h) ?_ | refine .cons (fun _ h => nil_no _ h) ?_ | refine .cons (fun _ h => no_sub _ h) ?_ | refine .cons (fun _ h => AccP.sub (by assumption) _ _ h) ?_)) | (refine tuple_sub ?_ x h; repeat (first | exact .nil | refine .cons (fun _ h => h) ?_ | refine .cons (fun _ h => nil_no _ h) ?_ | refine .cons (fun _ h => no_sub _ h) ?_ | refine .cons (fun _ h => AccP.sub (by assumption) _ _ h) ?_ | refine .cons (fun _ h => agg_sub rfl (by repeat (first | exact .nil | refine .cons (fun _ h => h) ?_ | refine .cons (fun _ h => nil_no _ h) ?_ | refine .cons (fun _ h => no_sub _ h) ?_ | refine .cons (fun _ h => AccP.sub (by assumption) _ _ h) ?_)) _ h) ?_))))) (by (repeat (first | exact AH.le_refl _ | assumption | exact AccP.le (by assumption) | refine AH.le_put ?_ (by first | assumption | exact none_of_le (by assumption) (by assumption) | exact And.right (by assumption) | exact And.right (And.right (by assumption))) _ | refine AH.le_trans ?_ (AccP.le (by assumption))))))
def Vl.isP : Vl → Int × Int × Bool
  | .pt n m => (n, m, true)
  | _ => (0, 0, false)
theorem fl_back {n : Int} (h1 : -9007199254740992 ≤ n) (h2 : n ≤ 9007199254740992) : floatToIntVal .f64 (fl n) .i64 = some n := near_back n h1 h2
theorem fl_zero : floatToIntVal .f64 0 .i64 = some 0 := by decide
theorem point_calls {v : Vl} (ho : v.Ok) (H : AH) : ACalls Try.prog 46 [.agg [vV v]] H (fun o H' => o = .ret (.tuple [.int .i64 v.isP.1, .int .i64 v.isP.2.1, .bool v.isP.2.2]) ∧ H' = H) := by
  refine ACalls.drop ?_
  refine acalls Try.func46 c46 r46 (by simp [Try.ntmps46]) ?_
  cases v
  case pt n m =>
    rw [vV_pt]
    cases ho with
    | pt _ _ h1 h2 h3 h4 =>
      repeat' (first | with_reducible (first | refine am_seq ?_ | refine am_block ?_) | ((with_reducible apply am_cond); (case hb => rfl); all_goals (intro hc; (try simp only [reduceCtorEq, bD, beq_iff_eq] at hc); (try (exfalso; omega)))) | ((first | with_reducible (first | refine am_reg ?_ | refine am_skip ?_ | refine am_exit ?_ | refine am_ret ?_ | refine vc_intro ?_ | refine need_elems (by assumption) ?_ | refine vlen_acc (by assumption) ?_ | refine need_bytes (by assumption) ?_ | refine need_lk ?_) | ((with_reducible refine alloc_intro (fun ko hko => ?_)) <;> (try have hne := fresh_ne (by assumption) hko) <;> (try have hnk := fresh_ne hk hko) <;> (try have hnk2 := fresh_ne hk2 hko) <;> (try simp only [AH.put_none] at hko)) | done) <;> (try simp -implicitDefEqProofs (disch := omega) only [go_sem, true_or, or_true, true_and, fl_back h1 h2, fl_back h3 h4])))
      all_goals (refine drop_end (by (first | exact fun _ _ h => h | (intro s x h; first | exact no_sub _ h | exact nil_no _ h | exact AccP.sub (by assumption) _ _ h | (refine agg_sub rfl ?_ x h; repeat (first | exact .nil | refine .cons (fun _ h => h) ?_ | refine .cons (fun _ h => nil_no _ h) ?_ | refine .cons (fun _ h => no_sub _ h) ?_ | refine .cons (fun _ h => AccP.sub (by assumption) _ _ h) ?_)) | (refine tuple_sub ?_ x h; repeat (first | exact .nil | refine .cons (fun _ h => h) ?_ | refine .cons (fun _ h => nil_no _ h) ?_ | refine .cons (fun _ h => no_sub _ h) ?_ | refine .cons (fun _ h => AccP.sub (by assumption) _ _ h) ?_ | refine .cons (fun _ h => agg_sub rfl (by repeat (first | exact .nil | refine .cons (fun _ h => h) ?_ | refine .cons (fun _ h => nil_no _ h) ?_ | refine .cons (fun _ h => no_sub _ h) ?_ | refine .cons (fun _ h => AccP.sub (by assumption) _ _ h) ?_)) _ h) ?_))))) (by (repeat (first | exact AH.le_refl _ | assumption | exact AccP.le (by assumption) | refine AH.le_put ?_ (by first | assumption | exact none_of_le (by assumption) (by assumption) | exact And.right (by assumption) | exact And.right (And.right (by assumption))) _ | refine AH.le_trans ?_ (AccP.le (by assumption))))))
  all_goals simp only [vV_nul, vV_unk, vV_bool, vV_int, vV_pt, vV_text, vV_list, vV_map]
  repeat' (first | with_reducible (first | refine am_seq ?_ | refine am_block ?_) | ((with_reducible apply am_cond); (case hb => rfl); all_goals (intro hc; (try simp only [reduceCtorEq, bD, beq_iff_eq] at hc); (try (exfalso; omega)))) | ((first | with_reducible (first | refine am_reg ?_ | refine am_skip ?_ | refine am_exit ?_ | refine am_ret ?_ | refine vc_intro ?_ | refine need_elems (by assumption) ?_ | refine vlen_acc (by assumption) ?_ | refine need_bytes (by assumption) ?_ | refine need_lk ?_) | ((with_reducible refine alloc_intro (fun ko hko => ?_)) <;> (try have hne := fresh_ne (by assumption) hko) <;> (try have hnk := fresh_ne hk hko) <;> (try have hnk2 := fresh_ne hk2 hko) <;> (try simp only [AH.put_none] at hko)) | done) <;> (try simp -implicitDefEqProofs (disch := omega) only [go_sem, true_or, or_true, true_and, fl_zero])))
  all_goals (refine drop_end (by (first | exact fun _ _ h => h | (intro s x h; first | exact no_sub _ h | exact nil_no _ h | exact AccP.sub (by assumption) _ _ h | (refine agg_sub rfl ?_ x h; repeat (first | exact .nil | refine .cons (fun _ h => h) ?_ | refine .cons (fun _ h => nil_no _ h) ?_ | refine .cons (fun _ h => no_sub _ h) ?_ | refine .cons (fun _ h => AccP.sub (by assumption) _ _ h) ?_)) | (refine tuple_sub ?_ x h; repeat (first | exact .nil | refine .cons (fun _ h => h) ?_ | refine .cons (fun _ h => nil_no _ h) ?_ | refine .cons (fun _ h => no_sub _ h) ?_ | refine .cons (fun _ h => AccP.sub (by assumption) _ _ h) ?_ | refine .cons (fun _ h => agg_sub rfl (by repeat (first | exact .nil | refine .cons (fun _ h => h) ?_ | refine .cons (fun _ h => nil_no _ h) ?_ | refine .cons (fun _ h => no_sub _ h) ?_ | refine .cons (fun _ h => AccP.sub (by assumption) _ _ h) ?_)) _ h) ?_))))) (by (repeat (first | exact AH.le_refl _ | assumption | exact AccP.le (by assumption) | refine AH.le_put ?_ (by first | assumption | exact none_of_le (by assumption) (by assumption) | exact And.right (by assumption) | exact And.right (And.right (by assumption))) _ | refine AH.le_trans ?_ (AccP.le (by assumption))))))
end Go.Proofs.Ytoicninkfmfnbaa
namespace Go.Proofs.Ytoicninkfmfnbaa
open Go.Vm Go.Sort
attribute [local go_sem] eq_self decide_true decide_false AH.put_ne
attribute [local go_sem_proc] Nat.reduceBEq Nat.reduceAdd Nat.reduceSub Nat.reduceMul Nat.reduceEqDiff Nat.reduceLeDiff Nat.reduceLT Int.reduceLE Int.reduceLT Int.reduceToNat Int.reduceAdd Int.reduceEq Int.reduceNeg
attribute [local go_sem] List.drop_zero toNat_succ Nat.sub_zero Int.toNat_natCast Option.map_some Int.natCast_nonneg decide_eq_true_eq decide_eq_false_iff_not
/- flange/value.Map -/
abbrev k31_0 : MC :=
 .cond (.t 15) ((.seq (.reg [
 ⟨some 16, none, .build [.nilIface] []⟩,
 ⟨none, none, .store 1 (.t 4) (.t 16)⟩,
 ⟨some 5, none, .val (.mv (.c (.int .i64 1)))⟩] [4, 5]) (.ret))) (.skip)
abbrev k31_1 : MC :=
 .cond (.t 31) ((.seq (.reg [
 ⟨some 32, none, .build [.nilIface] []⟩,
 ⟨none, none, .store 1 (.t 4) (.t 32)⟩,
 ⟨some 5, none, .val (.mv (.c (.int .i64 9)))⟩] [4, 5]) (.ret))) (.skip)
abbrev k31_2 : MC :=
 (.seq (.reg [
 ⟨some 31, none, .val (.mv (.t 10))⟩] [1, 4, 6, 7, 8, 18, 19, 20, 31]) k31_1)
abbrev k31_3 : MC :=
 .reg [
 ⟨some 33, none, .val (.mv (.t 6))⟩,
 ⟨some 34, none, .val (.mv (.t 8))⟩,
 ⟨some 35, none, .val (.mv (.t 1))⟩,
 ⟨some 36, none, .val (.mv (.t 7))⟩,
 ⟨some 37, none, .val (.iaddr 1 (.t 35) (.t 36))⟩,
 ⟨some 38, none, .val (.load true 1 (.t 37))⟩,
 ⟨none, none, .xo (.mset .str) [(.t 33), (.t 34), (.t 38)]⟩] [1, 4, 6, 18, 19, 20]
abbrev k31_4 : MC :=
 (.seq ((.seq (.reg [
 ⟨some 26, none, .val (.mv (.t 6))⟩,
 ⟨some 27, none, .val (.mv (.t 8))⟩,
 ⟨some 28, none, .val (.yo (.look .str (.agg [.nilIface]) true) [(.t 26), (.t 27)])⟩,
 ⟨some 25, none, .val (.mv (.t 28))⟩,
 ⟨some 29, none, .val (.ext (.t 25) 0)⟩,
 ⟨some 30, none, .val (.ext (.t 25) 1)⟩,
 ⟨some 9, none, .zalloc [.nilIface]⟩,
 ⟨none, none, .store 1 (.t 9) (.t 29)⟩,
 ⟨some 10, none, .val (.mv (.t 30))⟩] [1, 4, 6, 7, 8, 10, 18, 19, 20]) k31_2)) k31_3)
abbrev k31_5 : MC :=
 .reg [
 ⟨some 39, none, .val (.bin .add .num (.t 20) (.c (.int .i64 1)))⟩,
 ⟨some 20, none, .val (.mv (.t 39))⟩] [1, 4, 6, 18, 19, 20]
abbrev k31_6 : MC :=
 (.seq (.block 1 ((.seq (.reg [
 ⟨some 22, none, .val (.mv (.t 20))⟩,
 ⟨some 23, none, .val (.iaddr 1 (.t 18) (.t 20))⟩,
 ⟨some 24, none, .val (.load false 1 (.t 23))⟩,
 ⟨some 7, none, .val (.mv (.t 22))⟩,
 ⟨some 8, none, .val (.mv (.t 24))⟩] [1, 4, 6, 7, 8, 18, 19, 20]) k31_4))) k31_5)
abbrev k31_7 : MC :=
 (.seq (.cond (.t 21) (.skip) (.exit 0)) k31_6)
abbrev k31_8 : MC :=
 (.seq (.reg [
 ⟨some 21, none, .val (.bin .lss .num (.t 20) (.t 19))⟩] [1, 4, 6, 18, 19, 20, 21]) k31_7)
abbrev k31_9 : MC :=
 .block 0 (.loop k31_8)
abbrev k31_10 : MC :=
 (.seq (.reg [
 ⟨some 40, none, .val (.mv (.t 6))⟩,
 ⟨some 41, none, .val (.mkif 60 (.t 40))⟩,
 ⟨some 42, none, .build [.nilIface] [(0, 1, (.t 41))]⟩,
 ⟨none, none, .store 1 (.t 4) (.t 42)⟩,
 ⟨some 5, none, .val (.mv (.c (.int .i64 0)))⟩] [4, 5]) (.ret))
abbrev k31_11 : MC :=
 (.seq ((.seq (.reg [
 ⟨some 18, none, .val (.mv (.t 0))⟩,
 ⟨some 19, none, .val (.len .sl (.t 18))⟩,
 ⟨some 20, none, .val (.mv (.c (.int .i64 0)))⟩] [1, 4, 6, 18, 19, 20]) k31_9)) k31_10)
abbrev k31_12 : MC :=
 (.seq (.reg [
 ⟨some 17, none, .xo .mkmap []⟩,
 ⟨some 6, none, .val (.mv (.t 17))⟩] [0, 1, 4, 6]) k31_11)
abbrev k31_13 : MC :=
 (.seq ((.seq (.reg [
 ⟨some 11, none, .val (.mv (.t 0))⟩,
 ⟨some 12, none, .val (.len .sl (.t 11))⟩,
 ⟨some 13, none, .val (.mv (.t 1))⟩,
 ⟨some 14, none, .val (.len .sl (.t 13))⟩,
 ⟨some 15, none, .val (.bin .neq .num (.t 12) (.t 14))⟩] [0, 1, 4, 15]) k31_0)) k31_12)
abbrev k31 : MC :=
 (.seq (.reg [
 ⟨some 4, none, .zalloc [.nilIface]⟩,
 ⟨some 5, none, .val (.mv (.c (.int .i64 0)))⟩] [0, 1, 4]) k31_13)
theorem c31 : Try.f31.body.bind (mcOf Try.prog (List.contains [] ·) (List.getD [([], [0, 1, 4]), ([], [0, 1, 4, 15]), ([], [4, 5]), ([], [0, 1, 4, 6]), ([], [1, 4, 6, 18, 19, 20]), ([], [1, 4, 6, 18, 19, 20, 21]), ([], [1, 4, 6, 7, 8, 18, 19, 20]), ([], [1, 4, 6, 7, 8, 10, 18, 19, 20]), ([], [1, 4, 6, 7, 8, 18, 19, 20, 31]), ([], [4, 5]), ([], [1, 4, 6, 18, 19, 20]), ([], [1, 4, 6, 18, 19, 20]), ([], [4, 5])] · ([], [])) 43) = some k31 := by kernel_rfl
theorem r31 : rvsOf Try.prog Try.f31.results.toList = some [.cell 4 true 1, .tmp 5] := by kernel_rfl
def mkR (acc : List (List UInt8 × Vl)) : List (List UInt8 × Vl) → Option (List (List UInt8 × Vl))
  | [] => some acc
  | p :: r => if (fnd p.1 acc).isSome then none else mkR (acc ++ [p]) r
def mapR (ks : List (List UInt8)) (l : List Vl) : Vl × Int :=
  if ks.length ≠ l.length then (.nul, 1) else match mkR [] (ks.zip l) with
  | none => (.nul, 9)
  | some es => (.map es, 0)
theorem mE_put (k : List UInt8) (x : Vl) : ∀ es, fnd k es = none → mput .str (.str k) (.agg [vV x]) (mE es) = mE (es ++ [(k, x)])
  | [], _ => rfl
  | p :: es, h => by
    rw [fnd] at h
    split at h
    · cases h
    · rename_i hne
      have h' : ¬ k = p.1 := fun e => hne e.symm
      have := mE_put k x es h
      simp only [mE, List.map_cons, List.cons_append, mput, BK.eq, h', decide_false] at this ⊢
      rw [if_neg (by decide), this]
theorem map_raw {ks : List (List UInt8)} {l : List Vl} {t t2 : Tok} (hb : l.length * 16 ≤ 140000000000000) (H : AH) : ACalls Try.prog 31 [.sl 1 (strE ks) t, .sl 1 (vE l) t2] H (fun o H' => ∃ v, o = .ret v ∧
    (((∀ (s : St) x, s.val v x → s.val (.tuple [.agg [vV (mapR ks l).1], .int .i64 (mapR ks l).2]) x) ∧ H.le H') ∨
    ∃ k es v', H' k = some (.map es) ∧ (∀ s : St, FrozeM s k es → ∀ x, s.val v x → s.val v' x) ∧ (∀ (s : St) x, s.val v' x → s.val (.tuple [.agg [vV (mapR ks l).1], .int .i64 (mapR ks l).2]) x) ∧ H.le (H'.del k))) := by
  refine acalls Try.func31 c31 r31 (by simp [Try.ntmps31]) ?_
  by_cases hlen : ks.length = l.length
  · repeat' (first | with_reducible (first | refine am_seq ?_ | refine am_block ?_) | ((with_reducible apply am_cond); (case hb => rfl); all_goals (intro hc; (try simp only [reduceCtorEq, bD, beq_iff_eq] at hc); (try (exfalso; omega)))) | ((first | with_reducible (first | refine am_reg ?_ | refine am_skip ?_ | refine am_exit ?_ | refine am_ret ?_ | refine vc_intro ?_ | refine need_elems (by assumption) ?_ | refine vlen_acc (by assumption) ?_ | refine need_bytes (by assumption) ?_ | refine need_lk ?_) | ((with_reducible refine alloc_intro (fun ko hko => ?_)) <;> (try have hne := fresh_ne (by assumption) hko) <;> (try have hnk := fresh_ne hk hko) <;> (try have hnk2 := fresh_ne hk2 hko) <;> (try simp only [AH.put_none] at hko)) | done) <;> (try simp -implicitDefEqProofs (disch := omega) only [go_sem, strE_len, vE_length, hlen])))
    rename_i kz hkz
    generalize ko = km at *
    have hkm := hko
    clear hko
    have hkm2 := hkm.2
    have nzm : kz ≠ km := fun e => hkm.1 e.symm
    refine am_loop (fun n a H' => ∃ (i : Nat) (acc : List (List UInt8 × Vl)), i + n = l.length ∧ a = [(1, .sl 1 (vE l) t2), (4, .ptr kz 0), (6, .map km), (18, .sl 1 (strE ks) t), (19, .int .i64 l.length), (20, .int .i64 i)] ∧ H' kz = some (.cells [.nilIface]) ∧ H' km = some (.map (mE acc)) ∧ H.le H' ∧ mkR [] (ks.zip l) = mkR acc ((ks.zip l).drop i)) ?_ l.length ⟨0, [], by omega, rfl, look_put (AH.put_same _ _ _) (by rw [AH.put_none]; exact ⟨hkm.1, hkm2⟩), AH.put_same _ _ _, AH.le_put (AH.le_put (AH.le_refl _) hkz _) hkm2 _, rfl⟩
    rintro n a H' ⟨i, acc, hi, rfl, hk, hk2, hle, hr⟩
    have hzl : (ks.zip l).length = l.length := by rw [List.length_zip]; omega
    by_cases hlt : i < l.length
    · have hlt2 : i < ks.length := by omega
      rw [List.drop_eq_getElem_cons (by omega), mkR, List.getElem_zip] at hr
      cases hf : fnd ks[i] acc with
      | some y =>
        rw [hf] at hr
        repeat' (first | with_reducible (first | refine am_seq ?_ | refine am_block ?_) | ((with_reducible apply am_cond); (case hb => rfl); all_goals (intro hc; (try simp only [reduceCtorEq, bD, beq_iff_eq] at hc); (try (exfalso; omega)))) | ((first | with_reducible (first | refine am_reg ?_ | refine am_skip ?_ | refine am_exit ?_ | refine am_ret ?_ | refine vc_intro ?_ | refine need_elems (by assumption) ?_ | refine vlen_acc (by assumption) ?_ | refine need_bytes (by assumption) ?_ | refine need_lk ?_) | ((with_reducible refine alloc_intro (fun ko hko => ?_)) <;> (try have hne := fresh_ne (by assumption) hko) <;> (try have hnk := fresh_ne hk hko) <;> (try have hnk2 := fresh_ne hk2 hko) <;> (try simp only [AH.put_none] at hko)) | done) <;> (try simp -implicitDefEqProofs (disch := omega) only [go_sem, wrap_id, strE_len, vE_length, strE_get hlt2, vE_get hlt, mE_find, hf, hk, hk2, nzm])))
        all_goals (have e : mapR ks l = (.nul, 9) := by { unfold mapR; rw [if_neg (by omega), hr]; rfl }; rw [e, vV_nul]; exact ⟨_, rfl, .inl ⟨fun s x h => h, AH.le_put (AH.le_put hle (none_of_le hle hko) _) hkz _⟩⟩)
      | none =>
        rw [hf] at hr
        repeat' (first | with_reducible (first | refine am_seq ?_ | refine am_block ?_) | ((with_reducible apply am_cond); (case hb => rfl); all_goals (intro hc; (try simp only [reduceCtorEq, bD, beq_iff_eq] at hc); (try (exfalso; omega)))) | ((first | with_reducible (first | refine am_reg ?_ | refine am_skip ?_ | refine am_exit ?_ | refine am_ret ?_ | refine vc_intro ?_ | refine need_elems (by assumption) ?_ | refine vlen_acc (by assumption) ?_ | refine need_bytes (by assumption) ?_ | refine need_lk ?_) | ((with_reducible refine alloc_intro (fun ko hko => ?_)) <;> (try have hne := fresh_ne (by assumption) hko) <;> (try have hnk := fresh_ne hk hko) <;> (try have hnk2 := fresh_ne hk2 hko) <;> (try simp only [AH.put_none] at hko)) | done) <;> (try simp -implicitDefEqProofs (disch := omega) only [go_sem, wrap_id, strE_len, vE_length, strE_get hlt2, vE_get hlt, mE_find, mE_put _ _ _ hf, hf, hk, hk2, nzm, Option.map_none])))
        all_goals exact ⟨n - 1, by omega, i + 1, _, by omega, rfl, rfl, AH.le_put (AH.le_put hle (none_of_le hle hko) _) hkm2 _, hr⟩
    · rw [List.drop_eq_nil_of_le (by omega), mkR] at hr
      repeat' (first | with_reducible (first | refine am_seq ?_ | refine am_block ?_) | ((with_reducible apply am_cond); (case hb => rfl); all_goals (intro hc; (try simp only [reduceCtorEq, bD, beq_iff_eq] at hc); (try (exfalso; omega)))) | ((first | with_reducible (first | refine am_reg ?_ | refine am_skip ?_ | refine am_exit ?_ | refine am_ret ?_ | refine vc_intro ?_ | refine need_elems (by assumption) ?_ | refine vlen_acc (by assumption) ?_ | refine need_bytes (by assumption) ?_ | refine need_lk ?_) | ((with_reducible refine alloc_intro (fun ko hko => ?_)) <;> (try have hne := fresh_ne (by assumption) hko) <;> (try have hnk := fresh_ne hk hko) <;> (try have hnk2 := fresh_ne hk2 hko) <;> (try simp only [AH.put_none] at hko)) | done) <;> (try simp -implicitDefEqProofs (disch := omega) only [go_sem, wrap_id, strE_len, vE_length, hk, hk2, nzm])))
      have e : mapR ks l = (.map acc, 0) := by unfold mapR; rw [if_neg (by omega), hr]
      rw [e, vV_map]
      refine ⟨_, rfl, .inr ⟨km, mE acc, _, by rw [AH.put_ne _ _ (Ne.symm nzm)]; exact hk2, fun s hf x h => ?_, fun s x h => h, AH.le_del (AH.le_put hle hkz _) hkm2⟩⟩
      exact tuple_sub (.cons (fun y h => agg_sub rfl (.cons (fun y h => iface_sub hf y h) .nil) y h) (.cons (fun y h => h) .nil)) x h
  · repeat' (first | with_reducible (first | refine am_seq ?_ | refine am_block ?_) | ((with_reducible apply am_cond); (case hb => rfl); all_goals (intro hc; (try simp only [reduceCtorEq, bD, beq_iff_eq] at hc); (try (exfalso; omega)))) | ((first | with_reducible (first | refine am_reg ?_ | refine am_skip ?_ | refine am_exit ?_ | refine am_ret ?_ | refine vc_intro ?_ | refine need_elems (by assumption) ?_ | refine vlen_acc (by assumption) ?_ | refine need_bytes (by assumption) ?_ | refine need_lk ?_) | ((with_reducible refine alloc_intro (fun ko hko => ?_)) <;> (try have hne := fresh_ne (by assumption) hko) <;> (try have hnk := fresh_ne hk hko) <;> (try have hnk2 := fresh_ne hk2 hko) <;> (try simp only [AH.put_none] at hko)) | done) <;> (try simp -implicitDefEqProofs (disch := omega) only [go_sem, strE_len, vE_length, hlen])))
    all_goals (have e : mapR ks l = (.nul, 1) := by { unfold mapR; rw [if_pos hlen] }; rw [e, vV_nul]; exact ⟨_, rfl, .inl ⟨fun s x h => h, AH.le_put (AH.le_refl _) hko _⟩⟩)
theorem map_calls {ks : List (List UInt8)} {l : List Vl} {t t2 : Tok} (hb : l.length * 16 ≤ 140000000000000) (H : AH) : ACalls Try.prog 31 [.sl 1 (strE ks) t, .sl 1 (vE l) t2] H (fun o H' => o = .ret (.tuple [.agg [vV (mapR ks l).1], .int .i64 (mapR ks l).2]) ∧ H' = H) := by
  refine ACalls.drop (ACalls.mono (ACalls.freezeM (map_raw hb H) (R := fun v H' => (∀ (s : St) x, s.val v x → s.val (.tuple [.agg [vV (mapR ks l).1], .int .i64 (mapR ks l).2]) x) ∧ H.le H') ?_) ?_)
  · rintro o H' ⟨v, rfl, h | ⟨k, es, v', h1, h2, h3, h4⟩⟩
    · exact ⟨v, rfl, .inl h⟩
    · exact ⟨v, rfl, .inr ⟨k, es, v', h1, h2, h3, h4⟩⟩
  · rintro o H' ⟨v, rfl, h1, h2⟩
    exact drop_end h1 h2
end Go.Proofs.Ytoicninkfmfnbaa
namespace Go.Proofs.Ytoicninkfmfnbaa
open Go.Vm Go.Sort
attribute [local go_sem] List.drop_zero toNat_succ Nat.sub_zero Int.toNat_natCast Option.map_some Int.natCast_nonneg decide_eq_true_eq decide_eq_false_iff_not
inductive Rv where
  | mk (K : Int) (B : Bool) (N M : Int) (S : List UInt8) (L : List Rv) (Keys : List (List UInt8))
def Rv.K : Rv → Int | .mk a _ _ _ _ _ _ => a
def Rv.B : Rv → Bool | .mk _ a _ _ _ _ _ => a
def Rv.N : Rv → Int | .mk _ _ a _ _ _ _ => a
def Rv.M : Rv → Int | .mk _ _ _ a _ _ _ => a
def Rv.S : Rv → List UInt8 | .mk _ _ _ _ a _ _ => a
def Rv.L : Rv → List Rv | .mk _ _ _ _ _ a _ => a
def Rv.Keys : Rv → List (List UInt8) | .mk _ _ _ _ _ _ a => a
theorem Rv.ind {Q : Rv → Prop} (h : ∀ r : Rv, (∀ x ∈ r.L, Q x) → Q r) : ∀ r, Q r
  | .mk K B N M S L Keys => h _ fun x hx => Rv.ind h x
termination_by r => SizeOf.sizeOf r
decreasing_by
  have hx' : x ∈ L := hx
  have := List.sizeOf_lt_of_mem hx'; simp only [Rv.mk.sizeOf_spec]; omega
def rvC : Rv → List V
  | .mk K B N M S L Keys => [.int .i64 K, .bool B, .int .i64 N, .int .i64 M, .str S, .sl 7 (L.map fun x => rvC x) .no, .sl 1 (strE Keys) .no]
termination_by r => SizeOf.sizeOf r
decreasing_by
  have := List.sizeOf_lt_of_mem ‹_ ∈ L›; simp only [Rv.mk.sizeOf_spec]; omega
def rvE (l : List Rv) : List (List V) := l.map rvC
theorem rvC_eq (r : Rv) : rvC r = [.int .i64 r.K, .bool r.B, .int .i64 r.N, .int .i64 r.M, .str r.S, .sl 7 (rvE r.L) .no, .sl 1 (strE r.Keys) .no] := by
  cases r; rw [rvC]; rfl
theorem rvE_length (l : List Rv) : (rvE l).length = l.length := by simp [rvE]
theorem rvE_get {l : List Rv} {i : Nat} (h : i < l.length) : (rvE l)[i]? = some [.int .i64 l[i].K, .bool l[i].B, .int .i64 l[i].N, .int .i64 l[i].M, .str l[i].S, .sl 7 (rvE l[i].L) .no, .sl 1 (strE l[i].Keys) .no] := by
  rw [← rvC_eq]; simp [rvE, h]
theorem rvE_app (a b : List Rv) : rvE a ++ rvE b = rvE (a ++ b) := by simp [rvE]
def deepI : Rv → Int
  | .mk _ _ _ _ _ L _ => IntKind.i64.wrap ((L.map fun x => deepI x).foldl max 0 + 1)
termination_by r => SizeOf.sizeOf r
decreasing_by
  have := List.sizeOf_lt_of_mem ‹_ ∈ L›; simp only [Rv.mk.sizeOf_spec]; omega
def deepL (l : List Rv) : Int := (l.map deepI).foldl max 0
theorem deepI_eq (r : Rv) : deepI r = IntKind.i64.wrap (deepL r.L + 1) := by cases r; rw [deepI]; rfl
def sizeI : Rv → Int
  | .mk _ _ _ _ _ L _ => (L.map fun x => sizeI x).foldl (fun n x => IntKind.i64.wrap (n + x)) 1
termination_by r => SizeOf.sizeOf r
decreasing_by
  have := List.sizeOf_lt_of_mem ‹_ ∈ L›; simp only [Rv.mk.sizeOf_spec]; omega
def sizeL (l : List Rv) : Int := (l.map sizeI).foldl (fun n x => IntKind.i64.wrap (n + x)) 1
theorem sizeI_eq (r : Rv) : sizeI r = sizeL r.L := by cases r; rw [sizeI]; rfl
inductive Rv.FitB (B : Nat) : Rv → Prop where
  | mk (r : Rv) : r.L.length * 96 ≤ B → r.Keys.length * 16 ≤ B → (∀ k ∈ r.Keys, k.length ≤ 140737488355328) → r.S.length ≤ 140737488355328 → (∀ x ∈ r.L, Rv.FitB B x) → Rv.FitB B r
theorem Rv.FitB.l {B : Nat} {r : Rv} (h : r.FitB B) : r.L.length * 96 ≤ B := by cases h; assumption
theorem Rv.FitB.k {B : Nat} {r : Rv} (h : r.FitB B) : r.Keys.length * 16 ≤ B := by cases h; assumption
theorem Rv.FitB.kl {B : Nat} {r : Rv} (h : r.FitB B) : ∀ k ∈ r.Keys, k.length ≤ 140737488355328 := by cases h; assumption
theorem Rv.FitB.s {B : Nat} {r : Rv} (h : r.FitB B) : r.S.length ≤ 140737488355328 := by cases h; assumption
theorem Rv.FitB.m {B : Nat} {r : Rv} (h : r.FitB B) : ∀ x ∈ r.L, x.FitB B := by cases h; assumption
abbrev Rv.Fit (r : Rv) : Prop := r.FitB 140737488355328
theorem Rv.Fit.l {r : Rv} (h : r.Fit) : r.L.length * 96 ≤ 140737488355328 := FitB.l h
theorem Rv.Fit.k {r : Rv} (h : r.Fit) : r.Keys.length * 16 ≤ 140737488355328 := FitB.k h
theorem Rv.Fit.kl {r : Rv} (h : r.Fit) : ∀ k ∈ r.Keys, k.length ≤ 140737488355328 := FitB.kl h
theorem Rv.Fit.s {r : Rv} (h : r.Fit) : r.S.length ≤ 140737488355328 := FitB.s h
theorem Rv.Fit.m {r : Rv} (h : r.Fit) : ∀ x ∈ r.L, x.Fit := FitB.m h
end Go.Proofs.Ytoicninkfmfnbaa
namespace Go.Proofs.Ytoicninkfmfnbaa
open Go.Vm Go.Sort
attribute [local go_sem] eq_self decide_true decide_false AH.put_ne
attribute [local go_sem_proc] Nat.reduceBEq Nat.reduceAdd Nat.reduceSub Nat.reduceMul Nat.reduceEqDiff Nat.reduceLeDiff Nat.reduceLT Int.reduceLE Int.reduceLT Int.reduceToNat Int.reduceAdd Int.reduceEq Int.reduceNeg
attribute [local go_sem] List.drop_zero toNat_succ Nat.sub_zero Int.toNat_natCast Option.map_some Int.natCast_nonneg decide_eq_true_eq decide_eq_false_iff_not
/- flange/flangeref04.Deep -/
abbrev k25_0 : MC :=
 .cond (.t 9) (.skip) (.exit 0)
abbrev k25_1 : MC :=
 .reg [
 ⟨some 10, none, .val (.mv (.t 4))⟩,
 ⟨some 11, none, .val (.bin .add .num (.t 10) (.c (.int .i64 1)))⟩,
 ⟨some 4, none, .val (.mv (.t 11))⟩] [1, 3, 4]
abbrev k25_2 : MC :=
 (.seq (.block 1 (.reg [
 ⟨some 12, none, .val (.mv (.t 3))⟩,
 ⟨some 13, none, .val (.faddr 5 (.t 1))⟩,
 ⟨some 14, none, .val (.load false 1 (.t 13))⟩,
 ⟨some 15, none, .val (.mv (.t 4))⟩,
 ⟨some 16, none, .val (.iaddr 7 (.t 14) (.t 15))⟩,
 ⟨some 17, none, .val (.load true 7 (.t 16))⟩,
 ⟨some 18, none, .call 25 [(.t 17)]⟩,
 ⟨some 19, none, .val (.mx true (.t 12) (.t 18))⟩,
 ⟨some 3, none, .val (.mv (.t 19))⟩] [1, 3, 4])) k25_1)
abbrev k25_3 : MC :=
 (.seq ((.seq (.reg [
 ⟨some 5, none, .val (.mv (.t 4))⟩,
 ⟨some 6, none, .val (.faddr 5 (.t 1))⟩,
 ⟨some 7, none, .val (.load false 1 (.t 6))⟩,
 ⟨some 8, none, .val (.len .sl (.t 7))⟩,
 ⟨some 9, none, .val (.bin .lss .num (.t 5) (.t 8))⟩] [1, 3, 4, 9]) k25_0)) k25_2)
abbrev k25_4 : MC :=
 .block 0 (.loop k25_3)
abbrev k25_5 : MC :=
 (.seq (.reg [
 ⟨some 20, none, .val (.mv (.t 3))⟩,
 ⟨some 21, none, .val (.bin .add .num (.t 20) (.c (.int .i64 1)))⟩,
 ⟨some 2, none, .val (.mv (.t 21))⟩] [2]) (.ret))
abbrev k25_6 : MC :=
 (.seq ((.seq (.reg [
 ⟨some 4, none, .val (.mv (.c (.int .i64 0)))⟩] [1, 3, 4]) k25_4)) k25_5)
abbrev k25_7 : MC :=
 (.seq (.reg [
 ⟨some 3, none, .val (.mv (.c (.int .i64 0)))⟩] [1, 3]) k25_6)
abbrev k25 : MC :=
 (.seq (.reg [
 ⟨some 1, none, .boxi (.t 0)⟩,
 ⟨some 2, none, .val (.mv (.c (.int .i64 0)))⟩] [1]) k25_7)
theorem c25 : Try.f25.body.bind (mcOf Try.prog (List.contains [1] ·) (List.getD [([], [1]), ([], [1, 3]), ([], [1, 3, 4]), ([], [1, 3, 4, 9]), ([], [1, 3, 4]), ([], [1, 3, 4]), ([], [2])] · ([], [])) 22) = some k25 := by kernel_rfl
theorem r25 : rvsOf Try.prog Try.f25.results.toList = some [.tmp 2] := by kernel_rfl
/- flange/flangeref04.Size -/
abbrev k24_0 : MC :=
 .cond (.t 9) (.skip) (.exit 0)
abbrev k24_1 : MC :=
 .reg [
 ⟨some 10, none, .val (.mv (.t 4))⟩,
 ⟨some 11, none, .val (.bin .add .num (.t 10) (.c (.int .i64 1)))⟩,
 ⟨some 4, none, .val (.mv (.t 11))⟩] [1, 3, 4]
abbrev k24_2 : MC :=
 (.seq (.block 1 (.reg [
 ⟨some 12, none, .val (.mv (.t 3))⟩,
 ⟨some 13, none, .val (.faddr 5 (.t 1))⟩,
 ⟨some 14, none, .val (.load false 1 (.t 13))⟩,
 ⟨some 15, none, .val (.mv (.t 4))⟩,
 ⟨some 16, none, .val (.iaddr 7 (.t 14) (.t 15))⟩,
 ⟨some 17, none, .val (.load true 7 (.t 16))⟩,
 ⟨some 18, none, .call 24 [(.t 17)]⟩,
 ⟨some 19, none, .val (.bin .add .num (.t 12) (.t 18))⟩,
 ⟨some 3, none, .val (.mv (.t 19))⟩] [1, 3, 4])) k24_1)
abbrev k24_3 : MC :=
 (.seq ((.seq (.reg [
 ⟨some 5, none, .val (.mv (.t 4))⟩,
 ⟨some 6, none, .val (.faddr 5 (.t 1))⟩,
 ⟨some 7, none, .val (.load false 1 (.t 6))⟩,
 ⟨some 8, none, .val (.len .sl (.t 7))⟩,
 ⟨some 9, none, .val (.bin .lss .num (.t 5) (.t 8))⟩] [1, 3, 4, 9]) k24_0)) k24_2)
abbrev k24_4 : MC :=
 .block 0 (.loop k24_3)
abbrev k24_5 : MC :=
 (.seq (.reg [
 ⟨some 20, none, .val (.mv (.t 3))⟩,
 ⟨some 2, none, .val (.mv (.t 20))⟩] [2]) (.ret))
abbrev k24_6 : MC :=
 (.seq ((.seq (.reg [
 ⟨some 4, none, .val (.mv (.c (.int .i64 0)))⟩] [1, 3, 4]) k24_4)) k24_5)
abbrev k24_7 : MC :=
 (.seq (.reg [
 ⟨some 3, none, .val (.mv (.c (.int .i64 1)))⟩] [1, 3]) k24_6)
abbrev k24 : MC :=
 (.seq (.reg [
 ⟨some 1, none, .boxi (.t 0)⟩,
 ⟨some 2, none, .val (.mv (.c (.int .i64 0)))⟩] [1]) k24_7)
theorem c24 : Try.f24.body.bind (mcOf Try.prog (List.contains [1] ·) (List.getD [([], [1]), ([], [1, 3]), ([], [1, 3, 4]), ([], [1, 3, 4, 9]), ([], [1, 3, 4]), ([], [1, 3, 4]), ([], [2])] · ([], [])) 21) = some k24 := by kernel_rfl
theorem r24 : rvsOf Try.prog Try.f24.results.toList = some [.tmp 2] := by kernel_rfl
theorem deepL_take {l : List Rv} {i : Nat} (h : i < l.length) : deepL (l.take (i + 1)) = max (deepL (l.take i)) (deepI l[i]) := by
  rw [List.take_succ_eq_append_getElem h, deepL, List.map_append, List.foldl_append]; rfl
theorem sizeL_take {l : List Rv} {i : Nat} (h : i < l.length) : sizeL (l.take (i + 1)) = IntKind.i64.wrap (sizeL (l.take i) + sizeI l[i]) := by
  rw [List.take_succ_eq_append_getElem h, sizeL, List.map_append, List.foldl_append]; rfl
theorem rdeep_calls : ∀ (r : Rv), r.Fit → ∀ (H : AH), ACalls Try.prog 25 [.agg [.int .i64 r.K, .bool r.B, .int .i64 r.N, .int .i64 r.M, .str r.S, .sl 7 (rvE r.L) .no, .sl 1 (strE r.Keys) .no]] H (fun o H' => o = .ret (.int .i64 (deepI r)) ∧ H' = H) := by
  refine Rv.ind fun r ih hf H => ?_
  refine ACalls.drop ?_
  have hb := hf.l
  refine acalls Try.func25 c25 r25 (by simp [Try.ntmps25]) ?_
  repeat' (first | with_reducible (first | refine am_seq ?_ | refine am_block ?_) | ((with_reducible apply am_cond); (case hb => rfl); all_goals (intro hc; (try simp only [reduceCtorEq, bD, beq_iff_eq] at hc); (try (exfalso; omega)))) | ((first | with_reducible (first | refine am_reg ?_ | refine am_skip ?_ | refine am_exit ?_ | refine am_ret ?_ | refine vc_intro ?_ | refine need_elems (by assumption) ?_ | refine vlen_acc (by assumption) ?_ | refine need_bytes (by assumption) ?_ | refine need_lk ?_) | ((with_reducible refine alloc_intro (fun ko hko => ?_)) <;> (try have hne := fresh_ne (by assumption) hko) <;> (try have hnk := fresh_ne hk hko) <;> (try have hnk2 := fresh_ne hk2 hko) <;> (try simp only [AH.put_none] at hko)) | done) <;> (try simp -implicitDefEqProofs (disch := omega) only [go_sem])))
  refine am_loop (fun n a H' => ∃ i : Nat, i + n = r.L.length ∧ a = [(1, .rptr [.int .i64 r.K, .bool r.B, .int .i64 r.N, .int .i64 r.M, .str r.S, .sl 7 (rvE r.L) .no, .sl 1 (strE r.Keys) .no] 0), (3, .int .i64 (deepL (r.L.take i))), (4, .int .i64 i)] ∧ H' = H) ?_ r.L.length ⟨0, by omega, rfl, rfl⟩
  rintro n a H' ⟨i, hi, rfl, rfl⟩
  by_cases hlt : i < r.L.length
  · have hc1 := ih r.L[i] (List.getElem_mem hlt) (hf.m _ (List.getElem_mem hlt))
    repeat' (first | with_reducible (first | refine am_seq ?_ | refine am_block ?_) | ((with_reducible apply am_cond); (case hb => rfl); all_goals (intro hc; (try simp only [reduceCtorEq, bD, beq_iff_eq] at hc); (try (exfalso; omega)))) | ((first | with_reducible (first | refine am_reg ?_ | refine am_skip ?_ | refine am_exit ?_ | refine am_ret ?_ | refine vc_intro ?_ | refine need_elems (by assumption) ?_ | refine vlen_acc (by assumption) ?_ | refine need_bytes (by assumption) ?_ | refine call_of (hc1) ?_ | refine qcall_of (hc1) ?_ | refine need_lk ?_) | ((with_reducible refine alloc_intro (fun ko hko => ?_)) <;> (try have hne := fresh_ne (by assumption) hko) <;> (try have hnk := fresh_ne hk hko) <;> (try have hnk2 := fresh_ne hk2 hko) <;> (try simp only [AH.put_none] at hko)) | done) <;> (try simp -implicitDefEqProofs (disch := omega) only [go_sem, wrap_id, rvE_length, rvE_get hlt])))
    all_goals exact ⟨n - 1, by omega, i + 1, by omega, by rw [deepL_take hlt]; rfl⟩
  · have e : r.L.take i = r.L := List.take_of_length_le (by omega)
    repeat' (first | with_reducible (first | refine am_seq ?_ | refine am_block ?_) | ((with_reducible apply am_cond); (case hb => rfl); all_goals (intro hc; (try simp only [reduceCtorEq, bD, beq_iff_eq] at hc); (try (exfalso; omega)))) | ((first | with_reducible (first | refine am_reg ?_ | refine am_skip ?_ | refine am_exit ?_ | refine am_ret ?_ | refine vc_intro ?_ | refine need_elems (by assumption) ?_ | refine vlen_acc (by assumption) ?_ | refine need_bytes (by assumption) ?_ | refine need_lk ?_) | ((with_reducible refine alloc_intro (fun ko hko => ?_)) <;> (try have hne := fresh_ne (by assumption) hko) <;> (try have hnk := fresh_ne hk hko) <;> (try have hnk2 := fresh_ne hk2 hko) <;> (try simp only [AH.put_none] at hko)) | done) <;> (try simp -implicitDefEqProofs (disch := omega) only [go_sem, wrap_id, rvE_length, e])))
    all_goals (rw [deepI_eq]; (refine drop_end (by (first | exact fun _ _ h => h | (intro s x h; first | exact no_sub _ h | exact nil_no _ h | exact AccP.sub (by assumption) _ _ h | (refine agg_sub rfl ?_ x h; repeat (first | exact .nil | refine .cons (fun _ h => h) ?_ | refine .cons (fun _ h => nil_no _ h) ?_ | refine .cons (fun _ h => no_sub _ h) ?_ | refine .cons (fun _ h => AccP.sub (by assumption) _ _ h) ?_)) | (refine tuple_sub ?_ x h; repeat (first | exact .nil | refine .cons (fun _ h => h) ?_ | refine .cons (fun _ h => nil_no _ h) ?_ | refine .cons (fun _ h => no_sub _ h) ?_ | refine .cons (fun _ h => AccP.sub (by assumption) _ _ h) ?_ | refine .cons (fun _ h => agg_sub rfl (by repeat (first | exact .nil | refine .cons (fun _ h => h) ?_ | refine .cons (fun _ h => nil_no _ h) ?_ | refine .cons (fun _ h => no_sub _ h) ?_ | refine .cons (fun _ h => AccP.sub (by assumption) _ _ h) ?_)) _ h) ?_))))) (by (repeat (first | exact AH.le_refl _ | assumption | exact AccP.le (by assumption) | refine AH.le_put ?_ (by first | assumption | exact none_of_le (by assumption) (by assumption) | exact And.right (by assumption) | exact And.right (And.right (by assumption))) _ | refine AH.le_trans ?_ (AccP.le (by assumption)))))))
theorem rsize_calls : ∀ (r : Rv), r.Fit → ∀ (H : AH), ACalls Try.prog 24 [.agg [.int .i64 r.K, .bool r.B, .int .i64 r.N, .int .i64 r.M, .str r.S, .sl 7 (rvE r.L) .no, .sl 1 (strE r.Keys) .no]] H (fun o H' => o = .ret (.int .i64 (sizeI r)) ∧ H' = H) := by
  refine Rv.ind fun r ih hf H => ?_
  refine ACalls.drop ?_
  have hb := hf.l
  refine acalls Try.func24 c24 r24 (by simp [Try.ntmps24]) ?_
  repeat' (first | with_reducible (first | refine am_seq ?_ | refine am_block ?_) | ((with_reducible apply am_cond); (case hb => rfl); all_goals (intro hc; (try simp only [reduceCtorEq, bD, beq_iff_eq] at hc); (try (exfalso; omega)))) | ((first | with_reducible (first | refine am_reg ?_ | refine am_skip ?_ | refine am_exit ?_ | refine am_ret ?_ | refine vc_intro ?_ | refine need_elems (by assumption) ?_ | refine vlen_acc (by assumption) ?_ | refine need_bytes (by assumption) ?_ | refine need_lk ?_) | ((with_reducible refine alloc_intro (fun ko hko => ?_)) <;> (try have hne := fresh_ne (by assumption) hko) <;> (try have hnk := fresh_ne hk hko) <;> (try have hnk2 := fresh_ne hk2 hko) <;> (try simp only [AH.put_none] at hko)) | done) <;> (try simp -implicitDefEqProofs (disch := omega) only [go_sem])))
  refine am_loop (fun n a H' => ∃ i : Nat, i + n = r.L.length ∧ a = [(1, .rptr [.int .i64 r.K, .bool r.B, .int .i64 r.N, .int .i64 r.M, .str r.S, .sl 7 (rvE r.L) .no, .sl 1 (strE r.Keys) .no] 0), (3, .int .i64 (sizeL (r.L.take i))), (4, .int .i64 i)] ∧ H' = H) ?_ r.L.length ⟨0, by omega, rfl, rfl⟩
  rintro n a H' ⟨i, hi, rfl, rfl⟩
  by_cases hlt : i < r.L.length
  · have hc1 := ih r.L[i] (List.getElem_mem hlt) (hf.m _ (List.getElem_mem hlt))
    repeat' (first | with_reducible (first | refine am_seq ?_ | refine am_block ?_) | ((with_reducible apply am_cond); (case hb => rfl); all_goals (intro hc; (try simp only [reduceCtorEq, bD, beq_iff_eq] at hc); (try (exfalso; omega)))) | ((first | with_reducible (first | refine am_reg ?_ | refine am_skip ?_ | refine am_exit ?_ | refine am_ret ?_ | refine vc_intro ?_ | refine need_elems (by assumption) ?_ | refine vlen_acc (by assumption) ?_ | refine need_bytes (by assumption) ?_ | refine call_of (hc1) ?_ | refine qcall_of (hc1) ?_ | refine need_lk ?_) | ((with_reducible refine alloc_intro (fun ko hko => ?_)) <;> (try have hne := fresh_ne (by assumption) hko) <;> (try have hnk := fresh_ne hk hko) <;> (try have hnk2 := fresh_ne hk2 hko) <;> (try simp only [AH.put_none] at hko)) | done) <;> (try simp -implicitDefEqProofs (disch := omega) only [go_sem, wrap_id, rvE_length, rvE_get hlt])))
    all_goals exact ⟨n - 1, by omega, i + 1, by omega, by rw [sizeL_take hlt]; rfl⟩
  · have e : r.L.take i = r.L := List.take_of_length_le (by omega)
    repeat' (first | with_reducible (first | refine am_seq ?_ | refine am_block ?_) | ((with_reducible apply am_cond); (case hb => rfl); all_goals (intro hc; (try simp only [reduceCtorEq, bD, beq_iff_eq] at hc); (try (exfalso; omega)))) | ((first | with_reducible (first | refine am_reg ?_ | refine am_skip ?_ | refine am_exit ?_ | refine am_ret ?_ | refine vc_intro ?_ | refine need_elems (by assumption) ?_ | refine vlen_acc (by assumption) ?_ | refine need_bytes (by assumption) ?_ | refine need_lk ?_) | ((with_reducible refine alloc_intro (fun ko hko => ?_)) <;> (try have hne := fresh_ne (by assumption) hko) <;> (try have hnk := fresh_ne hk hko) <;> (try have hnk2 := fresh_ne hk2 hko) <;> (try simp only [AH.put_none] at hko)) | done) <;> (try simp -implicitDefEqProofs (disch := omega) only [go_sem, wrap_id, rvE_length, e])))
    all_goals (rw [sizeI_eq]; (refine drop_end (by (first | exact fun _ _ h => h | (intro s x h; first | exact no_sub _ h | exact nil_no _ h | exact AccP.sub (by assumption) _ _ h | (refine agg_sub rfl ?_ x h; repeat (first | exact .nil | refine .cons (fun _ h => h) ?_ | refine .cons (fun _ h => nil_no _ h) ?_ | refine .cons (fun _ h => no_sub _ h) ?_ | refine .cons (fun _ h => AccP.sub (by assumption) _ _ h) ?_)) | (refine tuple_sub ?_ x h; repeat (first | exact .nil | refine .cons (fun _ h => h) ?_ | refine .cons (fun _ h => nil_no _ h) ?_ | refine .cons (fun _ h => no_sub _ h) ?_ | refine .cons (fun _ h => AccP.sub (by assumption) _ _ h) ?_ | refine .cons (fun _ h => agg_sub rfl (by repeat (first | exact .nil | refine .cons (fun _ h => h) ?_ | refine .cons (fun _ h => nil_no _ h) ?_ | refine .cons (fun _ h => no_sub _ h) ?_ | refine .cons (fun _ h => AccP.sub (by assumption) _ _ h) ?_)) _ h) ?_))))) (by (repeat (first | exact AH.le_refl _ | assumption | exact AccP.le (by assumption) | refine AH.le_put ?_ (by first | assumption | exact none_of_le (by assumption) (by assumption) | exact And.right (by assumption) | exact And.right (And.right (by assumption))) _ | refine AH.le_trans ?_ (AccP.le (by assumption)))))))
end Go.Proofs.Ytoicninkfmfnbaa
namespace Go.Proofs.Ytoicninkfmfnbaa
open Go.Vm Go.Sort
attribute [local go_sem] eq_self decide_true decide_false AH.put_ne
attribute [local go_sem_proc] Nat.reduceBEq Nat.reduceAdd Nat.reduceSub Nat.reduceMul Nat.reduceEqDiff Nat.reduceLeDiff Nat.reduceLT Int.reduceLE Int.reduceLT Int.reduceToNat Int.reduceAdd Int.reduceEq Int.reduceNeg
attribute [local go_sem] List.drop_zero toNat_succ Nat.sub_zero Int.toNat_natCast Option.map_some Int.natCast_nonneg decide_eq_true_eq decide_eq_false_iff_not
/- flange/flangelaw04.Great -/
abbrev k10_0 : MC :=
 .cond (.t 41) (.skip) (.exit 0)
abbrev k10_1 : MC :=
 .reg [
 ⟨some 42, none, .val (.mv (.t 4))⟩,
 ⟨some 43, none, .val (.bin .add .num (.t 42) (.c (.int .i64 1)))⟩,
 ⟨some 4, none, .val (.mv (.t 43))⟩] [1, 3, 4]
abbrev k10_2 : MC :=
 (.seq (.block 1 (.reg [
 ⟨some 44, none, .val (.mv (.t 3))⟩,
 ⟨some 45, none, .val (.faddr 6 (.t 1))⟩,
 ⟨some 46, none, .val (.load false 1 (.t 45))⟩,
 ⟨some 47, none, .val (.mv (.t 4))⟩,
 ⟨some 48, none, .val (.iaddr 1 (.t 46) (.t 47))⟩,
 ⟨some 49, none, .val (.load false 1 (.t 48))⟩,
 ⟨some 50, none, .val (.len .str (.t 49))⟩,
 ⟨some 51, none, .val (.bin .sub .num (.t 50) (.c (.int .i64 300)))⟩,
 ⟨some 52, none, .val (.mx true (.t 51) (.c (.int .i64 0)))⟩,
 ⟨some 53, none, .val (.bin .add .num (.t 44) (.t 52))⟩,
 ⟨some 3, none, .val (.mv (.t 53))⟩] [1, 3, 4])) k10_1)
abbrev k10_3 : MC :=
 (.seq ((.seq (.reg [
 ⟨some 33, none, .val (.mv (.t 4))⟩,
 ⟨some 34, none, .val (.faddr 6 (.t 1))⟩,
 ⟨some 35, none, .val (.load false 1 (.t 34))⟩,
 ⟨some 36, none, .val (.len .sl (.t 35))⟩,
 ⟨some 37, none, .val (.bin .lss .num (.t 33) (.t 36))⟩,
 ⟨some 38, none, .val (.mv (.t 37))⟩,
 ⟨some 39, (some (38, true)), .val (.mv (.t 4))⟩,
 ⟨some 40, (some (38, true)), .val (.bin .lss .num (.t 39) (.c (.int .i64 80)))⟩,
 ⟨some 41, none, .val (.pick (.t 38) (.t 40) (.c (.bool false)))⟩] [1, 3, 4, 41]) k10_0)) k10_2)
abbrev k10_4 : MC :=
 .block 0 (.loop k10_3)
abbrev k10_5 : MC :=
 .cond (.t 62) (.skip) (.exit 2)
abbrev k10_6 : MC :=
 .reg [
 ⟨some 63, none, .val (.mv (.t 5))⟩,
 ⟨some 64, none, .val (.bin .add .num (.t 63) (.c (.int .i64 1)))⟩,
 ⟨some 5, none, .val (.mv (.t 64))⟩] [1, 3, 5]
abbrev k10_7 : MC :=
 (.seq (.block 3 (.reg [
 ⟨some 65, none, .val (.mv (.t 3))⟩,
 ⟨some 66, none, .val (.faddr 5 (.t 1))⟩,
 ⟨some 67, none, .val (.load false 1 (.t 66))⟩,
 ⟨some 68, none, .val (.mv (.t 5))⟩,
 ⟨some 69, none, .val (.iaddr 7 (.t 67) (.t 68))⟩,
 ⟨some 70, none, .val (.load true 7 (.t 69))⟩,
 ⟨some 71, none, .call 10 [(.t 70)]⟩,
 ⟨some 72, none, .val (.bin .add .num (.t 65) (.t 71))⟩,
 ⟨some 3, none, .val (.mv (.t 72))⟩] [1, 3, 5])) k10_6)
abbrev k10_8 : MC :=
 (.seq ((.seq (.reg [
 ⟨some 54, none, .val (.mv (.t 5))⟩,
 ⟨some 55, none, .val (.faddr 5 (.t 1))⟩,
 ⟨some 56, none, .val (.load false 1 (.t 55))⟩,
 ⟨some 57, none, .val (.len .sl (.t 56))⟩,
 ⟨some 58, none, .val (.bin .lss .num (.t 54) (.t 57))⟩,
 ⟨some 59, none, .val (.mv (.t 58))⟩,
 ⟨some 60, (some (59, true)), .val (.mv (.t 3))⟩,
 ⟨some 61, (some (59, true)), .val (.bin .eql .num (.t 60) (.c (.int .i64 0)))⟩,
 ⟨some 62, none, .val (.pick (.t 59) (.t 61) (.c (.bool false)))⟩] [1, 3, 5, 62]) k10_5)) k10_7)
abbrev k10_9 : MC :=
 .block 2 (.loop k10_8)
abbrev k10_10 : MC :=
 (.seq (.reg [
 ⟨some 73, none, .val (.mv (.t 3))⟩,
 ⟨some 2, none, .val (.mv (.t 73))⟩] [2]) (.ret))
abbrev k10_11 : MC :=
 (.seq ((.seq (.reg [
 ⟨some 5, none, .val (.mv (.c (.int .i64 0)))⟩] [1, 3, 5]) k10_9)) k10_10)
abbrev k10_12 : MC :=
 (.seq ((.seq (.reg [
 ⟨some 4, none, .val (.mv (.c (.int .i64 0)))⟩] [1, 3, 4]) k10_4)) k10_11)
abbrev k10_13 : MC :=
 (.seq (.drw [
 ⟨some 6, none, .val (.faddr 5 (.t 1))⟩,
 ⟨some 7, none, .val (.load false 1 (.t 6))⟩,
 ⟨some 8, none, .val (.len .sl (.t 7))⟩,
 ⟨some 9, none, .val (.bin .sub .num (.t 8) (.c (.int .i64 70)))⟩,
 ⟨some 10, none, .val (.mx true (.t 9) (.c (.int .i64 0)))⟩,
 ⟨some 11, none, .val (.faddr 6 (.t 1))⟩,
 ⟨some 12, none, .val (.load false 1 (.t 11))⟩,
 ⟨some 13, none, .val (.len .sl (.t 12))⟩,
 ⟨some 14, none, .val (.bin .sub .num (.t 13) (.c (.int .i64 70)))⟩,
 ⟨some 15, none, .val (.mx true (.t 14) (.c (.int .i64 0)))⟩,
 ⟨some 16, none, .val (.bin .add .num (.t 10) (.t 15))⟩,
 ⟨some 17, none, .val (.faddr 4 (.t 1))⟩,
 ⟨some 18, none, .val (.load false 1 (.t 17))⟩,
 ⟨some 19, none, .val (.len .str (.t 18))⟩,
 ⟨some 20, none, .val (.bin .sub .num (.t 19) (.c (.int .i64 300)))⟩,
 ⟨some 21, none, .val (.mx true (.t 20) (.c (.int .i64 0)))⟩,
 ⟨some 22, none, .val (.bin .add .num (.t 16) (.t 21))⟩,
 ⟨some 23, none, .val (.load true 7 (.t 1))⟩,
 ⟨some 24, none, .call 24 [(.t 23)]⟩,
 ⟨some 25, none, .val (.bin .sub .num (.t 24) (.c (.int .i64 200)))⟩,
 ⟨some 26, none, .val (.mx true (.t 25) (.c (.int .i64 0)))⟩,
 ⟨some 27, none, .val (.bin .add .num (.t 22) (.t 26))⟩,
 ⟨some 28, none, .val (.load true 7 (.t 1))⟩,
 ⟨some 29, none, .call 25 [(.t 28)]⟩,
 ⟨some 30, none, .val (.bin .sub .num (.t 29) (.c (.int .i64 12)))⟩,
 ⟨some 31, none, .val (.mx true (.t 30) (.c (.int .i64 0)))⟩,
 ⟨some 32, none, .val (.bin .add .num (.t 27) (.t 31))⟩,
 ⟨some 3, none, .val (.mv (.t 32))⟩] [] [1, 3]) k10_12)
abbrev k10 : MC :=
 (.seq (.reg [
 ⟨some 1, none, .boxi (.t 0)⟩,
 ⟨some 2, none, .val (.mv (.c (.int .i64 0)))⟩] [1]) k10_13)
theorem c10 : Try.f10.body.bind (mcOf Try.prog (List.contains [1] ·) (List.getD [([], [1]), ([0, 0, 0, 0, 0, 0, 0, 0, 0, 0, 0, 0, 0, 0, 0, 0, 0, 0, 0, 0, 0, 0, 0, 0, 0, 0, 0, 0], [1, 3]), ([], [1, 3, 4]), ([], [1, 3, 4, 41]), ([], [1, 3, 4]), ([], [1, 3, 4]), ([], [1, 3, 5]), ([], [1, 3, 5, 62]), ([], [1, 3, 5]), ([], [1, 3, 5]), ([], [2])] · ([], [])) 74) = some k10 := by kernel_rfl
theorem r10 : rvsOf Try.prog Try.f10.results.toList = some [.tmp 2] := by kernel_rfl
def w64 (x : Int) : Int := IntKind.i64.wrap x
def great0 (r : Rv) : Int := w64 (w64 (w64 (w64 (max (w64 (r.L.length - 70)) 0 + max (w64 (r.Keys.length - 70)) 0) + max (w64 (r.S.length - 300)) 0) + max (w64 (sizeI r - 200)) 0) + max (w64 (deepI r - 12)) 0)
def greatK (n : Int) (ks : List (List UInt8)) : Int := ks.foldl (fun n k => w64 (n + max (w64 (k.length - 300)) 0)) n
def greatF (n g : Int) : Int := if n = 0 then w64 (n + g) else n
def greatI : Rv → Int
  | .mk K B N M S L Keys => (L.map fun x => greatI x).foldl greatF (greatK (great0 (.mk K B N M S L Keys)) (Keys.take 80))
termination_by r => SizeOf.sizeOf r
decreasing_by
  have := List.sizeOf_lt_of_mem ‹_ ∈ L›; simp only [Rv.mk.sizeOf_spec]; omega
def greatL (n : Int) (l : List Rv) : Int := (l.map greatI).foldl greatF n
theorem greatI_eq (r : Rv) : greatI r = greatL (greatK (great0 r) (r.Keys.take 80)) r.L := by cases r; rw [greatI]; rfl
theorem greatK_take {n : Int} {l : List (List UInt8)} {i : Nat} (h : i < l.length) : greatK n (l.take (i + 1)) = w64 (greatK n (l.take i) + max (w64 (l[i].length - 300)) 0) := by
  rw [List.take_succ_eq_append_getElem h, greatK, List.foldl_append]; rfl
theorem greatL_take {n : Int} {l : List Rv} {i : Nat} (h : i < l.length) : greatL n (l.take (i + 1)) = greatF (greatL n (l.take i)) (greatI l[i]) := by
  rw [List.take_succ_eq_append_getElem h, greatL, List.map_append, List.foldl_append]; rfl
theorem greatF_stop {n : Int} (h : n ≠ 0) : ∀ l : List Int, l.foldl greatF n = n
  | [] => rfl
  | x :: l => by rw [List.foldl_cons, greatF, if_neg h]; exact greatF_stop h l
theorem greatL_stop {n : Int} {l : List Rv} {i : Nat} (h : greatL n (l.take i) ≠ 0) : greatL n l = greatL n (l.take i) := by
  have e : l = l.take i ++ l.drop i := (List.take_append_drop i l).symm
  rw [show greatL n l = greatL n (l.take i ++ l.drop i) by rw [← e], greatL, List.map_append, List.foldl_append]
  exact greatF_stop h _
theorem great_calls : ∀ (r : Rv), r.Fit → ∀ (H : AH), ACalls Try.prog 10 [.agg [.int .i64 r.K, .bool r.B, .int .i64 r.N, .int .i64 r.M, .str r.S, .sl 7 (rvE r.L) .no, .sl 1 (strE r.Keys) .no]] H (fun o H' => o = .ret (.int .i64 (greatI r)) ∧ H' = H) := by
  refine Rv.ind fun r ih hf H => ?_
  refine ACalls.drop ?_
  have hb := hf.l
  have hb2 := hf.k
  refine acalls Try.func10 c10 r10 (by simp [Try.ntmps10]) ?_
  repeat' (first | with_reducible (first | refine am_seq ?_ | refine am_block ?_) | ((with_reducible apply am_cond); (case hb => rfl); all_goals (intro hc; (try simp only [reduceCtorEq, bD, beq_iff_eq] at hc); (try (exfalso; omega)))) | ((first | with_reducible (first | refine am_reg ?_ | refine am_drw ?_ | refine am_skip ?_ | refine am_exit ?_ | refine am_ret ?_ | refine vc_intro ?_ | refine need_elems (by assumption) ?_ | refine vlen_acc (by assumption) ?_ | refine need_bytes (by assumption) ?_ | refine call_of (rsize_calls r hf) ?_ | refine qcall_of (rsize_calls r hf) ?_ | refine call_of (rdeep_calls r hf) ?_ | refine qcall_of (rdeep_calls r hf) ?_ | refine need_lk ?_) | ((with_reducible (first | apply gd_not | apply gd_of | apply gq_not | apply gq_of | apply pickB_of)) <;> intro hc <;> (try simp -implicitDefEqProofs (disch := omega) only [go_sem, hc, rvE_length, strE_len]) <;> (try simp only [reduceCtorEq, bD, beq_iff_eq] at hc) <;> (try (exfalso; omega))) | ((with_reducible refine alloc_intro (fun ko hko => ?_)) <;> (try have hne := fresh_ne (by assumption) hko) <;> (try have hnk := fresh_ne hk hko) <;> (try have hnk2 := fresh_ne hk2 hko) <;> (try simp only [AH.put_none] at hko)) | done) <;> (try simp -implicitDefEqProofs (disch := omega) only [go_sem, rvE_length, strE_len])))
  refine am_loop (fun n a H' => ∃ i : Nat, i + n = 80 ∧ i ≤ r.Keys.length ∧ a = [(1, .rptr [.int .i64 r.K, .bool r.B, .int .i64 r.N, .int .i64 r.M, .str r.S, .sl 7 (rvE r.L) .no, .sl 1 (strE r.Keys) .no] 0), (3, .int .i64 (greatK (great0 r) (r.Keys.take i))), (4, .int .i64 i)] ∧ H' = H) ?_ 80 ⟨0, by omega, by omega, rfl, rfl⟩
  rintro n a H' ⟨i, hi, hi2, rfl, rfl⟩
  have hw : ∀ i : Nat, i ≤ r.L.length ∨ i ≤ 80 → IntKind.i64.wrap ((i : Int) + 1) = ((i + 1 : Nat) : Int) := fun i h => (wrap_id ((i : Int) + 1) (by omega) (by omega)).trans rfl
  by_cases hlt : i < r.Keys.length ∧ i < 80
  · have hw := hw i (by omega)
    repeat' (first | with_reducible (first | refine am_seq ?_ | refine am_block ?_) | ((with_reducible apply am_cond); (case hb => rfl); all_goals (intro hc; (try simp only [reduceCtorEq, bD, beq_iff_eq] at hc); (try (exfalso; omega)))) | ((first | with_reducible (first | refine am_reg ?_ | refine am_drw ?_ | refine am_skip ?_ | refine am_exit ?_ | refine am_ret ?_ | refine vc_intro ?_ | refine need_elems (by assumption) ?_ | refine vlen_acc (by assumption) ?_ | refine need_bytes (by assumption) ?_ | refine need_lk ?_) | ((with_reducible (first | apply gd_not | apply gd_of | apply gq_not | apply gq_of | apply pickB_of)) <;> intro hc <;> (try simp -implicitDefEqProofs (disch := omega) only [go_sem, hc, hw, rvE_length, strE_len, strE_get hlt.1]) <;> (try simp only [reduceCtorEq, bD, beq_iff_eq] at hc) <;> (try (exfalso; omega))) | ((with_reducible refine alloc_intro (fun ko hko => ?_)) <;> (try have hne := fresh_ne (by assumption) hko) <;> (try have hnk := fresh_ne hk hko) <;> (try have hnk2 := fresh_ne hk2 hko) <;> (try simp only [AH.put_none] at hko)) | done) <;> (try simp -implicitDefEqProofs (disch := omega) only [go_sem, hw, rvE_length, strE_len, strE_get hlt.1])))
    all_goals exact ⟨n - 1, by omega, i + 1, by omega, by omega, by rw [greatK_take hlt.1]; rfl⟩
  · have e : r.Keys.take i = r.Keys.take 80 := by
      by_cases h8 : i = 80
      · rw [h8]
      · rw [List.take_of_length_le (by omega), List.take_of_length_le (by omega)]
    rw [e]
    have hwi : (i : Int) < r.Keys.length → ¬ (i : Int) < 80 := by omega
    have tail : AM Try.prog Try.f10.ntmps (.loop k10_8) (BQ 2 (SQ Try.prog Try.f10.ntmps k10_10 (Body [RV.tmp 2] fun o G => (∃ u, o = Out.ret u ∧ ∀ (s : St) (x : Value), s.val u x → s.val (V.int IntKind.i64 (greatI r)) x) ∧ AH.le H' G))) [(1, .rptr [.int .i64 r.K, .bool r.B, .int .i64 r.N, .int .i64 r.M, .str r.S, .sl 7 (rvE r.L) .no, .sl 1 (strE r.Keys) .no] 0), (3, .int .i64 (greatK (great0 r) (r.Keys.take 80))), (5, .int .i64 0)] H' := by
      refine am_loop (fun n a G => ∃ j : Nat, j + n = r.L.length ∧ a = [(1, .rptr [.int .i64 r.K, .bool r.B, .int .i64 r.N, .int .i64 r.M, .str r.S, .sl 7 (rvE r.L) .no, .sl 1 (strE r.Keys) .no] 0), (3, .int .i64 (greatL (greatK (great0 r) (r.Keys.take 80)) (r.L.take j))), (5, .int .i64 j)] ∧ G = H') ?_ r.L.length ⟨0, by omega, rfl, rfl⟩
      rintro n a G ⟨j, hj, rfl, rfl⟩
      by_cases hlt2 : j < r.L.length
      · by_cases hz : greatL (greatK (great0 r) (r.Keys.take 80)) (r.L.take j) = 0
        · have hc1 := ih r.L[j] (List.getElem_mem hlt2) (hf.m _ (List.getElem_mem hlt2))
          have hw := hw j (by omega)
          repeat' (first | with_reducible (first | refine am_seq ?_ | refine am_block ?_) | ((with_reducible apply am_cond); (case hb => rfl); all_goals (intro hc; (try simp only [reduceCtorEq, bD, beq_iff_eq] at hc); (try (exfalso; omega)))) | ((first | with_reducible (first | refine am_reg ?_ | refine am_drw ?_ | refine am_skip ?_ | refine am_exit ?_ | refine am_ret ?_ | refine vc_intro ?_ | refine need_elems (by assumption) ?_ | refine vlen_acc (by assumption) ?_ | refine need_bytes (by assumption) ?_ | refine call_of (hc1) ?_ | refine qcall_of (hc1) ?_ | refine need_lk ?_) | ((with_reducible (first | apply gd_not | apply gd_of | apply gq_not | apply gq_of | apply pickB_of)) <;> intro hc <;> (try simp -implicitDefEqProofs (disch := omega) only [go_sem, hc, hw, rvE_length, strE_len, rvE_get hlt2, hz]) <;> (try simp only [reduceCtorEq, bD, beq_iff_eq] at hc) <;> (try (exfalso; omega))) | ((with_reducible refine alloc_intro (fun ko hko => ?_)) <;> (try have hne := fresh_ne (by assumption) hko) <;> (try have hnk := fresh_ne hk hko) <;> (try have hnk2 := fresh_ne hk2 hko) <;> (try simp only [AH.put_none] at hko)) | done) <;> (try simp -implicitDefEqProofs (disch := omega) only [go_sem, hw, rvE_length, strE_len, rvE_get hlt2, hz])))
          all_goals exact ⟨n - 1, by omega, j + 1, by omega, by rw [greatL_take hlt2, greatF, if_pos hz, hz]; rfl⟩
        · have e2 := greatL_stop hz
          repeat' (first | with_reducible (first | refine am_seq ?_ | refine am_block ?_) | ((with_reducible apply am_cond); (case hb => rfl); all_goals (intro hc; (try simp only [reduceCtorEq, bD, beq_iff_eq] at hc); (try (exfalso; omega)))) | ((first | with_reducible (first | refine am_reg ?_ | refine am_drw ?_ | refine am_skip ?_ | refine am_exit ?_ | refine am_ret ?_ | refine vc_intro ?_ | refine need_elems (by assumption) ?_ | refine vlen_acc (by assumption) ?_ | refine need_bytes (by assumption) ?_ | refine need_lk ?_) | ((with_reducible (first | apply gd_not | apply gd_of | apply gq_not | apply gq_of | apply pickB_of)) <;> intro hc <;> (try simp -implicitDefEqProofs (disch := omega) only [go_sem, hc, rvE_length, strE_len, hz]) <;> (try simp only [reduceCtorEq, bD, beq_iff_eq] at hc) <;> (try (exfalso; omega))) | ((with_reducible refine alloc_intro (fun ko hko => ?_)) <;> (try have hne := fresh_ne (by assumption) hko) <;> (try have hnk := fresh_ne hk hko) <;> (try have hnk2 := fresh_ne hk2 hko) <;> (try simp only [AH.put_none] at hko)) | done) <;> (try simp -implicitDefEqProofs (disch := omega) only [go_sem, rvE_length, strE_len, hz])))
          all_goals (rw [greatI_eq, e2]; (refine drop_end (by (first | exact fun _ _ h => h | (intro s x h; first | exact no_sub _ h | exact nil_no _ h | exact AccP.sub (by assumption) _ _ h | (refine agg_sub rfl ?_ x h; repeat (first | exact .nil | refine .cons (fun _ h => h) ?_ | refine .cons (fun _ h => nil_no _ h) ?_ | refine .cons (fun _ h => no_sub _ h) ?_ | refine .cons (fun _ h => AccP.sub (by assumption) _ _ h) ?_)) | (refine tuple_sub ?_ x h; repeat (first | exact .nil | refine .cons (fun _ h => h) ?_ | refine .cons (fun _ h => nil_no _ h) ?_ | refine .cons (fun _ h => no_sub _ h) ?_ | refine .cons (fun _ h => AccP.sub (by assumption) _ _ h) ?_ | refine .cons (fun _ h => agg_sub rfl (by repeat (first | exact .nil | refine .cons (fun _ h => h) ?_ | refine .cons (fun _ h => nil_no _ h) ?_ | refine .cons (fun _ h => no_sub _ h) ?_ | refine .cons (fun _ h => AccP.sub (by assumption) _ _ h) ?_)) _ h) ?_))))) (by (repeat (first | exact AH.le_refl _ | assumption | exact AccP.le (by assumption) | refine AH.le_put ?_ (by first | assumption | exact none_of_le (by assumption) (by assumption) | exact And.right (by assumption) | exact And.right (And.right (by assumption))) _ | refine AH.le_trans ?_ (AccP.le (by assumption)))))))
      · have e2 : r.L.take j = r.L := List.take_of_length_le (by omega)
        rw [e2]
        repeat' (first | with_reducible (first | refine am_seq ?_ | refine am_block ?_) | ((with_reducible apply am_cond); (case hb => rfl); all_goals (intro hc; (try simp only [reduceCtorEq, bD, beq_iff_eq] at hc); (try (exfalso; omega)))) | ((first | with_reducible (first | refine am_reg ?_ | refine am_drw ?_ | refine am_skip ?_ | refine am_exit ?_ | refine am_ret ?_ | refine vc_intro ?_ | refine need_elems (by assumption) ?_ | refine vlen_acc (by assumption) ?_ | refine need_bytes (by assumption) ?_ | refine need_lk ?_) | ((with_reducible (first | apply gd_not | apply gd_of | apply gq_not | apply gq_of | apply pickB_of)) <;> intro hc <;> (try simp -implicitDefEqProofs (disch := omega) only [go_sem, hc, rvE_length, strE_len]) <;> (try simp only [reduceCtorEq, bD, beq_iff_eq] at hc) <;> (try (exfalso; omega))) | ((with_reducible refine alloc_intro (fun ko hko => ?_)) <;> (try have hne := fresh_ne (by assumption) hko) <;> (try have hnk := fresh_ne hk hko) <;> (try have hnk2 := fresh_ne hk2 hko) <;> (try simp only [AH.put_none] at hko)) | done) <;> (try simp -implicitDefEqProofs (disch := omega) only [go_sem, rvE_length, strE_len])))
        all_goals (rw [greatI_eq]; (refine drop_end (by (first | exact fun _ _ h => h | (intro s x h; first | exact no_sub _ h | exact nil_no _ h | exact AccP.sub (by assumption) _ _ h | (refine agg_sub rfl ?_ x h; repeat (first | exact .nil | refine .cons (fun _ h => h) ?_ | refine .cons (fun _ h => nil_no _ h) ?_ | refine .cons (fun _ h => no_sub _ h) ?_ | refine .cons (fun _ h => AccP.sub (by assumption) _ _ h) ?_)) | (refine tuple_sub ?_ x h; repeat (first | exact .nil | refine .cons (fun _ h => h) ?_ | refine .cons (fun _ h => nil_no _ h) ?_ | refine .cons (fun _ h => no_sub _ h) ?_ | refine .cons (fun _ h => AccP.sub (by assumption) _ _ h) ?_ | refine .cons (fun _ h => agg_sub rfl (by repeat (first | exact .nil | refine .cons (fun _ h => h) ?_ | refine .cons (fun _ h => nil_no _ h) ?_ | refine .cons (fun _ h => no_sub _ h) ?_ | refine .cons (fun _ h => AccP.sub (by assumption) _ _ h) ?_)) _ h) ?_))))) (by (repeat (first | exact AH.le_refl _ | assumption | exact AccP.le (by assumption) | refine AH.le_put ?_ (by first | assumption | exact none_of_le (by assumption) (by assumption) | exact And.right (by assumption) | exact And.right (And.right (by assumption))) _ | refine AH.le_trans ?_ (AccP.le (by assumption)))))))
    repeat' (first | with_reducible (first | refine am_seq ?_ | refine am_block ?_) | ((with_reducible apply am_cond); (case hb => rfl); all_goals (intro hc; (try simp only [reduceCtorEq, bD, beq_iff_eq] at hc); (try (exfalso; omega)))) | ((first | with_reducible (first | refine am_reg ?_ | refine am_drw ?_ | refine am_skip ?_ | refine am_exit ?_ | refine am_ret ?_ | refine vc_intro ?_ | refine need_elems (by assumption) ?_ | refine vlen_acc (by assumption) ?_ | refine need_bytes (by assumption) ?_ | refine need_lk ?_) | ((with_reducible (first | apply gd_not | apply gd_of | apply gq_not | apply gq_of | apply pickB_of)) <;> intro hc <;> (try simp -implicitDefEqProofs (disch := omega) only [go_sem, hc, rvE_length, strE_len]) <;> (try simp only [reduceCtorEq, bD, beq_iff_eq] at hc) <;> (try (exfalso; omega))) | ((with_reducible refine alloc_intro (fun ko hko => ?_)) <;> (try have hne := fresh_ne (by assumption) hko) <;> (try have hnk := fresh_ne hk hko) <;> (try have hnk2 := fresh_ne hk2 hko) <;> (try simp only [AH.put_none] at hko)) | done) <;> (try simp -implicitDefEqProofs (disch := omega) only [go_sem, rvE_length, strE_len])))
    all_goals exact tail
end Go.Proofs.Ytoicninkfmfnbaa
