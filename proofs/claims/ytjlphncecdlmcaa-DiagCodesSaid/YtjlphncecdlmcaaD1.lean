/- Of the walks of this seat: contracts of functions of the given program, proved over the abstract values of the texts Vm. Conditions: as each theorem says. -/
import Derived.Test.YtjlphncecdlmcaaBd
import Derived.Test.YtjlphncecdlmcaaDp
import Derived.Test.YtjlphncecdlmcaaVmQ
import Derived.Test.YtjlphncecdlmcaaVm36
set_option linter.unusedVariables false
set_option linter.unusedSimpArgs false
namespace Go.Proofs.Ytjlphncecdlmcaa
open Go.Vm
attribute [local go_sem] eq_self decide_true decide_false AH.put_ne
attribute [local go_sem_proc] Nat.reduceBEq Nat.reduceAdd Nat.reduceSub Nat.reduceMul Nat.reduceEqDiff Nat.reduceLeDiff Nat.reduceLT Int.reduceLE Int.reduceLT Int.reduceToNat Int.reduceAdd Int.reduceEq Int.reduceNeg
attribute [local go_sem] strsE_get strsE_length ntsE_get ntsE_length ntC byteCells_length List.drop_zero toNat_succ Nat.sub_zero Int.toNat_natCast Option.map_some Int.natCast_nonneg decide_eq_true_eq decide_eq_false_iff_not
/- strings.HasPrefix -/
abbrev k135_0 : MC :=
 (.seq (.reg [
 ⟨some 5, none, .val (.mv (.t 0))⟩,
 ⟨some 6, none, .val (.mv (.t 1))⟩,
 ⟨some 7, none, .call 152 [(.t 5), (.t 6)]⟩,
 ⟨some 4, none, .val (.mv (.t 7))⟩] [4]) (.ret))
abbrev k135 : MC :=
 (.seq (.reg [
 ⟨some 4, none, .val (.mv (.c (.bool false)))⟩] [0, 1]) k135_0)
theorem c135 : Try.f135.body.bind (mcOf Try.prog (List.contains [] ·) (List.getD [([], [0, 1]), ([], [4])] · ([], [])) 8) = some k135 := by kernel_rfl
theorem r135 : rvsOf Try.prog Try.f135.results.toList = some [.tmp 4] := by kernel_rfl
/- internal/stringslite.HasPrefix -/
abbrev k152_0 : MC :=
 (.seq (.reg [
 ⟨some 5, none, .val (.mv (.t 0))⟩,
 ⟨some 6, none, .val (.len .str (.t 5))⟩,
 ⟨some 7, none, .val (.mv (.t 1))⟩,
 ⟨some 8, none, .val (.len .str (.t 7))⟩,
 ⟨some 9, none, .val (.bin .geq .num (.t 6) (.t 8))⟩,
 ⟨some 10, none, .val (.mv (.t 9))⟩,
 ⟨some 11, (some (10, true)), .val (.mv (.t 0))⟩,
 ⟨some 12, (some (10, true)), .val (.mv (.t 1))⟩,
 ⟨some 13, (some (10, true)), .val (.len .str (.t 12))⟩,
 ⟨some 14, (some (10, true)), .val (.slc none (.t 11) none (some (.t 13)) none)⟩,
 ⟨some 15, (some (10, true)), .val (.mv (.t 1))⟩,
 ⟨some 16, (some (10, true)), .val (.bin .eql .num (.t 14) (.t 15))⟩,
 ⟨some 17, none, .val (.pick (.t 10) (.t 16) (.c (.bool false)))⟩,
 ⟨some 4, none, .val (.mv (.t 17))⟩] [4]) (.ret))
abbrev k152 : MC :=
 (.seq (.reg [
 ⟨some 4, none, .val (.mv (.c (.bool false)))⟩] [0, 1]) k152_0)
theorem c152 : Try.f152.body.bind (mcOf Try.prog (List.contains [] ·) (List.getD [([], [0, 1]), ([], [4])] · ([], [])) 18) = some k152 := by kernel_rfl
theorem r152 : rvsOf Try.prog Try.f152.results.toList = some [.tmp 4] := by kernel_rfl
/- flange/mark.begins -/
abbrev k109_0 : MC :=
 .cond (.t 21) (.reg [
 ⟨some 22, none, .val (.mv (.t 5))⟩,
 ⟨some 23, none, .val (.mv (.t 7))⟩,
 ⟨some 24, none, .val (.len .str (.t 23))⟩,
 ⟨some 25, none, .val (.mx true (.t 22) (.t 24))⟩,
 ⟨some 5, none, .val (.mv (.t 25))⟩] [0, 5, 8, 9, 10]) (.skip)
abbrev k109_1 : MC :=
 (.seq (.reg [
 ⟨some 14, none, .val (.mv (.t 7))⟩,
 ⟨some 15, none, .val (.len .str (.t 14))⟩,
 ⟨some 16, none, .val (.bin .geq .num (.t 15) (.c (.int .i64 4)))⟩,
 ⟨some 17, none, .val (.mv (.t 16))⟩,
 ⟨some 18, (some (17, true)), .val (.mv (.t 0))⟩,
 ⟨some 19, (some (17, true)), .val (.mv (.t 7))⟩,
 ⟨some 20, (some (17, true)), .call 135 [(.t 18), (.t 19)]⟩,
 ⟨some 21, none, .val (.pick (.t 17) (.t 20) (.c (.bool false)))⟩] [0, 5, 7, 8, 9, 10, 21]) k109_0)
abbrev k109_2 : MC :=
 .reg [
 ⟨some 26, none, .val (.bin .add .num (.t 10) (.c (.int .i64 1)))⟩,
 ⟨some 10, none, .val (.mv (.t 26))⟩] [0, 5, 8, 9, 10]
abbrev k109_3 : MC :=
 (.seq (.block 1 ((.seq (.reg [
 ⟨some 12, none, .val (.iaddr 1 (.t 8) (.t 10))⟩,
 ⟨some 13, none, .val (.load false 1 (.t 12))⟩,
 ⟨some 7, none, .val (.mv (.t 13))⟩] [0, 5, 7, 8, 9, 10]) k109_1))) k109_2)
abbrev k109_4 : MC :=
 (.seq (.cond (.t 11) (.skip) (.exit 0)) k109_3)
abbrev k109_5 : MC :=
 (.seq (.reg [
 ⟨some 11, none, .val (.bin .lss .num (.t 10) (.t 9))⟩] [0, 5, 8, 9, 10, 11]) k109_4)
abbrev k109_6 : MC :=
 .block 0 (.loop k109_5)
abbrev k109_7 : MC :=
 (.seq (.reg [
 ⟨some 27, none, .val (.mv (.t 5))⟩,
 ⟨some 4, none, .val (.mv (.t 27))⟩] [4]) (.ret))
abbrev k109_8 : MC :=
 (.seq ((.seq (.reg [
 ⟨some 8, none, .val (.mv (.t 1))⟩,
 ⟨some 9, none, .val (.len .sl (.t 8))⟩,
 ⟨some 10, none, .val (.mv (.c (.int .i64 0)))⟩] [0, 5, 8, 9, 10]) k109_6)) k109_7)
abbrev k109_9 : MC :=
 (.seq (.reg [
 ⟨some 5, none, .val (.mv (.c (.int .i64 0)))⟩] [0, 1, 5]) k109_8)
abbrev k109 : MC :=
 (.seq (.reg [
 ⟨some 4, none, .val (.mv (.c (.int .i64 0)))⟩] [0, 1]) k109_9)
theorem c109 : Try.f109.body.bind (mcOf Try.prog (List.contains [] ·) (List.getD [([], [0, 1]), ([], [0, 1, 5]), ([], [0, 5, 8, 9, 10]), ([], [0, 5, 8, 9, 10, 11]), ([], [0, 5, 7, 8, 9, 10]), ([], [0, 5, 7, 8, 9, 10, 21]), ([], [0, 5, 8, 9, 10]), ([], [0, 5, 8, 9, 10]), ([], [4])] · ([], [])) 28) = some k109 := by kernel_rfl
theorem r109 : rvsOf Try.prog Try.f109.results.toList = some [.tmp 4] := by kernel_rfl
/- flange/mark.Clean -/
abbrev k71_0 : MC :=
 .cond (.t 8) (.skip) (.exit 0)
abbrev k71_1 : MC :=
 .reg [
 ⟨some 15, none, .val (.mv (.t 0))⟩,
 ⟨some 16, none, .val (.slc none (.t 15) none (some (.c (.int .i64 1))) none)⟩,
 ⟨some 17, none, .call 65 [(.t 5), (.t 16)]⟩] [0, 1, 5, 6]
abbrev k71_2 : MC :=
 .cond (.t 13) (.reg [
 ⟨some 14, none, .call 65 [(.t 5), (.c (.str [42, 42, 42]))]⟩] [0, 1, 5, 6]) ((.seq (.reg [
 ⟨some 6, none, .val (.mv (.c (.int .i64 1)))⟩] [0, 1, 5, 6]) k71_1))
abbrev k71_3 : MC :=
 .reg [
 ⟨some 18, none, .val (.mv (.t 0))⟩,
 ⟨some 19, none, .val (.mv (.t 6))⟩,
 ⟨some 20, none, .val (.slc none (.t 18) (some (.t 19)) none none)⟩,
 ⟨some 0, none, .val (.mv (.t 20))⟩] [0, 1, 5]
abbrev k71_4 : MC :=
 (.seq ((.seq (.reg [
 ⟨some 12, none, .val (.mv (.t 6))⟩,
 ⟨some 13, none, .val (.bin .gtr .num (.t 12) (.c (.int .i64 0)))⟩] [0, 1, 5, 6, 13]) k71_2)) k71_3)
abbrev k71_5 : MC :=
 .block 1 ((.seq (.reg [
 ⟨some 9, none, .val (.mv (.t 0))⟩,
 ⟨some 10, none, .val (.mv (.t 1))⟩,
 ⟨some 11, none, .call 109 [(.t 9), (.t 10)]⟩,
 ⟨some 6, none, .val (.mv (.t 11))⟩] [0, 1, 5, 6]) k71_4))
abbrev k71_6 : MC :=
 (.seq ((.seq (.reg [
 ⟨some 7, none, .val (.mv (.t 0))⟩,
 ⟨some 8, none, .val (.bin .neq .num (.t 7) (.c (.str [])))⟩] [0, 1, 5, 8]) k71_0)) k71_5)
abbrev k71_7 : MC :=
 (.seq (.reg [
 ⟨some 21, none, .call 66 [(.t 5)]⟩,
 ⟨some 4, none, .val (.mv (.t 21))⟩] [4]) (.ret))
abbrev k71_8 : MC :=
 (.seq (.block 0 (.loop k71_6)) k71_7)
abbrev k71_9 : MC :=
 (.seq (.reg [
 ⟨some 5, none, .xo (.mkbld 109 5) []⟩] [0, 1, 5]) k71_8)
abbrev k71 : MC :=
 (.seq (.reg [
 ⟨some 4, none, .val (.mv (.c (.str [])))⟩] [0, 1]) k71_9)
theorem c71 : Try.f71.body.bind (mcOf Try.prog (List.contains [5] ·) (List.getD [([], [0, 1]), ([], [0, 1, 5]), ([], [0, 1, 5, 8]), ([], [0, 1, 5, 6]), ([], [0, 1, 5, 6, 13]), ([], [0, 1, 5, 6]), ([], [0, 1, 5, 6]), ([], [0, 1, 5, 6]), ([], [0, 1, 5]), ([], [4])] · ([], [])) 22) = some k71 := by kernel_rfl
theorem r71 : rvsOf Try.prog Try.f71.results.toList = some [.tmp 4] := by kernel_rfl
/- flange/diag.printed -/
abbrev k72_0 : MC :=
 .cond (.t 8) ((.seq (.reg [
 ⟨some 2, none, .val (.mv (.c (.int .i32 63)))⟩] [2]) (.ret))) (.skip)
abbrev k72_1 : MC :=
 (.seq (.reg [
 ⟨some 9, none, .val (.mv (.t 0))⟩,
 ⟨some 2, none, .val (.mv (.t 9))⟩] [2]) (.ret))
abbrev k72_2 : MC :=
 (.seq ((.seq (.reg [
 ⟨some 3, none, .val (.mv (.t 0))⟩,
 ⟨some 4, none, .val (.bin .lss .num (.t 3) (.c (.int .i32 32)))⟩,
 ⟨some 5, none, .val (.mv (.t 4))⟩,
 ⟨some 6, (some (5, false)), .val (.mv (.t 0))⟩,
 ⟨some 7, (some (5, false)), .val (.bin .gtr .num (.t 6) (.c (.int .i32 126)))⟩,
 ⟨some 8, none, .val (.pick (.t 5) (.c (.bool true)) (.t 7))⟩] [0, 8]) k72_0)) k72_1)
abbrev k72 : MC :=
 (.seq (.reg [
 ⟨some 2, none, .val (.mv (.c (.int .i32 0)))⟩] [0]) k72_2)
theorem c72 : Try.f72.body.bind (mcOf Try.prog (List.contains [] ·) (List.getD [([], [0]), ([], [0, 8]), ([], [2]), ([], [2])] · ([], [])) 10) = some k72 := by kernel_rfl
theorem r72 : rvsOf Try.prog Try.f72.results.toList = some [.tmp 2] := by kernel_rfl
/- flange/diag.Text -/
abbrev k21_0 : MC :=
 .reg [
 ⟨some 19, none, .val (.mv (.t 5))⟩,
 ⟨some 20, none, .val (.mv (.t 6))⟩,
 ⟨some 21, none, .val (.mv (.t 7))⟩,
 ⟨some 22, none, .val (.i2i .i32 (.t 21))⟩,
 ⟨some 23, none, .call 72 [(.t 22)]⟩,
 ⟨some 24, none, .val (.i2i .u8 (.t 23))⟩,
 ⟨some 25, none, .val (.iaddr 1 (.t 19) (.t 20))⟩,
 ⟨none, none, .store 1 (.t 25) (.t 24)⟩] [5, 12, 13, 14]
abbrev k21_1 : MC :=
 .reg [
 ⟨some 26, none, .val (.bin .add .num (.t 14) (.c (.int .i64 1)))⟩,
 ⟨some 14, none, .val (.mv (.t 26))⟩] [5, 12, 13, 14]
abbrev k21_2 : MC :=
 (.seq (.block 1 ((.seq (.reg [
 ⟨some 16, none, .val (.mv (.t 14))⟩,
 ⟨some 17, none, .val (.iaddr 1 (.t 12) (.t 14))⟩,
 ⟨some 18, none, .val (.load false 1 (.t 17))⟩,
 ⟨some 6, none, .val (.mv (.t 16))⟩,
 ⟨some 7, none, .val (.mv (.t 18))⟩] [5, 6, 7, 12, 13, 14]) k21_0))) k21_1)
abbrev k21_3 : MC :=
 (.seq (.cond (.t 15) (.skip) (.exit 0)) k21_2)
abbrev k21_4 : MC :=
 (.seq (.reg [
 ⟨some 15, none, .val (.bin .lss .num (.t 14) (.t 13))⟩] [5, 12, 13, 14, 15]) k21_3)
abbrev k21_5 : MC :=
 .block 0 (.loop k21_4)
abbrev k21_6 : MC :=
 .cond (.t 29) ((.seq (.reg [
 ⟨some 30, none, .val (.mv (.t 5))⟩,
 ⟨some 31, none, .val (.slc (some 1) (.t 30) none (some (.c (.int .i64 77))) none)⟩,
 ⟨some 32, none, .val (.b2s (.t 31))⟩,
 ⟨some 33, none, .val (.bin .add .num (.t 32) (.c (.str [46, 46, 46])))⟩,
 ⟨some 4, none, .val (.mv (.t 33))⟩] [4]) (.ret))) (.skip)
abbrev k21_7 : MC :=
 (.seq (.reg [
 ⟨some 34, none, .val (.mv (.t 5))⟩,
 ⟨some 35, none, .val (.b2s (.t 34))⟩,
 ⟨some 4, none, .val (.mv (.t 35))⟩] [4]) (.ret))
abbrev k21_8 : MC :=
 (.seq ((.seq (.reg [
 ⟨some 27, none, .val (.mv (.t 5))⟩,
 ⟨some 28, none, .val (.len .sl (.t 27))⟩,
 ⟨some 29, none, .val (.bin .gtr .num (.t 28) (.c (.int .i64 80)))⟩] [5, 29]) k21_6)) k21_7)
abbrev k21_9 : MC :=
 (.seq ((.seq (.reg [
 ⟨some 12, none, .val (.mv (.t 5))⟩,
 ⟨some 13, none, .val (.len .sl (.t 12))⟩,
 ⟨some 14, none, .val (.mv (.c (.int .i64 0)))⟩] [5, 12, 13, 14]) k21_5)) k21_8)
abbrev k21_10 : MC :=
 (.seq (.reg [
 ⟨some 8, none, .val (.mv (.t 0))⟩,
 ⟨some 9, none, .val (.mv (.t 1))⟩,
 ⟨some 10, none, .call 71 [(.t 8), (.t 9)]⟩,
 ⟨some 11, none, .xo .s2bm [(.t 10)]⟩,
 ⟨some 5, none, .val (.mv (.t 11))⟩] [5]) k21_9)
abbrev k21 : MC :=
 (.seq (.reg [
 ⟨some 4, none, .val (.mv (.c (.str [])))⟩] [0, 1]) k21_10)
theorem c21 : Try.f21.body.bind (mcOf Try.prog (List.contains [11] ·) (List.getD [([], [0, 1]), ([], [5]), ([], [5, 12, 13, 14]), ([], [5, 12, 13, 14, 15]), ([], [5, 6, 7, 12, 13, 14]), ([], [5, 12, 13, 14]), ([], [5, 12, 13, 14]), ([], [5, 29]), ([], [4]), ([], [4])] · ([], [])) 36) = some k21 := by kernel_rfl
theorem r21 : rvsOf Try.prog Try.f21.results.toList = some [.tmp 4] := by kernel_rfl
theorem hp2_calls {s p : Str} (H : AH) : ACalls Try.prog 152 [.str s, .str p] H (fun o H' => o = .ret (.bool (pfx p s)) ∧ H' = H) := by
  refine ACalls.drop ?_
  refine acalls Try.func152 c152 r152 (by simp [Try.ntmps152]) ?_
  by_cases h : p.length ≤ s.length
  · have h' : (p.length : Int) ≤ (s.length : Int) := by omega
    repeat' (first | with_reducible (first | refine am_seq ?_ | refine am_block ?_) | ((with_reducible apply am_cond); (case hb => rfl); all_goals (intro hc; (try simp only [reduceCtorEq, bD, beq_iff_eq] at hc); (try (exfalso; omega)))) | ((first | with_reducible (first | refine am_reg ?_ | refine am_skip ?_ | refine am_exit ?_ | refine am_ret ?_ | refine vc_intro ?_ | refine need_elems (by assumption) ?_ | refine vlen_acc (by assumption) ?_ | refine need_bytes (by assumption) ?_ | refine need_lk ?_) | ((with_reducible (first | apply gd_not | apply gd_of | apply gq_not | apply gq_of | apply pickB_of)) <;> intro hc <;> (try simp -implicitDefEqProofs (disch := omega) only [go_sem, hc, h', pfx]) <;> (try simp only [reduceCtorEq, bD, beq_iff_eq] at hc) <;> (try (exfalso; omega))) | done) <;> (try simp -implicitDefEqProofs (disch := omega) only [go_sem, h', pfx])))
    all_goals simp [h, AH.le_refl]
  · have h' : ¬ (p.length : Int) ≤ (s.length : Int) := by omega
    repeat' (first | with_reducible (first | refine am_seq ?_ | refine am_block ?_) | ((with_reducible apply am_cond); (case hb => rfl); all_goals (intro hc; (try simp only [reduceCtorEq, bD, beq_iff_eq] at hc); (try (exfalso; omega)))) | ((first | with_reducible (first | refine am_reg ?_ | refine am_skip ?_ | refine am_exit ?_ | refine am_ret ?_ | refine vc_intro ?_ | refine need_elems (by assumption) ?_ | refine vlen_acc (by assumption) ?_ | refine need_bytes (by assumption) ?_ | refine need_lk ?_) | ((with_reducible (first | apply gd_not | apply gd_of | apply gq_not | apply gq_of | apply pickB_of)) <;> intro hc <;> (try simp -implicitDefEqProofs (disch := omega) only [go_sem, hc, h', pfx]) <;> (try simp only [reduceCtorEq, bD, beq_iff_eq] at hc) <;> (try (exfalso; omega))) | done) <;> (try simp -implicitDefEqProofs (disch := omega) only [go_sem, h', pfx])))
    all_goals simp [h, AH.le_refl]
theorem hp_calls {s p : Str} (H : AH) : ACalls Try.prog 135 [.str s, .str p] H (fun o H' => o = .ret (.bool (pfx p s)) ∧ H' = H) := by
  refine ACalls.drop ?_
  refine acalls Try.func135 c135 r135 (by simp [Try.ntmps135]) ?_
  repeat' (first | with_reducible (first | refine am_seq ?_ | refine am_block ?_) | ((with_reducible apply am_cond); (case hb => rfl); all_goals (intro hc; (try simp only [reduceCtorEq, bD, beq_iff_eq] at hc); (try (exfalso; omega)))) | ((first | with_reducible (first | refine am_reg ?_ | refine am_skip ?_ | refine am_exit ?_ | refine am_ret ?_ | refine vc_intro ?_ | refine need_elems (by assumption) ?_ | refine vlen_acc (by assumption) ?_ | refine need_bytes (by assumption) ?_ | refine call_of (hp2_calls) ?_ | refine qcall_of (hp2_calls) ?_ | refine need_lk ?_) | done) <;> (try simp -implicitDefEqProofs (disch := omega) only [go_sem])))
  all_goals exact drop_end (fun _ _ h => h) (AH.le_refl _)
theorem begins_calls {t : Str} {l : List Str} {k : Tok} (hl : l.length < 1000000) (H : AH) : ACalls Try.prog 109 [.str t, .sl 1 (strsE l) k] H (fun o H' => o = .ret (.int .i64 (bgS t l 0)) ∧ H' = H) := by
  refine ACalls.drop ?_
  refine acalls Try.func109 c109 r109 (by simp [Try.ntmps109]) ?_
  repeat' (first | with_reducible (first | refine am_seq ?_ | refine am_block ?_) | ((with_reducible apply am_cond); (case hb => rfl); all_goals (intro hc; (try simp only [reduceCtorEq, bD, beq_iff_eq] at hc); (try (exfalso; omega)))) | ((first | with_reducible (first | refine am_reg ?_ | refine am_skip ?_ | refine am_exit ?_ | refine am_ret ?_ | refine vc_intro ?_ | refine need_elems (by assumption) ?_ | refine vlen_acc (by assumption) ?_ | refine need_bytes (by assumption) ?_ | refine need_lk ?_) | ((with_reducible (first | apply gd_not | apply gd_of | apply gq_not | apply gq_of | apply pickB_of)) <;> intro hc <;> (try simp -implicitDefEqProofs (disch := omega) only [go_sem, hc, wrap_id]) <;> (try simp only [reduceCtorEq, bD, beq_iff_eq] at hc) <;> (try (exfalso; omega))) | done) <;> (try simp -implicitDefEqProofs (disch := omega) only [go_sem, wrap_id])))
  refine am_loop (fun n a H' => ∃ i m : Nat, i + n = l.length ∧ a = [(0, .str t), (5, .int .i64 m), (8, .sl 1 (strsE l) k), (9, .int .i64 l.length), (10, .int .i64 i)] ∧ H' = H ∧ bgS t l 0 = bgS t (l.drop i) m) ?_ l.length ⟨0, 0, by omega, rfl, rfl, rfl⟩
  rintro n a H' ⟨i, m, hi, rfl, rfl, hb⟩
  by_cases hlt : i < l.length
  · rw [List.drop_eq_getElem_cons hlt, bgS] at hb
    by_cases h4 : 4 ≤ l[i].length
    · have h4' : (4 : Int) ≤ (l[i].length : Int) := by omega
      cases hp : pfx l[i] t
      · rw [if_neg (by rw [hp]; simp)] at hb
        repeat' (first | with_reducible (first | refine am_seq ?_ | refine am_block ?_) | ((with_reducible apply am_cond); (case hb => rfl); all_goals (intro hc; (try simp only [reduceCtorEq, bD, beq_iff_eq] at hc); (try (exfalso; omega)))) | ((first | with_reducible (first | refine am_reg ?_ | refine am_skip ?_ | refine am_exit ?_ | refine am_ret ?_ | refine vc_intro ?_ | refine need_elems (by assumption) ?_ | refine vlen_acc (by assumption) ?_ | refine need_bytes (by assumption) ?_ | refine call_of (hp_calls) ?_ | refine qcall_of (hp_calls) ?_ | refine need_lk ?_) | ((with_reducible (first | apply gd_not | apply gd_of | apply gq_not | apply gq_of | apply pickB_of)) <;> intro hc <;> (try simp -implicitDefEqProofs (disch := omega) only [go_sem, hc, wrap_id, get_of_lt hlt, h4', hp]) <;> (try simp only [reduceCtorEq, bD, beq_iff_eq] at hc) <;> (try (exfalso; omega))) | done) <;> (try simp -implicitDefEqProofs (disch := omega) only [go_sem, wrap_id, get_of_lt hlt, h4', hp])))
        all_goals exact ⟨n - 1, by omega, i + 1, m, by omega, rfl, hb⟩
      · rw [if_pos ⟨h4, hp⟩] at hb
        repeat' (first | with_reducible (first | refine am_seq ?_ | refine am_block ?_) | ((with_reducible apply am_cond); (case hb => rfl); all_goals (intro hc; (try simp only [reduceCtorEq, bD, beq_iff_eq] at hc); (try (exfalso; omega)))) | ((first | with_reducible (first | refine am_reg ?_ | refine am_skip ?_ | refine am_exit ?_ | refine am_ret ?_ | refine vc_intro ?_ | refine need_elems (by assumption) ?_ | refine vlen_acc (by assumption) ?_ | refine need_bytes (by assumption) ?_ | refine call_of (hp_calls) ?_ | refine qcall_of (hp_calls) ?_ | refine need_lk ?_) | ((with_reducible (first | apply gd_not | apply gd_of | apply gq_not | apply gq_of | apply pickB_of)) <;> intro hc <;> (try simp -implicitDefEqProofs (disch := omega) only [go_sem, hc, wrap_id, get_of_lt hlt, h4', hp]) <;> (try simp only [reduceCtorEq, bD, beq_iff_eq] at hc) <;> (try (exfalso; omega))) | done) <;> (try simp -implicitDefEqProofs (disch := omega) only [go_sem, wrap_id, get_of_lt hlt, h4', hp])))
        all_goals exact ⟨n - 1, by omega, i + 1, _, by omega, by rw [show (max (m : Int) (l[i].length : Int)) = ((max m l[i].length : Nat) : Int) by omega]; rfl, hb⟩
    · have h4' : ¬ (4 : Int) ≤ (l[i].length : Int) := by omega
      rw [if_neg (fun h => h4 h.1)] at hb
      repeat' (first | with_reducible (first | refine am_seq ?_ | refine am_block ?_) | ((with_reducible apply am_cond); (case hb => rfl); all_goals (intro hc; (try simp only [reduceCtorEq, bD, beq_iff_eq] at hc); (try (exfalso; omega)))) | ((first | with_reducible (first | refine am_reg ?_ | refine am_skip ?_ | refine am_exit ?_ | refine am_ret ?_ | refine vc_intro ?_ | refine need_elems (by assumption) ?_ | refine vlen_acc (by assumption) ?_ | refine need_bytes (by assumption) ?_ | refine call_of (hp_calls) ?_ | refine qcall_of (hp_calls) ?_ | refine need_lk ?_) | ((with_reducible (first | apply gd_not | apply gd_of | apply gq_not | apply gq_of | apply pickB_of)) <;> intro hc <;> (try simp -implicitDefEqProofs (disch := omega) only [go_sem, hc, wrap_id, get_of_lt hlt, h4']) <;> (try simp only [reduceCtorEq, bD, beq_iff_eq] at hc) <;> (try (exfalso; omega))) | done) <;> (try simp -implicitDefEqProofs (disch := omega) only [go_sem, wrap_id, get_of_lt hlt, h4'])))
      all_goals exact ⟨n - 1, by omega, i + 1, m, by omega, rfl, hb⟩
  · rw [List.drop_eq_nil_of_le (by omega), bgS] at hb
    repeat' (first | with_reducible (first | refine am_seq ?_ | refine am_block ?_) | ((with_reducible apply am_cond); (case hb => rfl); all_goals (intro hc; (try simp only [reduceCtorEq, bD, beq_iff_eq] at hc); (try (exfalso; omega)))) | ((first | with_reducible (first | refine am_reg ?_ | refine am_skip ?_ | refine am_exit ?_ | refine am_ret ?_ | refine vc_intro ?_ | refine need_elems (by assumption) ?_ | refine vlen_acc (by assumption) ?_ | refine need_bytes (by assumption) ?_ | refine need_lk ?_) | ((with_reducible (first | apply gd_not | apply gd_of | apply gq_not | apply gq_of | apply pickB_of)) <;> intro hc <;> (try simp -implicitDefEqProofs (disch := omega) only [go_sem, hc, wrap_id]) <;> (try simp only [reduceCtorEq, bD, beq_iff_eq] at hc) <;> (try (exfalso; omega))) | done) <;> (try simp -implicitDefEqProofs (disch := omega) only [go_sem, wrap_id])))
    all_goals (rw [hb]; exact drop_end (fun _ _ h => h) (AH.le_refl _))
theorem mclean_calls {t : Str} {l : List Str} {k : Tok} (hl : l.length < 1000000) (ht : t.length < 1000000000) (H : AH) : ACalls Try.prog 71 [.str t, .sl 1 (strsE l) k] H (fun o H' => o = .ret (.str (cleanS l t)) ∧ H' = H) := by
  refine ACalls.drop ?_
  refine acalls Try.func71 c71 r71 (by simp [Try.ntmps71]) ?_
  repeat' (first | with_reducible (first | refine am_seq ?_ | refine am_block ?_) | ((with_reducible apply am_cond); (case hb => rfl); all_goals (intro hc; (try simp only [reduceCtorEq, bD, beq_iff_eq] at hc); (try (exfalso; omega)))) | ((first | with_reducible (first | refine am_reg ?_ | refine am_skip ?_ | refine am_exit ?_ | refine am_ret ?_ | refine vc_intro ?_ | refine need_elems (by assumption) ?_ | refine vlen_acc (by assumption) ?_ | refine need_bytes (by assumption) ?_ | refine need_lk ?_) | ((with_reducible (first | apply gd_not | apply gd_of | apply gq_not | apply gq_of | apply pickB_of)) <;> intro hc <;> (try simp -implicitDefEqProofs (disch := omega) only [go_sem, hc, wrap_id]) <;> (try simp only [reduceCtorEq, bD, beq_iff_eq] at hc) <;> (try (exfalso; omega))) | ((with_reducible refine alloc_intro (fun ko hko => ?_)) <;> (try have hne := fresh_ne (by assumption) hko) <;> (try have hnk := fresh_ne hk hko) <;> (try have hnk2 := fresh_ne hk2 hko) <;> (try simp only [AH.put_none] at hko)) | done) <;> (try simp -implicitDefEqProofs (disch := omega) only [go_sem, wrap_id])))
  refine am_loop (fun n a H' => ∃ t' acc : Str, n = t'.length ∧ a = [(0, .str t'), (1, .sl 1 (strsE l) k), (5, .ptr ko 0)] ∧ H' = H.put ko (.bld TB TE acc) ∧ cleanS l t = acc ++ cleanS l t' ∧ t'.length ≤ t.length ∧ acc.length ≤ 3 * (t.length - t'.length)) ?_ t.length ⟨t, [], rfl, rfl, rfl, rfl, Nat.le_refl _, by simp⟩
  rintro n a H' ⟨t', acc, rfl, rfl, rfl, hcl, hle, hal⟩
  by_cases hne : t' = []
  · subst hne
    rw [cleanS_nil, List.append_nil] at hcl
    repeat' (first | with_reducible (first | refine am_seq ?_ | refine am_block ?_) | ((with_reducible apply am_cond); (case hb => rfl); all_goals (intro hc; (try simp only [reduceCtorEq, bD, beq_iff_eq] at hc); (try (exfalso; omega)))) | ((first | with_reducible (first | refine am_reg ?_ | refine am_skip ?_ | refine am_exit ?_ | refine am_ret ?_ | refine vc_intro ?_ | refine need_elems (by assumption) ?_ | refine vlen_acc (by assumption) ?_ | refine need_bytes (by assumption) ?_ | refine call_turn (bld_string (AH.put_same _ _ _)) ?_ | refine need_lk ?_) | ((with_reducible (first | apply gd_not | apply gd_of | apply gq_not | apply gq_of | apply pickB_of)) <;> intro hc <;> (try simp -implicitDefEqProofs (disch := omega) only [go_sem, hc, wrap_id]) <;> (try simp only [reduceCtorEq, bD, beq_iff_eq] at hc) <;> (try (exfalso; omega))) | ((with_reducible refine alloc_intro (fun ko hko => ?_)) <;> (try have hne := fresh_ne (by assumption) hko) <;> (try have hnk := fresh_ne hk hko) <;> (try have hnk2 := fresh_ne hk2 hko) <;> (try simp only [AH.put_none] at hko)) | done) <;> (try simp -implicitDefEqProofs (disch := omega) only [go_sem, wrap_id])))
    all_goals (rw [AH.del_put _ _ (by assumption)]; rw [hcl]; exact end_same)
  · have hp := List.length_pos_iff.2 hne
    rw [cleanS_ne l t' hne] at hcl
    have hb := bgS_le t' l 0 (by omega)
    by_cases h0 : 0 < bgS t' l 0
    · rw [if_pos h0] at hcl
      repeat' (first | with_reducible (first | refine am_seq ?_ | refine am_block ?_) | ((with_reducible apply am_cond); (case hb => rfl); all_goals (intro hc; (try simp only [reduceCtorEq, bD, beq_iff_eq] at hc); (try (exfalso; omega)))) | ((first | with_reducible (first | refine am_reg ?_ | refine am_skip ?_ | refine am_exit ?_ | refine am_ret ?_ | refine vc_intro ?_ | refine need_elems (by assumption) ?_ | refine vlen_acc (by assumption) ?_ | refine need_bytes (by assumption) ?_ | refine call_of (begins_calls hl) ?_ | refine qcall_of (begins_calls hl) ?_ | refine call_turn (bld_write (AH.put_same _ _ _) (by simp only [List.length_cons, List.length_nil]; omega)) ?_ | refine need_lk ?_) | ((with_reducible (first | apply gd_not | apply gd_of | apply gq_not | apply gq_of | apply pickB_of)) <;> intro hc <;> (try simp -implicitDefEqProofs (disch := omega) only [go_sem, hc, wrap_id, hne]) <;> (try simp only [reduceCtorEq, bD, beq_iff_eq] at hc) <;> (try (exfalso; omega))) | ((with_reducible refine alloc_intro (fun ko hko => ?_)) <;> (try have hne := fresh_ne (by assumption) hko) <;> (try have hnk := fresh_ne hk hko) <;> (try have hnk2 := fresh_ne hk2 hko) <;> (try simp only [AH.put_none] at hko)) | done) <;> (try simp -implicitDefEqProofs (disch := omega) only [go_sem, wrap_id, hne])))
      all_goals exact ⟨t'.length - bgS t' l 0, by omega, t'.drop (bgS t' l 0), acc ++ stars, by simp, by rw [List.take_of_length_le (by simp)], rfl, by rw [hcl, List.append_assoc], by simp; omega, by simp [stars]; omega⟩
    · rw [if_neg h0] at hcl
      repeat' (first | with_reducible (first | refine am_seq ?_ | refine am_block ?_) | ((with_reducible apply am_cond); (case hb => rfl); all_goals (intro hc; (try simp only [reduceCtorEq, bD, beq_iff_eq] at hc); (try (exfalso; omega)))) | ((first | with_reducible (first | refine am_reg ?_ | refine am_skip ?_ | refine am_exit ?_ | refine am_ret ?_ | refine vc_intro ?_ | refine need_elems (by assumption) ?_ | refine vlen_acc (by assumption) ?_ | refine need_bytes (by assumption) ?_ | refine call_of (begins_calls hl) ?_ | refine qcall_of (begins_calls hl) ?_ | refine call_turn (bld_write (AH.put_same _ _ _) (by simp only [List.length_take]; omega)) ?_ | refine need_lk ?_) | ((with_reducible (first | apply gd_not | apply gd_of | apply gq_not | apply gq_of | apply pickB_of)) <;> intro hc <;> (try simp -implicitDefEqProofs (disch := omega) only [go_sem, hc, wrap_id, hne]) <;> (try simp only [reduceCtorEq, bD, beq_iff_eq] at hc) <;> (try (exfalso; omega))) | ((with_reducible refine alloc_intro (fun ko hko => ?_)) <;> (try have hne := fresh_ne (by assumption) hko) <;> (try have hnk := fresh_ne hk hko) <;> (try have hnk2 := fresh_ne hk2 hko) <;> (try simp only [AH.put_none] at hko)) | done) <;> (try simp -implicitDefEqProofs (disch := omega) only [go_sem, wrap_id, hne])))
      all_goals exact ⟨t'.length - 1, by omega, t'.drop 1, acc ++ t'.take 1, by simp, by rw [List.take_of_length_le (by simp)], rfl, by rw [hcl, List.append_assoc], by simp; omega, by simp; omega⟩
theorem printed_calls {n : Int} (H : AH) : ACalls Try.prog 72 [.int .i32 n] H (fun o H' => o = .ret (.int .i32 (if n < 32 ∨ 126 < n then 63 else n)) ∧ H' = H) := by
  refine ACalls.drop ?_
  refine acalls Try.func72 c72 r72 (by simp [Try.ntmps72]) ?_
  by_cases h1 : n < 32
  · repeat' (first | with_reducible (first | refine am_seq ?_ | refine am_block ?_) | ((with_reducible apply am_cond); (case hb => rfl); all_goals (intro hc; (try simp only [reduceCtorEq, bD, beq_iff_eq] at hc); (try (exfalso; omega)))) | ((first | with_reducible (first | refine am_reg ?_ | refine am_skip ?_ | refine am_exit ?_ | refine am_ret ?_ | refine vc_intro ?_ | refine need_elems (by assumption) ?_ | refine vlen_acc (by assumption) ?_ | refine need_bytes (by assumption) ?_ | refine need_lk ?_) | ((with_reducible (first | apply gd_not | apply gd_of | apply gq_not | apply gq_of | apply pickB_of)) <;> intro hc <;> (try simp -implicitDefEqProofs (disch := omega) only [go_sem, hc, h1]) <;> (try simp only [reduceCtorEq, bD, beq_iff_eq] at hc) <;> (try (exfalso; omega))) | done) <;> (try simp -implicitDefEqProofs (disch := omega) only [go_sem, h1])))
    all_goals (simp only [true_or, or_true, if_true]; exact end_same)
  · by_cases h2 : 126 < n
    · repeat' (first | with_reducible (first | refine am_seq ?_ | refine am_block ?_) | ((with_reducible apply am_cond); (case hb => rfl); all_goals (intro hc; (try simp only [reduceCtorEq, bD, beq_iff_eq] at hc); (try (exfalso; omega)))) | ((first | with_reducible (first | refine am_reg ?_ | refine am_skip ?_ | refine am_exit ?_ | refine am_ret ?_ | refine vc_intro ?_ | refine need_elems (by assumption) ?_ | refine vlen_acc (by assumption) ?_ | refine need_bytes (by assumption) ?_ | refine need_lk ?_) | ((with_reducible (first | apply gd_not | apply gd_of | apply gq_not | apply gq_of | apply pickB_of)) <;> intro hc <;> (try simp -implicitDefEqProofs (disch := omega) only [go_sem, hc, h1, h2]) <;> (try simp only [reduceCtorEq, bD, beq_iff_eq] at hc) <;> (try (exfalso; omega))) | done) <;> (try simp -implicitDefEqProofs (disch := omega) only [go_sem, h1, h2])))
      all_goals (simp only [true_or, or_true, if_true]; exact end_same)
    · repeat' (first | with_reducible (first | refine am_seq ?_ | refine am_block ?_) | ((with_reducible apply am_cond); (case hb => rfl); all_goals (intro hc; (try simp only [reduceCtorEq, bD, beq_iff_eq] at hc); (try (exfalso; omega)))) | ((first | with_reducible (first | refine am_reg ?_ | refine am_skip ?_ | refine am_exit ?_ | refine am_ret ?_ | refine vc_intro ?_ | refine need_elems (by assumption) ?_ | refine vlen_acc (by assumption) ?_ | refine need_bytes (by assumption) ?_ | refine need_lk ?_) | ((with_reducible (first | apply gd_not | apply gd_of | apply gq_not | apply gq_of | apply pickB_of)) <;> intro hc <;> (try simp -implicitDefEqProofs (disch := omega) only [go_sem, hc, h1, h2]) <;> (try simp only [reduceCtorEq, bD, beq_iff_eq] at hc) <;> (try (exfalso; omega))) | done) <;> (try simp -implicitDefEqProofs (disch := omega) only [go_sem, h1, h2])))
      all_goals (simp only [or_self, if_false]; exact end_same)
theorem pr_int (b : UInt8) : IntKind.u8.wrap (if IntKind.i32.wrap (b.toNat : Int) < 32 ∨ 126 < IntKind.i32.wrap (b.toNat : Int) then 63 else IntKind.i32.wrap (b.toNat : Int)) = ((pr b).toNat : Int) := by
  have h := b.toNat_lt
  have e : IntKind.i32.wrap (b.toNat : Int) = b.toNat := by unfold IntKind.wrap; simp [IntKind.bits, IntKind.signed]; omega
  rw [e, pr]
  by_cases h1 : b.toNat < 32 ∨ 126 < b.toNat
  · rw [if_pos h1, if_pos (by omega)]; rfl
  · rw [if_neg h1, if_neg (by omega)]
    unfold IntKind.wrap; simp [IntKind.bits, IntKind.signed]; omega
def prB (b : Str) (i : Nat) : Str := (b.take i).map pr ++ b.drop i
theorem prB_length (b : Str) (i : Nat) : (prB b i).length = b.length := by simp [prB]; omega
theorem prB_get (b : Str) (i : Nat) (h : i < b.length) : (prB b i)[i]? = some b[i] := by
  rw [prB, List.getElem?_append_right (by simp; omega)]
  simp only [List.length_map, List.length_take, Nat.min_eq_left (Nat.le_of_lt h), Nat.sub_self]
  rw [List.getElem?_drop]; simp [h]
theorem prB_succ (b : Str) (i : Nat) (h : i < b.length) : prB b (i + 1) = (prB b i).set i (pr b[i]) := by
  have e : (b.take i).length = i := by simp; omega
  rw [prB, prB, take_snoc b i h, List.map_append, List.set_append_right _ _ (by simp; omega)]
  simp only [List.map_cons, List.map_nil, List.append_assoc, List.singleton_append, List.length_map, e, Nat.sub_self]
  rw [List.drop_eq_getElem_cons h, List.set_cons_zero]
theorem over_one (cs : List V) (i : Nat) (v : V) : over cs i [v] = cs.set i v := rfl
theorem text_calls {t : Str} {l : List Str} {k : Tok} (hl : l.length < 1000000) (ht : t.length < 1000000) (H : AH) : ACalls Try.prog 21 [.str t, .sl 1 (strsE l) k] H (fun o H' => o = .ret (.str (textS l t)) ∧ H' = H) := by
  refine ACalls.drop ?_
  refine acalls Try.func21 c21 r21 (by simp [Try.ntmps21]) ?_
  have hcl := cleanS_len l t.length t (Nat.le_refl _)
  have mc := fun G => mclean_calls (k := k) hl (show t.length < 1000000000 by omega) G
  rw [textS]
  generalize cleanS l t = b at *
  repeat' (first | with_reducible (first | refine am_seq ?_ | refine am_block ?_) | ((with_reducible apply am_cond); (case hb => rfl); all_goals (intro hc; (try simp only [reduceCtorEq, bD, beq_iff_eq] at hc); (try (exfalso; omega)))) | ((first | with_reducible (first | refine am_reg ?_ | refine am_skip ?_ | refine am_exit ?_ | refine am_ret ?_ | refine vc_intro ?_ | refine need_elems (by assumption) ?_ | refine vlen_acc (by assumption) ?_ | refine need_bytes (by assumption) ?_ | refine call_of (mc) ?_ | refine qcall_of (mc) ?_ | refine need_lk ?_) | ((with_reducible (first | apply gd_not | apply gd_of | apply gq_not | apply gq_of | apply pickB_of)) <;> intro hc <;> (try simp -implicitDefEqProofs (disch := omega) only [go_sem, hc, wrap_id]) <;> (try simp only [reduceCtorEq, bD, beq_iff_eq] at hc) <;> (try (exfalso; omega))) | ((with_reducible refine alloc_intro (fun ko hko => ?_)) <;> (try have hne := fresh_ne (by assumption) hko) <;> (try have hnk := fresh_ne hk hko) <;> (try have hnk2 := fresh_ne hk2 hko) <;> (try simp only [AH.put_none] at hko)) | done) <;> (try simp -implicitDefEqProofs (disch := omega) only [go_sem, wrap_id])))
  refine am_loop (fun n a H' => ∃ i : Nat, i + n = b.length ∧ a = [(5, .msl ko 1 0 b.length), (12, .msl ko 1 0 b.length), (13, .int .i64 b.length), (14, .int .i64 i)] ∧ H' = H.put ko (.cells (bytesV (prB b i)))) ?_ b.length ⟨0, by omega, rfl, by simp [prB]⟩
  rintro n a H' ⟨i, hi, rfl, rfl⟩
  by_cases hlt : i < b.length
  · repeat' (first | with_reducible (first | refine am_seq ?_ | refine am_block ?_) | ((with_reducible apply am_cond); (case hb => rfl); all_goals (intro hc; (try simp only [reduceCtorEq, bD, beq_iff_eq] at hc); (try (exfalso; omega)))) | ((first | with_reducible (first | refine am_reg ?_ | refine am_skip ?_ | refine am_exit ?_ | refine am_ret ?_ | refine vc_intro ?_ | refine need_elems (by assumption) ?_ | refine vlen_acc (by assumption) ?_ | refine need_bytes (by assumption) ?_ | refine call_of (printed_calls) ?_ | refine qcall_of (printed_calls) ?_ | refine need_lk ?_) | ((with_reducible (first | apply gd_not | apply gd_of | apply gq_not | apply gq_of | apply pickB_of)) <;> intro hc <;> (try simp -implicitDefEqProofs (disch := omega) only [go_sem, hc, wrap_id, bytesV_get, prB_get b i hlt, Nat.mul_one, Nat.zero_add, prB_length, pr_int, over_one, bytesV_set, bytesV_length, hlt]) <;> (try simp only [reduceCtorEq, bD, beq_iff_eq] at hc) <;> (try (exfalso; omega))) | ((with_reducible refine alloc_intro (fun ko hko => ?_)) <;> (try have hne := fresh_ne (by assumption) hko) <;> (try have hnk := fresh_ne hk hko) <;> (try have hnk2 := fresh_ne hk2 hko) <;> (try simp only [AH.put_none] at hko)) | done) <;> (try simp -implicitDefEqProofs (disch := omega) only [go_sem, wrap_id, bytesV_get, prB_get b i hlt, Nat.mul_one, Nat.zero_add, prB_length, pr_int, over_one, bytesV_set, bytesV_length, hlt])))
    all_goals exact ⟨n - 1, by omega, i + 1, by omega, rfl, by rw [prB_succ b i hlt]⟩
  · have e : prB b i = b.map pr := by rw [prB, List.take_of_length_le (by omega), List.drop_eq_nil_of_le (by omega), List.append_nil]
    rw [e]
    have hml : (b.map pr).length = b.length := by simp
    by_cases h80 : 80 < b.length
    · have hv := vbytes_msl (H := H.put ko (.cells (bytesV (b.map pr)))) (k := ko) (n := 77) (off := 0) (l := b.map pr) (AH.put_same _ _ _) (by omega)
      rw [List.drop_zero] at hv
      have hl3 : ((b.map pr).take 77).length + 3 < 9223372036854775808 := by rw [List.length_take]; omega
      repeat' (first | with_reducible (first | refine am_seq ?_ | refine am_block ?_) | ((with_reducible apply am_cond); (case hb => rfl); all_goals (intro hc; (try simp only [reduceCtorEq, bD, beq_iff_eq] at hc); (try (exfalso; omega)))) | ((first | with_reducible (first | refine am_reg ?_ | refine am_skip ?_ | refine am_exit ?_ | refine am_ret ?_ | refine vc_intro ?_ | refine need_elems (by assumption) ?_ | refine vlen_acc (by assumption) ?_ | refine need_bytes (by assumption) ?_ | refine need_lk ?_) | ((with_reducible (first | apply gd_not | apply gd_of | apply gq_not | apply gq_of | apply pickB_of)) <;> intro hc <;> (try simp -implicitDefEqProofs (disch := omega) only [go_sem, hc, wrap_id, hv, hl3]) <;> (try simp only [reduceCtorEq, bD, beq_iff_eq] at hc) <;> (try (exfalso; omega))) | ((with_reducible refine alloc_intro (fun ko hko => ?_)) <;> (try have hne := fresh_ne (by assumption) hko) <;> (try have hnk := fresh_ne hk hko) <;> (try have hnk2 := fresh_ne hk2 hko) <;> (try simp only [AH.put_none] at hko)) | done) <;> (try simp -implicitDefEqProofs (disch := omega) only [go_sem, wrap_id, hv, hl3])))
      all_goals (rw [cutS, if_pos (by omega)]; exact end_le (AH.le_put (AH.le_refl _) (by assumption) _))
    · have hv := vbytes_msl (H := H.put ko (.cells (bytesV (b.map pr)))) (k := ko) (n := b.length) (off := 0) (l := b.map pr) (AH.put_same _ _ _) (by omega)
      rw [List.drop_zero, List.take_of_length_le (by omega)] at hv
      repeat' (first | with_reducible (first | refine am_seq ?_ | refine am_block ?_) | ((with_reducible apply am_cond); (case hb => rfl); all_goals (intro hc; (try simp only [reduceCtorEq, bD, beq_iff_eq] at hc); (try (exfalso; omega)))) | ((first | with_reducible (first | refine am_reg ?_ | refine am_skip ?_ | refine am_exit ?_ | refine am_ret ?_ | refine vc_intro ?_ | refine need_elems (by assumption) ?_ | refine vlen_acc (by assumption) ?_ | refine need_bytes (by assumption) ?_ | refine need_lk ?_) | ((with_reducible (first | apply gd_not | apply gd_of | apply gq_not | apply gq_of | apply pickB_of)) <;> intro hc <;> (try simp -implicitDefEqProofs (disch := omega) only [go_sem, hc, wrap_id, hv]) <;> (try simp only [reduceCtorEq, bD, beq_iff_eq] at hc) <;> (try (exfalso; omega))) | ((with_reducible refine alloc_intro (fun ko hko => ?_)) <;> (try have hne := fresh_ne (by assumption) hko) <;> (try have hnk := fresh_ne hk hko) <;> (try have hnk2 := fresh_ne hk2 hko) <;> (try simp only [AH.put_none] at hko)) | done) <;> (try simp -implicitDefEqProofs (disch := omega) only [go_sem, wrap_id, hv])))
      all_goals (rw [cutS, if_neg (by omega)]; exact end_le (AH.le_put (AH.le_refl _) (by assumption) _))
end Go.Proofs.Ytjlphncecdlmcaa
