/- Of the walks of this seat: contracts of functions of the given program, proved over the abstract values of the texts Vm. Conditions: as each theorem says. -/
import Derived.Test.YtjlphncecdlmcaaD1
import Derived.Test.YtjlphncecdlmcaaVm36
set_option linter.unusedVariables false
set_option linter.unusedSimpArgs false
namespace Go.Proofs.Ytjlphncecdlmcaa
open Go.Vm
attribute [local go_sem] eq_self decide_true decide_false AH.put_ne
attribute [local go_sem_proc] Nat.reduceBEq Nat.reduceAdd Nat.reduceSub Nat.reduceMul Nat.reduceEqDiff Nat.reduceLeDiff Nat.reduceLT Int.reduceLE Int.reduceLT Int.reduceToNat Int.reduceAdd Int.reduceEq Int.reduceNeg
attribute [local go_sem] strsE_get strsE_length ntsE_get ntsE_length ntC byteCells_length List.drop_zero toNat_succ Nat.sub_zero Int.toNat_natCast Option.map_some Int.natCast_nonneg decide_eq_true_eq decide_eq_false_iff_not
/- slices.IndexFunc[[]flange/diag.Note,flange/diag.Note] -/
abbrev k108_0 : MC :=
 .cond (.t 16) ((.seq (.reg [
 ⟨some 17, none, .val (.mv (.t 5))⟩,
 ⟨some 4, none, .val (.mv (.t 17))⟩] [4]) (.ret))) (.skip)
abbrev k108_1 : MC :=
 (.seq (.reg [
 ⟨some 11, none, .val (.mv (.t 1))⟩,
 ⟨some 12, none, .val (.mv (.t 0))⟩,
 ⟨some 13, none, .val (.mv (.t 5))⟩,
 ⟨some 14, none, .val (.iaddr 2 (.t 12) (.t 13))⟩,
 ⟨some 15, none, .val (.load true 2 (.t 14))⟩,
 ⟨some 16, none, .callv (.t 11) [(.t 15)]⟩] [0, 1, 5, 7, 8, 16]) k108_0)
abbrev k108_2 : MC :=
 .reg [
 ⟨some 18, none, .val (.bin .add .num (.t 8) (.c (.int .i64 1)))⟩,
 ⟨some 8, none, .val (.mv (.t 18))⟩] [0, 1, 7, 8]
abbrev k108_3 : MC :=
 (.seq (.block 1 ((.seq (.reg [
 ⟨some 10, none, .val (.mv (.t 8))⟩,
 ⟨some 5, none, .val (.mv (.t 10))⟩] [0, 1, 5, 7, 8]) k108_1))) k108_2)
abbrev k108_4 : MC :=
 (.seq (.cond (.t 9) (.skip) (.exit 0)) k108_3)
abbrev k108_5 : MC :=
 (.seq (.reg [
 ⟨some 9, none, .val (.bin .lss .num (.t 8) (.t 7))⟩] [0, 1, 7, 8, 9]) k108_4)
abbrev k108_6 : MC :=
 .block 0 (.loop k108_5)
abbrev k108_7 : MC :=
 (.seq (.reg [
 ⟨some 4, none, .val (.mv (.c (.int .i64 (-1))))⟩] [4]) (.ret))
abbrev k108_8 : MC :=
 (.seq ((.seq (.reg [
 ⟨some 6, none, .val (.mv (.t 0))⟩,
 ⟨some 7, none, .val (.len .sl (.t 6))⟩,
 ⟨some 8, none, .val (.mv (.c (.int .i64 0)))⟩] [0, 1, 7, 8]) k108_6)) k108_7)
abbrev k108 : MC :=
 (.seq (.reg [
 ⟨some 4, none, .val (.mv (.c (.int .i64 0)))⟩] [0, 1]) k108_8)
theorem c108 : Try.f108.body.bind (mcOf Try.prog (List.contains [] ·) (List.getD [([], [0, 1]), ([], [0, 1, 7, 8]), ([], [0, 1, 7, 8, 9]), ([], [0, 1, 5, 7, 8]), ([], [0, 1, 5, 7, 8, 16]), ([], [4]), ([], [0, 1, 7, 8]), ([], [4])] · ([], [])) 19) = some k108 := by kernel_rfl
theorem r108 : rvsOf Try.prog Try.f108.results.toList = some [.tmp 4] := by kernel_rfl
/- slices.ContainsFunc[[]flange/diag.Note,flange/diag.Note] -/
abbrev k69_0 : MC :=
 (.seq (.reg [
 ⟨some 5, none, .val (.mv (.t 0))⟩,
 ⟨some 6, none, .val (.mv (.t 1))⟩,
 ⟨some 7, none, .call 108 [(.t 5), (.t 6)]⟩,
 ⟨some 8, none, .val (.bin .geq .num (.t 7) (.c (.int .i64 0)))⟩,
 ⟨some 4, none, .val (.mv (.t 8))⟩] [4]) (.ret))
abbrev k69 : MC :=
 (.seq (.reg [
 ⟨some 4, none, .val (.mv (.c (.bool false)))⟩] [0, 1]) k69_0)
theorem c69 : Try.f69.body.bind (mcOf Try.prog (List.contains [] ·) (List.getD [([], [0, 1]), ([], [4])] · ([], [])) 9) = some k69 := by kernel_rfl
theorem r69 : rvsOf Try.prog Try.f69.results.toList = some [.tmp 4] := by kernel_rfl
/- flange/diag.Fails -/
abbrev k20_0 : MC :=
 (.seq (.reg [
 ⟨some 3, none, .val (.mv (.t 0))⟩,
 ⟨some 4, none, .call 69 [(.t 3), (.c (.func (.func 70) [] []))]⟩,
 ⟨some 2, none, .val (.mv (.t 4))⟩] [2]) (.ret))
abbrev k20 : MC :=
 (.seq (.reg [
 ⟨some 2, none, .val (.mv (.c (.bool false)))⟩] [0]) k20_0)
theorem c20 : Try.f20.body.bind (mcOf Try.prog (List.contains [] ·) (List.getD [([], [0]), ([], [2])] · ([], [])) 5) = some k20 := by kernel_rfl
theorem r20 : rvsOf Try.prog Try.f20.results.toList = some [.tmp 2] := by kernel_rfl
/- flange/diag.Fails$1 -/
abbrev k70_0 : MC :=
 (.seq (.reg [
 ⟨some 3, none, .val (.faddr 0 (.t 1))⟩,
 ⟨some 4, none, .val (.load false 1 (.t 3))⟩,
 ⟨some 2, none, .val (.mv (.t 4))⟩] [2]) (.ret))
abbrev k70 : MC :=
 (.seq (.reg [
 ⟨some 1, none, .boxi (.t 0)⟩,
 ⟨some 2, none, .val (.mv (.c (.bool false)))⟩] [1]) k70_0)
theorem c70 : Try.f70.body.bind (mcOf Try.prog (List.contains [1] ·) (List.getD [([], [1]), ([], [2])] · ([], [])) 5) = some k70 := by kernel_rfl
theorem r70 : rvsOf Try.prog Try.f70.results.toList = some [.tmp 2] := by kernel_rfl
/- flange/diag.Lines -/
/- flange/flangelaw13.great -/
abbrev k15_0 : MC :=
 .cond (.t 10) (.skip) (.exit 0)
abbrev k15_1 : MC :=
 .cond (.t 19) ((.seq (.reg [
 ⟨some 4, none, .val (.mv (.c (.bool true)))⟩] [4]) (.ret))) (.skip)
abbrev k15_2 : MC :=
 .reg [
 ⟨some 11, none, .val (.mv (.t 5))⟩,
 ⟨some 12, none, .val (.bin .add .num (.t 11) (.c (.int .i64 1)))⟩,
 ⟨some 5, none, .val (.mv (.t 12))⟩] [0, 1, 5]
abbrev k15_3 : MC :=
 (.seq (.block 1 ((.seq (.reg [
 ⟨some 13, none, .val (.mv (.t 0))⟩,
 ⟨some 14, none, .val (.mv (.t 5))⟩,
 ⟨some 15, none, .val (.iaddr 2 (.t 13) (.t 14))⟩,
 ⟨some 16, none, .val (.faddr 1 (.t 15))⟩,
 ⟨some 17, none, .val (.load false 1 (.t 16))⟩,
 ⟨some 18, none, .val (.len .str (.t 17))⟩,
 ⟨some 19, none, .val (.bin .gtr .num (.t 18) (.c (.int .i64 300)))⟩] [0, 1, 5, 19]) k15_1))) k15_2)
abbrev k15_4 : MC :=
 (.seq ((.seq (.reg [
 ⟨some 7, none, .val (.mv (.t 5))⟩,
 ⟨some 8, none, .val (.mv (.t 0))⟩,
 ⟨some 9, none, .val (.len .sl (.t 8))⟩,
 ⟨some 10, none, .val (.bin .lss .num (.t 7) (.t 9))⟩] [0, 1, 5, 10]) k15_0)) k15_3)
abbrev k15_5 : MC :=
 .block 0 (.loop k15_4)
abbrev k15_6 : MC :=
 .cond (.t 23) (.skip) (.exit 2)
abbrev k15_7 : MC :=
 .cond (.t 31) ((.seq (.reg [
 ⟨some 4, none, .val (.mv (.c (.bool true)))⟩] [4]) (.ret))) (.skip)
abbrev k15_8 : MC :=
 .reg [
 ⟨some 24, none, .val (.mv (.t 6))⟩,
 ⟨some 25, none, .val (.bin .add .num (.t 24) (.c (.int .i64 1)))⟩,
 ⟨some 6, none, .val (.mv (.t 25))⟩] [0, 1, 6]
abbrev k15_9 : MC :=
 (.seq (.block 3 ((.seq (.reg [
 ⟨some 26, none, .val (.mv (.t 1))⟩,
 ⟨some 27, none, .val (.mv (.t 6))⟩,
 ⟨some 28, none, .val (.iaddr 1 (.t 26) (.t 27))⟩,
 ⟨some 29, none, .val (.load false 1 (.t 28))⟩,
 ⟨some 30, none, .val (.len .str (.t 29))⟩,
 ⟨some 31, none, .val (.bin .gtr .num (.t 30) (.c (.int .i64 100)))⟩] [0, 1, 6, 31]) k15_7))) k15_8)
abbrev k15_10 : MC :=
 (.seq ((.seq (.reg [
 ⟨some 20, none, .val (.mv (.t 6))⟩,
 ⟨some 21, none, .val (.mv (.t 1))⟩,
 ⟨some 22, none, .val (.len .sl (.t 21))⟩,
 ⟨some 23, none, .val (.bin .lss .num (.t 20) (.t 22))⟩] [0, 1, 6, 23]) k15_6)) k15_9)
abbrev k15_11 : MC :=
 .block 2 (.loop k15_10)
abbrev k15_12 : MC :=
 (.seq (.reg [
 ⟨some 32, none, .val (.mv (.t 0))⟩,
 ⟨some 33, none, .val (.len .sl (.t 32))⟩,
 ⟨some 34, none, .val (.bin .gtr .num (.t 33) (.c (.int .i64 30)))⟩,
 ⟨some 35, none, .val (.mv (.t 34))⟩,
 ⟨some 36, (some (35, false)), .val (.mv (.t 1))⟩,
 ⟨some 37, (some (35, false)), .val (.len .sl (.t 36))⟩,
 ⟨some 38, (some (35, false)), .val (.bin .gtr .num (.t 37) (.c (.int .i64 20)))⟩,
 ⟨some 39, none, .val (.pick (.t 35) (.c (.bool true)) (.t 38))⟩,
 ⟨some 4, none, .val (.mv (.t 39))⟩] [4]) (.ret))
abbrev k15_13 : MC :=
 (.seq ((.seq (.reg [
 ⟨some 6, none, .val (.mv (.c (.int .i64 0)))⟩] [0, 1, 6]) k15_11)) k15_12)
abbrev k15_14 : MC :=
 (.seq ((.seq (.reg [
 ⟨some 5, none, .val (.mv (.c (.int .i64 0)))⟩] [0, 1, 5]) k15_5)) k15_13)
abbrev k15 : MC :=
 (.seq (.reg [
 ⟨some 4, none, .val (.mv (.c (.bool false)))⟩] [0, 1]) k15_14)
theorem c15 : Try.f15.body.bind (mcOf Try.prog (List.contains [] ·) (List.getD [([], [0, 1]), ([], [0, 1, 5]), ([], [0, 1, 5, 10]), ([], [0, 1, 5]), ([], [0, 1, 5, 19]), ([], [4]), ([], [0, 1, 6]), ([], [0, 1, 6, 23]), ([], [0, 1, 6]), ([], [0, 1, 6, 31]), ([], [4]), ([], [4])] · ([], [])) 40) = some k15 := by kernel_rfl
theorem r15 : rvsOf Try.prog Try.f15.results.toList = some [.tmp 4] := by kernel_rfl
/- flange/flangelaw13.awake -/
abbrev k16_0 : MC :=
 (.seq (.reg [
 ⟨some 1, none, .call 21 [(.c (.str [110, 111, 10, 112, 97, 115, 115])), (.c .nilSl)]⟩,
 ⟨some 2, none, .val (.bin .eql .num (.t 1) (.c (.str [110, 111, 63, 112, 97, 115, 115])))⟩,
 ⟨some 3, none, .val (.mv (.t 2))⟩,
 ⟨some 4, (some (3, true)), .bslice 1 1 [(.str [])] [(0, 1, (.c (.str [115, 101, 99, 114, 101, 116])))]⟩,
 ⟨some 5, (some (3, true)), .call 21 [(.c (.str [109, 121, 32, 115, 101, 99, 114, 101, 116])), (.t 4)]⟩,
 ⟨some 6, (some (3, true)), .val (.bin .eql .num (.t 5) (.c (.str [109, 121, 32, 42, 42, 42])))⟩,
 ⟨some 7, none, .val (.pick (.t 3) (.t 6) (.c (.bool false)))⟩,
 ⟨some 8, none, .val (.mv (.t 7))⟩,
 ⟨some 9, (some (8, true)), .build [(.bool false), (.str [])] [(0, 1, (.c (.bool true)))]⟩,
 ⟨some 10, (some (8, true)), .bslice 2 1 [(.bool false), (.str [])] [(0, 2, (.t 9))]⟩,
 ⟨some 11, (some (8, true)), .call 20 [(.t 10)]⟩,
 ⟨some 12, none, .val (.pick (.t 8) (.t 11) (.c (.bool false)))⟩,
 ⟨some 0, none, .val (.mv (.t 12))⟩] [0]) (.ret))
abbrev k16 : MC :=
 (.seq (.reg [
 ⟨some 0, none, .val (.mv (.c (.bool false)))⟩] []) k16_0)
theorem c16 : Try.f16.body.bind (mcOf Try.prog (List.contains [] ·) (List.getD [([], []), ([], [0])] · ([], [])) 13) = some k16 := by kernel_rfl
theorem r16 : rvsOf Try.prog Try.f16.results.toList = some [.tmp 0] := by kernel_rfl
/- flange/flangelaw13.DiagLines -/
abbrev k3_0 : MC :=
 .cond (.t 10) ((.seq (.reg [
 ⟨some 11, none, .call 16 []⟩,
 ⟨some 2, none, .val (.mv (.t 11))⟩] [2]) (.ret))) (.skip)
abbrev k3_1 : MC :=
 .cond (.t 15) (.skip) (.exit 0)
abbrev k3_2 : MC :=
 .cond (.t 22) (.reg [
 ⟨some 23, none, .val (.mv (.t 3))⟩,
 ⟨some 24, none, .val (.bin .add .num (.t 23) (.c (.str [101, 114, 114, 111, 114, 58, 32])))⟩,
 ⟨some 25, none, .val (.mv (.t 0))⟩,
 ⟨some 26, none, .val (.mv (.t 4))⟩,
 ⟨some 27, none, .val (.iaddr 2 (.t 25) (.t 26))⟩,
 ⟨some 28, none, .val (.faddr 1 (.t 27))⟩,
 ⟨some 29, none, .val (.load false 1 (.t 28))⟩,
 ⟨some 30, none, .val (.bin .add .num (.t 24) (.t 29))⟩,
 ⟨some 31, none, .val (.bin .add .num (.t 30) (.c (.str [10])))⟩,
 ⟨some 3, none, .val (.mv (.t 31))⟩] [0, 3, 4]) (.reg [
 ⟨some 32, none, .val (.mv (.t 3))⟩,
 ⟨some 33, none, .val (.bin .add .num (.t 32) (.c (.str [119, 97, 114, 110, 105, 110, 103, 58, 32])))⟩,
 ⟨some 34, none, .val (.mv (.t 0))⟩,
 ⟨some 35, none, .val (.mv (.t 4))⟩,
 ⟨some 36, none, .val (.iaddr 2 (.t 34) (.t 35))⟩,
 ⟨some 37, none, .val (.faddr 1 (.t 36))⟩,
 ⟨some 38, none, .val (.load false 1 (.t 37))⟩,
 ⟨some 39, none, .val (.bin .add .num (.t 33) (.t 38))⟩,
 ⟨some 40, none, .val (.bin .add .num (.t 39) (.c (.str [10])))⟩,
 ⟨some 3, none, .val (.mv (.t 40))⟩] [0, 3, 4])
abbrev k3_3 : MC :=
 .reg [
 ⟨some 16, none, .val (.mv (.t 4))⟩,
 ⟨some 17, none, .val (.bin .add .num (.t 16) (.c (.int .i64 1)))⟩,
 ⟨some 4, none, .val (.mv (.t 17))⟩] [0, 3, 4]
abbrev k3_4 : MC :=
 (.seq (.block 1 ((.seq (.reg [
 ⟨some 18, none, .val (.mv (.t 0))⟩,
 ⟨some 19, none, .val (.mv (.t 4))⟩,
 ⟨some 20, none, .val (.iaddr 2 (.t 18) (.t 19))⟩,
 ⟨some 21, none, .val (.faddr 0 (.t 20))⟩,
 ⟨some 22, none, .val (.load false 1 (.t 21))⟩] [0, 3, 4, 22]) k3_2))) k3_3)
abbrev k3_5 : MC :=
 (.seq ((.seq (.reg [
 ⟨some 12, none, .val (.mv (.t 4))⟩,
 ⟨some 13, none, .val (.mv (.t 0))⟩,
 ⟨some 14, none, .val (.len .sl (.t 13))⟩,
 ⟨some 15, none, .val (.bin .lss .num (.t 12) (.t 14))⟩] [0, 3, 4, 15]) k3_1)) k3_4)
abbrev k3_6 : MC :=
 .block 0 (.loop k3_5)
abbrev k3_7 : MC :=
 (.seq (.reg [
 ⟨some 41, none, .val (.mv (.t 0))⟩,
 ⟨some 42, none, .call 17 [(.t 41)]⟩,
 ⟨some 43, none, .val (.mv (.t 3))⟩,
 ⟨some 44, none, .val (.bin .eql .num (.t 42) (.t 43))⟩,
 ⟨some 2, none, .val (.mv (.t 44))⟩] [2]) (.ret))
abbrev k3_8 : MC :=
 (.seq ((.seq (.reg [
 ⟨some 4, none, .val (.mv (.c (.int .i64 0)))⟩] [0, 3, 4]) k3_6)) k3_7)
abbrev k3_9 : MC :=
 (.seq (.reg [
 ⟨some 3, none, .val (.mv (.c (.str [])))⟩] [0, 3]) k3_8)
abbrev k3_10 : MC :=
 (.seq ((.seq (.reg [
 ⟨some 5, none, .val (.mv (.t 0))⟩,
 ⟨some 6, none, .call 15 [(.t 5), (.c .nilSl)]⟩,
 ⟨some 7, none, .val (.mv (.t 6))⟩,
 ⟨some 8, (some (7, false)), .call 16 []⟩,
 ⟨some 9, (some (7, false)), .val (.not (.t 8))⟩,
 ⟨some 10, none, .val (.pick (.t 7) (.c (.bool true)) (.t 9))⟩] [0, 10]) k3_0)) k3_9)
abbrev k3 : MC :=
 (.seq (.reg [
 ⟨some 2, none, .val (.mv (.c (.bool false)))⟩] [0]) k3_10)
theorem c3 : Try.f3.body.bind (mcOf Try.prog (List.contains [] ·) (List.getD [([], [0]), ([], [0, 10]), ([], [2]), ([], [0, 3]), ([], [0, 3, 4]), ([], [0, 3, 4, 15]), ([], [0, 3, 4]), ([], [0, 3, 4, 22]), ([], [0, 3, 4]), ([], [0, 3, 4]), ([], [2])] · ([], [])) 45) = some k3 := by kernel_rfl
theorem r3 : rvsOf Try.prog Try.f3.results.toList = some [.tmp 2] := by kernel_rfl
def idxB {α : Type} (p : α → Bool) : List α → Int → Int
  | [], _ => -1
  | y :: l, i => if p y = true then i else idxB p l (i + 1)
theorem idxB_any {α : Type} (p : α → Bool) : ∀ (l : List α) (i : Int), 0 ≤ i → (decide (0 ≤ idxB p l i) = l.any p)
  | [], i, h => by simp [idxB]
  | y :: l, i, h => by
    simp only [idxB, List.any_cons]
    by_cases hp : p y = true
    · simp [h, hp]
    · simp only [hp, if_false, Bool.false_or]; exact idxB_any p l (i + 1) (by omega)
theorem findex_calls {l : List Nt} {t : Tok} {f : Nat} {us ws : List V} {p : Nt → Bool} (hl : l.length < 4611686018427387904) (he : entered Try.prog f = true) (H : AH) (hf : ∀ x ∈ l, ACalls Try.prog f (us ++ [.agg (ntC x)] ++ ws) H (fun o H' => o = .ret (.bool (p x)) ∧ H' = H)) :
    ACalls Try.prog 108 [.sl 2 (ntsE l) t, .func (.func f) us ws] H (fun o H' => o = .ret (.int .i64 (idxB p l 0)) ∧ H' = H) := by
  refine acalls Try.func108 c108 r108 (by simp [Try.ntmps108]) ?_
  repeat' (first | with_reducible (first | refine am_seq ?_ | refine am_block ?_) | ((with_reducible apply am_cond); (case hb => rfl); all_goals (intro hc; (try simp only [reduceCtorEq, bD, beq_iff_eq] at hc); (try (exfalso; omega)))) | ((first | with_reducible (first | refine am_reg ?_ | refine am_skip ?_ | refine am_exit ?_ | refine am_ret ?_ | refine vc_intro ?_ | refine need_elems (by assumption) ?_ | refine vlen_acc (by assumption) ?_ | refine need_bytes (by assumption) ?_ | refine need_lk ?_) | done) <;> (try simp -implicitDefEqProofs (disch := omega) only [go_sem, wrap_id])))
  refine am_loop (fun n a H' => ∃ i : Nat, i + n = l.length ∧ a = [(0, .sl 2 (ntsE l) t), (1, .func (.func f) us ws), (7, .int .i64 l.length), (8, .int .i64 i)] ∧ H' = H ∧ idxB p l 0 = idxB p (l.drop i) i) ?_ l.length ⟨0, by simp, by simp, rfl, by simp⟩
  rintro n a H' ⟨i, hi, rfl, rfl, hg⟩
  by_cases hlt : i < l.length
  · rw [List.drop_eq_getElem_cons hlt, idxB] at hg
    repeat' (first | with_reducible (first | refine am_seq ?_ | refine am_block ?_) | ((with_reducible apply am_cond); (case hb => rfl); all_goals (intro hc; (try simp only [reduceCtorEq, bD, beq_iff_eq] at hc); (try (exfalso; omega)))) | ((first | with_reducible (first | refine am_reg ?_ | refine am_skip ?_ | refine am_exit ?_ | refine am_ret ?_ | refine vc_intro ?_ | refine need_elems (by assumption) ?_ | refine vlen_acc (by assumption) ?_ | refine need_bytes (by assumption) ?_ | refine need_lk ?_) | done) <;> (try simp -implicitDefEqProofs (disch := omega) only [go_sem, wrap_id, get_of_lt hlt])))
    refine call_turn (hf _ (List.getElem_mem hlt)) ?_
    try simp -implicitDefEqProofs (disch := omega) only [go_sem]
    cases hp : p l[i]
    · rw [if_neg (by simp [hp])] at hg
      repeat' (first | with_reducible (first | refine am_seq ?_ | refine am_block ?_) | ((with_reducible apply am_cond); (case hb => rfl); all_goals (intro hc; (try simp only [reduceCtorEq, bD, beq_iff_eq] at hc); (try (exfalso; omega)))) | ((first | with_reducible (first | refine am_reg ?_ | refine am_skip ?_ | refine am_exit ?_ | refine am_ret ?_ | refine vc_intro ?_ | refine need_elems (by assumption) ?_ | refine vlen_acc (by assumption) ?_ | refine need_bytes (by assumption) ?_ | refine need_lk ?_) | done) <;> (try simp -implicitDefEqProofs (disch := omega) only [go_sem, wrap_id, hp])))
      all_goals exact ⟨n - 1, by omega, i + 1, by omega, by simp, by rw [hg]; rfl⟩
    · rw [if_pos (by simp [hp])] at hg
      repeat' (first | with_reducible (first | refine am_seq ?_ | refine am_block ?_) | ((with_reducible apply am_cond); (case hb => rfl); all_goals (intro hc; (try simp only [reduceCtorEq, bD, beq_iff_eq] at hc); (try (exfalso; omega)))) | ((first | with_reducible (first | refine am_reg ?_ | refine am_skip ?_ | refine am_exit ?_ | refine am_ret ?_ | refine vc_intro ?_ | refine need_elems (by assumption) ?_ | refine vlen_acc (by assumption) ?_ | refine need_bytes (by assumption) ?_ | refine need_lk ?_) | done) <;> (try simp -implicitDefEqProofs (disch := omega) only [go_sem, wrap_id, hp])))
      all_goals (rw [hg])
  · rw [List.drop_eq_nil_of_le (by omega)] at hg
    repeat' (first | with_reducible (first | refine am_seq ?_ | refine am_block ?_) | ((with_reducible apply am_cond); (case hb => rfl); all_goals (intro hc; (try simp only [reduceCtorEq, bD, beq_iff_eq] at hc); (try (exfalso; omega)))) | ((first | with_reducible (first | refine am_reg ?_ | refine am_skip ?_ | refine am_exit ?_ | refine am_ret ?_ | refine vc_intro ?_ | refine need_elems (by assumption) ?_ | refine vlen_acc (by assumption) ?_ | refine need_bytes (by assumption) ?_ | refine need_lk ?_) | done) <;> (try simp -implicitDefEqProofs (disch := omega) only [go_sem, wrap_id])))
    all_goals (rw [hg]; try rfl)
theorem fcont_calls {l : List Nt} {t : Tok} {f : Nat} {us ws : List V} {p : Nt → Bool} (hl : l.length < 4611686018427387904) (he : entered Try.prog f = true) (H : AH) (hf : ∀ x ∈ l, ACalls Try.prog f (us ++ [.agg (ntC x)] ++ ws) H (fun o H' => o = .ret (.bool (p x)) ∧ H' = H)) :
    ACalls Try.prog 69 [.sl 2 (ntsE l) t, .func (.func f) us ws] H (fun o H' => o = .ret (.bool (l.any p)) ∧ H' = H) := by
  refine acalls Try.func69 c69 r69 (by simp [Try.ntmps69]) ?_
  repeat (first | refine am_seq ?_ | (refine am_reg ?_; simp -implicitDefEqProofs (disch := omega) only [go_sem]) | (refine am_drw ?_; simp -implicitDefEqProofs (disch := omega) only [go_sem]) | refine am_block ?_)
  refine call_turn (findex_calls hl he H hf) ?_
  simp -implicitDefEqProofs (disch := omega) only [go_sem, ge_iff_le, idxB_any, Bool.decide_eq_true]
  refine am_ret ?_
  simp -implicitDefEqProofs (disch := omega) only [go_sem]
theorem fails1_calls {x : Nt} {H : AH} : ACalls Try.prog 70 [.agg (ntC x)] H (fun o H' => o = .ret (.bool x.err) ∧ H' = H) := by
  refine ACalls.drop ?_
  refine acalls Try.func70 c70 r70 (by simp [Try.ntmps70]) ?_
  repeat' (first | with_reducible (first | refine am_seq ?_ | refine am_block ?_) | ((with_reducible apply am_cond); (case hb => rfl); all_goals (intro hc; (try simp only [reduceCtorEq, bD, beq_iff_eq] at hc); (try (exfalso; omega)))) | ((first | with_reducible (first | refine am_reg ?_ | refine am_skip ?_ | refine am_exit ?_ | refine am_ret ?_ | refine vc_intro ?_ | refine need_elems (by assumption) ?_ | refine vlen_acc (by assumption) ?_ | refine need_bytes (by assumption) ?_ | refine need_lk ?_) | ((with_reducible refine alloc_intro (fun ko hko => ?_)) <;> (try have hne := fresh_ne (by assumption) hko) <;> (try have hnk := fresh_ne hk hko) <;> (try have hnk2 := fresh_ne hk2 hko) <;> (try simp only [AH.put_none] at hko)) | done) <;> (try simp -implicitDefEqProofs (disch := omega) only [go_sem, wrap_id])))
  all_goals exact end_same
theorem fails_calls {l : List Nt} {t : Tok} (hl : l.length < 4611686018427387904) (H : AH) : ACalls Try.prog 20 [.sl 2 (ntsE l) t] H (fun o H' => o = .ret (.bool (l.any (·.err))) ∧ H' = H) := by
  refine ACalls.drop ?_
  refine acalls Try.func20 c20 r20 (by simp [Try.ntmps20]) ?_
  repeat' (first | with_reducible (first | refine am_seq ?_ | refine am_block ?_) | ((with_reducible apply am_cond); (case hb => rfl); all_goals (intro hc; (try simp only [reduceCtorEq, bD, beq_iff_eq] at hc); (try (exfalso; omega)))) | ((first | with_reducible (first | refine am_reg ?_ | refine am_skip ?_ | refine am_exit ?_ | refine am_ret ?_ | refine vc_intro ?_ | refine need_elems (by assumption) ?_ | refine vlen_acc (by assumption) ?_ | refine need_bytes (by assumption) ?_ | refine call_turn (fcont_calls (p := (·.err)) hl (by kernel_rfl) _ (fun x _ => by simpa using fails1_calls)) ?_ | refine need_lk ?_) | done) <;> (try simp -implicitDefEqProofs (disch := omega) only [go_sem, wrap_id])))
  all_goals exact end_same
theorem great_calls {l : List Nt} {ss : List Str} {t k : Tok} (hl : l.length < 9223372036854775808) (hs : ss.length < 9223372036854775808) (H : AH) :
    ACalls Try.prog 15 [.sl 2 (ntsE l) t, .sl 1 (strsE ss) k] H (fun o H' => o = .ret (.bool (greatN l ss)) ∧ H' = H) := by
  refine ACalls.drop ?_
  refine acalls Try.func15 c15 r15 (by simp [Try.ntmps15]) ?_
  repeat' (first | with_reducible (first | refine am_seq ?_ | refine am_block ?_) | ((with_reducible apply am_cond); (case hb => rfl); all_goals (intro hc; (try simp only [reduceCtorEq, bD, beq_iff_eq] at hc); (try (exfalso; omega)))) | ((first | with_reducible (first | refine am_reg ?_ | refine am_skip ?_ | refine am_exit ?_ | refine am_ret ?_ | refine vc_intro ?_ | refine need_elems (by assumption) ?_ | refine vlen_acc (by assumption) ?_ | refine need_bytes (by assumption) ?_ | refine need_lk ?_) | ((with_reducible (first | apply gd_not | apply gd_of | apply gq_not | apply gq_of | apply pickB_of)) <;> intro hc <;> (try simp -implicitDefEqProofs (disch := omega) only [go_sem, hc, wrap_id]) <;> (try simp only [reduceCtorEq, bD, beq_iff_eq] at hc) <;> (try (exfalso; omega))) | done) <;> (try simp -implicitDefEqProofs (disch := omega) only [go_sem, wrap_id])))
  refine am_loop (fun n a H' => ∃ i : Nat, i + n = l.length ∧ a = [(0, .sl 2 (ntsE l) t), (1, .sl 1 (strsE ss) k), (5, .int .i64 i)] ∧ H' = H ∧ l.any (fun n => decide (300 < n.txt.length)) = (l.drop i).any (fun n => decide (300 < n.txt.length))) ?_ l.length ⟨0, by omega, rfl, rfl, rfl⟩
  rintro n a H' ⟨i, hi, rfl, rfl, hg⟩
  by_cases hlt : i < l.length
  · rw [List.drop_eq_getElem_cons hlt, List.any_cons] at hg
    by_cases h3 : 300 < l[i].txt.length
    · have h3' : (300 : Int) < (l[i].txt.length : Int) := by omega
      repeat' (first | with_reducible (first | refine am_seq ?_ | refine am_block ?_) | ((with_reducible apply am_cond); (case hb => rfl); all_goals (intro hc; (try simp only [reduceCtorEq, bD, beq_iff_eq] at hc); (try (exfalso; omega)))) | ((first | with_reducible (first | refine am_reg ?_ | refine am_skip ?_ | refine am_exit ?_ | refine am_ret ?_ | refine vc_intro ?_ | refine need_elems (by assumption) ?_ | refine vlen_acc (by assumption) ?_ | refine need_bytes (by assumption) ?_ | refine need_lk ?_) | ((with_reducible (first | apply gd_not | apply gd_of | apply gq_not | apply gq_of | apply pickB_of)) <;> intro hc <;> (try simp -implicitDefEqProofs (disch := omega) only [go_sem, hc, wrap_id, get_of_lt hlt, h3']) <;> (try simp only [reduceCtorEq, bD, beq_iff_eq] at hc) <;> (try (exfalso; omega))) | done) <;> (try simp -implicitDefEqProofs (disch := omega) only [go_sem, wrap_id, get_of_lt hlt, h3'])))
      all_goals (rw [greatN, hg]; simp only [h3, decide_true, Bool.true_or]; exact end_same)
    · have h3' : ¬ (300 : Int) < (l[i].txt.length : Int) := by omega
      rw [decide_eq_false h3, Bool.false_or] at hg
      repeat' (first | with_reducible (first | refine am_seq ?_ | refine am_block ?_) | ((with_reducible apply am_cond); (case hb => rfl); all_goals (intro hc; (try simp only [reduceCtorEq, bD, beq_iff_eq] at hc); (try (exfalso; omega)))) | ((first | with_reducible (first | refine am_reg ?_ | refine am_skip ?_ | refine am_exit ?_ | refine am_ret ?_ | refine vc_intro ?_ | refine need_elems (by assumption) ?_ | refine vlen_acc (by assumption) ?_ | refine need_bytes (by assumption) ?_ | refine need_lk ?_) | ((with_reducible (first | apply gd_not | apply gd_of | apply gq_not | apply gq_of | apply pickB_of)) <;> intro hc <;> (try simp -implicitDefEqProofs (disch := omega) only [go_sem, hc, wrap_id, get_of_lt hlt, h3']) <;> (try simp only [reduceCtorEq, bD, beq_iff_eq] at hc) <;> (try (exfalso; omega))) | done) <;> (try simp -implicitDefEqProofs (disch := omega) only [go_sem, wrap_id, get_of_lt hlt, h3'])))
      all_goals exact ⟨n - 1, by omega, i + 1, by omega, rfl, hg⟩
  · rw [List.drop_eq_nil_of_le (by omega), List.any_nil] at hg
    repeat' (first | with_reducible (first | refine am_seq ?_ | refine am_block ?_) | ((with_reducible apply am_cond); (case hb => rfl); all_goals (intro hc; (try simp only [reduceCtorEq, bD, beq_iff_eq] at hc); (try (exfalso; omega)))) | ((first | with_reducible (first | refine am_reg ?_ | refine am_skip ?_ | refine am_exit ?_ | refine am_ret ?_ | refine vc_intro ?_ | refine need_elems (by assumption) ?_ | refine vlen_acc (by assumption) ?_ | refine need_bytes (by assumption) ?_ | refine need_lk ?_) | ((with_reducible (first | apply gd_not | apply gd_of | apply gq_not | apply gq_of | apply pickB_of)) <;> intro hc <;> (try simp -implicitDefEqProofs (disch := omega) only [go_sem, hc, wrap_id]) <;> (try simp only [reduceCtorEq, bD, beq_iff_eq] at hc) <;> (try (exfalso; omega))) | done) <;> (try simp -implicitDefEqProofs (disch := omega) only [go_sem, wrap_id])))
    refine am_loop (fun n a H2 => ∃ j : Nat, j + n = ss.length ∧ a = [(0, .sl 2 (ntsE l) t), (1, .sl 1 (strsE ss) k), (6, .int .i64 j)] ∧ H2 = H' ∧ ss.any (fun n => decide (100 < n.length)) = (ss.drop j).any (fun n => decide (100 < n.length))) ?_ ss.length ⟨0, by omega, rfl, rfl, rfl⟩
    rintro n2 a H2 ⟨j, hj, rfl, rfl, hg2⟩
    by_cases hlt2 : j < ss.length
    · rw [List.drop_eq_getElem_cons hlt2, List.any_cons] at hg2
      by_cases h3 : 100 < ss[j].length
      · have h3' : (100 : Int) < (ss[j].length : Int) := by omega
        repeat' (first | with_reducible (first | refine am_seq ?_ | refine am_block ?_) | ((with_reducible apply am_cond); (case hb => rfl); all_goals (intro hc; (try simp only [reduceCtorEq, bD, beq_iff_eq] at hc); (try (exfalso; omega)))) | ((first | with_reducible (first | refine am_reg ?_ | refine am_skip ?_ | refine am_exit ?_ | refine am_ret ?_ | refine vc_intro ?_ | refine need_elems (by assumption) ?_ | refine vlen_acc (by assumption) ?_ | refine need_bytes (by assumption) ?_ | refine need_lk ?_) | ((with_reducible (first | apply gd_not | apply gd_of | apply gq_not | apply gq_of | apply pickB_of)) <;> intro hc <;> (try simp -implicitDefEqProofs (disch := omega) only [go_sem, hc, wrap_id, get_of_lt hlt2, h3']) <;> (try simp only [reduceCtorEq, bD, beq_iff_eq] at hc) <;> (try (exfalso; omega))) | done) <;> (try simp -implicitDefEqProofs (disch := omega) only [go_sem, wrap_id, get_of_lt hlt2, h3'])))
        all_goals (rw [greatN, hg, hg2]; simp only [h3, decide_true, Bool.true_or, Bool.or_true]; exact end_same)
      · have h3' : ¬ (100 : Int) < (ss[j].length : Int) := by omega
        rw [decide_eq_false h3, Bool.false_or] at hg2
        repeat' (first | with_reducible (first | refine am_seq ?_ | refine am_block ?_) | ((with_reducible apply am_cond); (case hb => rfl); all_goals (intro hc; (try simp only [reduceCtorEq, bD, beq_iff_eq] at hc); (try (exfalso; omega)))) | ((first | with_reducible (first | refine am_reg ?_ | refine am_skip ?_ | refine am_exit ?_ | refine am_ret ?_ | refine vc_intro ?_ | refine need_elems (by assumption) ?_ | refine vlen_acc (by assumption) ?_ | refine need_bytes (by assumption) ?_ | refine need_lk ?_) | ((with_reducible (first | apply gd_not | apply gd_of | apply gq_not | apply gq_of | apply pickB_of)) <;> intro hc <;> (try simp -implicitDefEqProofs (disch := omega) only [go_sem, hc, wrap_id, get_of_lt hlt2, h3']) <;> (try simp only [reduceCtorEq, bD, beq_iff_eq] at hc) <;> (try (exfalso; omega))) | done) <;> (try simp -implicitDefEqProofs (disch := omega) only [go_sem, wrap_id, get_of_lt hlt2, h3'])))
        all_goals exact ⟨n2 - 1, by omega, j + 1, by omega, rfl, hg2⟩
    · rw [List.drop_eq_nil_of_le (by omega), List.any_nil] at hg2
      by_cases h30 : 30 < l.length
      · have h30' : (30 : Int) < (l.length : Int) := by omega
        repeat' (first | with_reducible (first | refine am_seq ?_ | refine am_block ?_) | ((with_reducible apply am_cond); (case hb => rfl); all_goals (intro hc; (try simp only [reduceCtorEq, bD, beq_iff_eq] at hc); (try (exfalso; omega)))) | ((first | with_reducible (first | refine am_reg ?_ | refine am_skip ?_ | refine am_exit ?_ | refine am_ret ?_ | refine vc_intro ?_ | refine need_elems (by assumption) ?_ | refine vlen_acc (by assumption) ?_ | refine need_bytes (by assumption) ?_ | refine need_lk ?_) | ((with_reducible (first | apply gd_not | apply gd_of | apply gq_not | apply gq_of | apply pickB_of)) <;> intro hc <;> (try simp -implicitDefEqProofs (disch := omega) only [go_sem, hc, wrap_id, h30']) <;> (try simp only [reduceCtorEq, bD, beq_iff_eq] at hc) <;> (try (exfalso; omega))) | done) <;> (try simp -implicitDefEqProofs (disch := omega) only [go_sem, wrap_id, h30'])))
        all_goals (rw [greatN, hg, hg2]; simp only [h30, decide_true, Bool.true_or, Bool.or_true]; exact end_same)
      · have h30' : ¬ (30 : Int) < (l.length : Int) := by omega
        repeat' (first | with_reducible (first | refine am_seq ?_ | refine am_block ?_) | ((with_reducible apply am_cond); (case hb => rfl); all_goals (intro hc; (try simp only [reduceCtorEq, bD, beq_iff_eq] at hc); (try (exfalso; omega)))) | ((first | with_reducible (first | refine am_reg ?_ | refine am_skip ?_ | refine am_exit ?_ | refine am_ret ?_ | refine vc_intro ?_ | refine need_elems (by assumption) ?_ | refine vlen_acc (by assumption) ?_ | refine need_bytes (by assumption) ?_ | refine need_lk ?_) | ((with_reducible (first | apply gd_not | apply gd_of | apply gq_not | apply gq_of | apply pickB_of)) <;> intro hc <;> (try simp -implicitDefEqProofs (disch := omega) only [go_sem, hc, wrap_id, h30']) <;> (try simp only [reduceCtorEq, bD, beq_iff_eq] at hc) <;> (try (exfalso; omega))) | done) <;> (try simp -implicitDefEqProofs (disch := omega) only [go_sem, wrap_id, h30'])))
        all_goals (rw [greatN, hg, hg2, decide_eq_false h30, show decide (20 < ss.length) = decide (20 < (ss.length : Int)) by rw [decide_eq_decide]; omega]; exact end_same)
theorem nil_arg {s : St} {sz : Nat} : ∀ x, s.val .nilSl x → s.val (.sl sz [] .no) x := fun x h => nil_no x h
theorem awake_calls (H : AH) : ACalls Try.prog 16 [] H (fun o H' => o = .ret (.bool true) ∧ H' = H) := by
  refine ACalls.drop ?_
  refine acalls Try.func16 c16 r16 (by simp [Try.ntmps16]) ?_
  have t1 : textS [] [110, 111, 10, 112, 97, 115, 115] = [110, 111, 63, 112, 97, 115, 115] := by
    simp [textS, cleanS, bgS, cutS, pr]
  have t2 : textS [[115, 101, 99, 114, 101, 116]] [109, 121, 32, 115, 101, 99, 114, 101, 116] = [109, 121, 32, 42, 42, 42] := by
    simp [textS, cleanS, bgS, cutS, pr, pfx, stars]
  have c1 := fun G => ACalls.sub (fun s => .cons (fun _ h => h) (.cons nil_arg .nil)) (text_calls (t := [110, 111, 10, 112, 97, 115, 115]) (l := []) (k := .no) (by simp) (by simp) G)
  have c2 := fun G => text_calls (t := [109, 121, 32, 115, 101, 99, 114, 101, 116]) (l := [[115, 101, 99, 114, 101, 116]]) (k := .tight) (by simp) (by simp) G
  have c3 := fun G => fails_calls (l := [⟨true, []⟩]) (t := .tight) (by simp) G
  rw [t1] at c1
  rw [t2] at c2
  simp only [strsE, ntsE, ntC, List.map_cons, List.map_nil, List.any_cons, List.any_nil, Bool.or_false] at c1 c2 c3
  repeat' (first | with_reducible (first | refine am_seq ?_ | refine am_block ?_) | ((with_reducible apply am_cond); (case hb => rfl); all_goals (intro hc; (try simp only [reduceCtorEq, bD, beq_iff_eq] at hc); (try (exfalso; omega)))) | ((first | with_reducible (first | refine am_reg ?_ | refine am_skip ?_ | refine am_exit ?_ | refine am_ret ?_ | refine vc_intro ?_ | refine need_elems (by assumption) ?_ | refine vlen_acc (by assumption) ?_ | refine need_bytes (by assumption) ?_ | refine call_of (c1) ?_ | refine qcall_of (c1) ?_ | refine call_of (c2) ?_ | refine qcall_of (c2) ?_ | refine call_of (c3) ?_ | refine qcall_of (c3) ?_ | refine need_lk ?_) | ((with_reducible (first | apply gd_not | apply gd_of | apply gq_not | apply gq_of | apply pickB_of)) <;> intro hc <;> (try simp -implicitDefEqProofs (disch := omega) only [go_sem, hc, wrap_id]) <;> (try simp only [reduceCtorEq, bD, beq_iff_eq] at hc) <;> (try (exfalso; omega))) | ((with_reducible refine alloc_intro (fun ko hko => ?_)) <;> (try have hne := fresh_ne (by assumption) hko) <;> (try have hnk := fresh_ne hk hko) <;> (try have hnk2 := fresh_ne hk2 hko) <;> (try simp only [AH.put_none] at hko)) | done) <;> (try simp -implicitDefEqProofs (disch := omega) only [go_sem, wrap_id])))
  all_goals exact end_same
end Go.Proofs.Ytjlphncecdlmcaa
