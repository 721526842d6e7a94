/- Of the walks of this seat: contracts of functions of the given program, proved over the abstract values of the texts Vm. Conditions: as each theorem says. -/
import Derived.Test.YtjlphncecdlmcaaBd
import Derived.Test.YtjlphncecdlmcaaNA
import Derived.Test.YtjlphncecdlmcaaVm33
import Derived.Test.YtjlphncecdlmcaaVm36
import Derived.KernelRfl
set_option linter.unusedVariables false
set_option linter.unusedSimpArgs false
namespace Go.Proofs.Ytjlphncecdlmcaa
open Go.Vm
attribute [local go_sem] eq_self decide_true decide_false AH.put_ne
attribute [local go_sem_proc] Nat.reduceBEq Nat.reduceAdd Nat.reduceSub Nat.reduceMul Nat.reduceEqDiff Nat.reduceLeDiff Nat.reduceLT Int.reduceLE Int.reduceLT Int.reduceToNat Int.reduceAdd Int.reduceEq Int.reduceNeg
attribute [local go_sem] List.drop_zero toNat_succ Nat.sub_zero Int.toNat_natCast Option.map_some Int.natCast_nonneg decide_eq_true_eq decide_eq_false_iff_not
/- slices.swapRangeCmpFunc[flange/diag.Note] -/
abbrev k169_0 : MC :=
 .cond (.t 13) (.skip) (.exit 0)
abbrev k169_1 : MC :=
 .reg [
 ⟨some 14, none, .val (.mv (.t 10))⟩,
 ⟨some 15, none, .val (.bin .add .num (.t 14) (.c (.int .i64 1)))⟩,
 ⟨some 10, none, .val (.mv (.t 15))⟩] [0, 1, 2, 3, 10]
abbrev k169_2 : MC :=
 (.seq (.block 1 (.drw [
 ⟨some 16, none, .val (.mv (.t 0))⟩,
 ⟨some 17, none, .val (.mv (.t 1))⟩,
 ⟨some 18, none, .val (.mv (.t 10))⟩,
 ⟨some 19, none, .val (.bin .add .num (.t 17) (.t 18))⟩,
 ⟨some 20, none, .val (.mv (.t 0))⟩,
 ⟨some 21, none, .val (.mv (.t 2))⟩,
 ⟨some 22, none, .val (.mv (.t 10))⟩,
 ⟨some 23, none, .val (.bin .add .num (.t 21) (.t 22))⟩,
 ⟨some 24, none, .val (.mv (.t 0))⟩,
 ⟨some 25, none, .val (.mv (.t 2))⟩,
 ⟨some 26, none, .val (.mv (.t 10))⟩,
 ⟨some 27, none, .val (.bin .add .num (.t 25) (.t 26))⟩,
 ⟨some 28, none, .val (.iaddr 2 (.t 24) (.t 27))⟩,
 ⟨some 29, none, .val (.load true 2 (.t 28))⟩,
 ⟨some 30, none, .val (.mv (.t 0))⟩,
 ⟨some 31, none, .val (.mv (.t 1))⟩,
 ⟨some 32, none, .val (.mv (.t 10))⟩,
 ⟨some 33, none, .val (.bin .add .num (.t 31) (.t 32))⟩,
 ⟨some 34, none, .val (.iaddr 2 (.t 30) (.t 33))⟩,
 ⟨some 35, none, .val (.load true 2 (.t 34))⟩,
 ⟨some 36, none, .val (.iaddr 2 (.t 16) (.t 19))⟩,
 ⟨some 37, none, .val (.iaddr 2 (.t 20) (.t 23))⟩] [
 ⟨none, none, .store 2 (.t 36) (.t 29)⟩,
 ⟨none, none, .store 2 (.t 37) (.t 35)⟩] [0, 1, 2, 3, 10])) k169_1)
abbrev k169_3 : MC :=
 (.seq ((.seq (.reg [
 ⟨some 11, none, .val (.mv (.t 10))⟩,
 ⟨some 12, none, .val (.mv (.t 3))⟩,
 ⟨some 13, none, .val (.bin .lss .num (.t 11) (.t 12))⟩] [0, 1, 2, 3, 10, 13]) k169_0)) k169_2)
abbrev k169_4 : MC :=
 .block 0 (.loop k169_3)
abbrev k169 : MC :=
 (.seq (.reg [
 ⟨some 10, none, .val (.mv (.c (.int .i64 0)))⟩] [0, 1, 2, 3, 10]) k169_4)
theorem c169 : Try.f169.body.bind (mcOf Try.prog (List.contains [] ·) (List.getD [([], [0, 1, 2, 3, 10]), ([], [0, 1, 2, 3, 10, 13]), ([], [0, 1, 2, 3, 10]), ([0, 0, 0, 0, 0, 0, 0, 0, 0, 0, 0, 0, 0, 0, 0, 0, 0, 0, 0, 0, 0, 2, 0, 2], [0, 1, 2, 3, 10])] · ([], [])) 38) = some k169 := by kernel_rfl
theorem r169 : rvsOf Try.prog Try.f169.results.toList = some [] := by kernel_rfl
abbrev ntO (l : List Nt) : AObj := .cells (ntsF l)
theorem swapr_calls {P A M B S : List Nt} {n N k : Nat} {c : V} {H : AH} (hA : A.length = n) (hB : B.length = n) (hN : (P ++ A ++ M ++ B ++ S).length = N) (hs : N ≤ 1000) (hk : H k = some (ntO (P ++ A ++ M ++ B ++ S))) :
    ACalls Try.prog 169 [.msl k 2 0 N, .int .i64 P.length, .int .i64 ((P.length + n + M.length : Nat) : Int), .int .i64 n, c] H (fun o H' => o = .ret unitV ∧ H' = H.put k (ntO (P ++ B ++ M ++ A ++ S))) := by
  have hNl : P.length + n + M.length + n + S.length = N := by simp [hA, hB] at hN; omega
  refine acalls Try.func169 c169 r169 (by simp [Try.ntmps169]) ?_
  repeat' (first | with_reducible (first | refine am_seq ?_ | refine am_block ?_) | ((with_reducible apply am_cond); (case hb => rfl); all_goals (intro hc; (try simp only [reduceCtorEq, bD, beq_iff_eq] at hc); (try (exfalso; omega)))) | ((first | with_reducible (first | refine am_reg ?_ | refine am_drw ?_ | refine am_skip ?_ | refine am_exit ?_ | refine am_ret ?_ | refine vc_intro ?_ | refine need_elems (by assumption) ?_ | refine vlen_acc (by assumption) ?_ | refine need_bytes (by assumption) ?_ | refine need_lk ?_) | done) <;> (try simp -implicitDefEqProofs (disch := omega) only [go_sem])))
  refine am_loop (fun m a H' => ∃ i : Nat, i + m = n ∧ a = [(0, .msl k 2 0 N), (1, .int .i64 P.length), (2, .int .i64 ((P.length + n + M.length : Nat) : Int)), (3, .int .i64 n), (10, .int .i64 i)] ∧ H' = H.put k (ntO ((P ++ B.take i) ++ (A.drop i ++ M ++ A.take i) ++ (B.drop i ++ S)))) ?_ n ⟨0, by omega, rfl, by rw [put_self]; rw [hk]; simp only [List.take_zero, List.append_nil, List.drop_zero, List.append_assoc]⟩
  rintro m a H' ⟨i, hi, rfl, rfl⟩
  by_cases hlt : i < n
  · have hdA : A.drop i = A[i] :: A.drop (i + 1) := List.drop_eq_getElem_cons (by omega)
    have hdB : B.drop i = B[i] :: B.drop (i + 1) := List.drop_eq_getElem_cons (by omega)
    have htA : A.take (i + 1) = A.take i ++ [A[i]] := List.take_succ_eq_append_getElem (by omega)
    have htB : B.take (i + 1) = B.take i ++ [B[i]] := List.take_succ_eq_append_getElem (by omega)
    have hX : (P ++ B.take i).length = P.length + i := by simp; omega
    have hY : (A.drop (i + 1) ++ M ++ A.take i).length = n - 1 + M.length := by simp; omega
    have hcur : (P ++ B.take i) ++ (A.drop i ++ M ++ A.take i) ++ (B.drop i ++ S) = (P ++ B.take i) ++ A[i] :: (A.drop (i + 1) ++ M ++ A.take i) ++ B[i] :: (B.drop (i + 1) ++ S) := by rw [hdA, hdB]; simp only [List.append_assoc, List.cons_append, List.nil_append]
    have hnext : (P ++ B.take (i + 1)) ++ (A.drop (i + 1) ++ M ++ A.take (i + 1)) ++ (B.drop (i + 1) ++ S) = (P ++ B.take i) ++ B[i] :: (A.drop (i + 1) ++ M ++ A.take i) ++ A[i] :: (B.drop (i + 1) ++ S) := by rw [htA, htB]; simp only [List.append_assoc, List.cons_append, List.nil_append]
    rw [hcur]
    have g1 := get2a (P ++ B.take i) (A.drop (i + 1) ++ M ++ A.take i) (B.drop (i + 1) ++ S) A[i] B[i]
    have g2 := get2b (P ++ B.take i) (A.drop (i + 1) ++ M ++ A.take i) (B.drop (i + 1) ++ S) A[i] B[i]
    have g3 := set2 (P ++ B.take i) (A.drop (i + 1) ++ M ++ A.take i) (B.drop (i + 1) ++ S) A[i] B[i]
    rw [← hnext] at g3
    have hq : (P ++ B.take i).length + 1 + (A.drop (i + 1) ++ M ++ A.take i).length = P.length + n + M.length + i := by rw [hX, hY]; omega
    rw [hX] at g1
    rw [hq] at g2 g3
    rw [hX] at g3
    have hcl : ((P ++ B.take i) ++ A[i] :: (A.drop (i + 1) ++ M ++ A.take i) ++ B[i] :: (B.drop (i + 1) ++ S)).length = N := by
      rw [List.length_append, List.length_append, List.length_cons, List.length_cons, hX, hY]; simp; omega
    generalize ((P ++ B.take i) ++ A[i] :: (A.drop (i + 1) ++ M ++ A.take i) ++ B[i] :: (B.drop (i + 1) ++ S)) = cur at *
    generalize A[i] = x at *
    generalize B[i] = y at *
    have p1 := ntsF_pick g1
    have p2 := ntsF_pick g2
    have s1 := ntsF_set (l := cur) (i := P.length + i) y (by omega)
    have s2 := ntsF_set (l := cur.set (P.length + i) y) (i := P.length + n + M.length + i) x (by rw [List.length_set]; omega)
    rw [g3] at s2
    have e1 : (P.length : Int) + (i : Int) = ((P.length + i : Nat) : Int) := by omega
    have e2 : ((P.length + n + M.length : Nat) : Int) + (i : Int) = ((P.length + n + M.length + i : Nat) : Int) := by omega
    repeat' (first | with_reducible (first | refine am_seq ?_ | refine am_block ?_) | ((with_reducible apply am_cond); (case hb => rfl); all_goals (intro hc; (try simp only [reduceCtorEq, bD, beq_iff_eq] at hc); (try (exfalso; omega)))) | ((first | with_reducible (first | refine am_reg ?_ | refine am_drw ?_ | refine am_skip ?_ | refine am_exit ?_ | refine am_ret ?_ | refine vc_intro ?_ | refine need_elems (by assumption) ?_ | refine vlen_acc (by assumption) ?_ | refine need_bytes (by assumption) ?_ | refine need_lk ?_) | done) <;> (try simp -implicitDefEqProofs (disch := omega) only [go_sem, wrap_id, e1, e2, p1, p2, Nat.zero_add, AH.put_same, AH.put_put, s1, s2, ntsF_len, List.length_set, hcl])))
    all_goals exact ⟨m - 1, by omega, i + 1, by omega, rfl, rfl⟩
  · have e : i = n := by omega
    subst e
    rw [List.take_of_length_le (by omega), List.drop_eq_nil_of_le (by omega), List.take_of_length_le (by omega), List.drop_eq_nil_of_le (by omega)]
    repeat' (first | with_reducible (first | refine am_seq ?_ | refine am_block ?_) | ((with_reducible apply am_cond); (case hb => rfl); all_goals (intro hc; (try simp only [reduceCtorEq, bD, beq_iff_eq] at hc); (try (exfalso; omega)))) | ((first | with_reducible (first | refine am_reg ?_ | refine am_drw ?_ | refine am_skip ?_ | refine am_exit ?_ | refine am_ret ?_ | refine vc_intro ?_ | refine need_elems (by assumption) ?_ | refine vlen_acc (by assumption) ?_ | refine need_bytes (by assumption) ?_ | refine need_lk ?_) | done) <;> (try simp -implicitDefEqProofs (disch := omega) only [go_sem])))
    all_goals exact ⟨rfl, by simp only [List.append_assoc, List.nil_append]⟩
end Go.Proofs.Ytjlphncecdlmcaa
namespace Go.Proofs.Ytjlphncecdlmcaa
open Go.Vm
attribute [local go_sem] eq_self decide_true decide_false AH.put_ne
attribute [local go_sem_proc] Nat.reduceBEq Nat.reduceAdd Nat.reduceSub Nat.reduceMul Nat.reduceEqDiff Nat.reduceLeDiff Nat.reduceLT Int.reduceLE Int.reduceLT Int.reduceToNat Int.reduceAdd Int.reduceEq Int.reduceNeg
attribute [local go_sem] List.drop_zero toNat_succ Nat.sub_zero Int.toNat_natCast Option.map_some Int.natCast_nonneg decide_eq_true_eq decide_eq_false_iff_not
/- slices.rotateCmpFunc[flange/diag.Note] -/
abbrev k154_0 : MC :=
 .cond (.t 20) (.skip) (.exit 0)
abbrev k154_1 : MC :=
 .reg [
 ⟨some 32, none, .val (.mv (.t 10))⟩,
 ⟨some 33, none, .val (.mv (.t 11))⟩,
 ⟨some 34, none, .val (.bin .sub .num (.t 32) (.t 33))⟩,
 ⟨some 10, none, .val (.mv (.t 34))⟩] [0, 2, 4, 10, 11]
abbrev k154_2 : MC :=
 .reg [
 ⟨some 47, none, .val (.mv (.t 11))⟩,
 ⟨some 48, none, .val (.mv (.t 10))⟩,
 ⟨some 49, none, .val (.bin .sub .num (.t 47) (.t 48))⟩,
 ⟨some 11, none, .val (.mv (.t 49))⟩] [0, 2, 4, 10, 11]
abbrev k154_3 : MC :=
 .cond (.t 23) ((.seq (.reg [
 ⟨some 24, none, .val (.mv (.t 0))⟩,
 ⟨some 25, none, .val (.mv (.t 2))⟩,
 ⟨some 26, none, .val (.mv (.t 10))⟩,
 ⟨some 27, none, .val (.bin .sub .num (.t 25) (.t 26))⟩,
 ⟨some 28, none, .val (.mv (.t 2))⟩,
 ⟨some 29, none, .val (.mv (.t 11))⟩,
 ⟨some 30, none, .val (.mv (.t 4))⟩,
 ⟨some 31, none, .call 169 [(.t 24), (.t 27), (.t 28), (.t 29), (.t 30)]⟩] [0, 2, 4, 10, 11]) k154_1)) ((.seq (.reg [
 ⟨some 35, none, .val (.mv (.t 0))⟩,
 ⟨some 36, none, .val (.mv (.t 2))⟩,
 ⟨some 37, none, .val (.mv (.t 10))⟩,
 ⟨some 38, none, .val (.bin .sub .num (.t 36) (.t 37))⟩,
 ⟨some 39, none, .val (.mv (.t 2))⟩,
 ⟨some 40, none, .val (.mv (.t 11))⟩,
 ⟨some 41, none, .val (.bin .add .num (.t 39) (.t 40))⟩,
 ⟨some 42, none, .val (.mv (.t 10))⟩,
 ⟨some 43, none, .val (.bin .sub .num (.t 41) (.t 42))⟩,
 ⟨some 44, none, .val (.mv (.t 10))⟩,
 ⟨some 45, none, .val (.mv (.t 4))⟩,
 ⟨some 46, none, .call 169 [(.t 35), (.t 38), (.t 43), (.t 44), (.t 45)]⟩] [0, 2, 4, 10, 11]) k154_2))
abbrev k154_4 : MC :=
 .block 1 ((.seq (.reg [
 ⟨some 21, none, .val (.mv (.t 10))⟩,
 ⟨some 22, none, .val (.mv (.t 11))⟩,
 ⟨some 23, none, .val (.bin .gtr .num (.t 21) (.t 22))⟩] [0, 2, 4, 10, 11, 23]) k154_3))
abbrev k154_5 : MC :=
 (.seq ((.seq (.reg [
 ⟨some 18, none, .val (.mv (.t 10))⟩,
 ⟨some 19, none, .val (.mv (.t 11))⟩,
 ⟨some 20, none, .val (.bin .neq .num (.t 18) (.t 19))⟩] [0, 2, 4, 10, 11, 20]) k154_0)) k154_4)
abbrev k154_6 : MC :=
 .reg [
 ⟨some 50, none, .val (.mv (.t 0))⟩,
 ⟨some 51, none, .val (.mv (.t 2))⟩,
 ⟨some 52, none, .val (.mv (.t 10))⟩,
 ⟨some 53, none, .val (.bin .sub .num (.t 51) (.t 52))⟩,
 ⟨some 54, none, .val (.mv (.t 2))⟩,
 ⟨some 55, none, .val (.mv (.t 10))⟩,
 ⟨some 56, none, .val (.mv (.t 4))⟩,
 ⟨some 57, none, .call 169 [(.t 50), (.t 53), (.t 54), (.t 55), (.t 56)]⟩] []
abbrev k154_7 : MC :=
 (.seq (.block 0 (.loop k154_5)) k154_6)
abbrev k154_8 : MC :=
 (.seq (.reg [
 ⟨some 15, none, .val (.mv (.t 3))⟩,
 ⟨some 16, none, .val (.mv (.t 2))⟩,
 ⟨some 17, none, .val (.bin .sub .num (.t 15) (.t 16))⟩,
 ⟨some 11, none, .val (.mv (.t 17))⟩] [0, 2, 4, 10, 11]) k154_7)
abbrev k154 : MC :=
 (.seq (.reg [
 ⟨some 12, none, .val (.mv (.t 2))⟩,
 ⟨some 13, none, .val (.mv (.t 1))⟩,
 ⟨some 14, none, .val (.bin .sub .num (.t 12) (.t 13))⟩,
 ⟨some 10, none, .val (.mv (.t 14))⟩] [0, 2, 3, 4, 10]) k154_8)
theorem c154 : Try.f154.body.bind (mcOf Try.prog (List.contains [] ·) (List.getD [([], [0, 2, 3, 4, 10]), ([], [0, 2, 4, 10, 11]), ([], [0, 2, 4, 10, 11, 20]), ([], [0, 2, 4, 10, 11, 23]), ([], [0, 2, 4, 10, 11]), ([], [0, 2, 4, 10, 11]), ([], [0, 2, 4, 10, 11]), ([], [0, 2, 4, 10, 11]), ([], [])] · ([], [])) 58) = some k154 := by kernel_rfl
theorem r154 : rvsOf Try.prog Try.f154.results.toList = some [] := by kernel_rfl
theorem swapr_I {P A M B S L : List Nt} {N k : Nat} {p q r : Int} {c : V} {H : AH} (hp : p = P.length) (hq : q = P.length + A.length + M.length) (hr : r = A.length) (hAB : B.length = A.length) (hL : L = P ++ A ++ M ++ B ++ S) (hN : L.length = N) (hs : N ≤ 1000) (hk : H k = some (ntO L)) :
    ACalls Try.prog 169 [.msl k 2 0 N, .int .i64 p, .int .i64 q, .int .i64 r, c] H (fun o H' => o = .ret unitV ∧ H' = H.put k (ntO (P ++ B ++ M ++ A ++ S))) := by
  subst hL
  have := swapr_calls (P := P) (A := A) (M := M) (B := B) (S := S) (n := A.length) (c := c) rfl hAB hN hs hk
  have e : ((P.length + A.length + M.length : Nat) : Int) = q := by omega
  rw [e, ← hp, ← hr] at this
  exact this
theorem rot_calls {P A B S L : List Nt} {N k : Nat} {a m b : Int} {c : V} {H : AH} (ha : a = P.length) (hm : m = P.length + A.length) (hb : b = P.length + A.length + B.length) (hA : 0 < A.length) (hB : 0 < B.length) (hL : L = P ++ A ++ B ++ S) (hN : L.length = N) (hs : N ≤ 1000) (hk : H k = some (ntO L)) :
    ACalls Try.prog 154 [.msl k 2 0 N, .int .i64 a, .int .i64 m, .int .i64 b, c] H (fun o H' => o = .ret unitV ∧ H' = H.put k (ntO (P ++ B ++ A ++ S))) := by
  have hlen : P.length + A.length + B.length + S.length = N := by rw [hL] at hN; simp at hN; omega
  have e1 : m - a = A.length := by omega
  have e2 : b - m = B.length := by omega
  refine acalls Try.func154 c154 r154 (by simp [Try.ntmps154]) ?_
  repeat' (first | with_reducible (first | refine am_seq ?_ | refine am_block ?_) | ((with_reducible apply am_cond); (case hb => rfl); all_goals (intro hc; (try simp only [reduceCtorEq, bD, beq_iff_eq] at hc); (try (exfalso; omega)))) | ((first | with_reducible (first | refine am_reg ?_ | refine am_skip ?_ | refine am_exit ?_ | refine am_ret ?_ | refine vc_intro ?_ | refine need_elems (by assumption) ?_ | refine vlen_acc (by assumption) ?_ | refine need_bytes (by assumption) ?_ | refine need_lk ?_) | done) <;> (try simp -implicitDefEqProofs (disch := omega) only [go_sem, wrap_id, e1, e2])))
  refine am_loop (fun n st H' => ∃ P' A' B' S' : List Nt, n = A'.length + B'.length ∧ 0 < A'.length ∧ 0 < B'.length ∧ (P'.length : Int) + A'.length = m ∧ P'.length + A'.length + B'.length + S'.length = N ∧ P' ++ B' ++ A' ++ S' = P ++ B ++ A ++ S ∧ st = [(0, .msl k 2 0 N), (2, .int .i64 m), (4, c), (10, .int .i64 A'.length), (11, .int .i64 B'.length)] ∧ H' = H.put k (ntO (P' ++ A' ++ B' ++ S'))) ?_ (A.length + B.length) ⟨P, A, B, S, rfl, hA, hB, by omega, hlen, rfl, rfl, by rw [put_self]; rw [hk, hL]⟩
  rintro n st H' ⟨P', A', B', S', rfl, hA', hB', hm', hlen', hgoal, rfl, rfl⟩
  by_cases heq : A'.length = B'.length
  · have h1 : ((A'.length : Nat) : Int) = ((B'.length : Nat) : Int) := by omega
    have h2 := fun (G : AH) (hG : G k = some (ntO (P' ++ A' ++ B' ++ S'))) (p q r : Int) (hp : p = P'.length) (hq : q = P'.length + A'.length) (hr : r = A'.length) => swapr_I (P := P') (A := A') (M := []) (B := B') (S := S') (c := c) (H := G) hp (by simpa using hq) hr heq.symm (by simp) (by simp; omega) hs hG
    repeat' (first | with_reducible (first | refine am_seq ?_ | refine am_block ?_) | ((with_reducible apply am_cond); (case hb => rfl); all_goals (intro hc; (try simp only [reduceCtorEq, bD, beq_iff_eq] at hc); (try (exfalso; omega)))) | ((first | with_reducible (first | refine am_reg ?_ | refine am_skip ?_ | refine am_exit ?_ | refine am_ret ?_ | refine vc_intro ?_ | refine need_elems (by assumption) ?_ | refine vlen_acc (by assumption) ?_ | refine need_bytes (by assumption) ?_ | refine call_turn (h2 _ (AH.put_same _ _ _) _ _ _ (by omega) (by omega) (by omega)) ?_ | refine need_lk ?_) | done) <;> (try simp -implicitDefEqProofs (disch := omega) only [go_sem, wrap_id, h1, bne_self_eq_false])))
    all_goals exact ⟨rfl, by rw [← hgoal]; simp only [List.append_assoc, List.nil_append]⟩
  · have h1 : ¬ ((A'.length : Nat) : Int) = ((B'.length : Nat) : Int) := by omega
    by_cases hgt : B'.length < A'.length
    · obtain ⟨A1, A2, rfl, l1⟩ : ∃ A1 A2 : List Nt, A' = A1 ++ A2 ∧ A1.length = B'.length := ⟨A'.take B'.length, A'.drop B'.length, (List.take_append_drop _ _).symm, by rw [List.length_take]; omega⟩
      rw [List.length_append] at heq h1 hgt hm' hlen' hA'
      have h3 : ((B'.length : Nat) : Int) < ((A1.length + A2.length : Nat) : Int) := by omega
      have h2 := fun (G : AH) (hG : G k = some (ntO (P' ++ (A1 ++ A2) ++ B' ++ S'))) (p q r : Int) (hp : p = P'.length) (hq : q = P'.length + A1.length + A2.length) (hr : r = A1.length) => swapr_I (P := P') (A := A1) (M := A2) (B := B') (S := S') (c := c) (H := G) hp hq hr l1.symm (by simp only [List.append_assoc]) (by simp only [List.length_append]; omega) hs hG
      have e3 : ((A1.length + A2.length : Nat) : Int) - ((B'.length : Nat) : Int) = ((A2.length : Nat) : Int) := by omega
      repeat' (first | with_reducible (first | refine am_seq ?_ | refine am_block ?_) | ((with_reducible apply am_cond); (case hb => rfl); all_goals (intro hc; (try simp only [reduceCtorEq, bD, beq_iff_eq] at hc); (try (exfalso; omega)))) | ((first | with_reducible (first | refine am_reg ?_ | refine am_skip ?_ | refine am_exit ?_ | refine am_ret ?_ | refine vc_intro ?_ | refine need_elems (by assumption) ?_ | refine vlen_acc (by assumption) ?_ | refine need_bytes (by assumption) ?_ | refine call_turn (h2 _ (AH.put_same _ _ _) _ _ _ (by omega) (by omega) (by omega)) ?_ | refine need_lk ?_) | done) <;> (try simp -implicitDefEqProofs (disch := omega) only [go_sem, wrap_id, List.length_append, h1, h3, e3, Bool.not_false])))
      all_goals exact ⟨A2.length + A1.length, by omega, P' ++ B', A2, A1, S', rfl, by omega, by omega, by rw [List.length_append]; omega, by rw [List.length_append]; omega, by rw [← hgoal]; simp only [List.append_assoc], by rw [l1], by simp only [List.append_assoc]⟩
    · have h3 : ¬ ((B'.length : Nat) : Int) < ((A'.length : Nat) : Int) := by omega
      obtain ⟨B1, B2, rfl, l1⟩ : ∃ B1 B2 : List Nt, B' = B1 ++ B2 ∧ B2.length = A'.length := ⟨B'.take (B'.length - A'.length), B'.drop (B'.length - A'.length), (List.take_append_drop _ _).symm, by rw [List.length_drop]; omega⟩
      rw [List.length_append] at heq h1 hgt h3 hlen' hB'
      have h2 := fun (G : AH) (hG : G k = some (ntO (P' ++ A' ++ (B1 ++ B2) ++ S'))) (p q r : Int) (hp : p = P'.length) (hq : q = P'.length + A'.length + B1.length) (hr : r = A'.length) => swapr_I (P := P') (A := A') (M := B1) (B := B2) (S := S') (c := c) (H := G) hp hq hr l1 (by simp only [List.append_assoc]) (by simp only [List.length_append]; omega) hs hG
      have e3 : ((B1.length + B2.length : Nat) : Int) - ((A'.length : Nat) : Int) = ((B1.length : Nat) : Int) := by omega
      repeat' (first | with_reducible (first | refine am_seq ?_ | refine am_block ?_) | ((with_reducible apply am_cond); (case hb => rfl); all_goals (intro hc; (try simp only [reduceCtorEq, bD, beq_iff_eq] at hc); (try (exfalso; omega)))) | ((first | with_reducible (first | refine am_reg ?_ | refine am_skip ?_ | refine am_exit ?_ | refine am_ret ?_ | refine vc_intro ?_ | refine need_elems (by assumption) ?_ | refine vlen_acc (by assumption) ?_ | refine need_bytes (by assumption) ?_ | refine call_turn (h2 _ (AH.put_same _ _ _) _ _ _ (by omega) (by omega) (by omega)) ?_ | refine need_lk ?_) | done) <;> (try simp -implicitDefEqProofs (disch := omega) only [go_sem, wrap_id, List.length_append, h1, h3, e3, Bool.not_false])))
      all_goals exact ⟨B2.length + B1.length, by omega, P', B2, B1, A' ++ S', rfl, by omega, by omega, by omega, by rw [List.length_append]; omega, by rw [← hgoal]; simp only [List.append_assoc], by rw [l1], by simp only [List.append_assoc]⟩
end Go.Proofs.Ytjlphncecdlmcaa
namespace Go.Proofs.Ytjlphncecdlmcaa
open Go.Vm
attribute [local go_sem] eq_self decide_true decide_false AH.put_ne
attribute [local go_sem_proc] Nat.reduceBEq Nat.reduceAdd Nat.reduceSub Nat.reduceMul Nat.reduceEqDiff Nat.reduceLeDiff Nat.reduceLT Int.reduceLE Int.reduceLT Int.reduceToNat Int.reduceAdd Int.reduceEq Int.reduceNeg
attribute [local go_sem] List.drop_zero toNat_succ Nat.sub_zero Int.toNat_natCast Option.map_some Int.natCast_nonneg decide_eq_true_eq decide_eq_false_iff_not
/- (flange/diag.Note).tag -/
abbrev k87_0 : MC :=
 .cond (.t 4) ((.seq (.reg [
 ⟨some 2, none, .val (.mv (.c (.int .i64 1)))⟩] [2]) (.ret))) (.skip)
abbrev k87_1 : MC :=
 (.seq (.reg [
 ⟨some 2, none, .val (.mv (.c (.int .i64 2)))⟩] [2]) (.ret))
abbrev k87_2 : MC :=
 (.seq ((.seq (.reg [
 ⟨some 3, none, .val (.faddr 0 (.t 1))⟩,
 ⟨some 4, none, .val (.load false 1 (.t 3))⟩] [4]) k87_0)) k87_1)
abbrev k87 : MC :=
 (.seq (.reg [
 ⟨some 1, none, .boxi (.t 0)⟩,
 ⟨some 2, none, .val (.mv (.c (.int .i64 0)))⟩] [1]) k87_2)
theorem c87 : Try.f87.body.bind (mcOf Try.prog (List.contains [1] ·) (List.getD [([], [1]), ([], [4]), ([], [2]), ([], [2])] · ([], [])) 5) = some k87 := by kernel_rfl
theorem r87 : rvsOf Try.prog Try.f87.results.toList = some [.tmp 2] := by kernel_rfl
/- flange/diag.Encode$1 -/
abbrev k86_0 : MC :=
 (.seq (.drw [
 ⟨some 5, none, .val (.load true 2 (.t 2))⟩,
 ⟨some 6, none, .call 87 [(.t 5)]⟩,
 ⟨some 7, none, .val (.load true 2 (.t 3))⟩,
 ⟨some 8, none, .call 87 [(.t 7)]⟩,
 ⟨some 9, none, .val (.bin .sub .num (.t 6) (.t 8))⟩,
 ⟨some 4, none, .val (.mv (.t 9))⟩] [
] [4]) (.ret))
abbrev k86 : MC :=
 (.seq (.reg [
 ⟨some 2, none, .boxi (.t 0)⟩,
 ⟨some 3, none, .boxi (.t 1)⟩,
 ⟨some 4, none, .val (.mv (.c (.int .i64 0)))⟩] [2, 3]) k86_0)
theorem c86 : Try.f86.body.bind (mcOf Try.prog (List.contains [2, 3] ·) (List.getD [([], [2, 3]), ([0, 0, 0, 0, 0, 0], [4])] · ([], [])) 10) = some k86 := by kernel_rfl
theorem r86 : rvsOf Try.prog Try.f86.results.toList = some [.tmp 4] := by kernel_rfl
/- slices.insertionSortCmpFunc[flange/diag.Note] -/
abbrev k138_0 : MC :=
 .cond (.t 14) (.skip) (.exit 0)
abbrev k138_1 : MC :=
 .cond (.t 34) (.skip) (.exit 2)
abbrev k138_2 : MC :=
 .reg [
 ⟨some 35, none, .val (.mv (.t 9))⟩,
 ⟨some 36, none, .val (.bin .sub .num (.t 35) (.c (.int .i64 1)))⟩,
 ⟨some 9, none, .val (.mv (.t 36))⟩] [0, 1, 2, 3, 8, 9]
abbrev k138_3 : MC :=
 (.seq (.block 3 (.drw [
 ⟨some 37, none, .val (.mv (.t 0))⟩,
 ⟨some 38, none, .val (.mv (.t 9))⟩,
 ⟨some 39, none, .val (.mv (.t 0))⟩,
 ⟨some 40, none, .val (.mv (.t 9))⟩,
 ⟨some 41, none, .val (.bin .sub .num (.t 40) (.c (.int .i64 1)))⟩,
 ⟨some 42, none, .val (.mv (.t 0))⟩,
 ⟨some 43, none, .val (.mv (.t 9))⟩,
 ⟨some 44, none, .val (.bin .sub .num (.t 43) (.c (.int .i64 1)))⟩,
 ⟨some 45, none, .val (.iaddr 2 (.t 42) (.t 44))⟩,
 ⟨some 46, none, .val (.load true 2 (.t 45))⟩,
 ⟨some 47, none, .val (.mv (.t 0))⟩,
 ⟨some 48, none, .val (.mv (.t 9))⟩,
 ⟨some 49, none, .val (.iaddr 2 (.t 47) (.t 48))⟩,
 ⟨some 50, none, .val (.load true 2 (.t 49))⟩,
 ⟨some 51, none, .val (.iaddr 2 (.t 37) (.t 38))⟩,
 ⟨some 52, none, .val (.iaddr 2 (.t 39) (.t 41))⟩] [
 ⟨none, none, .store 2 (.t 51) (.t 46)⟩,
 ⟨none, none, .store 2 (.t 52) (.t 50)⟩] [0, 1, 2, 3, 8, 9])) k138_2)
abbrev k138_4 : MC :=
 (.seq ((.seq (.drw [
 ⟨some 18, none, .val (.mv (.t 9))⟩,
 ⟨some 19, none, .val (.mv (.t 1))⟩,
 ⟨some 20, none, .val (.bin .gtr .num (.t 18) (.t 19))⟩,
 ⟨some 21, none, .val (.mv (.t 20))⟩,
 ⟨some 22, (some (21, true)), .val (.mv (.t 3))⟩,
 ⟨some 23, (some (21, true)), .val (.mv (.t 0))⟩,
 ⟨some 24, (some (21, true)), .val (.mv (.t 9))⟩,
 ⟨some 25, (some (21, true)), .val (.iaddr 2 (.t 23) (.t 24))⟩,
 ⟨some 26, (some (21, true)), .val (.load true 2 (.t 25))⟩,
 ⟨some 27, (some (21, true)), .val (.mv (.t 0))⟩,
 ⟨some 28, (some (21, true)), .val (.mv (.t 9))⟩,
 ⟨some 29, (some (21, true)), .val (.bin .sub .num (.t 28) (.c (.int .i64 1)))⟩,
 ⟨some 30, (some (21, true)), .val (.iaddr 2 (.t 27) (.t 29))⟩,
 ⟨some 31, (some (21, true)), .val (.load true 2 (.t 30))⟩] [
 ⟨some 32, (some (21, true)), .callv (.t 22) [(.t 26), (.t 31)]⟩,
 ⟨some 33, (some (21, true)), .val (.bin .lss .num (.t 32) (.c (.int .i64 0)))⟩,
 ⟨some 34, none, .val (.pick (.t 21) (.t 33) (.c (.bool false)))⟩] [0, 1, 2, 3, 8, 9, 34]) k138_1)) k138_3)
abbrev k138_5 : MC :=
 .block 2 (.loop k138_4)
abbrev k138_6 : MC :=
 .reg [
 ⟨some 15, none, .val (.mv (.t 8))⟩,
 ⟨some 16, none, .val (.bin .add .num (.t 15) (.c (.int .i64 1)))⟩,
 ⟨some 8, none, .val (.mv (.t 16))⟩] [0, 1, 2, 3, 8]
abbrev k138_7 : MC :=
 (.seq (.block 1 ((.seq (.reg [
 ⟨some 17, none, .val (.mv (.t 8))⟩,
 ⟨some 9, none, .val (.mv (.t 17))⟩] [0, 1, 2, 3, 8, 9]) k138_5))) k138_6)
abbrev k138_8 : MC :=
 (.seq ((.seq (.reg [
 ⟨some 12, none, .val (.mv (.t 8))⟩,
 ⟨some 13, none, .val (.mv (.t 2))⟩,
 ⟨some 14, none, .val (.bin .lss .num (.t 12) (.t 13))⟩] [0, 1, 2, 3, 8, 14]) k138_0)) k138_7)
abbrev k138_9 : MC :=
 .block 0 (.loop k138_8)
abbrev k138 : MC :=
 (.seq (.reg [
 ⟨some 10, none, .val (.mv (.t 1))⟩,
 ⟨some 11, none, .val (.bin .add .num (.t 10) (.c (.int .i64 1)))⟩,
 ⟨some 8, none, .val (.mv (.t 11))⟩] [0, 1, 2, 3, 8]) k138_9)
theorem c138 : Try.f138.body.bind (mcOf Try.prog (List.contains [] ·) (List.getD [([], [0, 1, 2, 3, 8]), ([], [0, 1, 2, 3, 8, 14]), ([], [0, 1, 2, 3, 8]), ([], [0, 1, 2, 3, 8, 9]), ([0, 0, 0, 0, 0, 0, 0, 0, 0, 0, 0, 0, 0, 0, 2, 2, 2], [0, 1, 2, 3, 8, 9, 34]), ([], [0, 1, 2, 3, 8, 9]), ([0, 0, 0, 0, 0, 0, 0, 0, 0, 0, 0, 0, 0, 0, 0, 2, 0, 2], [0, 1, 2, 3, 8, 9])] · ([], [])) 53) = some k138 := by kernel_rfl
theorem r138 : rvsOf Try.prog Try.f138.results.toList = some [] := by kernel_rfl
def tagI (x : Nt) : Int := if x.err then 1 else 2
theorem tag_calls (x : Nt) (H : AH) : ACalls Try.prog 87 [.agg [.bool x.err, .str x.txt]] H (fun o H' => o = .ret (.int .i64 (tagI x)) ∧ H' = H) := by
  refine ACalls.drop ?_
  unfold tagI
  refine acalls Try.func87 c87 r87 (by simp [Try.ntmps87]) ?_
  cases x.err
  all_goals repeat' (first | with_reducible (first | refine am_seq ?_ | refine am_block ?_) | ((with_reducible apply am_cond); (case hb => rfl); all_goals (intro hc; (try simp only [reduceCtorEq, bD, beq_iff_eq] at hc); (try (exfalso; omega)))) | ((first | with_reducible (first | refine am_reg ?_ | refine am_skip ?_ | refine am_exit ?_ | refine am_ret ?_ | refine vc_intro ?_ | refine need_elems (by assumption) ?_ | refine vlen_acc (by assumption) ?_ | refine need_bytes (by assumption) ?_ | refine need_lk ?_) | ((with_reducible refine alloc_intro (fun ko hko => ?_)) <;> (try have hne := fresh_ne (by assumption) hko) <;> (try have hnk := fresh_ne hk hko) <;> (try have hnk2 := fresh_ne hk2 hko) <;> (try simp only [AH.put_none] at hko)) | done) <;> (try simp -implicitDefEqProofs (disch := omega) only [go_sem, if_true, if_false, Bool.false_eq_true])))
  all_goals (refine drop_end (by (first | exact fun _ _ h => h | (intro s x h; first | exact no_sub _ h | exact nil_no _ h | exact AccP.sub (by assumption) _ _ h | (refine agg_sub rfl ?_ x h; repeat (first | exact .nil | refine .cons (fun _ h => h) ?_ | refine .cons (fun _ h => nil_no _ h) ?_ | refine .cons (fun _ h => no_sub _ h) ?_ | refine .cons (fun _ h => AccP.sub (by assumption) _ _ h) ?_)) | (refine tuple_sub ?_ x h; repeat (first | exact .nil | refine .cons (fun _ h => h) ?_ | refine .cons (fun _ h => nil_no _ h) ?_ | refine .cons (fun _ h => no_sub _ h) ?_ | refine .cons (fun _ h => AccP.sub (by assumption) _ _ h) ?_ | refine .cons (fun _ h => agg_sub rfl (by repeat (first | exact .nil | refine .cons (fun _ h => h) ?_ | refine .cons (fun _ h => nil_no _ h) ?_ | refine .cons (fun _ h => no_sub _ h) ?_ | refine .cons (fun _ h => AccP.sub (by assumption) _ _ h) ?_)) _ h) ?_))))) (by (repeat (first | exact AH.le_refl _ | assumption | exact AccP.le (by assumption) | refine AH.le_put ?_ (by first | assumption | exact none_of_le (by assumption) (by assumption) | exact And.right (by assumption) | exact And.right (And.right (by assumption))) _ | refine AH.le_trans ?_ (AccP.le (by assumption))))))
theorem enc1_calls (x y : Nt) (H : AH) : ACalls Try.prog 86 [.agg [.bool x.err, .str x.txt], .agg [.bool y.err, .str y.txt]] H (fun o H' => o = .ret (.int .i64 (tagI x - tagI y)) ∧ H' = H) := by
  refine ACalls.drop ?_
  have h1 : (1 : Int) ≤ tagI x ∧ tagI x ≤ 2 := by unfold tagI; split <;> omega
  have h2 : (1 : Int) ≤ tagI y ∧ tagI y ≤ 2 := by unfold tagI; split <;> omega
  refine acalls Try.func86 c86 r86 (by simp [Try.ntmps86]) ?_
  repeat' (first | with_reducible (first | refine am_seq ?_ | refine am_block ?_) | ((with_reducible apply am_cond); (case hb => rfl); all_goals (intro hc; (try simp only [reduceCtorEq, bD, beq_iff_eq] at hc); (try (exfalso; omega)))) | ((first | with_reducible (first | refine am_reg ?_ | refine am_drw ?_ | refine am_skip ?_ | refine am_exit ?_ | refine am_ret ?_ | refine vc_intro ?_ | refine need_elems (by assumption) ?_ | refine vlen_acc (by assumption) ?_ | refine need_bytes (by assumption) ?_ | refine call_of (tag_calls x) ?_ | refine qcall_of (tag_calls x) ?_ | refine call_of (tag_calls y) ?_ | refine qcall_of (tag_calls y) ?_ | refine need_lk ?_) | ((with_reducible refine alloc_intro (fun ko hko => ?_)) <;> (try have hne := fresh_ne (by assumption) hko) <;> (try have hnk := fresh_ne hk hko) <;> (try have hnk2 := fresh_ne hk2 hko) <;> (try simp only [AH.put_none] at hko)) | done) <;> (try simp -implicitDefEqProofs (disch := omega) only [go_sem, wrap_id])))
  all_goals (refine drop_end (by (first | exact fun _ _ h => h | (intro s x h; first | exact no_sub _ h | exact nil_no _ h | exact AccP.sub (by assumption) _ _ h | (refine agg_sub rfl ?_ x h; repeat (first | exact .nil | refine .cons (fun _ h => h) ?_ | refine .cons (fun _ h => nil_no _ h) ?_ | refine .cons (fun _ h => no_sub _ h) ?_ | refine .cons (fun _ h => AccP.sub (by assumption) _ _ h) ?_)) | (refine tuple_sub ?_ x h; repeat (first | exact .nil | refine .cons (fun _ h => h) ?_ | refine .cons (fun _ h => nil_no _ h) ?_ | refine .cons (fun _ h => no_sub _ h) ?_ | refine .cons (fun _ h => AccP.sub (by assumption) _ _ h) ?_ | refine .cons (fun _ h => agg_sub rfl (by repeat (first | exact .nil | refine .cons (fun _ h => h) ?_ | refine .cons (fun _ h => nil_no _ h) ?_ | refine .cons (fun _ h => no_sub _ h) ?_ | refine .cons (fun _ h => AccP.sub (by assumption) _ _ h) ?_)) _ h) ?_))))) (by (repeat (first | exact AH.le_refl _ | assumption | exact AccP.le (by assumption) | refine AH.le_put ?_ (by first | assumption | exact none_of_le (by assumption) (by assumption) | exact And.right (by assumption) | exact And.right (And.right (by assumption))) _ | refine AH.le_trans ?_ (AccP.le (by assumption))))))
theorem ent_enc1 : entered Try.prog 86 = true := by kernel_rfl
theorem tag_lt (x y : Nt) : (tagI x - tagI y < 0) ↔ (x.err = true ∧ y.err = false) := by
  unfold tagI
  cases x.err <;> cases y.err <;> simp
abbrev cmpV : V := .func (.func 86) [] []
theorem ins_calls {P A S L : List Nt} {N k : Nat} {a b : Int} {H : AH} (ha : a = P.length) (hb : b = P.length + A.length) (hL : L = P ++ A ++ S) (hN : L.length = N) (hs : N ≤ 1000) (hk : H k = some (ntO L)) :
    ACalls Try.prog 138 [.msl k 2 0 N, .int .i64 a, .int .i64 b, cmpV] H (fun o H' => o = .ret unitV ∧ H' = H.put k (ntO (P ++ stb A ++ S))) := by
  have hlen : P.length + A.length + S.length = N := by rw [hL] at hN; simp at hN; omega
  refine acalls Try.func138 c138 r138 (by simp [Try.ntmps138]) ?_
  repeat' (first | with_reducible (first | refine am_seq ?_ | refine am_block ?_) | ((with_reducible apply am_cond); (case hb => rfl); all_goals (intro hc; (try simp only [reduceCtorEq, bD, beq_iff_eq] at hc); (try (exfalso; omega)))) | ((first | with_reducible (first | refine am_reg ?_ | refine am_drw ?_ | refine am_skip ?_ | refine am_exit ?_ | refine am_ret ?_ | refine vc_intro ?_ | refine need_elems (by assumption) ?_ | refine vlen_acc (by assumption) ?_ | refine need_bytes (by assumption) ?_ | refine need_lk ?_) | ((with_reducible (first | apply gd_not | apply gd_of | apply gq_not | apply gq_of | apply pickB_of)) <;> intro hc <;> (try simp -implicitDefEqProofs (disch := omega) only [go_sem, hc, wrap_id]) <;> (try simp only [reduceCtorEq, bD, beq_iff_eq] at hc) <;> (try (exfalso; omega))) | done) <;> (try simp -implicitDefEqProofs (disch := omega) only [go_sem, wrap_id])))
  refine am_loop (fun n st H' => ∃ i : Nat, 1 ≤ i ∧ n = A.length - i ∧ (i ≤ A.length ∨ i = 1) ∧ st = [(0, .msl k 2 0 N), (1, .int .i64 a), (2, .int .i64 b), (3, cmpV), (8, .int .i64 (a + i))] ∧ H' = H.put k (ntO (P ++ (stb (A.take i) ++ A.drop i) ++ S))) ?_ (A.length - 1) ⟨1, by omega, rfl, .inr rfl, rfl, by rw [put_self]; rw [hk, hL, stb_one _ (by rw [List.length_take]; omega), List.take_append_drop]⟩
  rintro n st H' ⟨i, h1, rfl, hor, rfl, rfl⟩
  by_cases hlt : i < A.length
  · have hc1 : a + (i : Int) < b := by omega
    have hdA : A.drop i = A[i] :: A.drop (i + 1) := List.drop_eq_getElem_cons hlt
    have htA : A.take (i + 1) = A.take i ++ [A[i]] := List.take_succ_eq_append_getElem hlt
    have hsl : (stb (A.take i)).length = i := by rw [stb_length, List.length_take]; omega
    rw [hdA]
    repeat' (first | with_reducible (first | refine am_seq ?_ | refine am_block ?_) | ((with_reducible apply am_cond); (case hb => rfl); all_goals (intro hc; (try simp only [reduceCtorEq, bD, beq_iff_eq] at hc); (try (exfalso; omega)))) | ((first | with_reducible (first | refine am_reg ?_ | refine am_drw ?_ | refine am_skip ?_ | refine am_exit ?_ | refine am_ret ?_ | refine vc_intro ?_ | refine need_elems (by assumption) ?_ | refine vlen_acc (by assumption) ?_ | refine need_bytes (by assumption) ?_ | refine need_lk ?_) | ((with_reducible (first | apply gd_not | apply gd_of | apply gq_not | apply gq_of | apply pickB_of)) <;> intro hc <;> (try simp -implicitDefEqProofs (disch := omega) only [go_sem, hc, wrap_id, hc1]) <;> (try simp only [reduceCtorEq, bD, beq_iff_eq] at hc) <;> (try (exfalso; omega))) | done) <;> (try simp -implicitDefEqProofs (disch := omega) only [go_sem, wrap_id, hc1])))
    refine am_loop (fun n st H' => ∃ X Y : List Nt, n = X.length ∧ X ++ Y = stb (A.take i) ∧ (A[i].err = false → Y = []) ∧ (A[i].err = true → ∀ y ∈ Y, y.err = false) ∧ st = [(0, .msl k 2 0 N), (1, .int .i64 a), (2, .int .i64 b), (3, cmpV), (8, .int .i64 (a + i)), (9, .int .i64 (a + (X.length : Int)))] ∧ H' = H.put k (ntO (P ++ (X ++ A[i] :: Y) ++ (A.drop (i + 1) ++ S)))) ?_ i ⟨stb (A.take i), [], hsl.symm, List.append_nil _, fun _ => rfl, by simp, by rw [hsl], by simp only [List.append_assoc, List.cons_append, List.nil_append]⟩
    rintro n st H' ⟨X, Y, rfl, hXY, hY1, hY2, rfl, rfl⟩
    have hxl : X.length + Y.length = i := by rw [← hsl, ← hXY, List.length_append]
    have hfin : (X = [] ∨ ∃ X0 y, X = X0 ++ [y] ∧ ¬ (A[i].err = true ∧ y.err = false)) → P ++ (X ++ A[i] :: Y) ++ (A.drop (i + 1) ++ S) = P ++ (stb (A.take (i + 1)) ++ A.drop (i + 1)) ++ S := fun h => by
      rw [ins_stb hXY hY1 hY2 h, htA]; simp only [List.append_assoc]
    generalize A[i] = x at *
    rcases List.eq_nil_or_concat X with rfl | ⟨X0, y, rfl⟩
    · have hn : ¬ a + ((([] : List Nt).length : Nat) : Int) > a := by simp
      rw [hfin (.inl rfl)]
      repeat' (first | with_reducible (first | refine am_seq ?_ | refine am_block ?_) | ((with_reducible apply am_cond); (case hb => rfl); all_goals (intro hc; (try simp only [reduceCtorEq, bD, beq_iff_eq] at hc); (try (exfalso; omega)))) | ((first | with_reducible (first | refine am_reg ?_ | refine am_drw ?_ | refine am_skip ?_ | refine am_exit ?_ | refine am_ret ?_ | refine vc_intro ?_ | refine need_elems (by assumption) ?_ | refine vlen_acc (by assumption) ?_ | refine need_bytes (by assumption) ?_ | refine need_lk ?_) | ((with_reducible (first | apply gd_not | apply gd_of | apply gq_not | apply gq_of | apply pickB_of)) <;> intro hc <;> (try simp -implicitDefEqProofs (disch := omega) only [go_sem, hc, wrap_id, List.length_nil, Int.add_zero, Int.lt_irrefl]) <;> (try simp only [reduceCtorEq, bD, beq_iff_eq] at hc) <;> (try (exfalso; omega))) | done) <;> (try simp -implicitDefEqProofs (disch := omega) only [go_sem, wrap_id, List.length_nil, Int.add_zero, Int.lt_irrefl])))
      all_goals exact ⟨A.length - (i + 1), by omega, i + 1, by omega, rfl, .inl (by omega), by rw [Int.natCast_add, Int.add_assoc]; rfl, rfl⟩
    · rw [List.concat_eq_append] at *
      have hXl : (X0 ++ [y]).length = X0.length + 1 := by simp
      rw [hXl] at hxl
      have e9 : a + (((X0 ++ [y]).length : Nat) : Int) = ((P.length + X0.length + 1 : Nat) : Int) := by rw [hXl]; omega
      have hgt : a < ((P.length + X0.length + 1 : Nat) : Int) := by omega
      have em : ((P.length + X0.length + 1 : Nat) : Int) - 1 = ((P.length + X0.length : Nat) : Int) := by omega
      have hcur : P ++ ((X0 ++ [y]) ++ x :: Y) ++ (A.drop (i + 1) ++ S) = (P ++ X0) ++ y :: [] ++ x :: (Y ++ (A.drop (i + 1) ++ S)) := by simp only [List.append_assoc, List.cons_append, List.nil_append]
      have g1 := get2a (P ++ X0) [] (Y ++ (A.drop (i + 1) ++ S)) y x
      have g2 := get2b (P ++ X0) [] (Y ++ (A.drop (i + 1) ++ S)) y x
      have g3 := set2 (P ++ X0) [] (Y ++ (A.drop (i + 1) ++ S)) y x
      rw [← hcur, List.length_append] at g1
      rw [← hcur, List.length_append, List.length_nil, Nat.add_zero] at g2
      rw [← hcur, List.length_append, List.length_nil, Nat.add_zero, List.set_comm _ _ (by omega)] at g3
      have hcl : (P ++ ((X0 ++ [y]) ++ x :: Y) ++ (A.drop (i + 1) ++ S)).length = N := by simp only [List.length_append, List.length_cons, List.length_nil, List.length_drop]; omega
      have hfin2 := fun h => hfin (.inr ⟨X0, y, rfl, h⟩)
      have hne : ¬ ((X0 ++ [y]).length = 0) := by rw [hXl]; omega
      rw [e9]
      generalize hcd : P ++ ((X0 ++ [y]) ++ x :: Y) ++ (A.drop (i + 1) ++ S) = cur at *
      have p1 := ntsF_pick g1
      have p2 := ntsF_pick g2
      have s1 := ntsF_set (l := cur) (i := P.length + X0.length + 1) y (by omega)
      have s2 := ntsF_set (l := cur.set (P.length + X0.length + 1) y) (i := P.length + X0.length) x (by rw [List.length_set]; omega)
      rw [g3] at s2
      have hcm := enc1_calls x y
      by_cases hxy : tagI x - tagI y < 0
      · repeat' (first | with_reducible (first | refine am_seq ?_ | refine am_block ?_) | ((with_reducible apply am_cond); (case hb => rfl); all_goals (intro hc; (try simp only [reduceCtorEq, bD, beq_iff_eq] at hc); (try (exfalso; omega)))) | ((first | with_reducible (first | refine am_reg ?_ | refine am_drw ?_ | refine am_skip ?_ | refine am_exit ?_ | refine am_ret ?_ | refine vc_intro ?_ | refine need_elems (by assumption) ?_ | refine vlen_acc (by assumption) ?_ | refine need_bytes (by assumption) ?_ | refine call_of (hcm) ?_ | refine qcall_of (hcm) ?_ | refine need_lk ?_) | ((with_reducible (first | apply gd_not | apply gd_of | apply gq_not | apply gq_of | apply pickB_of)) <;> intro hc <;> (try simp -implicitDefEqProofs (disch := omega) only [go_sem, hc, wrap_id, hgt, em, p1, p2, hxy, Nat.zero_add, AH.put_same, AH.put_put, s1, s2, ntsF_len, List.length_set, hcl, ent_enc1, true_and, List.nil_append, List.append_nil, List.cons_append]) <;> (try simp only [reduceCtorEq, bD, beq_iff_eq] at hc) <;> (try (exfalso; omega))) | done) <;> (try simp -implicitDefEqProofs (disch := omega) only [go_sem, wrap_id, hgt, em, p1, p2, hxy, Nat.zero_add, AH.put_same, AH.put_put, s1, s2, ntsF_len, List.length_set, hcl, ent_enc1, true_and, List.nil_append, List.append_nil, List.cons_append])))
        obtain ⟨t1, t2⟩ := (tag_lt x y).1 hxy
        have ea : a + ((X0.length : Nat) : Int) = ((P.length + X0.length : Nat) : Int) := by omega
        all_goals exact ⟨X0.length, by rw [hXl]; omega, X0, y :: Y, rfl, by rw [← hXY]; simp only [List.append_assoc, List.cons_append, List.nil_append], fun h => absurd (t1.symm.trans h) (by decide), fun _ z hz => by (rcases List.mem_cons.1 hz with rfl | hz; exact t2; exact hY2 t1 z hz), by rw [ea], by simp only [ntO, List.append_assoc, List.cons_append, List.nil_append]⟩
      · repeat' (first | with_reducible (first | refine am_seq ?_ | refine am_block ?_) | ((with_reducible apply am_cond); (case hb => rfl); all_goals (intro hc; (try simp only [reduceCtorEq, bD, beq_iff_eq] at hc); (try (exfalso; omega)))) | ((first | with_reducible (first | refine am_reg ?_ | refine am_drw ?_ | refine am_skip ?_ | refine am_exit ?_ | refine am_ret ?_ | refine vc_intro ?_ | refine need_elems (by assumption) ?_ | refine vlen_acc (by assumption) ?_ | refine need_bytes (by assumption) ?_ | refine call_of (hcm) ?_ | refine qcall_of (hcm) ?_ | refine need_lk ?_) | ((with_reducible (first | apply gd_not | apply gd_of | apply gq_not | apply gq_of | apply pickB_of)) <;> intro hc <;> (try simp -implicitDefEqProofs (disch := omega) only [go_sem, hc, wrap_id, hgt, em, p1, p2, hxy, Nat.zero_add, ntsF_len, hcl, ent_enc1, true_and, List.nil_append, List.append_nil, List.cons_append]) <;> (try simp only [reduceCtorEq, bD, beq_iff_eq] at hc) <;> (try (exfalso; omega))) | done) <;> (try simp -implicitDefEqProofs (disch := omega) only [go_sem, wrap_id, hgt, em, p1, p2, hxy, Nat.zero_add, ntsF_len, hcl, ent_enc1, true_and, List.nil_append, List.append_nil, List.cons_append])))
        all_goals rw [hfin2 (fun h => hxy ((tag_lt x y).2 h))]
        all_goals exact ⟨A.length - (i + 1), by omega, i + 1, by omega, rfl, .inl (by omega), by rw [Int.natCast_add, Int.add_assoc]; rfl, rfl⟩
  · repeat' (first | with_reducible (first | refine am_seq ?_ | refine am_block ?_) | ((with_reducible apply am_cond); (case hb => rfl); all_goals (intro hc; (try simp only [reduceCtorEq, bD, beq_iff_eq] at hc); (try (exfalso; omega)))) | ((first | with_reducible (first | refine am_reg ?_ | refine am_drw ?_ | refine am_skip ?_ | refine am_exit ?_ | refine am_ret ?_ | refine vc_intro ?_ | refine need_elems (by assumption) ?_ | refine vlen_acc (by assumption) ?_ | refine need_bytes (by assumption) ?_ | refine need_lk ?_) | ((with_reducible (first | apply gd_not | apply gd_of | apply gq_not | apply gq_of | apply pickB_of)) <;> intro hc <;> (try simp -implicitDefEqProofs (disch := omega) only [go_sem, hc, wrap_id]) <;> (try simp only [reduceCtorEq, bD, beq_iff_eq] at hc) <;> (try (exfalso; omega))) | done) <;> (try simp -implicitDefEqProofs (disch := omega) only [go_sem, wrap_id])))
    all_goals exact ⟨rfl, by rw [List.take_of_length_le (by omega), List.drop_eq_nil_of_le (by omega), List.append_nil]⟩
end Go.Proofs.Ytjlphncecdlmcaa
