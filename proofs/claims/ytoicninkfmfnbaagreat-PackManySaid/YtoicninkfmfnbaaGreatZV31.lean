/- Of the walks of this seat: contracts of functions of the given program, proved over the abstract values of the texts Vm. Conditions: as each theorem says. -/
import Derived.Test.YtoicninkfmfnbaaGreatZKGD
import Derived.Test.YtoicninkfmfnbaaGreatZKGB
import Derived.Test.YtoicninkfmfnbaaGreatVm37
set_option linter.unusedVariables false
set_option linter.unusedSimpArgs false
namespace Go.Proofs.YtoicninkfmfnbaaGreat
open Go.Vm Go.Sort
attribute [local go_sem] eq_self decide_true decide_false AH.put_ne
attribute [local go_sem_proc] Nat.reduceBEq Nat.reduceAdd Nat.reduceSub Nat.reduceMul Nat.reduceEqDiff Nat.reduceLeDiff Nat.reduceLT Int.reduceLE Int.reduceLT Int.reduceToNat Int.reduceAdd Int.reduceEq Int.reduceNeg
attribute [local go_sem] List.drop_zero toNat_succ Nat.sub_zero Int.toNat_natCast Option.map_some Int.natCast_nonneg decide_eq_true_eq decide_eq_false_iff_not
/- flange/flangeref04.fits -/
abbrev k58_0 : MC :=
 .cond (.t 8) (.skip) (.exit 0)
abbrev k58_1 : MC :=
 .cond (.t 31) ((.seq (.reg [
 vl 2 (.mv (.c (.bool false)))] [2]) (.ret))) (.skip)
abbrev k58_2 : MC :=
 .reg [
 mv 9 3,
 vl 10 (.bin .add .num (.t 9) (.c (.int .i64 1))),
 mv 3 10] [1, 3]
abbrev k58_3 : MC :=
 (.seq (.block 1 ((.seq (.reg [
 vl 11 (.faddr 5 (.t 1)),
 vl 12 (.load false 1 (.t 11)),
 mv 13 3,
 vl 14 (.iaddr 7 (.t 12) (.t 13)),
 vl 15 (.load true 7 (.t 14)),
 ⟨some 16, none, .call 58 [(.t 15)]⟩,
 vl 17 (.not (.t 16)),
 mv 18 17,
 ⟨some 19, (some (18, false)), .val (.faddr 0 (.t 1))⟩,
 ⟨some 20, (some (18, false)), .val (.load false 1 (.t 19))⟩,
 ⟨some 21, (some (18, false)), .val (.bin .eql .num (.t 20) (.c (.int .i64 7)))⟩,
 ⟨some 22, (some (18, false)), .val (.mv (.t 21))⟩,
 ⟨some 23, (some (22, true)), .val (.faddr 6 (.t 1))⟩,
 ⟨some 24, (some (22, true)), .val (.load false 1 (.t 23))⟩,
 ⟨some 25, (some (22, true)), .val (.mv (.t 3))⟩,
 ⟨some 26, (some (22, true)), .val (.iaddr 1 (.t 24) (.t 25))⟩,
 ⟨some 27, (some (22, true)), .val (.load false 1 (.t 26))⟩,
 ⟨some 28, (some (22, true)), .val (.len .str (.t 27))⟩,
 ⟨some 29, (some (22, true)), .val (.bin .gtr .num (.t 28) (.c (.int .i64 256)))⟩,
 ⟨some 30, (some (18, false)), .val (.pick (.t 22) (.t 29) (.c (.bool false)))⟩,
 vl 31 (.pick (.t 18) (.c (.bool true)) (.t 30))] [1, 3, 31]) k58_1))) k58_2)
abbrev k58_4 : MC :=
 (.seq ((.seq (.reg [
 mv 4 3,
 vl 5 (.faddr 5 (.t 1)),
 vl 6 (.load false 1 (.t 5)),
 vl 7 (.len .sl (.t 6)),
 vl 8 (.bin .lss .num (.t 4) (.t 7))] [1, 3, 8]) k58_0)) k58_3)
abbrev k58_5 : MC :=
 .block 0 (.loop k58_4)
abbrev k58_6 : MC :=
 (.seq (.reg [
 vl 32 (.faddr 4 (.t 1)),
 vl 33 (.load false 1 (.t 32)),
 vl 34 (.len .str (.t 33)),
 vl 35 (.bin .leq .num (.t 34) (.c (.int .i64 256))),
 mv 36 35,
 ⟨some 37, (some (36, true)), .val (.faddr 5 (.t 1))⟩,
 ⟨some 38, (some (36, true)), .val (.load false 1 (.t 37))⟩,
 ⟨some 39, (some (36, true)), .val (.len .sl (.t 38))⟩,
 ⟨some 40, (some (36, true)), .val (.bin .leq .num (.t 39) (.c (.int .i64 64)))⟩,
 vl 41 (.pick (.t 36) (.t 40) (.c (.bool false))),
 mv 2 41] [2]) (.ret))
abbrev k58_7 : MC :=
 (.seq ((.seq (.reg [
 vl 3 (.mv (.c (.int .i64 0)))] [1, 3]) k58_5)) k58_6)
abbrev k58 : MC :=
 (.seq (.reg [
 ⟨some 1, none, .boxi (.t 0)⟩,
 vl 2 (.mv (.c (.bool false)))] [1]) k58_7)
theorem c58 : Tryz.f58.body.bind (mcOf Tryz.prog (List.contains [1] ·) (List.getD [([], [1]), ([], [1, 3]), ([], [1, 3, 8]), ([], [1, 3]), ([], [1, 3, 31]), ([], [2]), ([], [2])] · ([], [])) 42) = some k58 := by kernel_rfl
theorem r58 : rvsOf Tryz.prog Tryz.f58.results.toList = some [.tmp 2] := by kernel_rfl
/- flange/flangeref04.Right -/
abbrev k32_0 : MC :=
 (.seq (.reg [
 vl 3 (.load true 7 (.t 1)),
 ⟨some 4, none, .call 18 [(.t 3)]⟩,
 vl 5 (.bin .leq .num (.t 4) (.c (.int .i64 8))),
 mv 6 5,
 ⟨some 7, (some (6, true)), .val (.load true 7 (.t 1))⟩,
 ⟨some 8, (some (6, true)), .call 58 [(.t 7)]⟩,
 vl 9 (.pick (.t 6) (.t 8) (.c (.bool false))),
 mv 2 9] [2]) (.ret))
abbrev k32 : MC :=
 (.seq (.reg [
 ⟨some 1, none, .boxi (.t 0)⟩,
 vl 2 (.mv (.c (.bool false)))] [1]) k32_0)
theorem c32 : Tryz.f32.body.bind (mcOf Tryz.prog (List.contains [1] ·) (List.getD [([], [1]), ([], [2])] · ([], [])) 10) = some k32 := by kernel_rfl
theorem r32 : rvsOf Tryz.prog Tryz.f32.results.toList = some [.tmp 2] := by kernel_rfl
theorem rfits_calls : ∀ (m : Rv) (v : Vl), Sm v m → m.Fit → ∀ (H : AH), ACalls Tryz.prog 58 [.agg [.int .i64 m.K, .bool m.B, .int .i64 m.N, .int .i64 m.M, .str m.S, .sl 7 (rvE m.L) .no, .sl 1 (strE m.Keys) .no]] H (fun o H' => o = .ret (.bool (allM fitsQ m)) ∧ H' = H) := by
  refine Rv.ind fun m ih v hs hf H => ?_
  refine ACalls.drop ?_
  have hb := hf.l
  cases hs with
  | mk _ _ hK hB hS hl hk hN hP hi =>
  have hnk : m.K ≠ 7 → m.Keys = [] := fun h => by
    rw [← hk]; cases v <;> first | rfl | exact absurd hK.symm h
  have h7l : m.K = 7 → m.Keys.length = m.L.length := fun h => by rw [← hk, ← items_keys (by omega), hl]
  refine acalls Tryz.func58 c58 r58 (by simp [Tryz.ntmps58]) ?_
  repeat' (first | with_reducible refine go0 ?_ | (with_reducible refine am_cnd ?_ ?_ <;> intro hc <;> try (exfalso; omega)) | ((first | with_reducible (first | refine go1 ?_ | refine vc_intro ?_ | refine need_el ?_ | refine vlen_a ?_ | refine need_by ?_ | refine need_lk ?_) | ((with_reducible (first | apply gd_not | apply gd_of | apply gq_not | apply gq_of | apply pickB_of)) <;> intro hc <;> (try simp -implicitDefEqProofs (disch := omega) only [go_sem, hc]) <;> (try simp only [reduceCtorEq, bD, beq_iff_eq] at hc) <;> (try (exfalso; omega))) | ((with_reducible refine alloc_intro (fun ko hko => ?_)) <;> (try have hne := fresh_ne (by assumption) hko) <;> (try have hnk := fresh_ne hk hko) <;> (try simp only [AH.put_none] at hko)) | done) <;> (try simp -implicitDefEqProofs (disch := omega) only [go_sem])))
  refine am_loop (fun n a H' => ∃ i : Nat, i + n = m.L.length ∧ a = [(1, .rptr [.int .i64 m.K, .bool m.B, .int .i64 m.N, .int .i64 m.M, .str m.S, .sl 7 (rvE m.L) .no, .sl 1 (strE m.Keys) .no] 0), (3, .int .i64 i)] ∧ H' = H ∧ (m.L.take i).all (allM fitsQ) = true ∧ (m.Keys.take i).all shortB = true) ?_ m.L.length ⟨0, by omega, rfl, rfl, by simp, by simp⟩
  rintro n a H' ⟨i, hin, rfl, rfl, hall, hks⟩
  by_cases hlt : i < m.L.length
  · have hlt1 : i < v.items.length := by omega
    have hc1 := ih m.L[i] (List.getElem_mem hlt) v.items[i] (hi i hlt1 hlt) (hf.m _ (List.getElem_mem hlt))
    cases hq : allM fitsQ m.L[i] with
    | false =>
      rw [hq] at hc1
      repeat' (first | with_reducible refine go0 ?_ | (with_reducible refine am_cnd ?_ ?_ <;> intro hc <;> try (exfalso; omega)) | ((first | with_reducible (first | refine go1 ?_ | refine vc_intro ?_ | refine need_el ?_ | refine vlen_a ?_ | refine need_by ?_ | refine call_of (hc1) ?_ | refine qcall_of (hc1) ?_ | refine need_lk ?_) | ((with_reducible (first | apply gd_not | apply gd_of | apply gq_not | apply gq_of | apply pickB_of)) <;> intro hc <;> (try simp -implicitDefEqProofs (disch := omega) only [go_sem, hc, wrap_id, rvE_length, rvE_get hlt, Bool.not_false]) <;> (try simp only [reduceCtorEq, bD, beq_iff_eq] at hc) <;> (try (exfalso; omega))) | ((with_reducible refine alloc_intro (fun ko hko => ?_)) <;> (try have hne := fresh_ne (by assumption) hko) <;> (try have hnk := fresh_ne hk hko) <;> (try simp only [AH.put_none] at hko)) | done) <;> (try simp -implicitDefEqProofs (disch := omega) only [go_sem, wrap_id, rvE_length, rvE_get hlt, Bool.not_false])))
      all_goals (have e : allM fitsQ m = false := by { rw [allM_eq, all_bad hlt hq, Bool.and_false] }; rw [e]; (refine drop_end (by (first | exact fun _ _ h => h | (intro s x h; first | exact no_sub _ h | exact nil_no _ h | exact AccP.sub (by assumption) _ _ h | (refine agg_sub rfl ?_ x h; repeat (first | exact .nil | refine .cons (fun _ h => h) ?_ | refine .cons (fun _ h => nil_no _ h) ?_ | refine .cons (fun _ h => no_sub _ h) ?_ | refine .cons (fun _ h => AccP.sub (by assumption) _ _ h) ?_)) | (refine tuple_sub ?_ x h; repeat (first | exact .nil | refine .cons (fun _ h => h) ?_ | refine .cons (fun _ h => nil_no _ h) ?_ | refine .cons (fun _ h => no_sub _ h) ?_ | refine .cons (fun _ h => AccP.sub (by assumption) _ _ h) ?_ | refine .cons (fun _ h => agg_sub rfl (by repeat (first | exact .nil | refine .cons (fun _ h => h) ?_ | refine .cons (fun _ h => nil_no _ h) ?_ | refine .cons (fun _ h => no_sub _ h) ?_ | refine .cons (fun _ h => AccP.sub (by assumption) _ _ h) ?_)) _ h) ?_))))) (by (repeat (first | exact AH.le_refl _ | assumption | exact AccP.le (by assumption) | refine AH.le_put ?_ (by first | assumption | exact none_of_le (by assumption) (by assumption) | exact And.right (by assumption) | exact And.right (And.right (by assumption))) _ | refine AH.le_trans ?_ (AccP.le (by assumption)))))))
    | true =>
      rw [hq] at hc1
      by_cases h7 : m.K = 7
      · have hlk : i < m.Keys.length := by rw [h7l h7]; exact hlt
        by_cases hsh : m.Keys[i].length ≤ 256
        · have hsh' : ¬ (256 : Int) < m.Keys[i].length := by omega
          repeat' (first | with_reducible refine go0 ?_ | (with_reducible refine am_cnd ?_ ?_ <;> intro hc <;> try (exfalso; omega)) | ((first | with_reducible (first | refine go1 ?_ | refine vc_intro ?_ | refine need_el ?_ | refine vlen_a ?_ | refine need_by ?_ | refine call_of (hc1) ?_ | refine qcall_of (hc1) ?_ | refine need_lk ?_) | ((with_reducible (first | apply gd_not | apply gd_of | apply gq_not | apply gq_of | apply pickB_of)) <;> intro hc <;> (try simp -implicitDefEqProofs (disch := omega) only [go_sem, hc, wrap_id, rvE_length, strE_len, rvE_get hlt, strE_get hlk, h7, hsh', Bool.not_true]) <;> (try simp only [reduceCtorEq, bD, beq_iff_eq] at hc) <;> (try (exfalso; omega))) | ((with_reducible refine alloc_intro (fun ko hko => ?_)) <;> (try have hne := fresh_ne (by assumption) hko) <;> (try have hnk := fresh_ne hk hko) <;> (try simp only [AH.put_none] at hko)) | done) <;> (try simp -implicitDefEqProofs (disch := omega) only [go_sem, wrap_id, rvE_length, strE_len, rvE_get hlt, strE_get hlk, h7, hsh', Bool.not_true])))
          all_goals exact ⟨n - 1, by omega, i + 1, by omega, rfl, by rw [all_take hlt, hall, hq]; rfl, by rw [all_take hlk, hks]; exact decide_eq_true hsh⟩
        · have hsh' : (256 : Int) < m.Keys[i].length := by omega
          repeat' (first | with_reducible refine go0 ?_ | (with_reducible refine am_cnd ?_ ?_ <;> intro hc <;> try (exfalso; omega)) | ((first | with_reducible (first | refine go1 ?_ | refine vc_intro ?_ | refine need_el ?_ | refine vlen_a ?_ | refine need_by ?_ | refine call_of (hc1) ?_ | refine qcall_of (hc1) ?_ | refine need_lk ?_) | ((with_reducible (first | apply gd_not | apply gd_of | apply gq_not | apply gq_of | apply pickB_of)) <;> intro hc <;> (try simp -implicitDefEqProofs (disch := omega) only [go_sem, hc, wrap_id, rvE_length, strE_len, rvE_get hlt, strE_get hlk, h7, hsh', Bool.not_true]) <;> (try simp only [reduceCtorEq, bD, beq_iff_eq] at hc) <;> (try (exfalso; omega))) | ((with_reducible refine alloc_intro (fun ko hko => ?_)) <;> (try have hne := fresh_ne (by assumption) hko) <;> (try have hnk := fresh_ne hk hko) <;> (try simp only [AH.put_none] at hko)) | done) <;> (try simp -implicitDefEqProofs (disch := omega) only [go_sem, wrap_id, rvE_length, strE_len, rvE_get hlt, strE_get hlk, h7, hsh', Bool.not_true])))
          all_goals (have e : allM fitsQ m = false := by { rw [allM_eq, fitsQ, all_bad hlk (decide_eq_false hsh), Bool.and_false, Bool.false_and, Bool.false_and] }; rw [e]; (refine drop_end (by (first | exact fun _ _ h => h | (intro s x h; first | exact no_sub _ h | exact nil_no _ h | exact AccP.sub (by assumption) _ _ h | (refine agg_sub rfl ?_ x h; repeat (first | exact .nil | refine .cons (fun _ h => h) ?_ | refine .cons (fun _ h => nil_no _ h) ?_ | refine .cons (fun _ h => no_sub _ h) ?_ | refine .cons (fun _ h => AccP.sub (by assumption) _ _ h) ?_)) | (refine tuple_sub ?_ x h; repeat (first | exact .nil | refine .cons (fun _ h => h) ?_ | refine .cons (fun _ h => nil_no _ h) ?_ | refine .cons (fun _ h => no_sub _ h) ?_ | refine .cons (fun _ h => AccP.sub (by assumption) _ _ h) ?_ | refine .cons (fun _ h => agg_sub rfl (by repeat (first | exact .nil | refine .cons (fun _ h => h) ?_ | refine .cons (fun _ h => nil_no _ h) ?_ | refine .cons (fun _ h => no_sub _ h) ?_ | refine .cons (fun _ h => AccP.sub (by assumption) _ _ h) ?_)) _ h) ?_))))) (by (repeat (first | exact AH.le_refl _ | assumption | exact AccP.le (by assumption) | refine AH.le_put ?_ (by first | assumption | exact none_of_le (by assumption) (by assumption) | exact And.right (by assumption) | exact And.right (And.right (by assumption))) _ | refine AH.le_trans ?_ (AccP.le (by assumption)))))))
      · repeat' (first | with_reducible refine go0 ?_ | (with_reducible refine am_cnd ?_ ?_ <;> intro hc <;> try (exfalso; omega)) | ((first | with_reducible (first | refine go1 ?_ | refine vc_intro ?_ | refine need_el ?_ | refine vlen_a ?_ | refine need_by ?_ | refine call_of (hc1) ?_ | refine qcall_of (hc1) ?_ | refine need_lk ?_) | ((with_reducible (first | apply gd_not | apply gd_of | apply gq_not | apply gq_of | apply pickB_of)) <;> intro hc <;> (try simp -implicitDefEqProofs (disch := omega) only [go_sem, hc, wrap_id, rvE_length, rvE_get hlt, h7, Bool.not_true]) <;> (try simp only [reduceCtorEq, bD, beq_iff_eq] at hc) <;> (try (exfalso; omega))) | ((with_reducible refine alloc_intro (fun ko hko => ?_)) <;> (try have hne := fresh_ne (by assumption) hko) <;> (try have hnk := fresh_ne hk hko) <;> (try simp only [AH.put_none] at hko)) | done) <;> (try simp -implicitDefEqProofs (disch := omega) only [go_sem, wrap_id, rvE_length, rvE_get hlt, h7, Bool.not_true])))
        all_goals exact ⟨n - 1, by omega, i + 1, by omega, rfl, by rw [all_take hlt, hall, hq]; rfl, by rw [hnk h7]; rfl⟩
  · have hks2 : m.Keys.all shortB = true := by
      by_cases h7 : m.K = 7
      · rw [List.take_of_length_le (by rw [h7l h7]; omega)] at hks; exact hks
      · rw [hnk h7]; rfl
    rw [List.take_of_length_le (by omega)] at hall
    have e : allM fitsQ m = (decide (m.S.length ≤ 256) && decide (m.L.length ≤ 64)) := by rw [allM_eq, hall, fitsQ, hks2, Bool.and_true, Bool.and_true]; rfl
    rw [e]
    repeat' (first | with_reducible refine go0 ?_ | (with_reducible refine am_cnd ?_ ?_ <;> intro hc <;> try (exfalso; omega)) | ((first | with_reducible (first | refine go1 ?_ | refine vc_intro ?_ | refine need_el ?_ | refine vlen_a ?_ | refine need_by ?_ | refine need_lk ?_) | ((with_reducible (first | apply gd_not | apply gd_of | apply gq_not | apply gq_of | apply pickB_of)) <;> intro hc <;> (try simp -implicitDefEqProofs (disch := omega) only [go_sem, hc, rvE_length]) <;> (try simp only [reduceCtorEq, bD, beq_iff_eq] at hc) <;> (try (exfalso; omega))) | ((with_reducible refine alloc_intro (fun ko hko => ?_)) <;> (try have hne := fresh_ne (by assumption) hko) <;> (try have hnk := fresh_ne hk hko) <;> (try simp only [AH.put_none] at hko)) | done) <;> (try simp -implicitDefEqProofs (disch := omega) only [go_sem, rvE_length])))
    all_goals refine end_eq (congrArg V.bool ?_) (AH.le_refl _)
    · rw [Bool.eq_iff_iff]; simp only [Bool.and_eq_true, decide_eq_true_eq]; omega
    · rw [decide_eq_false (by omega), Bool.false_and]
theorem rright_calls {m : Rv} {v : Vl} (hs : Sm v m) (hf : m.Fit) (H : AH) : ACalls Tryz.prog 32 [.agg [.int .i64 m.K, .bool m.B, .int .i64 m.N, .int .i64 m.M, .str m.S, .sl 7 (rvE m.L) .no, .sl 1 (strE m.Keys) .no]] H (fun o H' => o = .ret (.bool (rightM m)) ∧ H' = H) := by
  refine ACalls.drop ?_
  have h1 := rdeep_calls m hf
  have h2 := rfits_calls m v hs hf
  refine acalls Tryz.func32 c32 r32 (by simp [Tryz.ntmps32]) ?_
  by_cases hd : deepI m ≤ 8
  · repeat' (first | with_reducible refine go0 ?_ | (with_reducible refine am_cnd ?_ ?_ <;> intro hc <;> try (exfalso; omega)) | ((first | with_reducible (first | refine go1 ?_ | refine vc_intro ?_ | refine need_el ?_ | refine vlen_a ?_ | refine need_by ?_ | refine call_of (h1) ?_ | refine qcall_of (h1) ?_ | refine call_of (h2) ?_ | refine qcall_of (h2) ?_ | refine need_lk ?_) | ((with_reducible (first | apply gd_not | apply gd_of | apply gq_not | apply gq_of | apply pickB_of)) <;> intro hc <;> (try simp -implicitDefEqProofs (disch := omega) only [go_sem, hc, hd]) <;> (try simp only [reduceCtorEq, bD, beq_iff_eq] at hc) <;> (try (exfalso; omega))) | ((with_reducible refine alloc_intro (fun ko hko => ?_)) <;> (try have hne := fresh_ne (by assumption) hko) <;> (try simp only [AH.put_none] at hko)) | done) <;> (try simp -implicitDefEqProofs (disch := omega) only [go_sem, hd])))
    all_goals (rw [rightM, decide_eq_true hd, Bool.true_and]; (refine drop_end (by (first | exact fun _ _ h => h | (intro s x h; first | exact no_sub _ h | exact nil_no _ h | exact AccP.sub (by assumption) _ _ h | (refine agg_sub rfl ?_ x h; repeat (first | exact .nil | refine .cons (fun _ h => h) ?_ | refine .cons (fun _ h => nil_no _ h) ?_ | refine .cons (fun _ h => no_sub _ h) ?_ | refine .cons (fun _ h => AccP.sub (by assumption) _ _ h) ?_)) | (refine tuple_sub ?_ x h; repeat (first | exact .nil | refine .cons (fun _ h => h) ?_ | refine .cons (fun _ h => nil_no _ h) ?_ | refine .cons (fun _ h => no_sub _ h) ?_ | refine .cons (fun _ h => AccP.sub (by assumption) _ _ h) ?_ | refine .cons (fun _ h => agg_sub rfl (by repeat (first | exact .nil | refine .cons (fun _ h => h) ?_ | refine .cons (fun _ h => nil_no _ h) ?_ | refine .cons (fun _ h => no_sub _ h) ?_ | refine .cons (fun _ h => AccP.sub (by assumption) _ _ h) ?_)) _ h) ?_))))) (by (repeat (first | exact AH.le_refl _ | assumption | exact AccP.le (by assumption) | refine AH.le_put ?_ (by first | assumption | exact none_of_le (by assumption) (by assumption) | exact And.right (by assumption) | exact And.right (And.right (by assumption))) _ | refine AH.le_trans ?_ (AccP.le (by assumption)))))))
  · repeat' (first | with_reducible refine go0 ?_ | (with_reducible refine am_cnd ?_ ?_ <;> intro hc <;> try (exfalso; omega)) | ((first | with_reducible (first | refine go1 ?_ | refine vc_intro ?_ | refine need_el ?_ | refine vlen_a ?_ | refine need_by ?_ | refine call_of (h1) ?_ | refine qcall_of (h1) ?_ | refine call_of (h2) ?_ | refine qcall_of (h2) ?_ | refine need_lk ?_) | ((with_reducible (first | apply gd_not | apply gd_of | apply gq_not | apply gq_of | apply pickB_of)) <;> intro hc <;> (try simp -implicitDefEqProofs (disch := omega) only [go_sem, hc, hd]) <;> (try simp only [reduceCtorEq, bD, beq_iff_eq] at hc) <;> (try (exfalso; omega))) | ((with_reducible refine alloc_intro (fun ko hko => ?_)) <;> (try have hne := fresh_ne (by assumption) hko) <;> (try simp only [AH.put_none] at hko)) | done) <;> (try simp -implicitDefEqProofs (disch := omega) only [go_sem, hd])))
    all_goals (rw [rightM, decide_eq_false hd, Bool.false_and]; (refine drop_end (by (first | exact fun _ _ h => h | (intro s x h; first | exact no_sub _ h | exact nil_no _ h | exact AccP.sub (by assumption) _ _ h | (refine agg_sub rfl ?_ x h; repeat (first | exact .nil | refine .cons (fun _ h => h) ?_ | refine .cons (fun _ h => nil_no _ h) ?_ | refine .cons (fun _ h => no_sub _ h) ?_ | refine .cons (fun _ h => AccP.sub (by assumption) _ _ h) ?_)) | (refine tuple_sub ?_ x h; repeat (first | exact .nil | refine .cons (fun _ h => h) ?_ | refine .cons (fun _ h => nil_no _ h) ?_ | refine .cons (fun _ h => no_sub _ h) ?_ | refine .cons (fun _ h => AccP.sub (by assumption) _ _ h) ?_ | refine .cons (fun _ h => agg_sub rfl (by repeat (first | exact .nil | refine .cons (fun _ h => h) ?_ | refine .cons (fun _ h => nil_no _ h) ?_ | refine .cons (fun _ h => no_sub _ h) ?_ | refine .cons (fun _ h => AccP.sub (by assumption) _ _ h) ?_)) _ h) ?_))))) (by (repeat (first | exact AH.le_refl _ | assumption | exact AccP.le (by assumption) | refine AH.le_put ?_ (by first | assumption | exact none_of_le (by assumption) (by assumption) | exact And.right (by assumption) | exact And.right (And.right (by assumption))) _ | refine AH.le_trans ?_ (AccP.le (by assumption)))))))
end Go.Proofs.YtoicninkfmfnbaaGreat
