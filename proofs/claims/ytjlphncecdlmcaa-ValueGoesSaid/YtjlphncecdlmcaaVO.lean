/- Of the walks of this seat: contracts of functions of the given program, proved over the abstract values of the texts Vm. Conditions: as each theorem says. -/
import Derived.Test.YtjlphncecdlmcaaVN
import Derived.Test.YtjlphncecdlmcaaVD
import Derived.Test.YtjlphncecdlmcaaVI
import Derived.Test.YtjlphncecdlmcaaV32
set_option linter.unusedVariables false
set_option linter.unusedSimpArgs false
namespace Go.Proofs.Ytjlphncecdlmcaa
open Go.Vm Go.Sort
attribute [local go_sem] List.drop_zero toNat_succ Nat.sub_zero Int.toNat_natCast Option.map_some Int.natCast_nonneg decide_eq_true_eq decide_eq_false_iff_not
/- flange/flangeref04.place -/
abbrev k104_0 : MC :=
  .cond (.t 17) ((.seq (.reg [
     ⟨(some 4), none, .val (.mv (.c (.int .i64 0)))⟩,
     ⟨(some 5), none, .val (.mv (.c (.int .i64 6)))⟩] [4, 5]) (.ret))) (.skip)
abbrev k104_1 : MC :=
  .cond (.t 23) ((.seq (.reg [
     ⟨(some 4), none, .val (.mv (.c (.int .i64 0)))⟩,
     ⟨(some 5), none, .val (.mv (.c (.int .i64 2)))⟩] [4, 5]) (.ret))) (.skip)
abbrev k104_2 : MC :=
  (.seq (.reg [
    ⟨(some 24), none, .val (.faddr 1 (.t 3))⟩,
    ⟨(some 25), none, .val (.load false 1 (.t 24))⟩,
    ⟨(some 4), none, .val (.mv (.t 25))⟩,
    ⟨(some 5), none, .val (.mv (.c (.int .i64 0)))⟩] [4, 5]) (.ret))
abbrev k104_3 : MC :=
  (.seq ((.seq (.reg [
    ⟨(some 18), none, .val (.faddr 1 (.t 3))⟩,
    ⟨(some 19), none, .val (.load false 1 (.t 18))⟩,
    ⟨(some 20), none, .val (.faddr 5 (.t 2))⟩,
    ⟨(some 21), none, .val (.load false 1 (.t 20))⟩,
    ⟨(some 22), none, .val (.len .sl (.t 21))⟩,
    ⟨(some 23), none, .val (.bin .geq .num (.t 19) (.t 22))⟩] [3, 23]) k104_1)) k104_2)
abbrev k104_4 : MC :=
  .cond (.t 14) ((.seq ((.seq (.reg [
     ⟨(some 15), none, .val (.faddr 0 (.t 2))⟩,
     ⟨(some 16), none, .val (.load false 1 (.t 15))⟩,
     ⟨(some 17), none, .val (.bin .neq .num (.t 16) (.c (.int .i64 6)))⟩] [2, 3, 17]) k104_0)) k104_3)) (.skip)
abbrev k104_5 : MC :=
  .cond (.t 28) ((.seq (.reg [
     ⟨(some 4), none, .val (.mv (.c (.int .i64 0)))⟩,
     ⟨(some 5), none, .val (.mv (.c (.int .i64 6)))⟩] [4, 5]) (.ret))) (.skip)
abbrev k104_6 : MC :=
  .cond (.t 34) ((.seq (.reg [
     ⟨(some 4), none, .val (.mv (.c (.int .i64 0)))⟩,
     ⟨(some 5), none, .val (.mv (.c (.int .i64 8)))⟩] [4, 5]) (.ret))) (.skip)
abbrev k104_7 : MC :=
  (.seq (.reg [
    ⟨(some 35), none, .val (.mv (.t 6))⟩,
    ⟨(some 4), none, .val (.mv (.t 35))⟩,
    ⟨(some 5), none, .val (.mv (.c (.int .i64 0)))⟩] [4, 5]) (.ret))
abbrev k104_8 : MC :=
  (.seq ((.seq (.reg [
    ⟨(some 33), none, .val (.mv (.t 6))⟩,
    ⟨(some 34), none, .val (.bin .lss .num (.t 33) (.c (.int .i64 0)))⟩] [6, 34]) k104_6)) k104_7)
abbrev k104_9 : MC :=
  (.seq (.reg [
    ⟨(some 29), none, .val (.load true 7 (.t 2))⟩,
    ⟨(some 30), none, .val (.faddr 0 (.t 3))⟩,
    ⟨(some 31), none, .val (.load false 1 (.t 30))⟩,
    ⟨(some 32), none, .call 62 [(.t 29), (.t 31)]⟩,
    ⟨(some 6), none, .val (.mv (.t 32))⟩] [6]) k104_8)
abbrev k104_10 : MC :=
  (.seq ((.seq (.reg [
    ⟨(some 26), none, .val (.faddr 0 (.t 2))⟩,
    ⟨(some 27), none, .val (.load false 1 (.t 26))⟩,
    ⟨(some 28), none, .val (.bin .neq .num (.t 27) (.c (.int .i64 7)))⟩] [2, 3, 28]) k104_5)) k104_9)
abbrev k104_11 : MC :=
  (.seq ((.seq (.reg [
    ⟨(some 7), none, .val (.faddr 0 (.t 3))⟩,
    ⟨(some 8), none, .val (.load false 1 (.t 7))⟩,
    ⟨(some 9), none, .val (.bin .eql .num (.t 8) (.c (.str [])))⟩,
    ⟨(some 10), none, .val (.mv (.t 9))⟩,
    ⟨(some 11), (some (10, true)), .val (.faddr 1 (.t 3))⟩,
    ⟨(some 12), (some (10, true)), .val (.load false 1 (.t 11))⟩,
    ⟨(some 13), (some (10, true)), .val (.bin .geq .num (.t 12) (.c (.int .i64 0)))⟩,
    ⟨(some 14), none, .val (.pick (.t 10) (.t 13) (.c (.bool false)))⟩] [2, 3, 14]) k104_4)) k104_10)
abbrev k104 : MC :=
  (.seq (.reg [
    ⟨(some 2), none, .boxi (.t 0)⟩,
    ⟨(some 3), none, .boxi (.t 1)⟩,
    ⟨(some 4), none, .val (.mv (.c (.int .i64 0)))⟩,
    ⟨(some 5), none, .val (.mv (.c (.int .i64 0)))⟩] [2, 3]) k104_11)
theorem c104 : Try.f104.body.bind (mcOf Try.prog (List.contains [2, 3] ·) (List.getD [([], [2, 3]), ([], [2, 3, 14]), ([], [2, 3, 17]), ([], [4, 5]), ([], [3, 23]), ([], [4, 5]), ([], [4, 5]), ([], [2, 3, 28]), ([], [4, 5]), ([], [6]), ([], [6, 34]), ([], [4, 5]), ([], [4, 5])] · ([], [])) 36) = some k104 := by kernel_rfl
theorem r104 : rvsOf Try.prog Try.f104.results.toList = some [.tmp 4, .tmp 5] := by kernel_rfl
/- flange/flangeref04.Go -/
abbrev k63_0 : MC :=
  .cond (.t 12) (.skip) (.exit 0)
abbrev k63_1 : MC :=
  .cond (.t 25) ((.seq (.reg [
     ⟨(some 26), none, .build [(.int .i64 0), (.bool false), (.int .i64 0), (.int .i64 0), (.str []), .nilSl, .nilSl] []⟩,
     ⟨(some 27), none, .val (.mv (.t 8))⟩,
     ⟨none, none, .store 7 (.t 4) (.t 26)⟩,
     ⟨(some 5), none, .val (.mv (.t 27))⟩] [4, 5]) (.ret))) (.skip)
abbrev k63_2 : MC :=
  .reg [
    ⟨(some 28), none, .val (.faddr 5 (.t 2))⟩,
    ⟨(some 29), none, .val (.load false 1 (.t 28))⟩,
    ⟨(some 30), none, .val (.mv (.t 7))⟩,
    ⟨(some 31), none, .val (.iaddr 7 (.t 29) (.t 30))⟩,
    ⟨(some 32), none, .val (.load true 7 (.t 31))⟩,
    ⟨none, none, .store 7 (.t 2) (.t 32)⟩] [1, 2, 4, 6]
abbrev k63_3 : MC :=
  (.seq ((.seq (.reg [
    ⟨(some 24), none, .val (.mv (.t 8))⟩,
    ⟨(some 25), none, .val (.bin .neq .num (.t 24) (.c (.int .i64 0)))⟩] [1, 2, 4, 6, 7, 8, 25]) k63_1)) k63_2)
abbrev k63_4 : MC :=
  .reg [
    ⟨(some 13), none, .val (.mv (.t 6))⟩,
    ⟨(some 14), none, .val (.bin .add .num (.t 13) (.c (.int .i64 1)))⟩,
    ⟨(some 6), none, .val (.mv (.t 14))⟩] [1, 2, 4, 6]
abbrev k63_5 : MC :=
  (.seq (.block 1 ((.seq (.drw [
     ⟨(some 16), none, .val (.load true 7 (.t 2))⟩,
     ⟨(some 17), none, .val (.mv (.t 1))⟩,
     ⟨(some 18), none, .val (.mv (.t 6))⟩,
     ⟨(some 19), none, .val (.iaddr 2 (.t 17) (.t 18))⟩,
     ⟨(some 20), none, .val (.load true 2 (.t 19))⟩,
     ⟨(some 21), none, .call 104 [(.t 16), (.t 20)]⟩,
     ⟨(some 15), none, .val (.mv (.t 21))⟩,
     ⟨(some 22), none, .val (.ext (.t 15) 0)⟩,
     ⟨(some 23), none, .val (.ext (.t 15) 1)⟩,
     ⟨(some 7), none, .val (.mv (.t 22))⟩,
     ⟨(some 8), none, .val (.mv (.t 23))⟩] [
] [1, 2, 4, 6, 7, 8]) k63_3))) k63_4)
abbrev k63_6 : MC :=
  (.seq ((.seq (.reg [
    ⟨(some 9), none, .val (.mv (.t 6))⟩,
    ⟨(some 10), none, .val (.mv (.t 1))⟩,
    ⟨(some 11), none, .val (.len .sl (.t 10))⟩,
    ⟨(some 12), none, .val (.bin .lss .num (.t 9) (.t 11))⟩] [1, 2, 4, 6, 12]) k63_0)) k63_5)
abbrev k63_7 : MC :=
  .block 0 (.loop k63_6)
abbrev k63_8 : MC :=
  (.seq (.reg [
    ⟨(some 33), none, .val (.load true 7 (.t 2))⟩,
    ⟨none, none, .store 7 (.t 4) (.t 33)⟩,
    ⟨(some 5), none, .val (.mv (.c (.int .i64 0)))⟩] [4, 5]) (.ret))
abbrev k63_9 : MC :=
  (.seq ((.seq (.reg [
    ⟨(some 6), none, .val (.mv (.c (.int .i64 0)))⟩] [1, 2, 4, 6]) k63_7)) k63_8)
abbrev k63 : MC :=
  (.seq (.reg [
    ⟨(some 2), none, .box (.t 0)⟩,
    ⟨(some 4), none, .zalloc [(.int .i64 0), (.bool false), (.int .i64 0), (.int .i64 0), (.str []), .nilSl, .nilSl]⟩,
    ⟨(some 5), none, .val (.mv (.c (.int .i64 0)))⟩] [1, 2, 4]) k63_9)
theorem c63 : Try.f63.body.bind (mcOf Try.prog (List.contains [] ·) (List.getD [([], [1, 2, 4]), ([], [1, 2, 4, 6]), ([], [1, 2, 4, 6, 12]), ([], [1, 2, 4, 6]), ([0, 0, 0, 0, 0, 0, 0, 0, 0, 0, 0], [1, 2, 4, 6, 7, 8]), ([], [1, 2, 4, 6, 7, 8, 25]), ([], [4, 5]), ([], [1, 2, 4, 6]), ([], [4, 5])] · ([], [])) 34) = some k63 := by kernel_rfl
theorem r63 : rvsOf Try.prog Try.f63.results.toList = some [.cell 4 true 7, .tmp 5] := by kernel_rfl
theorem rplace_calls {m : Rv} {v : Vl} (hs : Sm v m) (hf : m.Fit) (k : List UInt8) (n : Int) (H : AH) : ACalls Try.prog 104 [.agg [.int .i64 m.K, .bool m.B, .int .i64 m.N, .int .i64 m.M, .str m.S, .sl 7 (rvE m.L) .no, .sl 1 (strE m.Keys) .no], .agg [.str k, .int .i64 n]] H (fun o H' => o = .ret (.tuple [.int .i64 (placeR m (k, n)).1, .int .i64 (placeR m (k, n)).2]) ∧ H' = H) := by
  refine ACalls.drop ?_
  have hfi := rfind_calls (k := k) hs hf
  unfold placeR
  simp only
  refine acalls Try.func104 c104 r104 (by simp [Try.ntmps104]) ?_
  by_cases hst : 0 ≤ n ∧ k = []
  · rw [if_pos hst]
    obtain ⟨h0, rfl⟩ := hst
    by_cases h6 : m.K = 6
    · rw [if_pos h6]
      by_cases hn : n < m.L.length
      · have hn2 : ¬ (m.L.length : Int) ≤ n := by omega
        rw [if_pos hn]
        repeat' (first | with_reducible (first | refine am_seq ?_ | refine am_block ?_) | ((with_reducible apply am_cond); (case hb => rfl); all_goals (intro hc; (try simp only [reduceCtorEq, decide_eq_true_eq, decide_eq_false_iff_not, Bool.or_eq_true, Bool.and_eq_true, Bool.or_eq_false_iff, Bool.not_eq_true', Bool.not_eq_false', beq_iff_eq] at hc); (try (exfalso; omega)))) | ((first | with_reducible (first | refine am_reg ?_ | refine am_drw ?_ | refine am_drx ?_ | refine am_skip ?_ | refine am_exit ?_ | refine am_ret ?_ | refine And.intro (by first | exact AH.lec_refl _ | assumption | exact AccP.lec (by assumption) | omega) ?_ | refine isnE_of (fun hc => ?_) (fun hc => ?_) (fun hc => ?_) | refine need_elems (by assumption) ?_ | refine vlen_acc (by assumption) ?_ | refine need_bytes (by assumption) ?_ | refine need_look (by repeat (first | assumption | exact AH.put_same _ _ _ | refine look_put ?_ (by assumption) | refine look_lec ?_ (by assumption))) ?_) | ((with_reducible (first | refine gd_not (fun hc => ?_) (fun hc => ?_) | refine gd_of (fun hc => ?_) (fun hc => ?_) | refine gq_not (fun hc => ?_) (fun hc => ?_) | refine gq_of (fun hc => ?_) (fun hc => ?_) | refine pickB_of (fun hc => ?_) (fun hc => ?_))) <;> (try simp -implicitDefEqProofs (disch := omega) only [go_sem, eq_self, decide_true, decide_false, Nat.reduceBEq, Nat.reduceAdd, Nat.reduceSub, Nat.reduceMul, Nat.reduceEqDiff, Nat.reduceLeDiff, Nat.reduceLT, Int.reduceLE, Int.reduceLT, Int.reduceToNat, Int.reduceAdd, Int.reduceEq, Int.reduceNeg, AH.put_ne, hc, rvE_length, h0, h6, hn2, bne_self_eq_false]) <;> (try simp only [reduceCtorEq, decide_eq_true_eq, decide_eq_false_iff_not, Bool.or_eq_true, Bool.and_eq_true, Bool.or_eq_false_iff, Bool.not_eq_true', Bool.not_eq_false', beq_iff_eq] at hc) <;> (try (exfalso; omega))) | ((with_reducible refine alloc_intro (fun ko hko => ?_)) <;> (try have hne := fresh_ne (by assumption) hko) <;> (try have hnk := fresh_ne hk hko) <;> (try have hnk2 := fresh_ne hk2 hko) <;> (try simp only [AH.put_none] at hko)) | ((with_reducible (first | refine vapp_accL (by assumption) ?_ (fun v2 H2 hacc hlec => ?_) | refine vapp_accL (AccP.mono (by assumption) (AccP.le (by assumption))) ?_ (fun v2 H2 hacc hlec => ?_) | refine vapp_accL (AccP.new (by assumption) (by assumption) _) ?_ (fun v2 H2 hacc hlec => ?_))); · simp only [byteCells_length, List.length_cons, List.length_nil, List.length_map, List.length_append, vE_length, mE_length, strE_len, List.length_take, rvE_length]; omega)) <;> (try simp -implicitDefEqProofs (disch := omega) only [go_sem, eq_self, decide_true, decide_false, Nat.reduceBEq, Nat.reduceAdd, Nat.reduceSub, Nat.reduceMul, Nat.reduceEqDiff, Nat.reduceLeDiff, Nat.reduceLT, Int.reduceLE, Int.reduceLT, Int.reduceToNat, Int.reduceAdd, Int.reduceEq, Int.reduceNeg, AH.put_ne, rvE_length, h0, h6, hn2, bne_self_eq_false])))
        all_goals (refine drop_end (by (first | exact fun _ _ h => h | (intro s x h; first | exact no_sub _ h | exact nil_no _ h | exact AccP.sub (by assumption) _ _ h | (refine agg_sub rfl ?_ x h; repeat (first | exact .nil | refine .cons (fun _ h => h) ?_ | refine .cons (fun _ h => nil_no _ h) ?_ | refine .cons (fun _ h => no_sub _ h) ?_ | refine .cons (fun _ h => AccP.sub (by assumption) _ _ h) ?_)) | (refine tuple_sub ?_ x h; repeat (first | exact .nil | refine .cons (fun _ h => h) ?_ | refine .cons (fun _ h => nil_no _ h) ?_ | refine .cons (fun _ h => no_sub _ h) ?_ | refine .cons (fun _ h => AccP.sub (by assumption) _ _ h) ?_ | refine .cons (fun _ h => agg_sub rfl (by repeat (first | exact .nil | refine .cons (fun _ h => h) ?_ | refine .cons (fun _ h => nil_no _ h) ?_ | refine .cons (fun _ h => no_sub _ h) ?_ | refine .cons (fun _ h => AccP.sub (by assumption) _ _ h) ?_)) _ h) ?_))))) (by (repeat (first | exact AH.le_refl _ | assumption | exact AccP.le (by assumption) | refine AH.le_put ?_ (by first | assumption | exact none_of_le (by assumption) (by assumption) | exact And.right (by assumption) | exact And.right (And.right (by assumption))) _ | refine AH.le_trans ?_ (AccP.le (by assumption))))))
      · have hn2 : (m.L.length : Int) ≤ n := by omega
        rw [if_neg hn]
        repeat' (first | with_reducible (first | refine am_seq ?_ | refine am_block ?_) | ((with_reducible apply am_cond); (case hb => rfl); all_goals (intro hc; (try simp only [reduceCtorEq, decide_eq_true_eq, decide_eq_false_iff_not, Bool.or_eq_true, Bool.and_eq_true, Bool.or_eq_false_iff, Bool.not_eq_true', Bool.not_eq_false', beq_iff_eq] at hc); (try (exfalso; omega)))) | ((first | with_reducible (first | refine am_reg ?_ | refine am_drw ?_ | refine am_drx ?_ | refine am_skip ?_ | refine am_exit ?_ | refine am_ret ?_ | refine And.intro (by first | exact AH.lec_refl _ | assumption | exact AccP.lec (by assumption) | omega) ?_ | refine isnE_of (fun hc => ?_) (fun hc => ?_) (fun hc => ?_) | refine need_elems (by assumption) ?_ | refine vlen_acc (by assumption) ?_ | refine need_bytes (by assumption) ?_ | refine need_look (by repeat (first | assumption | exact AH.put_same _ _ _ | refine look_put ?_ (by assumption) | refine look_lec ?_ (by assumption))) ?_) | ((with_reducible (first | refine gd_not (fun hc => ?_) (fun hc => ?_) | refine gd_of (fun hc => ?_) (fun hc => ?_) | refine gq_not (fun hc => ?_) (fun hc => ?_) | refine gq_of (fun hc => ?_) (fun hc => ?_) | refine pickB_of (fun hc => ?_) (fun hc => ?_))) <;> (try simp -implicitDefEqProofs (disch := omega) only [go_sem, eq_self, decide_true, decide_false, Nat.reduceBEq, Nat.reduceAdd, Nat.reduceSub, Nat.reduceMul, Nat.reduceEqDiff, Nat.reduceLeDiff, Nat.reduceLT, Int.reduceLE, Int.reduceLT, Int.reduceToNat, Int.reduceAdd, Int.reduceEq, Int.reduceNeg, AH.put_ne, hc, rvE_length, h0, h6, hn2, bne_self_eq_false]) <;> (try simp only [reduceCtorEq, decide_eq_true_eq, decide_eq_false_iff_not, Bool.or_eq_true, Bool.and_eq_true, Bool.or_eq_false_iff, Bool.not_eq_true', Bool.not_eq_false', beq_iff_eq] at hc) <;> (try (exfalso; omega))) | ((with_reducible refine alloc_intro (fun ko hko => ?_)) <;> (try have hne := fresh_ne (by assumption) hko) <;> (try have hnk := fresh_ne hk hko) <;> (try have hnk2 := fresh_ne hk2 hko) <;> (try simp only [AH.put_none] at hko)) | ((with_reducible (first | refine vapp_accL (by assumption) ?_ (fun v2 H2 hacc hlec => ?_) | refine vapp_accL (AccP.mono (by assumption) (AccP.le (by assumption))) ?_ (fun v2 H2 hacc hlec => ?_) | refine vapp_accL (AccP.new (by assumption) (by assumption) _) ?_ (fun v2 H2 hacc hlec => ?_))); · simp only [byteCells_length, List.length_cons, List.length_nil, List.length_map, List.length_append, vE_length, mE_length, strE_len, List.length_take, rvE_length]; omega)) <;> (try simp -implicitDefEqProofs (disch := omega) only [go_sem, eq_self, decide_true, decide_false, Nat.reduceBEq, Nat.reduceAdd, Nat.reduceSub, Nat.reduceMul, Nat.reduceEqDiff, Nat.reduceLeDiff, Nat.reduceLT, Int.reduceLE, Int.reduceLT, Int.reduceToNat, Int.reduceAdd, Int.reduceEq, Int.reduceNeg, AH.put_ne, rvE_length, h0, h6, hn2, bne_self_eq_false])))
        all_goals (refine drop_end (by (first | exact fun _ _ h => h | (intro s x h; first | exact no_sub _ h | exact nil_no _ h | exact AccP.sub (by assumption) _ _ h | (refine agg_sub rfl ?_ x h; repeat (first | exact .nil | refine .cons (fun _ h => h) ?_ | refine .cons (fun _ h => nil_no _ h) ?_ | refine .cons (fun _ h => no_sub _ h) ?_ | refine .cons (fun _ h => AccP.sub (by assumption) _ _ h) ?_)) | (refine tuple_sub ?_ x h; repeat (first | exact .nil | refine .cons (fun _ h => h) ?_ | refine .cons (fun _ h => nil_no _ h) ?_ | refine .cons (fun _ h => no_sub _ h) ?_ | refine .cons (fun _ h => AccP.sub (by assumption) _ _ h) ?_ | refine .cons (fun _ h => agg_sub rfl (by repeat (first | exact .nil | refine .cons (fun _ h => h) ?_ | refine .cons (fun _ h => nil_no _ h) ?_ | refine .cons (fun _ h => no_sub _ h) ?_ | refine .cons (fun _ h => AccP.sub (by assumption) _ _ h) ?_)) _ h) ?_))))) (by (repeat (first | exact AH.le_refl _ | assumption | exact AccP.le (by assumption) | refine AH.le_put ?_ (by first | assumption | exact none_of_le (by assumption) (by assumption) | exact And.right (by assumption) | exact And.right (And.right (by assumption))) _ | refine AH.le_trans ?_ (AccP.le (by assumption))))))
    · rw [if_neg h6]
      repeat' (first | with_reducible (first | refine am_seq ?_ | refine am_block ?_) | ((with_reducible apply am_cond); (case hb => rfl); all_goals (intro hc; (try simp only [reduceCtorEq, decide_eq_true_eq, decide_eq_false_iff_not, Bool.or_eq_true, Bool.and_eq_true, Bool.or_eq_false_iff, Bool.not_eq_true', Bool.not_eq_false', beq_iff_eq] at hc); (try (exfalso; omega)))) | ((first | with_reducible (first | refine am_reg ?_ | refine am_drw ?_ | refine am_drx ?_ | refine am_skip ?_ | refine am_exit ?_ | refine am_ret ?_ | refine And.intro (by first | exact AH.lec_refl _ | assumption | exact AccP.lec (by assumption) | omega) ?_ | refine isnE_of (fun hc => ?_) (fun hc => ?_) (fun hc => ?_) | refine need_elems (by assumption) ?_ | refine vlen_acc (by assumption) ?_ | refine need_bytes (by assumption) ?_ | refine need_look (by repeat (first | assumption | exact AH.put_same _ _ _ | refine look_put ?_ (by assumption) | refine look_lec ?_ (by assumption))) ?_) | ((with_reducible (first | refine gd_not (fun hc => ?_) (fun hc => ?_) | refine gd_of (fun hc => ?_) (fun hc => ?_) | refine gq_not (fun hc => ?_) (fun hc => ?_) | refine gq_of (fun hc => ?_) (fun hc => ?_) | refine pickB_of (fun hc => ?_) (fun hc => ?_))) <;> (try simp -implicitDefEqProofs (disch := omega) only [go_sem, eq_self, decide_true, decide_false, Nat.reduceBEq, Nat.reduceAdd, Nat.reduceSub, Nat.reduceMul, Nat.reduceEqDiff, Nat.reduceLeDiff, Nat.reduceLT, Int.reduceLE, Int.reduceLT, Int.reduceToNat, Int.reduceAdd, Int.reduceEq, Int.reduceNeg, AH.put_ne, hc, rvE_length, h0, h6, Bool.not_false]) <;> (try simp only [reduceCtorEq, decide_eq_true_eq, decide_eq_false_iff_not, Bool.or_eq_true, Bool.and_eq_true, Bool.or_eq_false_iff, Bool.not_eq_true', Bool.not_eq_false', beq_iff_eq] at hc) <;> (try (exfalso; omega))) | ((with_reducible refine alloc_intro (fun ko hko => ?_)) <;> (try have hne := fresh_ne (by assumption) hko) <;> (try have hnk := fresh_ne hk hko) <;> (try have hnk2 := fresh_ne hk2 hko) <;> (try simp only [AH.put_none] at hko)) | ((with_reducible (first | refine vapp_accL (by assumption) ?_ (fun v2 H2 hacc hlec => ?_) | refine vapp_accL (AccP.mono (by assumption) (AccP.le (by assumption))) ?_ (fun v2 H2 hacc hlec => ?_) | refine vapp_accL (AccP.new (by assumption) (by assumption) _) ?_ (fun v2 H2 hacc hlec => ?_))); · simp only [byteCells_length, List.length_cons, List.length_nil, List.length_map, List.length_append, vE_length, mE_length, strE_len, List.length_take, rvE_length]; omega)) <;> (try simp -implicitDefEqProofs (disch := omega) only [go_sem, eq_self, decide_true, decide_false, Nat.reduceBEq, Nat.reduceAdd, Nat.reduceSub, Nat.reduceMul, Nat.reduceEqDiff, Nat.reduceLeDiff, Nat.reduceLT, Int.reduceLE, Int.reduceLT, Int.reduceToNat, Int.reduceAdd, Int.reduceEq, Int.reduceNeg, AH.put_ne, rvE_length, h0, h6, Bool.not_false])))
      all_goals (refine drop_end (by (first | exact fun _ _ h => h | (intro s x h; first | exact no_sub _ h | exact nil_no _ h | exact AccP.sub (by assumption) _ _ h | (refine agg_sub rfl ?_ x h; repeat (first | exact .nil | refine .cons (fun _ h => h) ?_ | refine .cons (fun _ h => nil_no _ h) ?_ | refine .cons (fun _ h => no_sub _ h) ?_ | refine .cons (fun _ h => AccP.sub (by assumption) _ _ h) ?_)) | (refine tuple_sub ?_ x h; repeat (first | exact .nil | refine .cons (fun _ h => h) ?_ | refine .cons (fun _ h => nil_no _ h) ?_ | refine .cons (fun _ h => no_sub _ h) ?_ | refine .cons (fun _ h => AccP.sub (by assumption) _ _ h) ?_ | refine .cons (fun _ h => agg_sub rfl (by repeat (first | exact .nil | refine .cons (fun _ h => h) ?_ | refine .cons (fun _ h => nil_no _ h) ?_ | refine .cons (fun _ h => no_sub _ h) ?_ | refine .cons (fun _ h => AccP.sub (by assumption) _ _ h) ?_)) _ h) ?_))))) (by (repeat (first | exact AH.le_refl _ | assumption | exact AccP.le (by assumption) | refine AH.le_put ?_ (by first | assumption | exact none_of_le (by assumption) (by assumption) | exact And.right (by assumption) | exact And.right (And.right (by assumption))) _ | refine AH.le_trans ?_ (AccP.le (by assumption))))))
  · rw [if_neg hst]
    by_cases h7 : m.K = 7
    · rw [if_pos h7]
      rw [h7] at hfi
      by_cases hi : 0 ≤ idI k m.Keys
      · have hi2 : ¬ idI k m.Keys < 0 := by omega
        rw [if_pos hi]
        repeat' (first | with_reducible (first | refine am_seq ?_ | refine am_block ?_) | ((with_reducible apply am_cond); (case hb => rfl); all_goals (intro hc; (try simp only [reduceCtorEq, decide_eq_true_eq, decide_eq_false_iff_not, Bool.or_eq_true, Bool.and_eq_true, Bool.or_eq_false_iff, Bool.not_eq_true', Bool.not_eq_false', beq_iff_eq] at hc); (try (exfalso; omega)))) | ((first | with_reducible (first | refine am_reg ?_ | refine am_drw ?_ | refine am_drx ?_ | refine am_skip ?_ | refine am_exit ?_ | refine am_ret ?_ | refine And.intro (by first | exact AH.lec_refl _ | assumption | exact AccP.lec (by assumption) | omega) ?_ | refine isnE_of (fun hc => ?_) (fun hc => ?_) (fun hc => ?_) | refine need_elems (by assumption) ?_ | refine vlen_acc (by assumption) ?_ | refine need_bytes (by assumption) ?_ | refine call_of (hfi) ?_ | refine qcall_of (hfi) ?_ | refine need_look (by repeat (first | assumption | exact AH.put_same _ _ _ | refine look_put ?_ (by assumption) | refine look_lec ?_ (by assumption))) ?_) | ((with_reducible (first | refine gd_not (fun hc => ?_) (fun hc => ?_) | refine gd_of (fun hc => ?_) (fun hc => ?_) | refine gq_not (fun hc => ?_) (fun hc => ?_) | refine gq_of (fun hc => ?_) (fun hc => ?_) | refine pickB_of (fun hc => ?_) (fun hc => ?_))) <;> (try simp -implicitDefEqProofs (disch := omega) only [go_sem, eq_self, decide_true, decide_false, Nat.reduceBEq, Nat.reduceAdd, Nat.reduceSub, Nat.reduceMul, Nat.reduceEqDiff, Nat.reduceLeDiff, Nat.reduceLT, Int.reduceLE, Int.reduceLT, Int.reduceToNat, Int.reduceAdd, Int.reduceEq, Int.reduceNeg, AH.put_ne, hc, h7, hi2, bne_self_eq_false]) <;> (try simp only [reduceCtorEq, decide_eq_true_eq, decide_eq_false_iff_not, Bool.or_eq_true, Bool.and_eq_true, Bool.or_eq_false_iff, Bool.not_eq_true', Bool.not_eq_false', beq_iff_eq] at hc) <;> (try (exfalso; omega))) | ((with_reducible refine alloc_intro (fun ko hko => ?_)) <;> (try have hne := fresh_ne (by assumption) hko) <;> (try have hnk := fresh_ne hk hko) <;> (try have hnk2 := fresh_ne hk2 hko) <;> (try simp only [AH.put_none] at hko)) | ((with_reducible (first | refine vapp_accL (by assumption) ?_ (fun v2 H2 hacc hlec => ?_) | refine vapp_accL (AccP.mono (by assumption) (AccP.le (by assumption))) ?_ (fun v2 H2 hacc hlec => ?_) | refine vapp_accL (AccP.new (by assumption) (by assumption) _) ?_ (fun v2 H2 hacc hlec => ?_))); · simp only [byteCells_length, List.length_cons, List.length_nil, List.length_map, List.length_append, vE_length, mE_length, strE_len, List.length_take, rvE_length]; omega)) <;> (try simp -implicitDefEqProofs (disch := omega) only [go_sem, eq_self, decide_true, decide_false, Nat.reduceBEq, Nat.reduceAdd, Nat.reduceSub, Nat.reduceMul, Nat.reduceEqDiff, Nat.reduceLeDiff, Nat.reduceLT, Int.reduceLE, Int.reduceLT, Int.reduceToNat, Int.reduceAdd, Int.reduceEq, Int.reduceNeg, AH.put_ne, h7, hi2, bne_self_eq_false])))
        all_goals try (exfalso; exact hst (And.intro (by assumption) (by assumption)))
        all_goals (refine drop_end (by (first | exact fun _ _ h => h | (intro s x h; first | exact no_sub _ h | exact nil_no _ h | exact AccP.sub (by assumption) _ _ h | (refine agg_sub rfl ?_ x h; repeat (first | exact .nil | refine .cons (fun _ h => h) ?_ | refine .cons (fun _ h => nil_no _ h) ?_ | refine .cons (fun _ h => no_sub _ h) ?_ | refine .cons (fun _ h => AccP.sub (by assumption) _ _ h) ?_)) | (refine tuple_sub ?_ x h; repeat (first | exact .nil | refine .cons (fun _ h => h) ?_ | refine .cons (fun _ h => nil_no _ h) ?_ | refine .cons (fun _ h => no_sub _ h) ?_ | refine .cons (fun _ h => AccP.sub (by assumption) _ _ h) ?_ | refine .cons (fun _ h => agg_sub rfl (by repeat (first | exact .nil | refine .cons (fun _ h => h) ?_ | refine .cons (fun _ h => nil_no _ h) ?_ | refine .cons (fun _ h => no_sub _ h) ?_ | refine .cons (fun _ h => AccP.sub (by assumption) _ _ h) ?_)) _ h) ?_))))) (by (repeat (first | exact AH.le_refl _ | assumption | exact AccP.le (by assumption) | refine AH.le_put ?_ (by first | assumption | exact none_of_le (by assumption) (by assumption) | exact And.right (by assumption) | exact And.right (And.right (by assumption))) _ | refine AH.le_trans ?_ (AccP.le (by assumption))))))
      · have hi2 : idI k m.Keys < 0 := by omega
        rw [if_neg hi]
        repeat' (first | with_reducible (first | refine am_seq ?_ | refine am_block ?_) | ((with_reducible apply am_cond); (case hb => rfl); all_goals (intro hc; (try simp only [reduceCtorEq, decide_eq_true_eq, decide_eq_false_iff_not, Bool.or_eq_true, Bool.and_eq_true, Bool.or_eq_false_iff, Bool.not_eq_true', Bool.not_eq_false', beq_iff_eq] at hc); (try (exfalso; omega)))) | ((first | with_reducible (first | refine am_reg ?_ | refine am_drw ?_ | refine am_drx ?_ | refine am_skip ?_ | refine am_exit ?_ | refine am_ret ?_ | refine And.intro (by first | exact AH.lec_refl _ | assumption | exact AccP.lec (by assumption) | omega) ?_ | refine isnE_of (fun hc => ?_) (fun hc => ?_) (fun hc => ?_) | refine need_elems (by assumption) ?_ | refine vlen_acc (by assumption) ?_ | refine need_bytes (by assumption) ?_ | refine call_of (hfi) ?_ | refine qcall_of (hfi) ?_ | refine need_look (by repeat (first | assumption | exact AH.put_same _ _ _ | refine look_put ?_ (by assumption) | refine look_lec ?_ (by assumption))) ?_) | ((with_reducible (first | refine gd_not (fun hc => ?_) (fun hc => ?_) | refine gd_of (fun hc => ?_) (fun hc => ?_) | refine gq_not (fun hc => ?_) (fun hc => ?_) | refine gq_of (fun hc => ?_) (fun hc => ?_) | refine pickB_of (fun hc => ?_) (fun hc => ?_))) <;> (try simp -implicitDefEqProofs (disch := omega) only [go_sem, eq_self, decide_true, decide_false, Nat.reduceBEq, Nat.reduceAdd, Nat.reduceSub, Nat.reduceMul, Nat.reduceEqDiff, Nat.reduceLeDiff, Nat.reduceLT, Int.reduceLE, Int.reduceLT, Int.reduceToNat, Int.reduceAdd, Int.reduceEq, Int.reduceNeg, AH.put_ne, hc, h7, hi2, bne_self_eq_false]) <;> (try simp only [reduceCtorEq, decide_eq_true_eq, decide_eq_false_iff_not, Bool.or_eq_true, Bool.and_eq_true, Bool.or_eq_false_iff, Bool.not_eq_true', Bool.not_eq_false', beq_iff_eq] at hc) <;> (try (exfalso; omega))) | ((with_reducible refine alloc_intro (fun ko hko => ?_)) <;> (try have hne := fresh_ne (by assumption) hko) <;> (try have hnk := fresh_ne hk hko) <;> (try have hnk2 := fresh_ne hk2 hko) <;> (try simp only [AH.put_none] at hko)) | ((with_reducible (first | refine vapp_accL (by assumption) ?_ (fun v2 H2 hacc hlec => ?_) | refine vapp_accL (AccP.mono (by assumption) (AccP.le (by assumption))) ?_ (fun v2 H2 hacc hlec => ?_) | refine vapp_accL (AccP.new (by assumption) (by assumption) _) ?_ (fun v2 H2 hacc hlec => ?_))); · simp only [byteCells_length, List.length_cons, List.length_nil, List.length_map, List.length_append, vE_length, mE_length, strE_len, List.length_take, rvE_length]; omega)) <;> (try simp -implicitDefEqProofs (disch := omega) only [go_sem, eq_self, decide_true, decide_false, Nat.reduceBEq, Nat.reduceAdd, Nat.reduceSub, Nat.reduceMul, Nat.reduceEqDiff, Nat.reduceLeDiff, Nat.reduceLT, Int.reduceLE, Int.reduceLT, Int.reduceToNat, Int.reduceAdd, Int.reduceEq, Int.reduceNeg, AH.put_ne, h7, hi2, bne_self_eq_false])))
        all_goals try (exfalso; exact hst (And.intro (by assumption) (by assumption)))
        all_goals (refine drop_end (by (first | exact fun _ _ h => h | (intro s x h; first | exact no_sub _ h | exact nil_no _ h | exact AccP.sub (by assumption) _ _ h | (refine agg_sub rfl ?_ x h; repeat (first | exact .nil | refine .cons (fun _ h => h) ?_ | refine .cons (fun _ h => nil_no _ h) ?_ | refine .cons (fun _ h => no_sub _ h) ?_ | refine .cons (fun _ h => AccP.sub (by assumption) _ _ h) ?_)) | (refine tuple_sub ?_ x h; repeat (first | exact .nil | refine .cons (fun _ h => h) ?_ | refine .cons (fun _ h => nil_no _ h) ?_ | refine .cons (fun _ h => no_sub _ h) ?_ | refine .cons (fun _ h => AccP.sub (by assumption) _ _ h) ?_ | refine .cons (fun _ h => agg_sub rfl (by repeat (first | exact .nil | refine .cons (fun _ h => h) ?_ | refine .cons (fun _ h => nil_no _ h) ?_ | refine .cons (fun _ h => no_sub _ h) ?_ | refine .cons (fun _ h => AccP.sub (by assumption) _ _ h) ?_)) _ h) ?_))))) (by (repeat (first | exact AH.le_refl _ | assumption | exact AccP.le (by assumption) | refine AH.le_put ?_ (by first | assumption | exact none_of_le (by assumption) (by assumption) | exact And.right (by assumption) | exact And.right (And.right (by assumption))) _ | refine AH.le_trans ?_ (AccP.le (by assumption))))))
    · rw [if_neg h7]
      repeat' (first | with_reducible (first | refine am_seq ?_ | refine am_block ?_) | ((with_reducible apply am_cond); (case hb => rfl); all_goals (intro hc; (try simp only [reduceCtorEq, decide_eq_true_eq, decide_eq_false_iff_not, Bool.or_eq_true, Bool.and_eq_true, Bool.or_eq_false_iff, Bool.not_eq_true', Bool.not_eq_false', beq_iff_eq] at hc); (try (exfalso; omega)))) | ((first | with_reducible (first | refine am_reg ?_ | refine am_drw ?_ | refine am_drx ?_ | refine am_skip ?_ | refine am_exit ?_ | refine am_ret ?_ | refine And.intro (by first | exact AH.lec_refl _ | assumption | exact AccP.lec (by assumption) | omega) ?_ | refine isnE_of (fun hc => ?_) (fun hc => ?_) (fun hc => ?_) | refine need_elems (by assumption) ?_ | refine vlen_acc (by assumption) ?_ | refine need_bytes (by assumption) ?_ | refine need_look (by repeat (first | assumption | exact AH.put_same _ _ _ | refine look_put ?_ (by assumption) | refine look_lec ?_ (by assumption))) ?_) | ((with_reducible (first | refine gd_not (fun hc => ?_) (fun hc => ?_) | refine gd_of (fun hc => ?_) (fun hc => ?_) | refine gq_not (fun hc => ?_) (fun hc => ?_) | refine gq_of (fun hc => ?_) (fun hc => ?_) | refine pickB_of (fun hc => ?_) (fun hc => ?_))) <;> (try simp -implicitDefEqProofs (disch := omega) only [go_sem, eq_self, decide_true, decide_false, Nat.reduceBEq, Nat.reduceAdd, Nat.reduceSub, Nat.reduceMul, Nat.reduceEqDiff, Nat.reduceLeDiff, Nat.reduceLT, Int.reduceLE, Int.reduceLT, Int.reduceToNat, Int.reduceAdd, Int.reduceEq, Int.reduceNeg, AH.put_ne, hc, h7, Bool.not_false]) <;> (try simp only [reduceCtorEq, decide_eq_true_eq, decide_eq_false_iff_not, Bool.or_eq_true, Bool.and_eq_true, Bool.or_eq_false_iff, Bool.not_eq_true', Bool.not_eq_false', beq_iff_eq] at hc) <;> (try (exfalso; omega))) | ((with_reducible refine alloc_intro (fun ko hko => ?_)) <;> (try have hne := fresh_ne (by assumption) hko) <;> (try have hnk := fresh_ne hk hko) <;> (try have hnk2 := fresh_ne hk2 hko) <;> (try simp only [AH.put_none] at hko)) | ((with_reducible (first | refine vapp_accL (by assumption) ?_ (fun v2 H2 hacc hlec => ?_) | refine vapp_accL (AccP.mono (by assumption) (AccP.le (by assumption))) ?_ (fun v2 H2 hacc hlec => ?_) | refine vapp_accL (AccP.new (by assumption) (by assumption) _) ?_ (fun v2 H2 hacc hlec => ?_))); · simp only [byteCells_length, List.length_cons, List.length_nil, List.length_map, List.length_append, vE_length, mE_length, strE_len, List.length_take, rvE_length]; omega)) <;> (try simp -implicitDefEqProofs (disch := omega) only [go_sem, eq_self, decide_true, decide_false, Nat.reduceBEq, Nat.reduceAdd, Nat.reduceSub, Nat.reduceMul, Nat.reduceEqDiff, Nat.reduceLeDiff, Nat.reduceLT, Int.reduceLE, Int.reduceLT, Int.reduceToNat, Int.reduceAdd, Int.reduceEq, Int.reduceNeg, AH.put_ne, h7, Bool.not_false])))
      all_goals try (exfalso; exact hst (And.intro (by assumption) (by assumption)))
      all_goals (refine drop_end (by (first | exact fun _ _ h => h | (intro s x h; first | exact no_sub _ h | exact nil_no _ h | exact AccP.sub (by assumption) _ _ h | (refine agg_sub rfl ?_ x h; repeat (first | exact .nil | refine .cons (fun _ h => h) ?_ | refine .cons (fun _ h => nil_no _ h) ?_ | refine .cons (fun _ h => no_sub _ h) ?_ | refine .cons (fun _ h => AccP.sub (by assumption) _ _ h) ?_)) | (refine tuple_sub ?_ x h; repeat (first | exact .nil | refine .cons (fun _ h => h) ?_ | refine .cons (fun _ h => nil_no _ h) ?_ | refine .cons (fun _ h => no_sub _ h) ?_ | refine .cons (fun _ h => AccP.sub (by assumption) _ _ h) ?_ | refine .cons (fun _ h => agg_sub rfl (by repeat (first | exact .nil | refine .cons (fun _ h => h) ?_ | refine .cons (fun _ h => nil_no _ h) ?_ | refine .cons (fun _ h => no_sub _ h) ?_ | refine .cons (fun _ h => AccP.sub (by assumption) _ _ h) ?_)) _ h) ?_))))) (by (repeat (first | exact AH.le_refl _ | assumption | exact AccP.le (by assumption) | refine AH.le_put ?_ (by first | assumption | exact none_of_le (by assumption) (by assumption) | exact And.right (by assumption) | exact And.right (And.right (by assumption))) _ | refine AH.le_trans ?_ (AccP.le (by assumption))))))
theorem rvC_zero : rvC zR = [.int .i64 0, .bool false, .int .i64 0, .int .i64 0, .str [], .sl 7 [] .no, .sl 1 [] .no] := by rw [rvC_eq]; rfl
theorem goM_cons (m : Rv) (s : St2) (r : List St2) : goM m (s :: r) = if (placeR m s).2 = 0 then goM (m.L.getD (placeR m s).1.toNat zR) r else (zR, (placeR m s).2) := rfl
theorem rgo_calls {m : Rv} {v : Vl} {l : List St2} {t : Tok} (hs : Sm v m) (hf : m.Fit) (hl : l.length ≤ 1000) (H : AH) : ACalls Try.prog 63 [.agg [.int .i64 m.K, .bool m.B, .int .i64 m.N, .int .i64 m.M, .str m.S, .sl 7 (rvE m.L) .no, .sl 1 (strE m.Keys) .no], .sl 2 (stE l) t] H (fun o H' => o = .ret (.tuple [.agg (rvC (goM m l).1), .int .i64 (goM m l).2]) ∧ H' = H) := by
  refine ACalls.drop ?_
  refine acalls Try.func63 c63 r63 (by simp [Try.ntmps63]) ?_
  repeat' (first | with_reducible (first | refine am_seq ?_ | refine am_block ?_) | ((with_reducible apply am_cond); (case hb => rfl); all_goals (intro hc; (try simp only [reduceCtorEq, decide_eq_true_eq, decide_eq_false_iff_not, Bool.or_eq_true, Bool.and_eq_true, Bool.or_eq_false_iff, Bool.not_eq_true', Bool.not_eq_false', beq_iff_eq] at hc); (try (exfalso; omega)))) | ((first | with_reducible (first | refine am_reg ?_ | refine am_drw ?_ | refine am_drx ?_ | refine am_skip ?_ | refine am_exit ?_ | refine am_ret ?_ | refine And.intro (by first | exact AH.lec_refl _ | assumption | exact AccP.lec (by assumption) | omega) ?_ | refine isnE_of (fun hc => ?_) (fun hc => ?_) (fun hc => ?_) | refine need_elems (by assumption) ?_ | refine vlen_acc (by assumption) ?_ | refine need_bytes (by assumption) ?_ | refine need_look (by repeat (first | assumption | exact AH.put_same _ _ _ | refine look_put ?_ (by assumption) | refine look_lec ?_ (by assumption))) ?_) | ((with_reducible (first | refine gd_not (fun hc => ?_) (fun hc => ?_) | refine gd_of (fun hc => ?_) (fun hc => ?_) | refine gq_not (fun hc => ?_) (fun hc => ?_) | refine gq_of (fun hc => ?_) (fun hc => ?_) | refine pickB_of (fun hc => ?_) (fun hc => ?_))) <;> (try simp -implicitDefEqProofs (disch := omega) only [go_sem, eq_self, decide_true, decide_false, Nat.reduceBEq, Nat.reduceAdd, Nat.reduceSub, Nat.reduceMul, Nat.reduceEqDiff, Nat.reduceLeDiff, Nat.reduceLT, Int.reduceLE, Int.reduceLT, Int.reduceToNat, Int.reduceAdd, Int.reduceEq, Int.reduceNeg, AH.put_ne, hc]) <;> (try simp only [reduceCtorEq, decide_eq_true_eq, decide_eq_false_iff_not, Bool.or_eq_true, Bool.and_eq_true, Bool.or_eq_false_iff, Bool.not_eq_true', Bool.not_eq_false', beq_iff_eq] at hc) <;> (try (exfalso; omega))) | ((with_reducible refine alloc_intro (fun ko hko => ?_)) <;> (try have hne := fresh_ne (by assumption) hko) <;> (try have hnk := fresh_ne hk hko) <;> (try have hnk2 := fresh_ne hk2 hko) <;> (try simp only [AH.put_none] at hko)) | ((with_reducible (first | refine vapp_accL (by assumption) ?_ (fun v2 H2 hacc hlec => ?_) | refine vapp_accL (AccP.mono (by assumption) (AccP.le (by assumption))) ?_ (fun v2 H2 hacc hlec => ?_) | refine vapp_accL (AccP.new (by assumption) (by assumption) _) ?_ (fun v2 H2 hacc hlec => ?_))); · simp only [byteCells_length, List.length_cons, List.length_nil, List.length_map, List.length_append, vE_length, mE_length, strE_len, List.length_take, rvE_length]; omega)) <;> (try simp -implicitDefEqProofs (disch := omega) only [go_sem, eq_self, decide_true, decide_false, Nat.reduceBEq, Nat.reduceAdd, Nat.reduceSub, Nat.reduceMul, Nat.reduceEqDiff, Nat.reduceLeDiff, Nat.reduceLT, Int.reduceLE, Int.reduceLT, Int.reduceToNat, Int.reduceAdd, Int.reduceEq, Int.reduceNeg, AH.put_ne])))
  rename_i k2 q2
  have hle0 : H.le ((H.put k2 (.cells [.int .i64 m.K, .bool m.B, .int .i64 m.N, .int .i64 m.M, .str m.S, .sl 7 (rvE m.L) .no, .sl 1 (strE m.Keys) .no])).put ko (.cells zeroC)) := AH.le_put (AH.le_put (AH.le_refl _) q2 _) hko.2 _
  have e20 : ((H.put k2 (.cells [.int .i64 m.K, .bool m.B, .int .i64 m.N, .int .i64 m.M, .str m.S, .sl 7 (rvE m.L) .no, .sl 1 (strE m.Keys) .no])).put ko (.cells zeroC)) k2 = some (.cells [.int .i64 m.K, .bool m.B, .int .i64 m.N, .int .i64 m.M, .str m.S, .sl 7 (rvE m.L) .no, .sl 1 (strE m.Keys) .no]) := by rw [AH.put_ne _ _ (Ne.symm hko.1), AH.put_same]
  have eo0 : ((H.put k2 (.cells [.int .i64 m.K, .bool m.B, .int .i64 m.N, .int .i64 m.M, .str m.S, .sl 7 (rvE m.L) .no, .sl 1 (strE m.Keys) .no])).put ko (.cells zeroC)) ko = some (.cells zeroC) := AH.put_same _ _ _
  generalize ((H.put k2 (.cells [.int .i64 m.K, .bool m.B, .int .i64 m.N, .int .i64 m.M, .str m.S, .sl 7 (rvE m.L) .no, .sl 1 (strE m.Keys) .no])).put ko (.cells zeroC)) = G at *
  refine am_loop (fun n a H' => ∃ (i : Nat) (c : Rv) (w : Vl), i + n = l.length ∧ a = [(1, .sl 2 (stE l) t), (2, .ptr k2 0), (4, .ptr ko 0), (6, .int .i64 i)] ∧ H' k2 = some (.cells [.int .i64 c.K, .bool c.B, .int .i64 c.N, .int .i64 c.M, .str c.S, .sl 7 (rvE c.L) .no, .sl 1 (strE c.Keys) .no]) ∧ H' ko = some (.cells zeroC) ∧ H.le H' ∧ Sm w c ∧ c.Fit ∧ goM m l = goM c (l.drop i)) ?_ l.length ⟨0, m, v, by omega, rfl, e20, eo0, hle0, hs, hf, rfl⟩
  clear e20 eo0 hle0
  rintro n a H' ⟨i, c, w, hi, rfl, e2, eo, hle, hsw, hcf, hg⟩
  by_cases hlt : i < l.length
  · rw [List.drop_eq_getElem_cons hlt, goM_cons] at hg
    have hpc := rplace_calls hsw hcf l[i].1 l[i].2
    by_cases h0 : (placeR c l[i]).2 = 0
    · rw [if_pos h0] at hg
      obtain ⟨j, x, hj, hpl, hsx⟩ : ∃ (j : Nat) (x : Vl) (h : j < c.L.length), placeR c l[i] = ((j : Int), 0) ∧ Sm x c.L[j] := by
        rcases into_place hsw l[i] with ⟨h1, h2⟩ | ⟨_, _, _, _, _, _, h1, h2⟩ | ⟨_, _, _, _, h1, h2⟩ | ⟨j, x, hlt, h1, h2, h3, _⟩
        · rw [h2] at h0; simp at h0
        · rw [h2] at h0; simp at h0
        · rw [h2] at h0; simp at h0
        · exact ⟨j, x, hlt, h2, h3⟩
      have hpl2 : placeR c (l[i].1, l[i].2) = ((j : Int), 0) := hpl
      rw [hpl2] at hpc
      rw [hpl] at hg
      simp only [Int.toNat_natCast, List.getD_eq_getElem?_getD, List.getElem?_eq_getElem hj, Option.getD_some] at hg
      simp only at hpc
      repeat' (first | with_reducible (first | refine am_seq ?_ | refine am_block ?_) | ((with_reducible apply am_cond); (case hb => rfl); all_goals (intro hc; (try simp only [reduceCtorEq, decide_eq_true_eq, decide_eq_false_iff_not, Bool.or_eq_true, Bool.and_eq_true, Bool.or_eq_false_iff, Bool.not_eq_true', Bool.not_eq_false', beq_iff_eq] at hc); (try (exfalso; omega)))) | ((first | with_reducible (first | refine am_reg ?_ | refine am_drw ?_ | refine am_drx ?_ | refine am_skip ?_ | refine am_exit ?_ | refine am_ret ?_ | refine And.intro (by first | exact AH.lec_refl _ | assumption | exact AccP.lec (by assumption) | omega) ?_ | refine isnE_of (fun hc => ?_) (fun hc => ?_) (fun hc => ?_) | refine need_elems (by assumption) ?_ | refine vlen_acc (by assumption) ?_ | refine need_bytes (by assumption) ?_ | refine call_of (hpc) ?_ | refine qcall_of (hpc) ?_ | refine need_look (by repeat (first | assumption | exact AH.put_same _ _ _ | refine look_put ?_ (by assumption) | refine look_lec ?_ (by assumption))) ?_) | ((with_reducible (first | refine gd_not (fun hc => ?_) (fun hc => ?_) | refine gd_of (fun hc => ?_) (fun hc => ?_) | refine gq_not (fun hc => ?_) (fun hc => ?_) | refine gq_of (fun hc => ?_) (fun hc => ?_) | refine pickB_of (fun hc => ?_) (fun hc => ?_))) <;> (try simp -implicitDefEqProofs (disch := omega) only [go_sem, eq_self, decide_true, decide_false, Nat.reduceBEq, Nat.reduceAdd, Nat.reduceSub, Nat.reduceMul, Nat.reduceEqDiff, Nat.reduceLeDiff, Nat.reduceLT, Int.reduceLE, Int.reduceLT, Int.reduceToNat, Int.reduceAdd, Int.reduceEq, Int.reduceNeg, AH.put_ne, hc, wrap_id, stE_length, stE_get hlt, rvE_get hj, rvE_length, bne_self_eq_false]) <;> (try simp only [reduceCtorEq, decide_eq_true_eq, decide_eq_false_iff_not, Bool.or_eq_true, Bool.and_eq_true, Bool.or_eq_false_iff, Bool.not_eq_true', Bool.not_eq_false', beq_iff_eq] at hc) <;> (try (exfalso; omega))) | ((with_reducible refine alloc_intro (fun ko hko => ?_)) <;> (try have hne := fresh_ne (by assumption) hko) <;> (try have hnk := fresh_ne hk hko) <;> (try have hnk2 := fresh_ne hk2 hko) <;> (try simp only [AH.put_none] at hko)) | ((with_reducible (first | refine vapp_accL (by assumption) ?_ (fun v2 H2 hacc hlec => ?_) | refine vapp_accL (AccP.mono (by assumption) (AccP.le (by assumption))) ?_ (fun v2 H2 hacc hlec => ?_) | refine vapp_accL (AccP.new (by assumption) (by assumption) _) ?_ (fun v2 H2 hacc hlec => ?_))); · simp only [byteCells_length, List.length_cons, List.length_nil, List.length_map, List.length_append, vE_length, mE_length, strE_len, List.length_take, rvE_length]; omega)) <;> (try simp -implicitDefEqProofs (disch := omega) only [go_sem, eq_self, decide_true, decide_false, Nat.reduceBEq, Nat.reduceAdd, Nat.reduceSub, Nat.reduceMul, Nat.reduceEqDiff, Nat.reduceLeDiff, Nat.reduceLT, Int.reduceLE, Int.reduceLT, Int.reduceToNat, Int.reduceAdd, Int.reduceEq, Int.reduceNeg, AH.put_ne, wrap_id, stE_length, stE_get hlt, rvE_get hj, rvE_length, bne_self_eq_false])))
      all_goals exact ⟨n - 1, by omega, i + 1, c.L[j], x, by omega, rfl, rfl, eo, AH.le_put hle q2 _, hsx, hcf.m _ (List.getElem_mem hj), hg⟩
    · rw [if_neg h0] at hg
      have hpl2 : placeR c (l[i].1, l[i].2) = placeR c l[i] := rfl
      rw [hpl2] at hpc
      repeat' (first | with_reducible (first | refine am_seq ?_ | refine am_block ?_) | ((with_reducible apply am_cond); (case hb => rfl); all_goals (intro hc; (try simp only [reduceCtorEq, decide_eq_true_eq, decide_eq_false_iff_not, Bool.or_eq_true, Bool.and_eq_true, Bool.or_eq_false_iff, Bool.not_eq_true', Bool.not_eq_false', beq_iff_eq] at hc); (try (exfalso; omega)))) | ((first | with_reducible (first | refine am_reg ?_ | refine am_drw ?_ | refine am_drx ?_ | refine am_skip ?_ | refine am_exit ?_ | refine am_ret ?_ | refine And.intro (by first | exact AH.lec_refl _ | assumption | exact AccP.lec (by assumption) | omega) ?_ | refine isnE_of (fun hc => ?_) (fun hc => ?_) (fun hc => ?_) | refine need_elems (by assumption) ?_ | refine vlen_acc (by assumption) ?_ | refine need_bytes (by assumption) ?_ | refine call_of (hpc) ?_ | refine qcall_of (hpc) ?_ | refine need_look (by repeat (first | assumption | exact AH.put_same _ _ _ | refine look_put ?_ (by assumption) | refine look_lec ?_ (by assumption))) ?_) | ((with_reducible (first | refine gd_not (fun hc => ?_) (fun hc => ?_) | refine gd_of (fun hc => ?_) (fun hc => ?_) | refine gq_not (fun hc => ?_) (fun hc => ?_) | refine gq_of (fun hc => ?_) (fun hc => ?_) | refine pickB_of (fun hc => ?_) (fun hc => ?_))) <;> (try simp -implicitDefEqProofs (disch := omega) only [go_sem, eq_self, decide_true, decide_false, Nat.reduceBEq, Nat.reduceAdd, Nat.reduceSub, Nat.reduceMul, Nat.reduceEqDiff, Nat.reduceLeDiff, Nat.reduceLT, Int.reduceLE, Int.reduceLT, Int.reduceToNat, Int.reduceAdd, Int.reduceEq, Int.reduceNeg, AH.put_ne, hc, wrap_id, stE_length, stE_get hlt, h0, Bool.not_false]) <;> (try simp only [reduceCtorEq, decide_eq_true_eq, decide_eq_false_iff_not, Bool.or_eq_true, Bool.and_eq_true, Bool.or_eq_false_iff, Bool.not_eq_true', Bool.not_eq_false', beq_iff_eq] at hc) <;> (try (exfalso; omega))) | ((with_reducible refine alloc_intro (fun ko hko => ?_)) <;> (try have hne := fresh_ne (by assumption) hko) <;> (try have hnk := fresh_ne hk hko) <;> (try have hnk2 := fresh_ne hk2 hko) <;> (try simp only [AH.put_none] at hko)) | ((with_reducible (first | refine vapp_accL (by assumption) ?_ (fun v2 H2 hacc hlec => ?_) | refine vapp_accL (AccP.mono (by assumption) (AccP.le (by assumption))) ?_ (fun v2 H2 hacc hlec => ?_) | refine vapp_accL (AccP.new (by assumption) (by assumption) _) ?_ (fun v2 H2 hacc hlec => ?_))); · simp only [byteCells_length, List.length_cons, List.length_nil, List.length_map, List.length_append, vE_length, mE_length, strE_len, List.length_take, rvE_length]; omega)) <;> (try simp -implicitDefEqProofs (disch := omega) only [go_sem, eq_self, decide_true, decide_false, Nat.reduceBEq, Nat.reduceAdd, Nat.reduceSub, Nat.reduceMul, Nat.reduceEqDiff, Nat.reduceLeDiff, Nat.reduceLT, Int.reduceLE, Int.reduceLT, Int.reduceToNat, Int.reduceAdd, Int.reduceEq, Int.reduceNeg, AH.put_ne, wrap_id, stE_length, stE_get hlt, h0, Bool.not_false])))
      all_goals simp only [hg, rvC_zero]
      all_goals (refine drop_end (by (first | exact fun _ _ h => h | (intro s x h; first | exact no_sub _ h | exact nil_no _ h | exact AccP.sub (by assumption) _ _ h | (refine agg_sub rfl ?_ x h; repeat (first | exact .nil | refine .cons (fun _ h => h) ?_ | refine .cons (fun _ h => nil_no _ h) ?_ | refine .cons (fun _ h => no_sub _ h) ?_ | refine .cons (fun _ h => AccP.sub (by assumption) _ _ h) ?_)) | (refine tuple_sub ?_ x h; repeat (first | exact .nil | refine .cons (fun _ h => h) ?_ | refine .cons (fun _ h => nil_no _ h) ?_ | refine .cons (fun _ h => no_sub _ h) ?_ | refine .cons (fun _ h => AccP.sub (by assumption) _ _ h) ?_ | refine .cons (fun _ h => agg_sub rfl (by repeat (first | exact .nil | refine .cons (fun _ h => h) ?_ | refine .cons (fun _ h => nil_no _ h) ?_ | refine .cons (fun _ h => no_sub _ h) ?_ | refine .cons (fun _ h => AccP.sub (by assumption) _ _ h) ?_)) _ h) ?_))))) (by (repeat (first | exact AH.le_refl _ | assumption | exact AccP.le (by assumption) | refine AH.le_put ?_ (by first | assumption | exact none_of_le (by assumption) (by assumption) | exact And.right (by assumption) | exact And.right (And.right (by assumption))) _ | refine AH.le_trans ?_ (AccP.le (by assumption))))))
  · rw [List.drop_eq_nil_of_le (by omega), goM] at hg
    repeat' (first | with_reducible (first | refine am_seq ?_ | refine am_block ?_) | ((with_reducible apply am_cond); (case hb => rfl); all_goals (intro hc; (try simp only [reduceCtorEq, decide_eq_true_eq, decide_eq_false_iff_not, Bool.or_eq_true, Bool.and_eq_true, Bool.or_eq_false_iff, Bool.not_eq_true', Bool.not_eq_false', beq_iff_eq] at hc); (try (exfalso; omega)))) | ((first | with_reducible (first | refine am_reg ?_ | refine am_drw ?_ | refine am_drx ?_ | refine am_skip ?_ | refine am_exit ?_ | refine am_ret ?_ | refine And.intro (by first | exact AH.lec_refl _ | assumption | exact AccP.lec (by assumption) | omega) ?_ | refine isnE_of (fun hc => ?_) (fun hc => ?_) (fun hc => ?_) | refine need_elems (by assumption) ?_ | refine vlen_acc (by assumption) ?_ | refine need_bytes (by assumption) ?_ | refine need_look (by repeat (first | assumption | exact AH.put_same _ _ _ | refine look_put ?_ (by assumption) | refine look_lec ?_ (by assumption))) ?_) | ((with_reducible (first | refine gd_not (fun hc => ?_) (fun hc => ?_) | refine gd_of (fun hc => ?_) (fun hc => ?_) | refine gq_not (fun hc => ?_) (fun hc => ?_) | refine gq_of (fun hc => ?_) (fun hc => ?_) | refine pickB_of (fun hc => ?_) (fun hc => ?_))) <;> (try simp -implicitDefEqProofs (disch := omega) only [go_sem, eq_self, decide_true, decide_false, Nat.reduceBEq, Nat.reduceAdd, Nat.reduceSub, Nat.reduceMul, Nat.reduceEqDiff, Nat.reduceLeDiff, Nat.reduceLT, Int.reduceLE, Int.reduceLT, Int.reduceToNat, Int.reduceAdd, Int.reduceEq, Int.reduceNeg, AH.put_ne, hc, stE_length]) <;> (try simp only [reduceCtorEq, decide_eq_true_eq, decide_eq_false_iff_not, Bool.or_eq_true, Bool.and_eq_true, Bool.or_eq_false_iff, Bool.not_eq_true', Bool.not_eq_false', beq_iff_eq] at hc) <;> (try (exfalso; omega))) | ((with_reducible refine alloc_intro (fun ko hko => ?_)) <;> (try have hne := fresh_ne (by assumption) hko) <;> (try have hnk := fresh_ne hk hko) <;> (try have hnk2 := fresh_ne hk2 hko) <;> (try simp only [AH.put_none] at hko)) | ((with_reducible (first | refine vapp_accL (by assumption) ?_ (fun v2 H2 hacc hlec => ?_) | refine vapp_accL (AccP.mono (by assumption) (AccP.le (by assumption))) ?_ (fun v2 H2 hacc hlec => ?_) | refine vapp_accL (AccP.new (by assumption) (by assumption) _) ?_ (fun v2 H2 hacc hlec => ?_))); · simp only [byteCells_length, List.length_cons, List.length_nil, List.length_map, List.length_append, vE_length, mE_length, strE_len, List.length_take, rvE_length]; omega)) <;> (try simp -implicitDefEqProofs (disch := omega) only [go_sem, eq_self, decide_true, decide_false, Nat.reduceBEq, Nat.reduceAdd, Nat.reduceSub, Nat.reduceMul, Nat.reduceEqDiff, Nat.reduceLeDiff, Nat.reduceLT, Int.reduceLE, Int.reduceLT, Int.reduceToNat, Int.reduceAdd, Int.reduceEq, Int.reduceNeg, AH.put_ne, stE_length])))
    all_goals simp only [hg, rvC_eq]
    all_goals (refine drop_end (by (first | exact fun _ _ h => h | (intro s x h; first | exact no_sub _ h | exact nil_no _ h | exact AccP.sub (by assumption) _ _ h | (refine agg_sub rfl ?_ x h; repeat (first | exact .nil | refine .cons (fun _ h => h) ?_ | refine .cons (fun _ h => nil_no _ h) ?_ | refine .cons (fun _ h => no_sub _ h) ?_ | refine .cons (fun _ h => AccP.sub (by assumption) _ _ h) ?_)) | (refine tuple_sub ?_ x h; repeat (first | exact .nil | refine .cons (fun _ h => h) ?_ | refine .cons (fun _ h => nil_no _ h) ?_ | refine .cons (fun _ h => no_sub _ h) ?_ | refine .cons (fun _ h => AccP.sub (by assumption) _ _ h) ?_ | refine .cons (fun _ h => agg_sub rfl (by repeat (first | exact .nil | refine .cons (fun _ h => h) ?_ | refine .cons (fun _ h => nil_no _ h) ?_ | refine .cons (fun _ h => no_sub _ h) ?_ | refine .cons (fun _ h => AccP.sub (by assumption) _ _ h) ?_)) _ h) ?_))))) (by (repeat (first | exact AH.le_refl _ | assumption | exact AccP.le (by assumption) | refine AH.le_put ?_ (by first | assumption | exact none_of_le (by assumption) (by assumption) | exact And.right (by assumption) | exact And.right (And.right (by assumption))) _ | refine AH.le_trans ?_ (AccP.le (by assumption))))))
end Go.Proofs.Ytjlphncecdlmcaa
namespace Go.Proofs.Ytjlphncecdlmcaa
open Go.Vm Go.Sort
attribute [local go_sem] List.drop_zero toNat_succ Nat.sub_zero Int.toNat_natCast Option.map_some Int.natCast_nonneg decide_eq_true_eq decide_eq_false_iff_not
/- flange/flangeref04.With -/
abbrev k64_0 : MC :=
  .cond (.t 15) ((.seq (.reg [
     ⟨(some 16), none, .val (.load true 7 (.t 4))⟩,
     ⟨none, none, .store 7 (.t 6) (.t 16)⟩,
     ⟨(some 7), none, .val (.mv (.c (.int .i64 0)))⟩] [6, 7]) (.ret))) (.skip)
abbrev k64_1 : MC :=
  .cond (.t 48) ((.seq (.reg [
     ⟨(some 49), none, .build [(.int .i64 0), (.bool false), (.int .i64 0), (.int .i64 0), (.str []), .nilSl, .nilSl] []⟩,
     ⟨(some 50), none, .val (.mv (.t 9))⟩,
     ⟨none, none, .store 7 (.t 6) (.t 49)⟩,
     ⟨(some 7), none, .val (.mv (.t 50))⟩] [6, 7]) (.ret))) (.skip)
abbrev k64_2 : MC :=
  .cond (.t 52) ((.seq (.drw [
     ⟨(some 53), none, .bslice 7 0 [] []⟩,
     ⟨(some 54), none, .val (.faddr 5 (.t 3))⟩,
     ⟨(some 55), none, .val (.load false 1 (.t 54))⟩,
     ⟨(some 57), none, .val (.load true 7 (.t 4))⟩,
     ⟨(some 58), none, .bslice 7 1 [(.int .i64 0), (.bool false), (.int .i64 0), (.int .i64 0), (.str []), .nilSl, .nilSl] [(0, 7, (.t 57))]⟩] [
     ⟨(some 56), none, .app 7 96 (.t 53) (.t 55)⟩,
     ⟨(some 59), none, .app 7 96 (.t 56) (.t 58)⟩,
     ⟨(some 60), none, .build [(.int .i64 0), (.bool false), (.int .i64 0), (.int .i64 0), (.str []), .nilSl, .nilSl] [(0, 1, (.c (.int .i64 6))), (5, 1, (.t 59))]⟩,
     ⟨none, none, .store 7 (.t 6) (.t 60)⟩,
     ⟨(some 7), none, .val (.mv (.c (.int .i64 0)))⟩] [6, 7]) (.ret))) (.skip)
abbrev k64_3 : MC :=
  (.seq (.drw [
    ⟨(some 61), none, .bslice 7 0 [] []⟩,
    ⟨(some 62), none, .val (.faddr 5 (.t 3))⟩,
    ⟨(some 63), none, .val (.load false 1 (.t 62))⟩,
    ⟨(some 65), none, .val (.load true 7 (.t 4))⟩,
    ⟨(some 66), none, .bslice 7 1 [(.int .i64 0), (.bool false), (.int .i64 0), (.int .i64 0), (.str []), .nilSl, .nilSl] [(0, 7, (.t 65))]⟩,
    ⟨(some 68), none, .bslice 1 0 [] []⟩,
    ⟨(some 69), none, .val (.faddr 6 (.t 3))⟩,
    ⟨(some 70), none, .val (.load false 1 (.t 69))⟩,
    ⟨(some 72), none, .val (.mv (.t 2))⟩,
    ⟨(some 73), none, .val (.iaddr 2 (.t 72) (.c (.int .i64 0)))⟩,
    ⟨(some 74), none, .val (.faddr 0 (.t 73))⟩,
    ⟨(some 75), none, .val (.load false 1 (.t 74))⟩,
    ⟨(some 76), none, .bslice 1 1 [(.str [])] [(0, 1, (.t 75))]⟩] [
    ⟨(some 64), none, .app 7 96 (.t 61) (.t 63)⟩,
    ⟨(some 67), none, .app 7 96 (.t 64) (.t 66)⟩,
    ⟨(some 71), none, .app 1 16 (.t 68) (.t 70)⟩,
    ⟨(some 77), none, .app 1 16 (.t 71) (.t 76)⟩,
    ⟨(some 78), none, .build [(.int .i64 0), (.bool false), (.int .i64 0), (.int .i64 0), (.str []), .nilSl, .nilSl] [(0, 1, (.c (.int .i64 7))), (5, 1, (.t 67)), (6, 1, (.t 77))]⟩,
    ⟨(some 79), none, .call 25 [(.t 78)]⟩,
    ⟨none, none, .store 7 (.t 6) (.t 79)⟩,
    ⟨(some 7), none, .val (.mv (.c (.int .i64 0)))⟩] [6, 7]) (.ret))
abbrev k64_4 : MC :=
  (.seq ((.seq (.reg [
    ⟨(some 51), none, .val (.mv (.t 9))⟩,
    ⟨(some 52), none, .val (.bin .eql .num (.t 51) (.c (.int .i64 2)))⟩] [2, 3, 4, 6, 52]) k64_2)) k64_3)
abbrev k64_5 : MC :=
  .cond (.t 26) ((.seq ((.seq (.drw [
     ⟨(some 27), none, .val (.mv (.t 2))⟩,
     ⟨(some 28), none, .val (.len .sl (.t 27))⟩,
     ⟨(some 29), none, .val (.bin .gtr .num (.t 28) (.c (.int .i64 1)))⟩,
     ⟨(some 30), none, .val (.mv (.t 29))⟩,
     ⟨(some 31), (some (30, false)), .val (.mv (.t 9))⟩,
     ⟨(some 32), (some (30, false)), .val (.bin .neq .num (.t 31) (.c (.int .i64 8)))⟩,
     ⟨(some 33), (some (30, false)), .val (.mv (.t 32))⟩,
     ⟨(some 34), (some (33, true)), .val (.mv (.t 9))⟩,
     ⟨(some 35), (some (33, true)), .val (.bin .eql .num (.t 34) (.c (.int .i64 2)))⟩,
     ⟨(some 36), (some (33, true)), .val (.mv (.t 35))⟩,
     ⟨(some 37), (some (36, true)), .val (.mv (.t 2))⟩,
     ⟨(some 38), (some (36, true)), .val (.iaddr 2 (.t 37) (.c (.int .i64 0)))⟩,
     ⟨(some 39), (some (36, true)), .val (.faddr 1 (.t 38))⟩,
     ⟨(some 40), (some (36, true)), .val (.load false 1 (.t 39))⟩,
     ⟨(some 41), (some (36, true)), .val (.faddr 5 (.t 3))⟩,
     ⟨(some 42), (some (36, true)), .val (.load false 1 (.t 41))⟩,
     ⟨(some 43), (some (36, true)), .val (.len .sl (.t 42))⟩,
     ⟨(some 44), (some (36, true)), .val (.bin .eql .num (.t 40) (.t 43))⟩,
     ⟨(some 45), (some (33, true)), .val (.pick (.t 36) (.t 44) (.c (.bool false)))⟩,
     ⟨(some 46), (some (33, true)), .val (.not (.t 45))⟩,
     ⟨(some 47), (some (30, false)), .val (.pick (.t 33) (.t 46) (.c (.bool false)))⟩,
     ⟨(some 48), none, .val (.pick (.t 30) (.c (.bool true)) (.t 47))⟩] [
] [2, 3, 4, 6, 9, 48]) k64_1)) k64_4)) (.skip)
abbrev k64_6 : MC :=
  .cond (.t 93) ((.seq (.reg [
     ⟨(some 94), none, .build [(.int .i64 0), (.bool false), (.int .i64 0), (.int .i64 0), (.str []), .nilSl, .nilSl] []⟩,
     ⟨(some 95), none, .val (.mv (.t 11))⟩,
     ⟨none, none, .store 7 (.t 6) (.t 94)⟩,
     ⟨(some 7), none, .val (.mv (.t 95))⟩] [6, 7]) (.ret))) (.skip)
abbrev k64_7 : MC :=
  (.seq (.reg [
    ⟨(some 110), none, .val (.load true 7 (.t 12))⟩,
    ⟨none, none, .store 7 (.t 6) (.t 110)⟩,
    ⟨(some 7), none, .val (.mv (.c (.int .i64 0)))⟩] [6, 7]) (.ret))
abbrev k64_8 : MC :=
  (.seq (.reg [
    ⟨(some 105), none, .val (.faddr 5 (.t 12))⟩,
    ⟨(some 106), none, .val (.load false 1 (.t 105))⟩,
    ⟨(some 107), none, .val (.mv (.t 8))⟩,
    ⟨(some 108), none, .val (.load true 7 (.t 10))⟩,
    ⟨(some 109), none, .val (.iaddr 7 (.t 106) (.t 107))⟩,
    ⟨none, none, .store 7 (.t 109) (.t 108)⟩] [6, 12]) k64_7)
abbrev k64_9 : MC :=
  (.seq (.drt [
    ⟨(some 96), none, .val (.faddr 0 (.t 3))⟩,
    ⟨(some 97), none, .val (.load false 1 (.t 96))⟩,
    ⟨(some 98), none, .bslice 7 0 [] []⟩,
    ⟨(some 99), none, .val (.faddr 5 (.t 3))⟩,
    ⟨(some 100), none, .val (.load false 1 (.t 99))⟩,
    ⟨(some 102), none, .val (.faddr 6 (.t 3))⟩,
    ⟨(some 103), none, .val (.load false 1 (.t 102))⟩] [
] (.or (.op ⟨(some 101), none, .xo (.appm 7 96) [(.t 98), (.t 100)]⟩ (.or (.op ⟨(some 104), none, .build [(.int .i64 0), (.bool false), (.int .i64 0), (.int .i64 0), (.str []), .nilSl, .nilSl] [(0, 1, (.t 97)), (5, 1, (.t 101)), (6, 1, (.t 103))]⟩ (.op ⟨(some 12), none, .zalloc [(.int .i64 0), (.bool false), (.int .i64 0), (.int .i64 0), (.str []), .nilSl, .nilSl]⟩ (.op ⟨none, none, .store 7 (.t 12) (.t 104)⟩ .done)))
  (.op ⟨(some 12), none, .zalloc [(.int .i64 0), (.bool false), (.int .i64 0), (.int .i64 0), (.str []), .nilSl, .nilSl]⟩ (.op ⟨(some 104), none, .build [(.int .i64 0), (.bool false), (.int .i64 0), (.int .i64 0), (.str []), .nilSl, .nilSl] [(0, 1, (.t 97)), (5, 1, (.t 101)), (6, 1, (.t 103))]⟩ (.op ⟨none, none, .store 7 (.t 12) (.t 104)⟩ .done)))))
  (.op ⟨(some 12), none, .zalloc [(.int .i64 0), (.bool false), (.int .i64 0), (.int .i64 0), (.str []), .nilSl, .nilSl]⟩ (.op ⟨(some 101), none, .xo (.appm 7 96) [(.t 98), (.t 100)]⟩ (.op ⟨(some 104), none, .build [(.int .i64 0), (.bool false), (.int .i64 0), (.int .i64 0), (.str []), .nilSl, .nilSl] [(0, 1, (.t 97)), (5, 1, (.t 101)), (6, 1, (.t 103))]⟩ (.op ⟨none, none, .store 7 (.t 12) (.t 104)⟩ .done))))) [6, 8, 10, 12]) k64_8)
abbrev k64_10 : MC :=
  (.seq ((.seq (.reg [
    ⟨(some 92), none, .val (.mv (.t 11))⟩,
    ⟨(some 93), none, .val (.bin .neq .num (.t 92) (.c (.int .i64 0)))⟩] [3, 6, 8, 10, 11, 93]) k64_6)) k64_9)
abbrev k64_11 : MC :=
  (.seq (.drx [
    ⟨(some 81), none, .val (.faddr 5 (.t 3))⟩,
    ⟨(some 82), none, .val (.load false 1 (.t 81))⟩,
    ⟨(some 83), none, .val (.mv (.t 8))⟩,
    ⟨(some 84), none, .val (.iaddr 7 (.t 82) (.t 83))⟩,
    ⟨(some 85), none, .val (.load true 7 (.t 84))⟩,
    ⟨(some 86), none, .val (.load true 7 (.t 4))⟩,
    ⟨(some 87), none, .val (.mv (.t 2))⟩,
    ⟨(some 88), none, .val (.slc (some 2) (.t 87) (some (.c (.int .i64 1))) none none)⟩,
    ⟨(some 89), none, .call 64 [(.t 85), (.t 86), (.t 88)]⟩,
    ⟨(some 80), none, .val (.mv (.t 89))⟩,
    ⟨(some 90), none, .val (.ext (.t 80) 0)⟩,
    ⟨(some 91), none, .val (.ext (.t 80) 1)⟩,
    ⟨(some 11), none, .val (.mv (.t 91))⟩] [
    ⟨(some 10), none, .zalloc [(.int .i64 0), (.bool false), (.int .i64 0), (.int .i64 0), (.str []), .nilSl, .nilSl]⟩,
    ⟨none, none, .store 7 (.t 10) (.t 90)⟩] [3, 6, 8, 10, 11]) k64_10)
abbrev k64_12 : MC :=
  (.seq ((.seq (.reg [
    ⟨(some 25), none, .val (.mv (.t 9))⟩,
    ⟨(some 26), none, .val (.bin .neq .num (.t 25) (.c (.int .i64 0)))⟩] [2, 3, 4, 6, 8, 9, 26]) k64_5)) k64_11)
abbrev k64_13 : MC :=
  (.seq (.drw [
    ⟨(some 18), none, .val (.load true 7 (.t 3))⟩,
    ⟨(some 19), none, .val (.mv (.t 2))⟩,
    ⟨(some 20), none, .val (.iaddr 2 (.t 19) (.c (.int .i64 0)))⟩,
    ⟨(some 21), none, .val (.load true 2 (.t 20))⟩,
    ⟨(some 22), none, .call 104 [(.t 18), (.t 21)]⟩,
    ⟨(some 17), none, .val (.mv (.t 22))⟩,
    ⟨(some 23), none, .val (.ext (.t 17) 0)⟩,
    ⟨(some 24), none, .val (.ext (.t 17) 1)⟩,
    ⟨(some 8), none, .val (.mv (.t 23))⟩,
    ⟨(some 9), none, .val (.mv (.t 24))⟩] [
] [2, 3, 4, 6, 8, 9]) k64_12)
abbrev k64_14 : MC :=
  (.seq ((.seq (.reg [
    ⟨(some 13), none, .val (.mv (.t 2))⟩,
    ⟨(some 14), none, .val (.len .sl (.t 13))⟩,
    ⟨(some 15), none, .val (.bin .eql .num (.t 14) (.c (.int .i64 0)))⟩] [2, 3, 4, 6, 15]) k64_0)) k64_13)
abbrev k64 : MC :=
  (.seq (.reg [
    ⟨(some 3), none, .boxi (.t 0)⟩,
    ⟨(some 4), none, .boxi (.t 1)⟩,
    ⟨(some 6), none, .zalloc [(.int .i64 0), (.bool false), (.int .i64 0), (.int .i64 0), (.str []), .nilSl, .nilSl]⟩,
    ⟨(some 7), none, .val (.mv (.c (.int .i64 0)))⟩] [2, 3, 4, 6]) k64_14)
theorem c64 : Try.f64.body.bind (mcOf Try.prog (List.contains [3, 4, 101] ·) (List.getD [([], [2, 3, 4, 6]), ([], [2, 3, 4, 6, 15]), ([], [6, 7]), ([0, 0, 0, 0, 0, 0, 0, 0, 0, 0], [2, 3, 4, 6, 8, 9]), ([], [2, 3, 4, 6, 8, 9, 26]), ([0, 0, 0, 0, 0, 0, 0, 0, 0, 0, 0, 0, 0, 0, 0, 0, 0, 0, 0, 0, 0, 0], [2, 3, 4, 6, 9, 48]), ([], [6, 7]), ([], [2, 3, 4, 6, 52]), ([0, 0, 0, 2, 0, 0, 2, 2, 2, 2], [6, 7]), ([0, 0, 0, 2, 0, 0, 2, 0, 0, 0, 2, 0, 0, 0, 0, 0, 2, 2, 2, 2, 2], [6, 7]), ([0, 0, 0, 0, 0, 0, 0, 0, 0, 0, 0, 0, 1, 4, 0], [3, 6, 8, 10, 11]), ([], [3, 6, 8, 10, 11, 93]), ([], [6, 7]), ([0, 0, 0, 0, 0, 2, 0, 0, 2, 2, 2], [6, 8, 10, 12]), ([], [6, 12]), ([], [6, 7])] · ([], [])) 111) = some k64 := by kernel_rfl
theorem r64 : rvsOf Try.prog Try.f64.results.toList = some [.cell 6 true 7, .tmp 7] := by kernel_rfl
theorem chop_flatten {sz : Nat} : ∀ es : List (List V), (∀ e ∈ es, e.length = sz) → chop sz es.length es.flatten = es
  | [], _ => rfl
  | e :: es, h => by
    have he : e.length = sz := h e List.mem_cons_self
    rw [List.length_cons, chop, List.flatten_cons, ← he, List.take_left', List.drop_left', he, chop_flatten es (fun x hx => h x (List.mem_cons_of_mem _ hx))]
    · rfl
    · rfl
theorem over_app : ∀ (vs a b : List V) (o : Nat), over (a ++ b) (a.length + o) vs = a ++ over b o vs
  | [], _, _, _ => rfl
  | v :: vs, a, b, o => by
    rw [over, over, List.set_append_right _ _ (by omega), show a.length + o - a.length = o by omega, Nat.add_assoc, over_app vs a]
theorem over_head : ∀ (vs e b : List V), e.length = vs.length → over (e ++ b) 0 vs = vs ++ b
  | [], e, b, h => by
    have : e = [] := List.eq_nil_of_length_eq_zero h
    subst this; rfl
  | v :: vs, [], b, h => by cases h
  | v :: vs, x :: e, b, h => by
    have := over_app vs [v] (e ++ b) 0
    rw [over, List.cons_append, List.set_cons_zero]
    simp only [List.length_singleton, List.cons_append, List.nil_append, Nat.add_zero, Nat.zero_add] at this ⊢
    rw [this, over_head vs e b (by simpa using h)]
theorem over_flat {sz : Nat} {e' : List V} (he : e'.length = sz) : ∀ (es : List (List V)) (i : Nat), (∀ e ∈ es, e.length = sz) → i < es.length → over es.flatten (i * sz) e' = (es.set i e').flatten
  | [], i, _, h => by cases h
  | e :: es, 0, h, _ => by
    rw [Nat.zero_mul, List.flatten_cons, over_head _ _ _ (by rw [he]; exact h e List.mem_cons_self)]; rfl
  | e :: es, i + 1, h, hi => by
    have hl : e.length = sz := h e List.mem_cons_self
    rw [List.flatten_cons, Nat.add_mul, Nat.one_mul, Nat.add_comm, ← hl, over_app, hl, over_flat he es i (fun x hx => h x (List.mem_cons_of_mem _ hx)) (by simpa using hi)]
    rfl
theorem rvC_len (r : Rv) : (rvC r).length = 7 := by rw [rvC_eq]; rfl
theorem rvE_len7 (l : List Rv) : ∀ e ∈ rvE l, e.length = 7 := by
  intro e he
  obtain ⟨r, _, rfl⟩ := List.mem_map.1 he
  exact rvC_len r
theorem rvE_set (l : List Rv) (i : Nat) (q : Rv) : (rvE l).set i (rvC q) = rvE (l.set i q) := by simp [rvE, List.map_set]
theorem Rv.FitB.fit {m : Rv} (h : m.FitB 140737488351232) : m.Fit := h.mono (by omega)
abbrev RWithOk (l : List St2) : Prop := ∀ (m x : Rv) (v : Vl), Sm v m → m.FitB 140737488351232 → x.Fit → ∀ H, ACalls Try.prog 64 [.agg [.int .i64 m.K, .bool m.B, .int .i64 m.N, .int .i64 m.M, .str m.S, .sl 7 (rvE m.L) .no, .sl 1 (strE m.Keys) .no], .agg [.int .i64 x.K, .bool x.B, .int .i64 x.N, .int .i64 x.M, .str x.S, .sl 7 (rvE x.L) .no, .sl 1 (strE x.Keys) .no], .sl 2 (stE l) .no] H (fun o H' => o = .ret (.tuple [.agg (rvC (withM m x l).1), .int .i64 (withM m x l).2]) ∧ H' = H)
theorem rwith_nil : RWithOk [] := by
  refine fun m x v hs hf hx H => ACalls.drop ?_
  rw [withM, rvC_eq]
  refine acalls Try.func64 c64 r64 (by simp [Try.ntmps64]) ?_
  repeat' (first | with_reducible (first | refine am_seq ?_ | refine am_block ?_) | ((with_reducible apply am_cond); (case hb => rfl); all_goals (intro hc; (try simp only [reduceCtorEq, decide_eq_true_eq, decide_eq_false_iff_not, Bool.or_eq_true, Bool.and_eq_true, Bool.or_eq_false_iff, Bool.not_eq_true', Bool.not_eq_false', beq_iff_eq] at hc); (try (exfalso; omega)))) | ((first | with_reducible (first | refine am_reg ?_ | refine am_drw ?_ | refine am_drx ?_ | refine am_drt ?_ | refine both_intro ?_ ?_ | refine am_skip ?_ | refine am_exit ?_ | refine am_ret ?_ | refine And.intro (by first | exact AH.lec_refl _ | assumption | exact AccP.lec (by assumption) | omega) ?_ | refine isnE_of (fun hc => ?_) (fun hc => ?_) (fun hc => ?_) | refine need_elems (by assumption) ?_ | refine vlen_acc (by assumption) ?_ | refine need_bytes (by assumption) ?_ | refine need_look (by repeat (first | assumption | exact AH.put_same _ _ _ | refine look_put ?_ (by assumption) | refine look_lec ?_ (by assumption))) ?_) | ((with_reducible (first | refine gd_not (fun hc => ?_) (fun hc => ?_) | refine gd_of (fun hc => ?_) (fun hc => ?_) | refine gq_not (fun hc => ?_) (fun hc => ?_) | refine gq_of (fun hc => ?_) (fun hc => ?_) | refine pickB_of (fun hc => ?_) (fun hc => ?_))) <;> (try simp -implicitDefEqProofs (disch := omega) only [go_sem, eq_self, decide_true, decide_false, Nat.reduceBEq, Nat.reduceAdd, Nat.reduceSub, Nat.reduceMul, Nat.reduceEqDiff, Nat.reduceLeDiff, Nat.reduceLT, Int.reduceLE, Int.reduceLT, Int.reduceToNat, Int.reduceAdd, Int.reduceEq, Int.reduceNeg, AH.put_ne, hc, stE_length]) <;> (try simp only [reduceCtorEq, decide_eq_true_eq, decide_eq_false_iff_not, Bool.or_eq_true, Bool.and_eq_true, Bool.or_eq_false_iff, Bool.not_eq_true', Bool.not_eq_false', beq_iff_eq] at hc) <;> (try (exfalso; omega))) | ((with_reducible refine alloc_intro (fun ko hko => ?_)) <;> (try have hne := fresh_ne (by assumption) hko) <;> (try have hnk := fresh_ne hk hko) <;> (try have hnk2 := fresh_ne hk2 hko) <;> (try simp only [AH.put_none] at hko)) | ((with_reducible (first | refine vapp_accL (by assumption) ?_ (fun v2 H2 hacc hlec => ?_) | refine vapp_accL (AccP.mono (by assumption) (AccP.le (by assumption))) ?_ (fun v2 H2 hacc hlec => ?_) | refine vapp_accL (AccP.new (by assumption) (by assumption) _) ?_ (fun v2 H2 hacc hlec => ?_))); · simp only [byteCells_length, List.length_cons, List.length_nil, List.length_map, List.length_append, vE_length, mE_length, strE_len, List.length_take, rvE_length]; omega)) <;> (try simp -implicitDefEqProofs (disch := omega) only [go_sem, eq_self, decide_true, decide_false, Nat.reduceBEq, Nat.reduceAdd, Nat.reduceSub, Nat.reduceMul, Nat.reduceEqDiff, Nat.reduceLeDiff, Nat.reduceLT, Int.reduceLE, Int.reduceLT, Int.reduceToNat, Int.reduceAdd, Int.reduceEq, Int.reduceNeg, AH.put_ne, stE_length])))
  all_goals (refine drop_end (by (first | exact fun _ _ h => h | (intro s x h; first | exact no_sub _ h | exact nil_no _ h | exact AccP.sub (by assumption) _ _ h | (refine agg_sub rfl ?_ x h; repeat (first | exact .nil | refine .cons (fun _ h => h) ?_ | refine .cons (fun _ h => nil_no _ h) ?_ | refine .cons (fun _ h => no_sub _ h) ?_ | refine .cons (fun _ h => AccP.sub (by assumption) _ _ h) ?_)) | (refine tuple_sub ?_ x h; repeat (first | exact .nil | refine .cons (fun _ h => h) ?_ | refine .cons (fun _ h => nil_no _ h) ?_ | refine .cons (fun _ h => no_sub _ h) ?_ | refine .cons (fun _ h => AccP.sub (by assumption) _ _ h) ?_ | refine .cons (fun _ h => agg_sub rfl (by repeat (first | exact .nil | refine .cons (fun _ h => h) ?_ | refine .cons (fun _ h => nil_no _ h) ?_ | refine .cons (fun _ h => no_sub _ h) ?_ | refine .cons (fun _ h => AccP.sub (by assumption) _ _ h) ?_)) _ h) ?_))))) (by (repeat (first | exact AH.le_refl _ | assumption | exact AccP.le (by assumption) | refine AH.le_put ?_ (by first | assumption | exact none_of_le (by assumption) (by assumption) | exact And.right (by assumption) | exact And.right (And.right (by assumption))) _ | refine AH.le_trans ?_ (AccP.le (by assumption))))))
theorem rw_err {s : St2} {l : List St2} {m x : Rv} {v : Vl} {e : Int} (hl : l.length ≤ 1000) (hs : Sm v m) (hf : m.Fit) (hp : placeR m s = (0, e)) (he : ¬ e = 0) (hB : l ≠ [] ∨ ¬ (e = 8 ∨ e = 2 ∧ s.2 = m.L.length)) (H : AH) :
    ACalls Try.prog 64 [.agg [.int .i64 m.K, .bool m.B, .int .i64 m.N, .int .i64 m.M, .str m.S, .sl 7 (rvE m.L) .no, .sl 1 (strE m.Keys) .no], .agg [.int .i64 x.K, .bool x.B, .int .i64 x.N, .int .i64 x.M, .str x.S, .sl 7 (rvE x.L) .no, .sl 1 (strE x.Keys) .no], .sl 2 (stE (s :: l)) .no] H (fun o H' => o = .ret (.tuple [.agg (rvC zR), .int .i64 e]) ∧ H' = H) := by
  have hlen : (stE (s :: l)).length = l.length + 1 := by rw [stE_length, List.length_cons]
  have hg0 : (stE (s :: l))[0]? = some [.str s.1, .int .i64 s.2] := rfl
  have hz : ¬ (((l.length + 1 : Nat) : Int) = 0) := by omega
  have hpc := rplace_calls hs hf s.1 s.2
  have hp2 : placeR m (s.1, s.2) = (0, e) := hp
  rw [hp2] at hpc
  simp only at hpc
  refine ACalls.drop ?_
  rw [rvC_zero]
  refine acalls Try.func64 c64 r64 (by simp [Try.ntmps64]) ?_
  by_cases h1 : l = []
  · subst h1
    have hB2 := hB.resolve_left (fun h => h rfl)
    obtain ⟨hB3, hB4⟩ := not_or.1 hB2
    by_cases h2 : e = 2
    · subst h2
      have hB5 : ¬ s.2 = m.L.length := fun h => hB4 ⟨rfl, h⟩
      repeat' (first | with_reducible (first | refine am_seq ?_ | refine am_block ?_) | ((with_reducible apply am_cond); (case hb => rfl); all_goals (intro hc; (try simp only [reduceCtorEq, decide_eq_true_eq, decide_eq_false_iff_not, Bool.or_eq_true, Bool.and_eq_true, Bool.or_eq_false_iff, Bool.not_eq_true', Bool.not_eq_false', beq_iff_eq] at hc); (try (exfalso; omega)))) | ((first | with_reducible (first | refine am_reg ?_ | refine am_drw ?_ | refine am_drx ?_ | refine am_drt ?_ | refine both_intro ?_ ?_ | refine am_skip ?_ | refine am_exit ?_ | refine am_ret ?_ | refine And.intro (by first | exact AH.lec_refl _ | assumption | exact AccP.lec (by assumption) | omega) ?_ | refine isnE_of (fun hc => ?_) (fun hc => ?_) (fun hc => ?_) | refine need_elems (by assumption) ?_ | refine vlen_acc (by assumption) ?_ | refine need_bytes (by assumption) ?_ | refine call_of (hpc) ?_ | refine qcall_of (hpc) ?_ | refine need_look (by repeat (first | assumption | exact AH.put_same _ _ _ | refine look_put ?_ (by assumption) | refine look_lec ?_ (by assumption))) ?_) | ((with_reducible (first | refine gd_not (fun hc => ?_) (fun hc => ?_) | refine gd_of (fun hc => ?_) (fun hc => ?_) | refine gq_not (fun hc => ?_) (fun hc => ?_) | refine gq_of (fun hc => ?_) (fun hc => ?_) | refine pickB_of (fun hc => ?_) (fun hc => ?_))) <;> (try simp -implicitDefEqProofs (disch := omega) only [go_sem, eq_self, decide_true, decide_false, Nat.reduceBEq, Nat.reduceAdd, Nat.reduceSub, Nat.reduceMul, Nat.reduceEqDiff, Nat.reduceLeDiff, Nat.reduceLT, Int.reduceLE, Int.reduceLT, Int.reduceToNat, Int.reduceAdd, Int.reduceEq, Int.reduceNeg, AH.put_ne, hc, hlen, hg0, hz, hB5, rvE_length, Bool.not_false, Bool.not_true, List.length_nil, Nat.zero_add]) <;> (try simp only [reduceCtorEq, decide_eq_true_eq, decide_eq_false_iff_not, Bool.or_eq_true, Bool.and_eq_true, Bool.or_eq_false_iff, Bool.not_eq_true', Bool.not_eq_false', beq_iff_eq] at hc) <;> (try (exfalso; omega))) | ((with_reducible refine alloc_intro (fun ko hko => ?_)) <;> (try have hne := fresh_ne (by assumption) hko) <;> (try have hnk := fresh_ne hk hko) <;> (try have hnk2 := fresh_ne hk2 hko) <;> (try simp only [AH.put_none] at hko)) | ((with_reducible (first | refine vapp_accL (by assumption) ?_ (fun v2 H2 hacc hlec => ?_) | refine vapp_accL (AccP.mono (by assumption) (AccP.le (by assumption))) ?_ (fun v2 H2 hacc hlec => ?_) | refine vapp_accL (AccP.new (by assumption) (by assumption) _) ?_ (fun v2 H2 hacc hlec => ?_))); · simp only [byteCells_length, List.length_cons, List.length_nil, List.length_map, List.length_append, vE_length, mE_length, strE_len, List.length_take, rvE_length]; omega)) <;> (try simp -implicitDefEqProofs (disch := omega) only [go_sem, eq_self, decide_true, decide_false, Nat.reduceBEq, Nat.reduceAdd, Nat.reduceSub, Nat.reduceMul, Nat.reduceEqDiff, Nat.reduceLeDiff, Nat.reduceLT, Int.reduceLE, Int.reduceLT, Int.reduceToNat, Int.reduceAdd, Int.reduceEq, Int.reduceNeg, AH.put_ne, hlen, hg0, hz, hB5, rvE_length, Bool.not_false, Bool.not_true, List.length_nil, Nat.zero_add])))
      all_goals (refine drop_end (by (first | exact fun _ _ h => h | (intro s x h; first | exact no_sub _ h | exact nil_no _ h | exact AccP.sub (by assumption) _ _ h | (refine agg_sub rfl ?_ x h; repeat (first | exact .nil | refine .cons (fun _ h => h) ?_ | refine .cons (fun _ h => nil_no _ h) ?_ | refine .cons (fun _ h => no_sub _ h) ?_ | refine .cons (fun _ h => AccP.sub (by assumption) _ _ h) ?_)) | (refine tuple_sub ?_ x h; repeat (first | exact .nil | refine .cons (fun _ h => h) ?_ | refine .cons (fun _ h => nil_no _ h) ?_ | refine .cons (fun _ h => no_sub _ h) ?_ | refine .cons (fun _ h => AccP.sub (by assumption) _ _ h) ?_ | refine .cons (fun _ h => agg_sub rfl (by repeat (first | exact .nil | refine .cons (fun _ h => h) ?_ | refine .cons (fun _ h => nil_no _ h) ?_ | refine .cons (fun _ h => no_sub _ h) ?_ | refine .cons (fun _ h => AccP.sub (by assumption) _ _ h) ?_)) _ h) ?_))))) (by (repeat (first | exact AH.le_refl _ | assumption | exact AccP.le (by assumption) | refine AH.le_put ?_ (by first | assumption | exact none_of_le (by assumption) (by assumption) | exact And.right (by assumption) | exact And.right (And.right (by assumption))) _ | refine AH.le_trans ?_ (AccP.le (by assumption))))))
    · repeat' (first | with_reducible (first | refine am_seq ?_ | refine am_block ?_) | ((with_reducible apply am_cond); (case hb => rfl); all_goals (intro hc; (try simp only [reduceCtorEq, decide_eq_true_eq, decide_eq_false_iff_not, Bool.or_eq_true, Bool.and_eq_true, Bool.or_eq_false_iff, Bool.not_eq_true', Bool.not_eq_false', beq_iff_eq] at hc); (try (exfalso; omega)))) | ((first | with_reducible (first | refine am_reg ?_ | refine am_drw ?_ | refine am_drx ?_ | refine am_drt ?_ | refine both_intro ?_ ?_ | refine am_skip ?_ | refine am_exit ?_ | refine am_ret ?_ | refine And.intro (by first | exact AH.lec_refl _ | assumption | exact AccP.lec (by assumption) | omega) ?_ | refine isnE_of (fun hc => ?_) (fun hc => ?_) (fun hc => ?_) | refine need_elems (by assumption) ?_ | refine vlen_acc (by assumption) ?_ | refine need_bytes (by assumption) ?_ | refine call_of (hpc) ?_ | refine qcall_of (hpc) ?_ | refine need_look (by repeat (first | assumption | exact AH.put_same _ _ _ | refine look_put ?_ (by assumption) | refine look_lec ?_ (by assumption))) ?_) | ((with_reducible (first | refine gd_not (fun hc => ?_) (fun hc => ?_) | refine gd_of (fun hc => ?_) (fun hc => ?_) | refine gq_not (fun hc => ?_) (fun hc => ?_) | refine gq_of (fun hc => ?_) (fun hc => ?_) | refine pickB_of (fun hc => ?_) (fun hc => ?_))) <;> (try simp -implicitDefEqProofs (disch := omega) only [go_sem, eq_self, decide_true, decide_false, Nat.reduceBEq, Nat.reduceAdd, Nat.reduceSub, Nat.reduceMul, Nat.reduceEqDiff, Nat.reduceLeDiff, Nat.reduceLT, Int.reduceLE, Int.reduceLT, Int.reduceToNat, Int.reduceAdd, Int.reduceEq, Int.reduceNeg, AH.put_ne, hc, hlen, hg0, hz, he, h2, hB3, rvE_length, Bool.not_false, Bool.not_true, List.length_nil, Nat.zero_add]) <;> (try simp only [reduceCtorEq, decide_eq_true_eq, decide_eq_false_iff_not, Bool.or_eq_true, Bool.and_eq_true, Bool.or_eq_false_iff, Bool.not_eq_true', Bool.not_eq_false', beq_iff_eq] at hc) <;> (try (exfalso; omega))) | ((with_reducible refine alloc_intro (fun ko hko => ?_)) <;> (try have hne := fresh_ne (by assumption) hko) <;> (try have hnk := fresh_ne hk hko) <;> (try have hnk2 := fresh_ne hk2 hko) <;> (try simp only [AH.put_none] at hko)) | ((with_reducible (first | refine vapp_accL (by assumption) ?_ (fun v2 H2 hacc hlec => ?_) | refine vapp_accL (AccP.mono (by assumption) (AccP.le (by assumption))) ?_ (fun v2 H2 hacc hlec => ?_) | refine vapp_accL (AccP.new (by assumption) (by assumption) _) ?_ (fun v2 H2 hacc hlec => ?_))); · simp only [byteCells_length, List.length_cons, List.length_nil, List.length_map, List.length_append, vE_length, mE_length, strE_len, List.length_take, rvE_length]; omega)) <;> (try simp -implicitDefEqProofs (disch := omega) only [go_sem, eq_self, decide_true, decide_false, Nat.reduceBEq, Nat.reduceAdd, Nat.reduceSub, Nat.reduceMul, Nat.reduceEqDiff, Nat.reduceLeDiff, Nat.reduceLT, Int.reduceLE, Int.reduceLT, Int.reduceToNat, Int.reduceAdd, Int.reduceEq, Int.reduceNeg, AH.put_ne, hlen, hg0, hz, he, h2, hB3, rvE_length, Bool.not_false, Bool.not_true, List.length_nil, Nat.zero_add])))
      all_goals (refine drop_end (by (first | exact fun _ _ h => h | (intro s x h; first | exact no_sub _ h | exact nil_no _ h | exact AccP.sub (by assumption) _ _ h | (refine agg_sub rfl ?_ x h; repeat (first | exact .nil | refine .cons (fun _ h => h) ?_ | refine .cons (fun _ h => nil_no _ h) ?_ | refine .cons (fun _ h => no_sub _ h) ?_ | refine .cons (fun _ h => AccP.sub (by assumption) _ _ h) ?_)) | (refine tuple_sub ?_ x h; repeat (first | exact .nil | refine .cons (fun _ h => h) ?_ | refine .cons (fun _ h => nil_no _ h) ?_ | refine .cons (fun _ h => no_sub _ h) ?_ | refine .cons (fun _ h => AccP.sub (by assumption) _ _ h) ?_ | refine .cons (fun _ h => agg_sub rfl (by repeat (first | exact .nil | refine .cons (fun _ h => h) ?_ | refine .cons (fun _ h => nil_no _ h) ?_ | refine .cons (fun _ h => no_sub _ h) ?_ | refine .cons (fun _ h => AccP.sub (by assumption) _ _ h) ?_)) _ h) ?_))))) (by (repeat (first | exact AH.le_refl _ | assumption | exact AccP.le (by assumption) | refine AH.le_put ?_ (by first | assumption | exact none_of_le (by assumption) (by assumption) | exact And.right (by assumption) | exact And.right (And.right (by assumption))) _ | refine AH.le_trans ?_ (AccP.le (by assumption))))))
  · have h3 : (1 : Int) < ((l.length + 1 : Nat) : Int) := by have := List.length_pos_iff.2 h1; omega
    repeat' (first | with_reducible (first | refine am_seq ?_ | refine am_block ?_) | ((with_reducible apply am_cond); (case hb => rfl); all_goals (intro hc; (try simp only [reduceCtorEq, decide_eq_true_eq, decide_eq_false_iff_not, Bool.or_eq_true, Bool.and_eq_true, Bool.or_eq_false_iff, Bool.not_eq_true', Bool.not_eq_false', beq_iff_eq] at hc); (try (exfalso; omega)))) | ((first | with_reducible (first | refine am_reg ?_ | refine am_drw ?_ | refine am_drx ?_ | refine am_drt ?_ | refine both_intro ?_ ?_ | refine am_skip ?_ | refine am_exit ?_ | refine am_ret ?_ | refine And.intro (by first | exact AH.lec_refl _ | assumption | exact AccP.lec (by assumption) | omega) ?_ | refine isnE_of (fun hc => ?_) (fun hc => ?_) (fun hc => ?_) | refine need_elems (by assumption) ?_ | refine vlen_acc (by assumption) ?_ | refine need_bytes (by assumption) ?_ | refine call_of (hpc) ?_ | refine qcall_of (hpc) ?_ | refine need_look (by repeat (first | assumption | exact AH.put_same _ _ _ | refine look_put ?_ (by assumption) | refine look_lec ?_ (by assumption))) ?_) | ((with_reducible (first | refine gd_not (fun hc => ?_) (fun hc => ?_) | refine gd_of (fun hc => ?_) (fun hc => ?_) | refine gq_not (fun hc => ?_) (fun hc => ?_) | refine gq_of (fun hc => ?_) (fun hc => ?_) | refine pickB_of (fun hc => ?_) (fun hc => ?_))) <;> (try simp -implicitDefEqProofs (disch := omega) only [go_sem, eq_self, decide_true, decide_false, Nat.reduceBEq, Nat.reduceAdd, Nat.reduceSub, Nat.reduceMul, Nat.reduceEqDiff, Nat.reduceLeDiff, Nat.reduceLT, Int.reduceLE, Int.reduceLT, Int.reduceToNat, Int.reduceAdd, Int.reduceEq, Int.reduceNeg, AH.put_ne, hc, hlen, hg0, hz, he, h3, Bool.not_false, Bool.not_true]) <;> (try simp only [reduceCtorEq, decide_eq_true_eq, decide_eq_false_iff_not, Bool.or_eq_true, Bool.and_eq_true, Bool.or_eq_false_iff, Bool.not_eq_true', Bool.not_eq_false', beq_iff_eq] at hc) <;> (try (exfalso; omega))) | ((with_reducible refine alloc_intro (fun ko hko => ?_)) <;> (try have hne := fresh_ne (by assumption) hko) <;> (try have hnk := fresh_ne hk hko) <;> (try have hnk2 := fresh_ne hk2 hko) <;> (try simp only [AH.put_none] at hko)) | ((with_reducible (first | refine vapp_accL (by assumption) ?_ (fun v2 H2 hacc hlec => ?_) | refine vapp_accL (AccP.mono (by assumption) (AccP.le (by assumption))) ?_ (fun v2 H2 hacc hlec => ?_) | refine vapp_accL (AccP.new (by assumption) (by assumption) _) ?_ (fun v2 H2 hacc hlec => ?_))); · simp only [byteCells_length, List.length_cons, List.length_nil, List.length_map, List.length_append, vE_length, mE_length, strE_len, List.length_take, rvE_length]; omega)) <;> (try simp -implicitDefEqProofs (disch := omega) only [go_sem, eq_self, decide_true, decide_false, Nat.reduceBEq, Nat.reduceAdd, Nat.reduceSub, Nat.reduceMul, Nat.reduceEqDiff, Nat.reduceLeDiff, Nat.reduceLT, Int.reduceLE, Int.reduceLT, Int.reduceToNat, Int.reduceAdd, Int.reduceEq, Int.reduceNeg, AH.put_ne, hlen, hg0, hz, he, h3, Bool.not_false, Bool.not_true])))
    all_goals (refine drop_end (by (first | exact fun _ _ h => h | (intro s x h; first | exact no_sub _ h | exact nil_no _ h | exact AccP.sub (by assumption) _ _ h | (refine agg_sub rfl ?_ x h; repeat (first | exact .nil | refine .cons (fun _ h => h) ?_ | refine .cons (fun _ h => nil_no _ h) ?_ | refine .cons (fun _ h => no_sub _ h) ?_ | refine .cons (fun _ h => AccP.sub (by assumption) _ _ h) ?_)) | (refine tuple_sub ?_ x h; repeat (first | exact .nil | refine .cons (fun _ h => h) ?_ | refine .cons (fun _ h => nil_no _ h) ?_ | refine .cons (fun _ h => no_sub _ h) ?_ | refine .cons (fun _ h => AccP.sub (by assumption) _ _ h) ?_ | refine .cons (fun _ h => agg_sub rfl (by repeat (first | exact .nil | refine .cons (fun _ h => h) ?_ | refine .cons (fun _ h => nil_no _ h) ?_ | refine .cons (fun _ h => no_sub _ h) ?_ | refine .cons (fun _ h => AccP.sub (by assumption) _ _ h) ?_)) _ h) ?_))))) (by (repeat (first | exact AH.le_refl _ | assumption | exact AccP.le (by assumption) | refine AH.le_put ?_ (by first | assumption | exact none_of_le (by assumption) (by assumption) | exact And.right (by assumption) | exact And.right (And.right (by assumption))) _ | refine AH.le_trans ?_ (AccP.le (by assumption))))))
end Go.Proofs.Ytjlphncecdlmcaa
namespace Go.Proofs.Ytjlphncecdlmcaa
open Go.Vm Go.Sort
attribute [local go_sem] List.drop_zero toNat_succ Nat.sub_zero Int.toNat_natCast Option.map_some Int.natCast_nonneg decide_eq_true_eq decide_eq_false_iff_not
theorem rw_addl {s : St2} {m x : Rv} {v : Vl} (hs : Sm v m) (hf : m.FitB 140737488351232) (hp : placeR m s = (0, 2)) (hn : s.2 = m.L.length) (H : AH) :
    ACalls Try.prog 64 [.agg [.int .i64 m.K, .bool m.B, .int .i64 m.N, .int .i64 m.M, .str m.S, .sl 7 (rvE m.L) .no, .sl 1 (strE m.Keys) .no], .agg [.int .i64 x.K, .bool x.B, .int .i64 x.N, .int .i64 x.M, .str x.S, .sl 7 (rvE x.L) .no, .sl 1 (strE x.Keys) .no], .sl 2 (stE [s]) .no] H (fun o H' => o = .ret (.tuple [.agg (rvC (.mk 6 false 0 0 [] (m.L ++ [x]) [])), .int .i64 0]) ∧ H' = H) := by
  have hlen : (stE [s]).length = 1 := rfl
  have hg0 : (stE [s])[0]? = some [.str s.1, .int .i64 s.2] := rfl
  have hpc := rplace_calls hs hf.fit s.1 s.2
  have hp2 : placeR m (s.1, s.2) = (0, 2) := hp
  rw [hp2] at hpc
  simp only at hpc
  rw [hn] at hpc
  have hb := hf.l
  have hrx : [.int .i64 x.K, .bool x.B, .int .i64 x.N, .int .i64 x.M, .str x.S, .sl 7 (rvE x.L) .no, .sl 1 (strE x.Keys) .no] = rvC x := (rvC_eq x).symm
  refine ACalls.drop ?_
  have e1 : rvC (.mk 6 false 0 0 [] (m.L ++ [x]) []) = [.int .i64 6, .bool false, .int .i64 0, .int .i64 0, .str [], .sl 7 (rvE m.L ++ [rvC x]) .no, .sl 1 [] .no] := by rw [rvC_eq]; simp [Rv.K, Rv.B, Rv.N, Rv.M, Rv.S, Rv.L, Rv.Keys, rvE, strE]
  rw [e1]
  refine acalls Try.func64 c64 r64 (by simp [Try.ntmps64]) ?_
  repeat' (first | with_reducible (first | refine am_seq ?_ | refine am_block ?_) | ((with_reducible apply am_cond); (case hb => rfl); all_goals (intro hc; (try simp only [reduceCtorEq, decide_eq_true_eq, decide_eq_false_iff_not, Bool.or_eq_true, Bool.and_eq_true, Bool.or_eq_false_iff, Bool.not_eq_true', Bool.not_eq_false', beq_iff_eq] at hc); (try (exfalso; omega)))) | ((first | with_reducible (first | refine am_reg ?_ | refine am_drw ?_ | refine am_drx ?_ | refine am_drt ?_ | refine both_intro ?_ ?_ | refine am_skip ?_ | refine am_exit ?_ | refine am_ret ?_ | refine And.intro (by first | exact AH.lec_refl _ | assumption | exact AccP.lec (by assumption) | omega) ?_ | refine isnE_of (fun hc => ?_) (fun hc => ?_) (fun hc => ?_) | refine need_elems (by assumption) ?_ | refine vlen_acc (by assumption) ?_ | refine need_bytes (by assumption) ?_ | refine call_of (hpc) ?_ | refine qcall_of (hpc) ?_ | refine need_look (by repeat (first | assumption | exact AH.put_same _ _ _ | refine look_put ?_ (by assumption) | refine look_lec ?_ (by assumption))) ?_) | ((with_reducible (first | refine gd_not (fun hc => ?_) (fun hc => ?_) | refine gd_of (fun hc => ?_) (fun hc => ?_) | refine gq_not (fun hc => ?_) (fun hc => ?_) | refine gq_of (fun hc => ?_) (fun hc => ?_) | refine pickB_of (fun hc => ?_) (fun hc => ?_))) <;> (try simp -implicitDefEqProofs (disch := omega) only [go_sem, eq_self, decide_true, decide_false, Nat.reduceBEq, Nat.reduceAdd, Nat.reduceSub, Nat.reduceMul, Nat.reduceEqDiff, Nat.reduceLeDiff, Nat.reduceLT, Int.reduceLE, Int.reduceLT, Int.reduceToNat, Int.reduceAdd, Int.reduceEq, Int.reduceNeg, AH.put_ne, hc, hlen, hg0, hn, rvE_length, Bool.not_false, Bool.not_true, List.length_nil, Nat.zero_add]) <;> (try simp only [reduceCtorEq, decide_eq_true_eq, decide_eq_false_iff_not, Bool.or_eq_true, Bool.and_eq_true, Bool.or_eq_false_iff, Bool.not_eq_true', Bool.not_eq_false', beq_iff_eq] at hc) <;> (try (exfalso; omega))) | ((with_reducible refine alloc_intro (fun ko hko => ?_)) <;> (try have hne := fresh_ne (by assumption) hko) <;> (try have hnk := fresh_ne hk hko) <;> (try have hnk2 := fresh_ne hk2 hko) <;> (try simp only [AH.put_none] at hko)) | ((with_reducible (first | refine vapp_accL (by assumption) ?_ (fun v2 H2 hacc hlec => ?_) | refine vapp_accL (AccP.mono (by assumption) (AccP.le (by assumption))) ?_ (fun v2 H2 hacc hlec => ?_) | refine vapp_accL (AccP.new (by assumption) (by assumption) _) ?_ (fun v2 H2 hacc hlec => ?_))); · simp only [byteCells_length, List.length_cons, List.length_nil, List.length_map, List.length_append, vE_length, mE_length, strE_len, List.length_take, rvE_length]; omega)) <;> (try simp -implicitDefEqProofs (disch := omega) only [go_sem, eq_self, decide_true, decide_false, Nat.reduceBEq, Nat.reduceAdd, Nat.reduceSub, Nat.reduceMul, Nat.reduceEqDiff, Nat.reduceLeDiff, Nat.reduceLT, Int.reduceLE, Int.reduceLT, Int.reduceToNat, Int.reduceAdd, Int.reduceEq, Int.reduceNeg, AH.put_ne, hlen, hg0, hn, rvE_length, Bool.not_false, Bool.not_true, List.length_nil, Nat.zero_add])))
  refine ⟨⟨by rw [List.nil_append, rvE_length], by rw [List.nil_append, rvE_length]; omega⟩, ?_⟩
  simp only [List.nil_append, hrx]
  repeat' (first | with_reducible (first | refine am_seq ?_ | refine am_block ?_) | ((with_reducible apply am_cond); (case hb => rfl); all_goals (intro hc; (try simp only [reduceCtorEq, decide_eq_true_eq, decide_eq_false_iff_not, Bool.or_eq_true, Bool.and_eq_true, Bool.or_eq_false_iff, Bool.not_eq_true', Bool.not_eq_false', beq_iff_eq] at hc); (try (exfalso; omega)))) | ((first | with_reducible (first | refine am_reg ?_ | refine am_drw ?_ | refine am_drx ?_ | refine am_drt ?_ | refine both_intro ?_ ?_ | refine am_skip ?_ | refine am_exit ?_ | refine am_ret ?_ | refine And.intro (by first | exact AH.lec_refl _ | assumption | exact AccP.lec (by assumption) | omega) ?_ | refine isnE_of (fun hc => ?_) (fun hc => ?_) (fun hc => ?_) | refine need_elems (by assumption) ?_ | refine vlen_acc (by assumption) ?_ | refine need_bytes (by assumption) ?_ | refine need_look (by repeat (first | assumption | exact AH.put_same _ _ _ | refine look_put ?_ (by assumption) | refine look_lec ?_ (by assumption))) ?_) | ((with_reducible (first | refine gd_not (fun hc => ?_) (fun hc => ?_) | refine gd_of (fun hc => ?_) (fun hc => ?_) | refine gq_not (fun hc => ?_) (fun hc => ?_) | refine gq_of (fun hc => ?_) (fun hc => ?_) | refine pickB_of (fun hc => ?_) (fun hc => ?_))) <;> (try simp -implicitDefEqProofs (disch := omega) only [go_sem, eq_self, decide_true, decide_false, Nat.reduceBEq, Nat.reduceAdd, Nat.reduceSub, Nat.reduceMul, Nat.reduceEqDiff, Nat.reduceLeDiff, Nat.reduceLT, Int.reduceLE, Int.reduceLT, Int.reduceToNat, Int.reduceAdd, Int.reduceEq, Int.reduceNeg, AH.put_ne, hc]) <;> (try simp only [reduceCtorEq, decide_eq_true_eq, decide_eq_false_iff_not, Bool.or_eq_true, Bool.and_eq_true, Bool.or_eq_false_iff, Bool.not_eq_true', Bool.not_eq_false', beq_iff_eq] at hc) <;> (try (exfalso; omega))) | ((with_reducible refine alloc_intro (fun ko hko => ?_)) <;> (try have hne := fresh_ne (by assumption) hko) <;> (try have hnk := fresh_ne hk hko) <;> (try have hnk2 := fresh_ne hk2 hko) <;> (try simp only [AH.put_none] at hko)) | ((with_reducible (first | refine vapp_accL (by assumption) ?_ (fun v2 H2 hacc hlec => ?_) | refine vapp_accL (AccP.mono (by assumption) (AccP.le (by assumption))) ?_ (fun v2 H2 hacc hlec => ?_) | refine vapp_accL (AccP.new (by assumption) (by assumption) _) ?_ (fun v2 H2 hacc hlec => ?_))); · simp only [byteCells_length, List.length_cons, List.length_nil, List.length_map, List.length_append, vE_length, mE_length, strE_len, List.length_take, rvE_length]; omega)) <;> (try simp -implicitDefEqProofs (disch := omega) only [go_sem, eq_self, decide_true, decide_false, Nat.reduceBEq, Nat.reduceAdd, Nat.reduceSub, Nat.reduceMul, Nat.reduceEqDiff, Nat.reduceLeDiff, Nat.reduceLT, Int.reduceLE, Int.reduceLT, Int.reduceToNat, Int.reduceAdd, Int.reduceEq, Int.reduceNeg, AH.put_ne])))
  all_goals (refine drop_end (by (first | exact fun _ _ h => h | (intro s x h; first | exact no_sub _ h | exact nil_no _ h | exact AccP.sub (by assumption) _ _ h | (refine agg_sub rfl ?_ x h; repeat (first | exact .nil | refine .cons (fun _ h => h) ?_ | refine .cons (fun _ h => nil_no _ h) ?_ | refine .cons (fun _ h => no_sub _ h) ?_ | refine .cons (fun _ h => AccP.sub (by assumption) _ _ h) ?_)) | (refine tuple_sub ?_ x h; repeat (first | exact .nil | refine .cons (fun _ h => h) ?_ | refine .cons (fun _ h => nil_no _ h) ?_ | refine .cons (fun _ h => no_sub _ h) ?_ | refine .cons (fun _ h => AccP.sub (by assumption) _ _ h) ?_ | refine .cons (fun _ h => agg_sub rfl (by repeat (first | exact .nil | refine .cons (fun _ h => h) ?_ | refine .cons (fun _ h => nil_no _ h) ?_ | refine .cons (fun _ h => no_sub _ h) ?_ | refine .cons (fun _ h => AccP.sub (by assumption) _ _ h) ?_)) _ h) ?_))))) (by (repeat (first | exact AH.le_refl _ | assumption | exact AccP.le (by assumption) | refine AH.le_put ?_ (by first | assumption | exact none_of_le (by assumption) (by assumption) | exact And.right (by assumption) | exact And.right (And.right (by assumption))) _ | refine AH.le_trans ?_ (AccP.le (by assumption))))))
theorem rw_rec {s : St2} {l : List St2} {m x q : Rv} {v : Vl} {i : Nat} {e : Int} (hl : l.length ≤ 1000) (hs : Sm v m) (hf : m.Fit) (hp : placeR m s = ((i : Int), 0)) (hi : i < m.L.length) (he : ¬ e = 0)
    (hic : ∀ H : AH, ACalls Try.prog 64 [.agg [.int .i64 m.L[i].K, .bool m.L[i].B, .int .i64 m.L[i].N, .int .i64 m.L[i].M, .str m.L[i].S, .sl 7 (rvE m.L[i].L) .no, .sl 1 (strE m.L[i].Keys) .no], .agg [.int .i64 x.K, .bool x.B, .int .i64 x.N, .int .i64 x.M, .str x.S, .sl 7 (rvE x.L) .no, .sl 1 (strE x.Keys) .no], .sl 2 (stE l) .no] H (fun o H' => o = .ret (.tuple [.agg (rvC q), .int .i64 e]) ∧ H' = H)) (H : AH) :
    ACalls Try.prog 64 [.agg [.int .i64 m.K, .bool m.B, .int .i64 m.N, .int .i64 m.M, .str m.S, .sl 7 (rvE m.L) .no, .sl 1 (strE m.Keys) .no], .agg [.int .i64 x.K, .bool x.B, .int .i64 x.N, .int .i64 x.M, .str x.S, .sl 7 (rvE x.L) .no, .sl 1 (strE x.Keys) .no], .sl 2 (stE (s :: l)) .no] H (fun o H' => o = .ret (.tuple [.agg (rvC zR), .int .i64 e]) ∧ H' = H) := by
  have hlen : (stE (s :: l)).length = l.length + 1 := by rw [stE_length, List.length_cons]
  have hg0 : (stE (s :: l))[0]? = some [.str s.1, .int .i64 s.2] := rfl
  have hz : ¬ (((l.length + 1 : Nat) : Int) = 0) := by omega
  have hpc := rplace_calls hs hf s.1 s.2
  have hp2 : placeR m (s.1, s.2) = ((i : Int), 0) := hp
  rw [hp2] at hpc
  simp only at hpc
  have htk : List.take (l.length + 1 - 1) (stE l) = stE l := List.take_of_length_le (by rw [stE_length]; omega)
  simp only [rvC_eq] at hic
  refine ACalls.drop ?_
  rw [rvC_zero]
  refine acalls Try.func64 c64 r64 (by simp [Try.ntmps64]) ?_
  repeat' (first | ((with_reducible refine drx_vc (by simp only [AH.put_none]; exact hko) ?_)) | with_reducible (first | refine am_seq ?_ | refine am_block ?_) | ((with_reducible apply am_cond); (case hb => rfl); all_goals (intro hc; (try simp only [reduceCtorEq, decide_eq_true_eq, decide_eq_false_iff_not, Bool.or_eq_true, Bool.and_eq_true, Bool.or_eq_false_iff, Bool.not_eq_true', Bool.not_eq_false', beq_iff_eq] at hc); (try (exfalso; omega)))) | ((first | with_reducible (first | refine am_reg ?_ | refine am_drw ?_ | refine am_drx ?_ | refine am_drt ?_ | refine both_intro ?_ ?_ | refine am_skip ?_ | refine am_exit ?_ | refine am_ret ?_ | refine And.intro (by first | exact AH.lec_refl _ | assumption | exact AccP.lec (by assumption) | omega) ?_ | refine isnE_of (fun hc => ?_) (fun hc => ?_) (fun hc => ?_) | refine need_elems (by assumption) ?_ | refine vlen_acc (by assumption) ?_ | refine need_bytes (by assumption) ?_ | refine call_of (hpc) ?_ | refine qcall_of (hpc) ?_ | refine call_of (hic) ?_ | refine qcall_of (hic) ?_ | refine need_look (by repeat (first | assumption | exact AH.put_same _ _ _ | refine look_put ?_ (by assumption) | refine look_lec ?_ (by assumption))) ?_) | ((with_reducible (first | refine gd_not (fun hc => ?_) (fun hc => ?_) | refine gd_of (fun hc => ?_) (fun hc => ?_) | refine gq_not (fun hc => ?_) (fun hc => ?_) | refine gq_of (fun hc => ?_) (fun hc => ?_) | refine pickB_of (fun hc => ?_) (fun hc => ?_))) <;> (try simp -implicitDefEqProofs (disch := omega) only [go_sem, eq_self, decide_true, decide_false, Nat.reduceBEq, Nat.reduceAdd, Nat.reduceSub, Nat.reduceMul, Nat.reduceEqDiff, Nat.reduceLeDiff, Nat.reduceLT, Int.reduceLE, Int.reduceLT, Int.reduceToNat, Int.reduceAdd, Int.reduceEq, Int.reduceNeg, AH.put_ne, hc, hlen, hg0, hz, he, rvE_get hi, rvE_length, stE_drop, htk, bne_self_eq_false, Bool.not_false, Bool.not_true]) <;> (try simp only [reduceCtorEq, decide_eq_true_eq, decide_eq_false_iff_not, Bool.or_eq_true, Bool.and_eq_true, Bool.or_eq_false_iff, Bool.not_eq_true', Bool.not_eq_false', beq_iff_eq] at hc) <;> (try (exfalso; omega))) | ((with_reducible refine alloc_intro (fun ko hko => ?_)) <;> (try have hne := fresh_ne (by assumption) hko) <;> (try have hnk := fresh_ne hk hko) <;> (try have hnk2 := fresh_ne hk2 hko) <;> (try simp only [AH.put_none] at hko)) | ((with_reducible (first | refine vapp_accL (by assumption) ?_ (fun v2 H2 hacc hlec => ?_) | refine vapp_accL (AccP.mono (by assumption) (AccP.le (by assumption))) ?_ (fun v2 H2 hacc hlec => ?_) | refine vapp_accL (AccP.new (by assumption) (by assumption) _) ?_ (fun v2 H2 hacc hlec => ?_))); · simp only [byteCells_length, List.length_cons, List.length_nil, List.length_map, List.length_append, vE_length, mE_length, strE_len, List.length_take, rvE_length]; omega)) <;> (try simp -implicitDefEqProofs (disch := omega) only [go_sem, eq_self, decide_true, decide_false, Nat.reduceBEq, Nat.reduceAdd, Nat.reduceSub, Nat.reduceMul, Nat.reduceEqDiff, Nat.reduceLeDiff, Nat.reduceLT, Int.reduceLE, Int.reduceLT, Int.reduceToNat, Int.reduceAdd, Int.reduceEq, Int.reduceNeg, AH.put_ne, hlen, hg0, hz, he, rvE_get hi, rvE_length, stE_drop, htk, bne_self_eq_false, Bool.not_false, Bool.not_true])))
  all_goals (refine drop_end (by (first | exact fun _ _ h => h | (intro s x h; first | exact no_sub _ h | exact nil_no _ h | exact AccP.sub (by assumption) _ _ h | (refine agg_sub rfl ?_ x h; repeat (first | exact .nil | refine .cons (fun _ h => h) ?_ | refine .cons (fun _ h => nil_no _ h) ?_ | refine .cons (fun _ h => no_sub _ h) ?_ | refine .cons (fun _ h => AccP.sub (by assumption) _ _ h) ?_)) | (refine tuple_sub ?_ x h; repeat (first | exact .nil | refine .cons (fun _ h => h) ?_ | refine .cons (fun _ h => nil_no _ h) ?_ | refine .cons (fun _ h => no_sub _ h) ?_ | refine .cons (fun _ h => AccP.sub (by assumption) _ _ h) ?_ | refine .cons (fun _ h => agg_sub rfl (by repeat (first | exact .nil | refine .cons (fun _ h => h) ?_ | refine .cons (fun _ h => nil_no _ h) ?_ | refine .cons (fun _ h => no_sub _ h) ?_ | refine .cons (fun _ h => AccP.sub (by assumption) _ _ h) ?_)) _ h) ?_))))) (by (repeat (first | exact AH.le_refl _ | assumption | exact AccP.le (by assumption) | refine AH.le_put ?_ (by first | assumption | exact none_of_le (by assumption) (by assumption) | exact And.right (by assumption) | exact And.right (And.right (by assumption))) _ | refine AH.le_trans ?_ (AccP.le (by assumption))))))
end Go.Proofs.Ytjlphncecdlmcaa
namespace Go.Proofs.Ytjlphncecdlmcaa
open Go.Vm Go.Sort
attribute [local go_sem] List.drop_zero toNat_succ Nat.sub_zero Int.toNat_natCast Option.map_some Int.natCast_nonneg decide_eq_true_eq decide_eq_false_iff_not
abbrev addM (m x : Rv) (k : List UInt8) : Rv := .mk 7 false 0 0 [] (m.L ++ [x]) (m.Keys ++ [k])
theorem addM_fit {m x : Rv} {k : List UInt8} (hf : m.FitB 140737488351232) (hx : x.Fit) (hk : k.length ≤ 140737488355328) : (addM m x k).Fit := by
  have h1 := hf.l
  have h2 := hf.k
  refine .mk _ (by show (m.L ++ [x]).length * 96 ≤ _; rw [List.length_append, List.length_singleton]; omega) (by show (m.Keys ++ [k]).length * 16 ≤ _; rw [List.length_append, List.length_singleton]; omega) (fun q hq => ?_) (by simp [Rv.S]) (fun q hq => ?_)
  · rcases List.mem_append.1 (show q ∈ m.Keys ++ [k] from hq) with hq | hq
    · exact hf.kl q hq
    · rw [List.mem_singleton] at hq; subst hq; exact hk
  · rcases List.mem_append.1 (show q ∈ m.L ++ [x] from hq) with hq | hq
    · exact hf.fit.m q hq
    · rw [List.mem_singleton] at hq; subst hq; exact hx
theorem rw_addm {s : St2} {m x : Rv} {v : Vl} (hs : Sm v m) (hf : m.FitB 140737488351232) (hx : x.Fit) (hk : s.1.length ≤ 140737488355328) (hp : placeR m s = (0, 8)) (H : AH) :
    ACalls Try.prog 64 [.agg [.int .i64 m.K, .bool m.B, .int .i64 m.N, .int .i64 m.M, .str m.S, .sl 7 (rvE m.L) .no, .sl 1 (strE m.Keys) .no], .agg [.int .i64 x.K, .bool x.B, .int .i64 x.N, .int .i64 x.M, .str x.S, .sl 7 (rvE x.L) .no, .sl 1 (strE x.Keys) .no], .sl 2 (stE [s]) .no] H (fun o H' => o = .ret (.tuple [.agg (rvC (cleanR (addM m x s.1))), .int .i64 0]) ∧ H' = H) := by
  have hlen : (stE [s]).length = 1 := rfl
  have hg0 : (stE [s])[0]? = some [.str s.1, .int .i64 s.2] := rfl
  have hpc := rplace_calls hs hf.fit s.1 s.2
  have hp2 : placeR m (s.1, s.2) = (0, 8) := hp
  rw [hp2] at hpc
  simp only at hpc
  have hb := hf.l
  have hb2 := hf.k
  have hrx : [.int .i64 x.K, .bool x.B, .int .i64 x.N, .int .i64 x.M, .str x.S, .sl 7 (rvE x.L) .no, .sl 1 (strE x.Keys) .no] = rvC x := (rvC_eq x).symm
  have e1 : rvE (m.L ++ [x]) = rvE m.L ++ [rvC x] := by simp [rvE]
  have e2 : strE (m.Keys ++ [s.1]) = strE m.Keys ++ [[.str s.1]] := by simp [strE]
  have hcl : ∀ H, ACalls Try.prog 25 [.agg [.int .i64 7, .bool false, .int .i64 0, .int .i64 0, .str [], .sl 7 (rvE m.L ++ [rvC x]) .no, .sl 1 (strE m.Keys ++ [[.str s.1]]) .no]] H (fun o H' => o = .ret (.agg (rvC (cleanR (addM m x s.1)))) ∧ H' = H) := by
    intro H
    rw [← e1, ← e2]
    exact clean_calls (addM m x s.1) (addM_fit hf hx hk) H
  generalize cleanR (addM m x s.1) = d at *
  simp only [rvC_eq d] at hcl ⊢
  refine ACalls.drop ?_
  refine acalls Try.func64 c64 r64 (by simp [Try.ntmps64]) ?_
  repeat' (first | with_reducible (first | refine am_seq ?_ | refine am_block ?_) | ((with_reducible apply am_cond); (case hb => rfl); all_goals (intro hc; (try simp only [reduceCtorEq, decide_eq_true_eq, decide_eq_false_iff_not, Bool.or_eq_true, Bool.and_eq_true, Bool.or_eq_false_iff, Bool.not_eq_true', Bool.not_eq_false', beq_iff_eq] at hc); (try (exfalso; omega)))) | ((first | with_reducible (first | refine am_reg ?_ | refine am_drw ?_ | refine am_drx ?_ | refine am_drt ?_ | refine both_intro ?_ ?_ | refine am_skip ?_ | refine am_exit ?_ | refine am_ret ?_ | refine And.intro (by first | exact AH.lec_refl _ | assumption | exact AccP.lec (by assumption) | omega) ?_ | refine isnE_of (fun hc => ?_) (fun hc => ?_) (fun hc => ?_) | refine need_elems (by assumption) ?_ | refine vlen_acc (by assumption) ?_ | refine need_bytes (by assumption) ?_ | refine call_of (hpc) ?_ | refine qcall_of (hpc) ?_ | refine need_look (by repeat (first | assumption | exact AH.put_same _ _ _ | refine look_put ?_ (by assumption) | refine look_lec ?_ (by assumption))) ?_) | ((with_reducible (first | refine gd_not (fun hc => ?_) (fun hc => ?_) | refine gd_of (fun hc => ?_) (fun hc => ?_) | refine gq_not (fun hc => ?_) (fun hc => ?_) | refine gq_of (fun hc => ?_) (fun hc => ?_) | refine pickB_of (fun hc => ?_) (fun hc => ?_))) <;> (try simp -implicitDefEqProofs (disch := omega) only [go_sem, eq_self, decide_true, decide_false, Nat.reduceBEq, Nat.reduceAdd, Nat.reduceSub, Nat.reduceMul, Nat.reduceEqDiff, Nat.reduceLeDiff, Nat.reduceLT, Int.reduceLE, Int.reduceLT, Int.reduceToNat, Int.reduceAdd, Int.reduceEq, Int.reduceNeg, AH.put_ne, hc, hlen, hg0, rvE_length, strE_len, Bool.not_false, Bool.not_true, List.length_nil, Nat.zero_add]) <;> (try simp only [reduceCtorEq, decide_eq_true_eq, decide_eq_false_iff_not, Bool.or_eq_true, Bool.and_eq_true, Bool.or_eq_false_iff, Bool.not_eq_true', Bool.not_eq_false', beq_iff_eq] at hc) <;> (try (exfalso; omega))) | ((with_reducible refine alloc_intro (fun ko hko => ?_)) <;> (try have hne := fresh_ne (by assumption) hko) <;> (try have hnk := fresh_ne hk hko) <;> (try have hnk2 := fresh_ne hk2 hko) <;> (try simp only [AH.put_none] at hko)) | ((with_reducible (first | refine vapp_accL (by assumption) ?_ (fun v2 H2 hacc hlec => ?_) | refine vapp_accL (AccP.mono (by assumption) (AccP.le (by assumption))) ?_ (fun v2 H2 hacc hlec => ?_) | refine vapp_accL (AccP.new (by assumption) (by assumption) _) ?_ (fun v2 H2 hacc hlec => ?_))); · simp only [byteCells_length, List.length_cons, List.length_nil, List.length_map, List.length_append, vE_length, mE_length, strE_len, List.length_take, rvE_length]; omega)) <;> (try simp -implicitDefEqProofs (disch := omega) only [go_sem, eq_self, decide_true, decide_false, Nat.reduceBEq, Nat.reduceAdd, Nat.reduceSub, Nat.reduceMul, Nat.reduceEqDiff, Nat.reduceLeDiff, Nat.reduceLT, Int.reduceLE, Int.reduceLT, Int.reduceToNat, Int.reduceAdd, Int.reduceEq, Int.reduceNeg, AH.put_ne, hlen, hg0, rvE_length, strE_len, Bool.not_false, Bool.not_true, List.length_nil, Nat.zero_add])))
  simp only [List.nil_append, hrx]
  refine ⟨⟨by rw [rvE_length], by rw [rvE_length]; omega⟩, ⟨by omega, by omega⟩, fun i hi => ⟨⟨by rw [strE_len], by rw [strE_len]; omega⟩, ?_⟩⟩
  refine call_of (fun H => acalls_args (hcl H) fun s => .cons (fun y h => agg_sub rfl (by repeat (first | exact .nil | refine .cons (fun _ h => h) ?_ | refine .cons (fun _ h => nil_no _ h) ?_ | refine .cons (fun _ h => no_sub _ h) ?_ | refine .cons (fun _ h => AccP.sub (by assumption) _ _ h) ?_)) y h) .nil) ?_
  simp only [AH.put_none] at hi
  refine need_look (o := .cells [.int .i64 0, .bool false, .int .i64 0, .int .i64 0, .str [], .nilSl, .nilSl]) (by rw [AH.put_ne _ _ (Ne.symm hi.2.1), AH.put_ne _ _ (Ne.symm hko.1), AH.put_same]) ?_
  simp -implicitDefEqProofs (disch := omega) only [go_sem, eq_self, decide_true, decide_false, Nat.reduceBEq, Nat.reduceAdd, Nat.reduceSub, Nat.reduceMul, Nat.reduceEqDiff, Nat.reduceLeDiff, Nat.reduceLT, Int.reduceLE, Int.reduceLT, Int.reduceToNat, Int.reduceAdd, Int.reduceEq, Int.reduceNeg, AH.put_ne]
  repeat' (first | with_reducible (first | refine am_seq ?_ | refine am_block ?_) | ((with_reducible apply am_cond); (case hb => rfl); all_goals (intro hc; (try simp only [reduceCtorEq, decide_eq_true_eq, decide_eq_false_iff_not, Bool.or_eq_true, Bool.and_eq_true, Bool.or_eq_false_iff, Bool.not_eq_true', Bool.not_eq_false', beq_iff_eq] at hc); (try (exfalso; omega)))) | ((first | with_reducible (first | refine am_reg ?_ | refine am_drw ?_ | refine am_drx ?_ | refine am_drt ?_ | refine both_intro ?_ ?_ | refine am_skip ?_ | refine am_exit ?_ | refine am_ret ?_ | refine And.intro (by first | exact AH.lec_refl _ | assumption | exact AccP.lec (by assumption) | omega) ?_ | refine isnE_of (fun hc => ?_) (fun hc => ?_) (fun hc => ?_) | refine need_elems (by assumption) ?_ | refine vlen_acc (by assumption) ?_ | refine need_bytes (by assumption) ?_ | refine need_look (by repeat (first | assumption | exact AH.put_same _ _ _ | refine look_put ?_ (by assumption) | refine look_lec ?_ (by assumption))) ?_) | ((with_reducible (first | refine gd_not (fun hc => ?_) (fun hc => ?_) | refine gd_of (fun hc => ?_) (fun hc => ?_) | refine gq_not (fun hc => ?_) (fun hc => ?_) | refine gq_of (fun hc => ?_) (fun hc => ?_) | refine pickB_of (fun hc => ?_) (fun hc => ?_))) <;> (try simp -implicitDefEqProofs (disch := omega) only [go_sem, eq_self, decide_true, decide_false, Nat.reduceBEq, Nat.reduceAdd, Nat.reduceSub, Nat.reduceMul, Nat.reduceEqDiff, Nat.reduceLeDiff, Nat.reduceLT, Int.reduceLE, Int.reduceLT, Int.reduceToNat, Int.reduceAdd, Int.reduceEq, Int.reduceNeg, AH.put_ne, hc]) <;> (try simp only [reduceCtorEq, decide_eq_true_eq, decide_eq_false_iff_not, Bool.or_eq_true, Bool.and_eq_true, Bool.or_eq_false_iff, Bool.not_eq_true', Bool.not_eq_false', beq_iff_eq] at hc) <;> (try (exfalso; omega))) | ((with_reducible refine alloc_intro (fun ko hko => ?_)) <;> (try have hne := fresh_ne (by assumption) hko) <;> (try have hnk := fresh_ne hk hko) <;> (try have hnk2 := fresh_ne hk2 hko) <;> (try simp only [AH.put_none] at hko)) | ((with_reducible (first | refine vapp_accL (by assumption) ?_ (fun v2 H2 hacc hlec => ?_) | refine vapp_accL (AccP.mono (by assumption) (AccP.le (by assumption))) ?_ (fun v2 H2 hacc hlec => ?_) | refine vapp_accL (AccP.new (by assumption) (by assumption) _) ?_ (fun v2 H2 hacc hlec => ?_))); · simp only [byteCells_length, List.length_cons, List.length_nil, List.length_map, List.length_append, vE_length, mE_length, strE_len, List.length_take, rvE_length]; omega)) <;> (try simp -implicitDefEqProofs (disch := omega) only [go_sem, eq_self, decide_true, decide_false, Nat.reduceBEq, Nat.reduceAdd, Nat.reduceSub, Nat.reduceMul, Nat.reduceEqDiff, Nat.reduceLeDiff, Nat.reduceLT, Int.reduceLE, Int.reduceLT, Int.reduceToNat, Int.reduceAdd, Int.reduceEq, Int.reduceNeg, AH.put_ne])))
  all_goals (refine drop_end (by (first | exact fun _ _ h => h | (intro s x h; first | exact no_sub _ h | exact nil_no _ h | exact AccP.sub (by assumption) _ _ h | (refine agg_sub rfl ?_ x h; repeat (first | exact .nil | refine .cons (fun _ h => h) ?_ | refine .cons (fun _ h => nil_no _ h) ?_ | refine .cons (fun _ h => no_sub _ h) ?_ | refine .cons (fun _ h => AccP.sub (by assumption) _ _ h) ?_)) | (refine tuple_sub ?_ x h; repeat (first | exact .nil | refine .cons (fun _ h => h) ?_ | refine .cons (fun _ h => nil_no _ h) ?_ | refine .cons (fun _ h => no_sub _ h) ?_ | refine .cons (fun _ h => AccP.sub (by assumption) _ _ h) ?_ | refine .cons (fun _ h => agg_sub rfl (by repeat (first | exact .nil | refine .cons (fun _ h => h) ?_ | refine .cons (fun _ h => nil_no _ h) ?_ | refine .cons (fun _ h => no_sub _ h) ?_ | refine .cons (fun _ h => AccP.sub (by assumption) _ _ h) ?_)) _ h) ?_))))) (by (repeat (first | exact AH.le_refl _ | assumption | exact AccP.le (by assumption) | refine AH.le_put ?_ (by first | assumption | exact none_of_le (by assumption) (by assumption) | exact And.right (by assumption) | exact And.right (And.right (by assumption))) _ | refine AH.le_trans ?_ (AccP.le (by assumption))))))
end Go.Proofs.Ytjlphncecdlmcaa
namespace Go.Proofs.Ytjlphncecdlmcaa
open Go.Vm Go.Sort
attribute [local go_sem] List.drop_zero toNat_succ Nat.sub_zero Int.toNat_natCast Option.map_some Int.natCast_nonneg decide_eq_true_eq decide_eq_false_iff_not
theorem flat_len {sz : Nat} : ∀ es : List (List V), (∀ e ∈ es, e.length = sz) → es.flatten.length = es.length * sz
  | [], _ => by simp
  | e :: es, h => by
    rw [List.flatten_cons, List.length_append, flat_len es (fun x hx => h x (List.mem_cons_of_mem _ hx)), h e List.mem_cons_self, List.length_cons, Nat.add_mul]; omega
theorem rw_end {m q : Rv} {i k6 k12 kk : Nat} {H G : AH} (h12 : G k12 = some (.cells [.int .i64 m.K, .bool false, .int .i64 0, .int .i64 0, .str [], .msl kk 7 0 m.L.length, .sl 1 (strE m.Keys) .no])) (h6 : G k6 = some (.cells [.int .i64 0, .bool false, .int .i64 0, .int .i64 0, .str [], .nilSl, .nilSl]))
    (hkk : G kk = some (.cells (rvE (m.L.set i q)).flatten)) (hne : k6 ≠ kk) (hn6 : H k6 = none) (hnk : H kk = none) (hle : H.le G) :
    AM Try.prog Try.f64.ntmps k64_7 (Body [RV.cell 6 true 7, RV.tmp 7] fun o H' => ∃ k, o = Out.ret (.tuple [.agg [.int .i64 m.K, .bool false, .int .i64 0, .int .i64 0, .str [], .msl k 7 0 m.L.length, .sl 1 (strE m.Keys) .no], .int .i64 0]) ∧ H' k = some (.cells (rvE (m.L.set i q)).flatten) ∧ H.le (H'.del k)) [(6, .ptr k6 0), (12, .ptr k12 0)] G := by
  repeat' (first | with_reducible (first | refine am_seq ?_ | refine am_block ?_) | ((with_reducible apply am_cond); (case hb => rfl); all_goals (intro hc; (try simp only [reduceCtorEq, decide_eq_true_eq, decide_eq_false_iff_not, Bool.or_eq_true, Bool.and_eq_true, Bool.or_eq_false_iff, Bool.not_eq_true', Bool.not_eq_false', beq_iff_eq] at hc); (try (exfalso; omega)))) | ((first | with_reducible (first | refine am_reg ?_ | refine am_drw ?_ | refine am_drx ?_ | refine am_drt ?_ | refine both_intro ?_ ?_ | refine am_skip ?_ | refine am_exit ?_ | refine am_ret ?_ | refine And.intro (by first | exact AH.lec_refl _ | assumption | exact AccP.lec (by assumption) | omega) ?_ | refine isnE_of (fun hc => ?_) (fun hc => ?_) (fun hc => ?_) | refine need_elems (by assumption) ?_ | refine vlen_acc (by assumption) ?_ | refine need_bytes (by assumption) ?_ | refine need_look (by repeat (first | assumption | exact AH.put_same _ _ _ | refine look_put ?_ (by assumption) | refine look_lec ?_ (by assumption))) ?_) | ((with_reducible (first | refine gd_not (fun hc => ?_) (fun hc => ?_) | refine gd_of (fun hc => ?_) (fun hc => ?_) | refine gq_not (fun hc => ?_) (fun hc => ?_) | refine gq_of (fun hc => ?_) (fun hc => ?_) | refine pickB_of (fun hc => ?_) (fun hc => ?_))) <;> (try simp -implicitDefEqProofs (disch := omega) only [go_sem, eq_self, decide_true, decide_false, Nat.reduceBEq, Nat.reduceAdd, Nat.reduceSub, Nat.reduceMul, Nat.reduceEqDiff, Nat.reduceLeDiff, Nat.reduceLT, Int.reduceLE, Int.reduceLT, Int.reduceToNat, Int.reduceAdd, Int.reduceEq, Int.reduceNeg, AH.put_ne, hc]) <;> (try simp only [reduceCtorEq, decide_eq_true_eq, decide_eq_false_iff_not, Bool.or_eq_true, Bool.and_eq_true, Bool.or_eq_false_iff, Bool.not_eq_true', Bool.not_eq_false', beq_iff_eq] at hc) <;> (try (exfalso; omega))) | ((with_reducible refine alloc_intro (fun ko hko => ?_)) <;> (try have hne := fresh_ne (by assumption) hko) <;> (try have hnk := fresh_ne hk hko) <;> (try have hnk2 := fresh_ne hk2 hko) <;> (try simp only [AH.put_none] at hko)) | ((with_reducible (first | refine vapp_accL (by assumption) ?_ (fun v2 H2 hacc hlec => ?_) | refine vapp_accL (AccP.mono (by assumption) (AccP.le (by assumption))) ?_ (fun v2 H2 hacc hlec => ?_) | refine vapp_accL (AccP.new (by assumption) (by assumption) _) ?_ (fun v2 H2 hacc hlec => ?_))); · simp only [byteCells_length, List.length_cons, List.length_nil, List.length_map, List.length_append, vE_length, mE_length, strE_len, List.length_take, rvE_length]; omega)) <;> (try simp -implicitDefEqProofs (disch := omega) only [go_sem, eq_self, decide_true, decide_false, Nat.reduceBEq, Nat.reduceAdd, Nat.reduceSub, Nat.reduceMul, Nat.reduceEqDiff, Nat.reduceLeDiff, Nat.reduceLT, Int.reduceLE, Int.reduceLT, Int.reduceToNat, Int.reduceAdd, Int.reduceEq, Int.reduceNeg, AH.put_ne])))
  all_goals exact ⟨kk, rfl, by rw [AH.put_ne _ _ (Ne.symm hne)]; exact hkk, AH.le_del (AH.le_put hle hn6 _) hnk⟩
theorem rw_set {s : St2} {l : List St2} {m x q : Rv} {v : Vl} {i : Nat} (hl : l.length ≤ 1000) (hs : Sm v m) (hf : m.Fit) (hp : placeR m s = ((i : Int), 0)) (hi : i < m.L.length)
    (hic : ∀ H : AH, ACalls Try.prog 64 [.agg [.int .i64 m.L[i].K, .bool m.L[i].B, .int .i64 m.L[i].N, .int .i64 m.L[i].M, .str m.L[i].S, .sl 7 (rvE m.L[i].L) .no, .sl 1 (strE m.L[i].Keys) .no], .agg [.int .i64 x.K, .bool x.B, .int .i64 x.N, .int .i64 x.M, .str x.S, .sl 7 (rvE x.L) .no, .sl 1 (strE x.Keys) .no], .sl 2 (stE l) .no] H (fun o H' => o = .ret (.tuple [.agg (rvC q), .int .i64 0]) ∧ H' = H)) (H : AH) :
    ACalls Try.prog 64 [.agg [.int .i64 m.K, .bool m.B, .int .i64 m.N, .int .i64 m.M, .str m.S, .sl 7 (rvE m.L) .no, .sl 1 (strE m.Keys) .no], .agg [.int .i64 x.K, .bool x.B, .int .i64 x.N, .int .i64 x.M, .str x.S, .sl 7 (rvE x.L) .no, .sl 1 (strE x.Keys) .no], .sl 2 (stE (s :: l)) .no] H (fun o H' => o = .ret (.tuple [.agg (rvC (.mk m.K false 0 0 [] (m.L.set i q) m.Keys)), .int .i64 0]) ∧ H' = H) := by
  have hlen : (stE (s :: l)).length = l.length + 1 := by rw [stE_length, List.length_cons]
  have hg0 : (stE (s :: l))[0]? = some [.str s.1, .int .i64 s.2] := rfl
  have hz : ¬ (((l.length + 1 : Nat) : Int) = 0) := by omega
  have hpc := rplace_calls hs hf s.1 s.2
  have hp2 : placeR m (s.1, s.2) = ((i : Int), 0) := hp
  rw [hp2] at hpc
  simp only at hpc
  have htk : List.take (l.length + 1 - 1) (stE l) = stE l := List.take_of_length_le (by rw [stE_length]; omega)
  have hb := hf.l
  have hne : rvE m.L ≠ [] := by intro h; have := congrArg List.length h; rw [rvE_length] at this; simp at this; rw [this] at hi; simp at hi
  simp only [rvC_eq q] at hic
  have e1 : rvC (.mk m.K false 0 0 [] (m.L.set i q) m.Keys) = [.int .i64 m.K, .bool false, .int .i64 0, .int .i64 0, .str [], .sl 7 (rvE (m.L.set i q)) .no, .sl 1 (strE m.Keys) .no] := by rw [rvC_eq]; rfl
  refine ACalls.drop (ACalls.mono (ACalls.freeze (R := fun v H' => (∀ (s : St) y, s.val v y → s.val (.tuple [.agg (rvC (.mk m.K false 0 0 [] (m.L.set i q) m.Keys)), .int .i64 0]) y) ∧ H.le H') (Q := fun o H' => ∃ k, o = .ret (.tuple [.agg [.int .i64 m.K, .bool false, .int .i64 0, .int .i64 0, .str [], .msl k 7 0 m.L.length, .sl 1 (strE m.Keys) .no], .int .i64 0]) ∧ H' k = some (.cells (rvE (m.L.set i q)).flatten) ∧ H.le (H'.del k)) ?_ ?_) ?_)
  · refine acalls Try.func64 c64 r64 (by simp [Try.ntmps64]) ?_
    repeat' (first | ((with_reducible refine And.intro (AH.lec_of_le (AH.le_put (AH.le_refl _) (by simp only [AH.put_none]; exact hko) _)) ?_)) | with_reducible (first | refine am_seq ?_ | refine am_block ?_) | ((with_reducible apply am_cond); (case hb => rfl); all_goals (intro hc; (try simp only [reduceCtorEq, decide_eq_true_eq, decide_eq_false_iff_not, Bool.or_eq_true, Bool.and_eq_true, Bool.or_eq_false_iff, Bool.not_eq_true', Bool.not_eq_false', beq_iff_eq] at hc); (try (exfalso; omega)))) | ((first | with_reducible (first | refine am_reg ?_ | refine am_drw ?_ | refine am_drx ?_ | refine am_drt ?_ | refine both_intro ?_ ?_ | refine am_skip ?_ | refine am_exit ?_ | refine am_ret ?_ | refine And.intro (by first | exact AH.lec_refl _ | assumption | exact AccP.lec (by assumption) | omega) ?_ | refine isnE_of (fun hc => ?_) (fun hc => ?_) (fun hc => ?_) | refine need_elems (by assumption) ?_ | refine vlen_acc (by assumption) ?_ | refine need_bytes (by assumption) ?_ | refine call_of (hpc) ?_ | refine qcall_of (hpc) ?_ | refine call_of (hic) ?_ | refine qcall_of (hic) ?_ | refine need_look (by repeat (first | assumption | exact AH.put_same _ _ _ | refine look_put ?_ (by assumption) | refine look_lec ?_ (by assumption))) ?_) | ((with_reducible (first | refine gd_not (fun hc => ?_) (fun hc => ?_) | refine gd_of (fun hc => ?_) (fun hc => ?_) | refine gq_not (fun hc => ?_) (fun hc => ?_) | refine gq_of (fun hc => ?_) (fun hc => ?_) | refine pickB_of (fun hc => ?_) (fun hc => ?_))) <;> (try simp -implicitDefEqProofs (disch := omega) only [go_sem, eq_self, decide_true, decide_false, Nat.reduceBEq, Nat.reduceAdd, Nat.reduceSub, Nat.reduceMul, Nat.reduceEqDiff, Nat.reduceLeDiff, Nat.reduceLT, Int.reduceLE, Int.reduceLT, Int.reduceToNat, Int.reduceAdd, Int.reduceEq, Int.reduceNeg, AH.put_ne, hc, hlen, hg0, hz, rvE_get hi, rvE_length, stE_drop, htk, bne_self_eq_false, Bool.not_false, Bool.not_true, vappm, appmK, elemsH, hne, true_and, ne_eq, not_false_eq_true, true_implies, false_implies, List.length_nil, Nat.zero_add, List.nil_append]) <;> (try simp only [reduceCtorEq, decide_eq_true_eq, decide_eq_false_iff_not, Bool.or_eq_true, Bool.and_eq_true, Bool.or_eq_false_iff, Bool.not_eq_true', Bool.not_eq_false', beq_iff_eq] at hc) <;> (try (exfalso; omega))) | ((with_reducible refine alloc_intro (fun ko hko => ?_)) <;> (try have hne := fresh_ne (by assumption) hko) <;> (try have hnk := fresh_ne hk hko) <;> (try have hnk2 := fresh_ne hk2 hko) <;> (try simp only [AH.put_none] at hko)) | ((with_reducible (first | refine vapp_accL (by assumption) ?_ (fun v2 H2 hacc hlec => ?_) | refine vapp_accL (AccP.mono (by assumption) (AccP.le (by assumption))) ?_ (fun v2 H2 hacc hlec => ?_) | refine vapp_accL (AccP.new (by assumption) (by assumption) _) ?_ (fun v2 H2 hacc hlec => ?_))); · simp only [byteCells_length, List.length_cons, List.length_nil, List.length_map, List.length_append, vE_length, mE_length, strE_len, List.length_take, rvE_length]; omega)) <;> (try simp -implicitDefEqProofs (disch := omega) only [go_sem, eq_self, decide_true, decide_false, Nat.reduceBEq, Nat.reduceAdd, Nat.reduceSub, Nat.reduceMul, Nat.reduceEqDiff, Nat.reduceLeDiff, Nat.reduceLT, Int.reduceLE, Int.reduceLT, Int.reduceToNat, Int.reduceAdd, Int.reduceEq, Int.reduceNeg, AH.put_ne, hlen, hg0, hz, rvE_get hi, rvE_length, stE_drop, htk, bne_self_eq_false, Bool.not_false, Bool.not_true, vappm, appmK, elemsH, hne, true_and, ne_eq, not_false_eq_true, true_implies, false_implies, List.length_nil, Nat.zero_add, List.nil_append])))
    all_goals refine ⟨by rw [flat_len _ (rvE_len7 _), rvE_length]; omega, ?_⟩
    all_goals have hov := over_flat (rvC_len q) (rvE m.L) i (rvE_len7 _) (by rw [rvE_length]; exact hi)
    all_goals rw [rvE_set, rvC_eq q] at hov
    all_goals simp only [over] at hov
    all_goals rw [hov]
    all_goals rename_i k6 g6 _ _ k10 g10 ka ga
    · exact rw_end (by rw [AH.put_ne _ _ hko.1, AH.put_same]) (by rw [AH.put_ne _ _ (Ne.symm ga.2.1), AH.put_ne _ _ (Ne.symm hko.2.2.1), AH.put_ne _ _ (Ne.symm ga.2.1), AH.put_ne _ _ (Ne.symm g10.1), AH.put_same]) (AH.put_same _ _ _) (Ne.symm ga.2.1) g6 ga.2.2 (AH.le_put (AH.le_put (AH.le_put (AH.le_put (AH.le_put (AH.le_refl _) g6 _) g10.2 _) ga.2.2 _) hko.2.2.2 _) ga.2.2 _)
    · exact rw_end (by rw [AH.put_ne _ _ hko.1, AH.put_same]) (by rw [AH.put_ne _ _ (Ne.symm ga.2.1), AH.put_ne _ _ (Ne.symm hko.2.2.1), AH.put_ne _ _ (Ne.symm ga.2.1), AH.put_ne _ _ (Ne.symm g10.1), AH.put_same]) (AH.put_same _ _ _) (Ne.symm ga.2.1) g6 ga.2.2 (AH.le_put (AH.le_put (AH.le_put (AH.le_put (AH.le_put (AH.le_refl _) g6 _) g10.2 _) ga.2.2 _) hko.2.2.2 _) ga.2.2 _)
    · exact rw_end (by rw [AH.put_ne _ _ (Ne.symm hko.1), AH.put_same]) (by rw [AH.put_ne _ _ (Ne.symm hko.2.2.1), AH.put_ne _ _ (Ne.symm ga.2.1), AH.put_ne _ _ (Ne.symm hko.2.2.1), AH.put_ne _ _ (Ne.symm ga.2.1), AH.put_ne _ _ (Ne.symm g10.1), AH.put_same]) (AH.put_same _ _ _) (Ne.symm hko.2.2.1) g6 hko.2.2.2 (AH.le_put (AH.le_put (AH.le_put (AH.le_put (AH.le_put (AH.le_put (AH.le_refl _) g6 _) g10.2 _) ga.2.2 _) hko.2.2.2 _) ga.2.2 _) hko.2.2.2 _)
  · rintro o H' ⟨k, rfl, h1, h2⟩
    refine ⟨_, rfl, .inr ⟨k, _, _, h1, fun s hs y h => ?_, fun s y h => h, h2⟩⟩
    rw [e1]
    refine tuple_sub (.cons (fun y h => agg_sub rfl (.cons (fun _ h => h) (.cons (fun _ h => h) (.cons (fun _ h => h) (.cons (fun _ h => h) (.cons (fun _ h => h) (.cons (fun y h => ?_) (.cons (fun _ h => h) .nil))))))) y h) (.cons (fun _ h => h) .nil)) y h
    have := hs 7 0 m.L.length (by rw [Nat.zero_add, flat_len _ (rvE_len7 _), rvE_length, List.length_set]; exact Nat.le_refl _) y h
    have hn : m.L.length = (rvE (m.L.set i q)).length := by rw [rvE_length, List.length_set]
    rwa [List.drop_zero, hn, chop_flatten _ (rvE_len7 _)] at this
  · rintro o H' ⟨v, rfl, h1, h2⟩
    exact drop_end h1 h2
theorem rwith_calls : ∀ l : List St2, l.length ≤ 1000 → (∀ s ∈ l, s.1.length ≤ 140737488355328) → RWithOk l
  | [], _, _ => rwith_nil
  | s :: r, hl, hb => by
    intro m x v hs hf hx H
    have hlr : r.length ≤ 1000 := by rw [List.length_cons] at hl; omega
    rw [withM]
    have err : ∀ e : Int, placeR m s = (0, e) → ¬ e = 0 → (r ≠ [] ∨ ¬ (e = 8 ∨ e = 2 ∧ s.2 = m.L.length)) → ACalls Try.prog 64 [.agg [.int .i64 m.K, .bool m.B, .int .i64 m.N, .int .i64 m.M, .str m.S, .sl 7 (rvE m.L) .no, .sl 1 (strE m.Keys) .no], .agg [.int .i64 x.K, .bool x.B, .int .i64 x.N, .int .i64 x.M, .str x.S, .sl 7 (rvE x.L) .no, .sl 1 (strE x.Keys) .no], .sl 2 (stE (s :: r)) .no] H (fun o H' => o = .ret (.tuple [.agg (rvC zR), .int .i64 e]) ∧ H' = H) := fun e hp he hB => rw_err hlr hs hf.fit hp he hB H
    have core : ∀ e : Int, (e = 2 ∨ e = 6 ∨ e = 8) → placeR m s = (0, e) → ACalls Try.prog 64 [.agg [.int .i64 m.K, .bool m.B, .int .i64 m.N, .int .i64 m.M, .str m.S, .sl 7 (rvE m.L) .no, .sl 1 (strE m.Keys) .no], .agg [.int .i64 x.K, .bool x.B, .int .i64 x.N, .int .i64 x.M, .str x.S, .sl 7 (rvE x.L) .no, .sl 1 (strE x.Keys) .no], .sl 2 (stE (s :: r)) .no] H (fun o H' => o = .ret (.tuple [.agg (rvC (if r ≠ [] ∨ ¬ (e = 8 ∨ e = 2 ∧ s.2 = m.L.length) then (zR, e) else if e = 2 then (.mk 6 false 0 0 [] (m.L ++ [x]) [], 0) else (cleanR (.mk 7 false 0 0 [] (m.L ++ [x]) (m.Keys ++ [s.1])), 0)).1), .int .i64 (if r ≠ [] ∨ ¬ (e = 8 ∨ e = 2 ∧ s.2 = m.L.length) then (zR, e) else if e = 2 then (.mk 6 false 0 0 [] (m.L ++ [x]) [], 0) else (cleanR (.mk 7 false 0 0 [] (m.L ++ [x]) (m.Keys ++ [s.1])), 0)).2]) ∧ H' = H) := by
      intro e hee hp
      by_cases hB : r ≠ [] ∨ ¬ (e = 8 ∨ e = 2 ∧ s.2 = m.L.length)
      · rw [if_pos hB]; exact err e hp (by omega) hB
      · rw [if_neg hB]
        obtain ⟨h1, h2⟩ := not_or.1 hB
        have h1 := Decidable.not_not.1 h1
        have h2 := Decidable.not_not.1 h2
        subst h1
        by_cases h3 : e = 2
        · subst h3
          rw [if_pos rfl]
          exact rw_addl hs hf hp ((h2.resolve_left (by decide)).2) H
        · rw [if_neg h3]
          have h8 : e = 8 := h2.resolve_right (fun h => h3 h.1)
          subst h8
          exact rw_addm hs hf hx (hb s List.mem_cons_self) hp H
    rcases into_place hs s with ⟨_, h2⟩ | ⟨_, _, _, _, _, _, _, h2⟩ | ⟨_, _, _, _, _, h2⟩ | ⟨i, z, hlt, _, h2, h3, _⟩
    · rw [h2, if_neg (by decide)]; exact core 6 (.inr (.inl rfl)) h2
    · rw [h2, if_neg (by decide)]; exact core 2 (.inl rfl) h2
    · rw [h2, if_neg (by decide)]; exact core 8 (.inr (.inr rfl)) h2
    · rw [h2, if_pos rfl]
      simp only [Int.toNat_natCast, List.getD_eq_getElem?_getD, List.getElem?_eq_getElem hlt, Option.getD_some]
      have hrec := rwith_calls r hlr (fun t ht => hb t (List.mem_cons_of_mem _ ht)) m.L[i] x z h3 (hf.m _ (List.getElem_mem hlt)) hx
      generalize withM m.L[i] x r = p at *
      obtain ⟨q, e⟩ := p
      by_cases h0 : e = 0
      · subst h0
        rw [if_pos rfl]
        exact rw_set hlr hs hf.fit h2 hlt hrec H
      · rw [if_neg h0]
        exact rw_rec hlr hs hf.fit h2 hlt h0 hrec H
end Go.Proofs.Ytjlphncecdlmcaa
namespace Go.Proofs.Ytjlphncecdlmcaa
open Go.Vm Go.Sort
attribute [local go_sem] List.drop_zero toNat_succ Nat.sub_zero Int.toNat_natCast Option.map_some Int.natCast_nonneg decide_eq_true_eq decide_eq_false_iff_not
/- flange/flangelaw04.ValueGoes -/
abbrev k14_0 : MC :=
  .cond (.t 36) ((.seq (.reg [
     ⟨(some 37), none, .call 23 []⟩,
     ⟨(some 6), none, .val (.mv (.t 37))⟩] [6]) (.ret))) (.skip)
abbrev k14_1 : MC :=
  .cond (.t 45) (.skip) (.exit 0)
abbrev k14_2 : MC :=
  .reg [
    ⟨(some 46), none, .val (.mv (.t 10))⟩,
    ⟨(some 47), none, .val (.bin .add .num (.t 46) (.c (.int .i64 1)))⟩,
    ⟨(some 10), none, .val (.mv (.t 47))⟩] [2, 7, 8, 9, 10]
abbrev k14_3 : MC :=
  (.seq (.block 1 (.drw [
     ⟨(some 49), none, .val (.mv (.t 2))⟩,
     ⟨(some 50), none, .val (.mv (.t 10))⟩,
     ⟨(some 51), none, .val (.iaddr 2 (.t 49) (.t 50))⟩,
     ⟨(some 52), none, .val (.faddr 0 (.t 51))⟩,
     ⟨(some 53), none, .val (.load false 1 (.t 52))⟩,
     ⟨(some 54), none, .val (.mv (.t 2))⟩,
     ⟨(some 55), none, .val (.mv (.t 10))⟩,
     ⟨(some 56), none, .val (.iaddr 2 (.t 54) (.t 55))⟩,
     ⟨(some 57), none, .val (.faddr 1 (.t 56))⟩,
     ⟨(some 58), none, .val (.load false 1 (.t 57))⟩,
     ⟨(some 59), none, .build [(.str []), (.int .i64 0)] [(0, 1, (.t 53)), (1, 1, (.t 58))]⟩,
     ⟨(some 60), none, .bslice 2 1 [(.str []), (.int .i64 0)] [(0, 2, (.t 59))]⟩] [
     ⟨(some 48), none, .val (.mv (.t 9))⟩,
     ⟨(some 61), none, .app 2 24 (.t 48) (.t 60)⟩,
     ⟨(some 9), none, .val (.mv (.t 61))⟩] [2, 7, 8, 9, 10])) k14_2)
abbrev k14_4 : MC :=
  (.seq ((.seq (.reg [
    ⟨(some 42), none, .val (.mv (.t 10))⟩,
    ⟨(some 43), none, .val (.mv (.t 2))⟩,
    ⟨(some 44), none, .val (.len .sl (.t 43))⟩,
    ⟨(some 45), none, .val (.bin .lss .num (.t 42) (.t 44))⟩] [2, 7, 8, 9, 10, 45]) k14_1)) k14_3)
abbrev k14_5 : MC :=
  .block 0 (.loop k14_4)
abbrev k14_6 : MC :=
  (.seq (.reg [
    ⟨(some 91), none, .val (.mv (.t 13))⟩,
    ⟨(some 92), none, .val (.mv (.t 17))⟩,
    ⟨(some 93), none, .val (.bin .eql .num (.t 91) (.t 92))⟩,
    ⟨(some 94), none, .val (.mv (.t 93))⟩,
    ⟨(some 95), (some (94, true)), .val (.load true 1 (.t 12))⟩,
    ⟨(some 96), (some (94, true)), .val (.load true 7 (.t 16))⟩,
    ⟨(some 97), (some (94, true)), .call 52 [(.t 95), (.t 96)]⟩,
    ⟨(some 98), (some (94, true)), .val (.bin .eql .num (.t 97) (.c (.int .i64 0)))⟩,
    ⟨(some 99), none, .val (.pick (.t 94) (.t 98) (.c (.bool false)))⟩,
    ⟨(some 100), none, .val (.mv (.t 99))⟩,
    ⟨(some 101), (some (100, true)), .val (.mv (.t 15))⟩,
    ⟨(some 102), (some (100, true)), .val (.mv (.t 19))⟩,
    ⟨(some 103), (some (100, true)), .val (.bin .eql .num (.t 101) (.t 102))⟩,
    ⟨(some 104), none, .val (.pick (.t 100) (.t 103) (.c (.bool false)))⟩,
    ⟨(some 105), none, .val (.mv (.t 104))⟩,
    ⟨(some 106), (some (105, true)), .val (.load true 1 (.t 14))⟩,
    ⟨(some 107), (some (105, true)), .val (.load true 7 (.t 18))⟩,
    ⟨(some 108), (some (105, true)), .call 52 [(.t 106), (.t 107)]⟩,
    ⟨(some 109), (some (105, true)), .val (.bin .eql .num (.t 108) (.c (.int .i64 0)))⟩,
    ⟨(some 110), none, .val (.pick (.t 105) (.t 109) (.c (.bool false)))⟩,
    ⟨(some 111), none, .val (.mv (.t 110))⟩,
    ⟨(some 112), (some (111, true)), .val (.load true 1 (.t 11))⟩,
    ⟨(some 113), (some (111, true)), .val (.load true 7 (.t 7))⟩,
    ⟨(some 114), (some (111, true)), .call 52 [(.t 112), (.t 113)]⟩,
    ⟨(some 115), (some (111, true)), .val (.bin .eql .num (.t 114) (.c (.int .i64 0)))⟩,
    ⟨(some 116), none, .val (.pick (.t 111) (.t 115) (.c (.bool false)))⟩,
    ⟨(some 6), none, .val (.mv (.t 116))⟩] [6]) (.ret))
abbrev k14_7 : MC :=
  (.seq (.reg [
    ⟨(some 85), none, .val (.load true 7 (.t 7))⟩,
    ⟨(some 86), none, .val (.load true 7 (.t 8))⟩,
    ⟨(some 87), none, .val (.mv (.t 9))⟩,
    ⟨(some 88), none, .call 64 [(.t 85), (.t 86), (.t 87)]⟩,
    ⟨(some 84), none, .val (.mv (.t 88))⟩,
    ⟨(some 89), none, .val (.ext (.t 84) 0)⟩,
    ⟨(some 90), none, .val (.ext (.t 84) 1)⟩,
    ⟨(some 18), none, .zalloc [(.int .i64 0), (.bool false), (.int .i64 0), (.int .i64 0), (.str []), .nilSl, .nilSl]⟩,
    ⟨none, none, .store 7 (.t 18) (.t 89)⟩,
    ⟨(some 19), none, .val (.mv (.t 90))⟩] [7, 11, 12, 13, 14, 15, 16, 17, 18, 19]) k14_6)
abbrev k14_8 : MC :=
  (.seq (.reg [
    ⟨(some 79), none, .val (.load true 7 (.t 7))⟩,
    ⟨(some 80), none, .val (.mv (.t 9))⟩,
    ⟨(some 81), none, .call 63 [(.t 79), (.t 80)]⟩,
    ⟨(some 78), none, .val (.mv (.t 81))⟩,
    ⟨(some 82), none, .val (.ext (.t 78) 0)⟩,
    ⟨(some 83), none, .val (.ext (.t 78) 1)⟩,
    ⟨(some 16), none, .zalloc [(.int .i64 0), (.bool false), (.int .i64 0), (.int .i64 0), (.str []), .nilSl, .nilSl]⟩,
    ⟨none, none, .store 7 (.t 16) (.t 82)⟩,
    ⟨(some 17), none, .val (.mv (.t 83))⟩] [7, 8, 9, 11, 12, 13, 14, 15, 16, 17]) k14_7)
abbrev k14_9 : MC :=
  (.seq (.drx [
    ⟨(some 71), none, .val (.load true 1 (.t 11))⟩,
    ⟨(some 72), none, .val (.load true 7 (.t 8))⟩,
    ⟨(some 73), none, .call 24 [(.t 72)]⟩,
    ⟨(some 74), none, .val (.mv (.t 2))⟩,
    ⟨(some 75), none, .call 26 [(.t 71), (.t 73), (.t 74)]⟩,
    ⟨(some 70), none, .val (.mv (.t 75))⟩,
    ⟨(some 76), none, .val (.ext (.t 70) 0)⟩,
    ⟨(some 77), none, .val (.ext (.t 70) 1)⟩,
    ⟨(some 15), none, .val (.mv (.t 77))⟩] [
    ⟨(some 14), none, .zalloc [.nilIface]⟩,
    ⟨none, none, .store 1 (.t 14) (.t 76)⟩] [7, 8, 9, 11, 12, 13, 14, 15]) k14_8)
abbrev k14_10 : MC :=
  (.seq (.reg [
    ⟨(some 65), none, .val (.load true 1 (.t 11))⟩,
    ⟨(some 66), none, .val (.mv (.t 2))⟩,
    ⟨(some 67), none, .call 28 [(.t 65), (.t 66)]⟩,
    ⟨(some 64), none, .val (.mv (.t 67))⟩,
    ⟨(some 68), none, .val (.ext (.t 64) 0)⟩,
    ⟨(some 69), none, .val (.ext (.t 64) 1)⟩,
    ⟨(some 12), none, .zalloc [.nilIface]⟩,
    ⟨none, none, .store 1 (.t 12) (.t 68)⟩,
    ⟨(some 13), none, .val (.mv (.t 69))⟩] [2, 7, 8, 9, 11, 12, 13]) k14_9)
abbrev k14_11 : MC :=
  (.seq (.reg [
    ⟨(some 62), none, .val (.load true 7 (.t 7))⟩,
    ⟨(some 63), none, .call 24 [(.t 62)]⟩,
    ⟨(some 11), none, .zalloc [.nilIface]⟩,
    ⟨none, none, .store 1 (.t 11) (.t 63)⟩] [2, 7, 8, 9, 11]) k14_10)
abbrev k14_12 : MC :=
  (.seq ((.seq (.reg [
    ⟨(some 10), none, .val (.mv (.c (.int .i64 0)))⟩] [2, 7, 8, 9, 10]) k14_5)) k14_11)
abbrev k14_13 : MC :=
  (.seq (.reg [
    ⟨(some 9), none, .val (.mv (.c .nilSl))⟩] [2, 7, 8, 9]) k14_12)
abbrev k14_14 : MC :=
  (.seq (.drw [
    ⟨(some 38), none, .val (.load true 7 (.t 3))⟩,
    ⟨(some 39), none, .call 25 [(.t 38)]⟩,
    ⟨(some 40), none, .val (.load true 7 (.t 4))⟩,
    ⟨(some 41), none, .call 25 [(.t 40)]⟩] [
    ⟨(some 7), none, .zalloc [(.int .i64 0), (.bool false), (.int .i64 0), (.int .i64 0), (.str []), .nilSl, .nilSl]⟩,
    ⟨(some 8), none, .zalloc [(.int .i64 0), (.bool false), (.int .i64 0), (.int .i64 0), (.str []), .nilSl, .nilSl]⟩,
    ⟨none, none, .store 7 (.t 7) (.t 39)⟩,
    ⟨none, none, .store 7 (.t 8) (.t 41)⟩] [2, 7, 8]) k14_13)
abbrev k14_15 : MC :=
  (.seq ((.seq (.reg [
    ⟨(some 20), none, .val (.load true 7 (.t 3))⟩,
    ⟨(some 21), none, .call 22 [(.t 20)]⟩,
    ⟨(some 22), none, .val (.bin .gtr .num (.t 21) (.c (.int .i64 0)))⟩,
    ⟨(some 23), none, .val (.mv (.t 22))⟩,
    ⟨(some 24), (some (23, false)), .val (.load true 7 (.t 4))⟩,
    ⟨(some 25), (some (23, false)), .call 22 [(.t 24)]⟩,
    ⟨(some 26), (some (23, false)), .val (.bin .gtr .num (.t 25) (.c (.int .i64 0)))⟩,
    ⟨(some 27), none, .val (.pick (.t 23) (.c (.bool true)) (.t 26))⟩,
    ⟨(some 28), none, .val (.mv (.t 27))⟩,
    ⟨(some 29), (some (28, false)), .val (.mv (.t 2))⟩,
    ⟨(some 30), (some (28, false)), .val (.len .sl (.t 29))⟩,
    ⟨(some 31), (some (28, false)), .val (.bin .gtr .num (.t 30) (.c (.int .i64 20)))⟩,
    ⟨(some 32), none, .val (.pick (.t 28) (.c (.bool true)) (.t 31))⟩,
    ⟨(some 33), none, .val (.mv (.t 32))⟩,
    ⟨(some 34), (some (33, false)), .call 23 []⟩,
    ⟨(some 35), (some (33, false)), .val (.not (.t 34))⟩,
    ⟨(some 36), none, .val (.pick (.t 33) (.c (.bool true)) (.t 35))⟩] [2, 3, 4, 36]) k14_0)) k14_14)
abbrev k14 : MC :=
  (.seq (.reg [
    ⟨(some 3), none, .boxi (.t 0)⟩,
    ⟨(some 4), none, .boxi (.t 1)⟩,
    ⟨(some 6), none, .val (.mv (.c (.bool false)))⟩] [2, 3, 4]) k14_15)
theorem c14 : Try.f14.body.bind (mcOf Try.prog (List.contains [3, 4] ·) (List.getD [([], [2, 3, 4]), ([], [2, 3, 4, 36]), ([], [6]), ([0, 0, 0, 0, 1, 1, 2, 2], [2, 7, 8]), ([], [2, 7, 8, 9]), ([], [2, 7, 8, 9, 10]), ([], [2, 7, 8, 9, 10, 45]), ([], [2, 7, 8, 9, 10]), ([2, 0, 0, 0, 0, 0, 0, 0, 0, 0, 0, 0, 0, 2, 2], [2, 7, 8, 9, 10]), ([], [2, 7, 8, 9, 11]), ([], [2, 7, 8, 9, 11, 12, 13]), ([0, 0, 0, 0, 0, 0, 0, 0, 1, 4, 0], [7, 8, 9, 11, 12, 13, 14, 15]), ([], [7, 8, 9, 11, 12, 13, 14, 15, 16, 17]), ([], [7, 11, 12, 13, 14, 15, 16, 17, 18, 19]), ([], [6])] · ([], [])) 117) = some k14 := by kernel_rfl
theorem r14 : rvsOf Try.prog Try.f14.results.toList = some [.tmp 6] := by kernel_rfl
def GStop (p : Prop) : Prop := p
theorem goes_stop {Q : AExit → A → AH → Prop} {a : A} {H : AH} (h : GStop (AM Try.prog Try.f14.ntmps k14_6 Q a H)) : AM Try.prog Try.f14.ntmps k14_6 Q a H := h
theorem goes_stop1 {Q : AExit → A → AH → Prop} {a : A} {H : AH} (h : GStop (AM Try.prog Try.f14.ntmps k14_11 Q a H)) : AM Try.prog Try.f14.ntmps k14_11 Q a H := h
theorem goes_stop2 {Q : AExit → A → AH → Prop} {a : A} {H : AH} (h : GStop (AM Try.prog Try.f14.ntmps k14_13 Q a H)) : AM Try.prog Try.f14.ntmps k14_13 Q a H := h
abbrev GoesQ (H : AH) : AExit → A → AH → Prop := Body [RV.tmp 6] fun o H' => (∃ u, o = Out.ret u ∧ ∀ (s : St) (x : Value), s.val u x → s.val (V.bool true) x) ∧ H.le H'
theorem goes_end {v a b : Vl} {m c d : Rv} {e f : Int} {g k7 k11 k12 k14 k16 k18 : Nat} {H G : AH} (sv : Sm v m) (sa : Sm a c) (sb : Sm b d) (ov : v.Ok) (oa : a.Ok) (ob : b.Ok) (hg : G g = some .nodr)
    (e7 : G k7 = some (.cells [.int .i64 m.K, .bool m.B, .int .i64 m.N, .int .i64 m.M, .str m.S, .sl 7 (rvE m.L) .no, .sl 1 (strE m.Keys) .no])) (e11 : G k11 = some (.cells [vV v])) (e12 : G k12 = some (.cells [vV a])) (e14 : G k14 = some (.cells [vV b])) (e16 : G k16 = some (.cells [.int .i64 c.K, .bool c.B, .int .i64 c.N, .int .i64 c.M, .str c.S, .sl 7 (rvE c.L) .no, .sl 1 (strE c.Keys) .no])) (e18 : G k18 = some (.cells [.int .i64 d.K, .bool d.B, .int .i64 d.N, .int .i64 d.M, .str d.S, .sl 7 (rvE d.L) .no, .sl 1 (strE d.Keys) .no])) (hle : H.le G) :
    AM Try.prog Try.f14.ntmps k14_6 (GoesQ H) [(7, .ptr k7 0), (11, .ptr k11 0), (12, .ptr k12 0), (13, .int .i64 e), (14, .ptr k14 0), (15, .int .i64 f), (16, .ptr k16 0), (17, .int .i64 e), (18, .ptr k18 0), (19, .int .i64 f)] G := by
  unfold GoesQ
  have h1 := unlike_calls _ _ sv ov g
  have h2 := unlike_calls _ _ sa oa g
  have h3 := unlike_calls _ _ sb ob g
  repeat' (first | with_reducible (first | refine am_seq ?_ | refine am_block ?_) | ((with_reducible apply am_cond); (case hb => rfl); all_goals (intro hc; (try simp only [reduceCtorEq, decide_eq_true_eq, decide_eq_false_iff_not, Bool.or_eq_true, Bool.and_eq_true, Bool.or_eq_false_iff, Bool.not_eq_true', Bool.not_eq_false', beq_iff_eq] at hc); (try (exfalso; omega)))) | ((first | with_reducible (first | refine am_reg ?_ | refine am_drw ?_ | refine am_drx ?_ | refine am_drt ?_ | refine both_intro ?_ ?_ | refine am_skip ?_ | refine am_exit ?_ | refine am_ret ?_ | refine And.intro (by first | exact AH.lec_refl _ | assumption | exact AccP.lec (by assumption) | omega) ?_ | refine isnE_of (fun hc => ?_) (fun hc => ?_) (fun hc => ?_) | refine need_elems (by assumption) ?_ | refine vlen_acc (by assumption) ?_ | refine need_bytes (by assumption) ?_ | refine call_turn (h2 _ hg) ?_ | refine call_turn (h3 _ hg) ?_ | refine call_turn (h1 _ hg) ?_ | refine need_look (by repeat (first | assumption | exact AH.put_same _ _ _ | refine look_put ?_ (by assumption) | refine look_lec ?_ (by assumption))) ?_) | ((with_reducible (first | refine gd_not (fun hc => ?_) (fun hc => ?_) | refine gd_of (fun hc => ?_) (fun hc => ?_) | refine gq_not (fun hc => ?_) (fun hc => ?_) | refine gq_of (fun hc => ?_) (fun hc => ?_) | refine pickB_of (fun hc => ?_) (fun hc => ?_))) <;> (try simp -implicitDefEqProofs (disch := omega) only [go_sem, eq_self, decide_true, decide_false, Nat.reduceBEq, Nat.reduceAdd, Nat.reduceSub, Nat.reduceMul, Nat.reduceEqDiff, Nat.reduceLeDiff, Nat.reduceLT, Int.reduceLE, Int.reduceLT, Int.reduceToNat, Int.reduceAdd, Int.reduceEq, Int.reduceNeg, AH.put_ne, hc, beq_self_eq_true, bne_self_eq_false, Bool.not_true, Bool.not_false]) <;> (try simp only [reduceCtorEq, decide_eq_true_eq, decide_eq_false_iff_not, Bool.or_eq_true, Bool.and_eq_true, Bool.or_eq_false_iff, Bool.not_eq_true', Bool.not_eq_false', beq_iff_eq] at hc) <;> (try (exfalso; omega))) | ((with_reducible refine alloc_intro (fun ko hko => ?_)) <;> (try have hne := fresh_ne (by assumption) hko) <;> (try have hnk := fresh_ne hk hko) <;> (try have hnk2 := fresh_ne hk2 hko) <;> (try simp only [AH.put_none] at hko)) | ((with_reducible (first | refine vapp_accL (by assumption) ?_ (fun v2 H2 hacc hlec => ?_) | refine vapp_accL (AccP.mono (by assumption) (AccP.le (by assumption))) ?_ (fun v2 H2 hacc hlec => ?_) | refine vapp_accL (AccP.new (by assumption) (by assumption) _) ?_ (fun v2 H2 hacc hlec => ?_))); · simp only [byteCells_length, List.length_cons, List.length_nil, List.length_map, List.length_append, vE_length, mE_length, strE_len, List.length_take, rvE_length, stE_length]; omega)) <;> (try simp -implicitDefEqProofs (disch := omega) only [go_sem, eq_self, decide_true, decide_false, Nat.reduceBEq, Nat.reduceAdd, Nat.reduceSub, Nat.reduceMul, Nat.reduceEqDiff, Nat.reduceLeDiff, Nat.reduceLT, Int.reduceLE, Int.reduceLT, Int.reduceToNat, Int.reduceAdd, Int.reduceEq, Int.reduceNeg, AH.put_ne, beq_self_eq_true, bne_self_eq_false, Bool.not_true, Bool.not_false])))
  all_goals exact drop_end (fun _ _ h => h) hle
theorem sm_ch {l : List St2} (hb : ∀ s ∈ l, s.1.length ≤ 140737488355328) {v y : Vl} {m x : Rv} (hs : Sm v m) (ho : v.Ok) (hf : m.FitB 140737488351232) (hy : Sm y x) (hyo : y.Ok) : (chR v y l).2 = (withM m x l).2 ∧ Sm (chR v y l).1 (withM m x l).1 ∧ (chR v y l).1.Ok := by
  have h := sm_with l hb hs ho hf hy hyo
  unfold chR
  cases hw : withR v y l with
  | none => rw [h.1 hw]; exact ⟨rfl, sm_zero, .nul⟩
  | some p =>
    obtain ⟨w, e⟩ := p
    obtain ⟨h1, h2, h3⟩ := h.2 w e hw
    exact ⟨h1.symm, h2, h3⟩
theorem goes_mid {v y : Vl} {m x : Rv} {l : List St2} {g k7 k8 : Nat} {H G : AH} (hl : l.length ≤ 1000) (hb : ∀ s ∈ l, s.1.length ≤ 140737488355328) (sv : Sm v m) (sy : Sm y x) (ov : v.Ok) (oy : y.Ok) (fm : m.FitB 140737488351232) (fx : x.Fit) (hv : toV m = v) (hy : toV x = y) (hg : G g = some .nodr)
    (e7 : G k7 = some (.cells [.int .i64 m.K, .bool m.B, .int .i64 m.N, .int .i64 m.M, .str m.S, .sl 7 (rvE m.L) .no, .sl 1 (strE m.Keys) .no])) (e8 : G k8 = some (.cells [.int .i64 x.K, .bool x.B, .int .i64 x.N, .int .i64 x.M, .str x.S, .sl 7 (rvE x.L) .no, .sl 1 (strE x.Keys) .no])) (hle : H.le G) :
    AM Try.prog Try.f14.ntmps k14_11 (GoesQ H) [(2, .sl 2 (stE l) .no), (7, .ptr k7 0), (8, .ptr k8 0), (9, .sl 2 (stE l) .no)] G := by
  unfold GoesQ
  have h3 := to_calls _ fm.fit
  have h3x := to_calls _ fx
  rw [hv] at h3
  rw [hy] at h3x
  have h4 := go_calls (v := v) (l := l) (t := .no) hl
  have h5 := With_calls (v := v) (x := y) (l := l) (t := .no) hl ov
  have h6 := rgo_calls (l := l) (t := .no) sv fm.fit hl
  have h7 := rwith_calls l hl hb m x v sv fm fx
  obtain ⟨g1, g2⟩ := sm_go l sv
  obtain ⟨w1, w2, w3⟩ := sm_ch hb sv ov fm sy oy
  have oa := goR_ok (l := l) ov
  rw [← g1] at h6
  rw [← w1] at h7
  simp only [rvC_eq] at h6 h7
  generalize (goR v l).1 = a at *
  generalize (goR v l).2 = e at *
  generalize (chR v y l).1 = b at *
  generalize (chR v y l).2 = f at *
  generalize (goM m l).1 = c at *
  generalize (withM m x l).1 = d at *
  repeat' (first | ((with_reducible refine goes_stop ?_)) | (((with_reducible first | refine need_look (look_put (look_put e7 (by first | assumption | (simp only [AH.put_none]; assumption))) (by first | assumption | (simp only [AH.put_none]; assumption))) ?_ | refine need_look (look_put (look_put e8 (by first | assumption | (simp only [AH.put_none]; assumption))) (by first | assumption | (simp only [AH.put_none]; assumption))) ?_ | refine need_look (look_put (look_put (look_put e7 (by first | assumption | (simp only [AH.put_none]; assumption))) (by first | assumption | (simp only [AH.put_none]; assumption))) (by first | assumption | (simp only [AH.put_none]; assumption))) ?_ | refine need_look (look_put (look_put (look_put e8 (by first | assumption | (simp only [AH.put_none]; assumption))) (by first | assumption | (simp only [AH.put_none]; assumption))) (by first | assumption | (simp only [AH.put_none]; assumption))) ?_ | refine need_look (look_put (look_put (look_put (look_put e7 (by first | assumption | (simp only [AH.put_none]; assumption))) (by first | assumption | (simp only [AH.put_none]; assumption))) (by first | assumption | (simp only [AH.put_none]; assumption))) (by first | assumption | (simp only [AH.put_none]; assumption))) ?_ | refine need_look (look_put (look_put (look_put (look_put e8 (by first | assumption | (simp only [AH.put_none]; assumption))) (by first | assumption | (simp only [AH.put_none]; assumption))) (by first | assumption | (simp only [AH.put_none]; assumption))) (by first | assumption | (simp only [AH.put_none]; assumption))) ?_); (try simp -implicitDefEqProofs (disch := omega) only [go_sem, eq_self, decide_true, decide_false, Nat.reduceBEq, Nat.reduceAdd, Nat.reduceSub, Nat.reduceMul, Nat.reduceEqDiff, Nat.reduceLeDiff, Nat.reduceLT, Int.reduceLE, Int.reduceLT, Int.reduceToNat, Int.reduceAdd, Int.reduceEq, Int.reduceNeg, AH.put_ne]))) | ((with_reducible refine drx_vc (by first | assumption | (simp only [AH.put_none]; exact hko)) ?_)) | with_reducible (first | refine am_seq ?_ | refine am_block ?_) | ((with_reducible apply am_cond); (case hb => rfl); all_goals (intro hc; (try simp only [reduceCtorEq, decide_eq_true_eq, decide_eq_false_iff_not, Bool.or_eq_true, Bool.and_eq_true, Bool.or_eq_false_iff, Bool.not_eq_true', Bool.not_eq_false', beq_iff_eq] at hc); (try (exfalso; omega)))) | ((first | with_reducible (first | refine am_reg ?_ | refine am_drw ?_ | refine am_drx ?_ | refine am_drt ?_ | refine both_intro ?_ ?_ | refine am_skip ?_ | refine am_exit ?_ | refine am_ret ?_ | refine And.intro (by first | exact AH.lec_refl _ | assumption | exact AccP.lec (by assumption) | omega) ?_ | refine isnE_of (fun hc => ?_) (fun hc => ?_) (fun hc => ?_) | refine need_elems (by assumption) ?_ | refine vlen_acc (by assumption) ?_ | refine need_bytes (by assumption) ?_ | refine call_of (h3) ?_ | refine qcall_of (h3) ?_ | refine call_of (h3x) ?_ | refine qcall_of (h3x) ?_ | refine call_of (h4) ?_ | refine qcall_of (h4) ?_ | refine call_of (h5) ?_ | refine qcall_of (h5) ?_ | refine call_of (h6) ?_ | refine qcall_of (h6) ?_ | refine call_of (h7) ?_ | refine qcall_of (h7) ?_ | refine need_look (by repeat (first | assumption | exact AH.put_same _ _ _ | refine look_put ?_ (by assumption) | refine look_lec ?_ (by assumption))) ?_) | ((with_reducible (first | refine gd_not (fun hc => ?_) (fun hc => ?_) | refine gd_of (fun hc => ?_) (fun hc => ?_) | refine gq_not (fun hc => ?_) (fun hc => ?_) | refine gq_of (fun hc => ?_) (fun hc => ?_) | refine pickB_of (fun hc => ?_) (fun hc => ?_))) <;> (try simp -implicitDefEqProofs (disch := omega) only [go_sem, eq_self, decide_true, decide_false, Nat.reduceBEq, Nat.reduceAdd, Nat.reduceSub, Nat.reduceMul, Nat.reduceEqDiff, Nat.reduceLeDiff, Nat.reduceLT, Int.reduceLE, Int.reduceLT, Int.reduceToNat, Int.reduceAdd, Int.reduceEq, Int.reduceNeg, AH.put_ne, hc]) <;> (try simp only [reduceCtorEq, decide_eq_true_eq, decide_eq_false_iff_not, Bool.or_eq_true, Bool.and_eq_true, Bool.or_eq_false_iff, Bool.not_eq_true', Bool.not_eq_false', beq_iff_eq] at hc) <;> (try (exfalso; omega))) | ((with_reducible refine alloc_intro (fun ko hko => ?_)) <;> (try have hne := fresh_ne (by assumption) hko) <;> (try have hnk := fresh_ne hk hko) <;> (try have hnk2 := fresh_ne hk2 hko) <;> (try simp only [AH.put_none] at hko)) | ((with_reducible (first | refine vapp_accL (by assumption) ?_ (fun v2 H2 hacc hlec => ?_) | refine vapp_accL (AccP.mono (by assumption) (AccP.le (by assumption))) ?_ (fun v2 H2 hacc hlec => ?_) | refine vapp_accL (AccP.new (by assumption) (by assumption) _) ?_ (fun v2 H2 hacc hlec => ?_))); · simp only [byteCells_length, List.length_cons, List.length_nil, List.length_map, List.length_append, vE_length, mE_length, strE_len, List.length_take, rvE_length, stE_length]; omega)) <;> (try simp -implicitDefEqProofs (disch := omega) only [go_sem, eq_self, decide_true, decide_false, Nat.reduceBEq, Nat.reduceAdd, Nat.reduceSub, Nat.reduceMul, Nat.reduceEqDiff, Nat.reduceLeDiff, Nat.reduceLT, Int.reduceLE, Int.reduceLT, Int.reduceToNat, Int.reduceAdd, Int.reduceEq, Int.reduceNeg, AH.put_ne])))
  rename_i k11 q11 k12 q12 k14 q14 k16 q16
  exact goes_end (g := g) sv g2 w2 ov oa w3 (by repeat (first | assumption | exact AH.put_same _ _ _ | refine look_put ?_ (by first | assumption | (simp only [AH.put_none]; assumption)))) (by repeat (first | assumption | exact AH.put_same _ _ _ | refine look_put ?_ (by first | assumption | (simp only [AH.put_none]; assumption)))) (by repeat (first | assumption | exact AH.put_same _ _ _ | refine look_put ?_ (by first | assumption | (simp only [AH.put_none]; assumption)))) (by repeat (first | assumption | exact AH.put_same _ _ _ | refine look_put ?_ (by first | assumption | (simp only [AH.put_none]; assumption)))) (by repeat (first | assumption | exact AH.put_same _ _ _ | refine look_put ?_ (by first | assumption | (simp only [AH.put_none]; assumption)))) (by repeat (first | assumption | exact AH.put_same _ _ _ | refine look_put ?_ (by first | assumption | (simp only [AH.put_none]; assumption)))) (by repeat (first | assumption | exact AH.put_same _ _ _ | refine look_put ?_ (by first | assumption | (simp only [AH.put_none]; assumption)))) (AH.le_put (AH.le_put (AH.le_put (AH.le_put (AH.le_put hle (none_of_le hle q11) _) (none_of_le hle q12.2) _) (none_of_le hle q14.2.2) _) (none_of_le hle q16.2.2.2) _) (none_of_le hle hko.2.2.2.2) _)
theorem goes_loop {v y : Vl} {m x : Rv} {l : List St2} {g k7 k8 : Nat} {H G : AH} (hl : l.length ≤ 20) (hb : ∀ s ∈ l, s.1.length ≤ 140737488355328) (sv : Sm v m) (sy : Sm y x) (ov : v.Ok) (oy : y.Ok) (fm : m.FitB 140737488351232) (fx : x.Fit) (hv : toV m = v) (hy : toV x = y) (hg : G g = some .nodr)
    (e7 : G k7 = some (.cells [.int .i64 m.K, .bool m.B, .int .i64 m.N, .int .i64 m.M, .str m.S, .sl 7 (rvE m.L) .no, .sl 1 (strE m.Keys) .no])) (e8 : G k8 = some (.cells [.int .i64 x.K, .bool x.B, .int .i64 x.N, .int .i64 x.M, .str x.S, .sl 7 (rvE x.L) .no, .sl 1 (strE x.Keys) .no])) (hle : H.le G) :
    AM Try.prog Try.f14.ntmps k14_13 (GoesQ H) [(2, .sl 2 (stE l) .no), (7, .ptr k7 0), (8, .ptr k8 0)] G := by
  unfold GoesQ
  repeat' (first | with_reducible (first | refine am_seq ?_ | refine am_block ?_) | ((with_reducible apply am_cond); (case hb => rfl); all_goals (intro hc; (try simp only [reduceCtorEq, decide_eq_true_eq, decide_eq_false_iff_not, Bool.or_eq_true, Bool.and_eq_true, Bool.or_eq_false_iff, Bool.not_eq_true', Bool.not_eq_false', beq_iff_eq] at hc); (try (exfalso; omega)))) | ((first | with_reducible (first | refine am_reg ?_ | refine am_drw ?_ | refine am_drx ?_ | refine am_drt ?_ | refine both_intro ?_ ?_ | refine am_skip ?_ | refine am_exit ?_ | refine am_ret ?_ | refine And.intro (by first | exact AH.lec_refl _ | assumption | exact AccP.lec (by assumption) | omega) ?_ | refine isnE_of (fun hc => ?_) (fun hc => ?_) (fun hc => ?_) | refine need_elems (by assumption) ?_ | refine vlen_acc (by assumption) ?_ | refine need_bytes (by assumption) ?_ | refine need_look (by repeat (first | assumption | exact AH.put_same _ _ _ | refine look_put ?_ (by assumption) | refine look_lec ?_ (by assumption))) ?_) | ((with_reducible (first | refine gd_not (fun hc => ?_) (fun hc => ?_) | refine gd_of (fun hc => ?_) (fun hc => ?_) | refine gq_not (fun hc => ?_) (fun hc => ?_) | refine gq_of (fun hc => ?_) (fun hc => ?_) | refine pickB_of (fun hc => ?_) (fun hc => ?_))) <;> (try simp -implicitDefEqProofs (disch := omega) only [go_sem, eq_self, decide_true, decide_false, Nat.reduceBEq, Nat.reduceAdd, Nat.reduceSub, Nat.reduceMul, Nat.reduceEqDiff, Nat.reduceLeDiff, Nat.reduceLT, Int.reduceLE, Int.reduceLT, Int.reduceToNat, Int.reduceAdd, Int.reduceEq, Int.reduceNeg, AH.put_ne, hc]) <;> (try simp only [reduceCtorEq, decide_eq_true_eq, decide_eq_false_iff_not, Bool.or_eq_true, Bool.and_eq_true, Bool.or_eq_false_iff, Bool.not_eq_true', Bool.not_eq_false', beq_iff_eq] at hc) <;> (try (exfalso; omega))) | ((with_reducible refine alloc_intro (fun ko hko => ?_)) <;> (try have hne := fresh_ne (by assumption) hko) <;> (try have hnk := fresh_ne hk hko) <;> (try have hnk2 := fresh_ne hk2 hko) <;> (try simp only [AH.put_none] at hko)) | ((with_reducible (first | refine vapp_accL (by assumption) ?_ (fun v2 H2 hacc hlec => ?_) | refine vapp_accL (AccP.mono (by assumption) (AccP.le (by assumption))) ?_ (fun v2 H2 hacc hlec => ?_) | refine vapp_accL (AccP.new (by assumption) (by assumption) _) ?_ (fun v2 H2 hacc hlec => ?_))); · simp only [byteCells_length, List.length_cons, List.length_nil, List.length_map, List.length_append, vE_length, mE_length, strE_len, List.length_take, rvE_length, stE_length]; omega)) <;> (try simp -implicitDefEqProofs (disch := omega) only [go_sem, eq_self, decide_true, decide_false, Nat.reduceBEq, Nat.reduceAdd, Nat.reduceSub, Nat.reduceMul, Nat.reduceEqDiff, Nat.reduceLeDiff, Nat.reduceLT, Int.reduceLE, Int.reduceLT, Int.reduceToNat, Int.reduceAdd, Int.reduceEq, Int.reduceNeg, AH.put_ne])))
  refine am_loop (fun n a H' => ∃ (i : Nat) (w : V), i + n = l.length ∧ a = [(2, .sl 2 (stE l) .no), (7, .ptr k7 0), (8, .ptr k8 0), (9, w), (10, .int .i64 i)] ∧ AccP G 2 (stE (l.take i)) w H') ?_ l.length ⟨0, .nilSl, by omega, rfl, AH.le_refl _, .inl ⟨rfl, rfl⟩⟩
  rintro n a H' ⟨i, w, hi, rfl, hacc⟩
  by_cases hlt : i < l.length
  · have e : stE (l.take i) ++ [[.str l[i].1, .int .i64 l[i].2]] = stE (l.take (i + 1)) := by rw [List.take_succ_eq_append_getElem hlt, stE, stE, List.map_append]; rfl
    repeat' (first | with_reducible (first | refine am_seq ?_ | refine am_block ?_) | ((with_reducible apply am_cond); (case hb => rfl); all_goals (intro hc; (try simp only [reduceCtorEq, decide_eq_true_eq, decide_eq_false_iff_not, Bool.or_eq_true, Bool.and_eq_true, Bool.or_eq_false_iff, Bool.not_eq_true', Bool.not_eq_false', beq_iff_eq] at hc); (try (exfalso; omega)))) | ((first | with_reducible (first | refine am_reg ?_ | refine am_drw ?_ | refine am_drx ?_ | refine am_drt ?_ | refine both_intro ?_ ?_ | refine am_skip ?_ | refine am_exit ?_ | refine am_ret ?_ | refine And.intro (by first | exact AH.lec_refl _ | assumption | exact AccP.lec (by assumption) | omega) ?_ | refine isnE_of (fun hc => ?_) (fun hc => ?_) (fun hc => ?_) | refine need_elems (by assumption) ?_ | refine vlen_acc (by assumption) ?_ | refine need_bytes (by assumption) ?_ | refine need_look (by repeat (first | assumption | exact AH.put_same _ _ _ | refine look_put ?_ (by assumption) | refine look_lec ?_ (by assumption))) ?_) | ((with_reducible (first | refine gd_not (fun hc => ?_) (fun hc => ?_) | refine gd_of (fun hc => ?_) (fun hc => ?_) | refine gq_not (fun hc => ?_) (fun hc => ?_) | refine gq_of (fun hc => ?_) (fun hc => ?_) | refine pickB_of (fun hc => ?_) (fun hc => ?_))) <;> (try simp -implicitDefEqProofs (disch := omega) only [go_sem, eq_self, decide_true, decide_false, Nat.reduceBEq, Nat.reduceAdd, Nat.reduceSub, Nat.reduceMul, Nat.reduceEqDiff, Nat.reduceLeDiff, Nat.reduceLT, Int.reduceLE, Int.reduceLT, Int.reduceToNat, Int.reduceAdd, Int.reduceEq, Int.reduceNeg, AH.put_ne, hc, wrap_id, stE_length, stE_get hlt]) <;> (try simp only [reduceCtorEq, decide_eq_true_eq, decide_eq_false_iff_not, Bool.or_eq_true, Bool.and_eq_true, Bool.or_eq_false_iff, Bool.not_eq_true', Bool.not_eq_false', beq_iff_eq] at hc) <;> (try (exfalso; omega))) | ((with_reducible refine alloc_intro (fun ko hko => ?_)) <;> (try have hne := fresh_ne (by assumption) hko) <;> (try have hnk := fresh_ne hk hko) <;> (try have hnk2 := fresh_ne hk2 hko) <;> (try simp only [AH.put_none] at hko)) | ((with_reducible (first | refine vapp_accL (by assumption) ?_ (fun v2 H2 hacc hlec => ?_) | refine vapp_accL (AccP.mono (by assumption) (AccP.le (by assumption))) ?_ (fun v2 H2 hacc hlec => ?_) | refine vapp_accL (AccP.new (by assumption) (by assumption) _) ?_ (fun v2 H2 hacc hlec => ?_))); · simp only [byteCells_length, List.length_cons, List.length_nil, List.length_map, List.length_append, vE_length, mE_length, strE_len, List.length_take, rvE_length, stE_length]; omega)) <;> (try simp -implicitDefEqProofs (disch := omega) only [go_sem, eq_self, decide_true, decide_false, Nat.reduceBEq, Nat.reduceAdd, Nat.reduceSub, Nat.reduceMul, Nat.reduceEqDiff, Nat.reduceLeDiff, Nat.reduceLT, Int.reduceLE, Int.reduceLT, Int.reduceToNat, Int.reduceAdd, Int.reduceEq, Int.reduceNeg, AH.put_ne, wrap_id, stE_length, stE_get hlt])))
    all_goals exact ⟨n - 1, by omega, i + 1, _, by omega, rfl, by rw [← e]; exact hacc⟩
  · have e : l.take i = l := List.take_of_length_le (by omega)
    rw [e] at hacc
    repeat' (first | ((with_reducible refine goes_stop1 ?_)) | with_reducible (first | refine am_seq ?_ | refine am_block ?_) | ((with_reducible apply am_cond); (case hb => rfl); all_goals (intro hc; (try simp only [reduceCtorEq, decide_eq_true_eq, decide_eq_false_iff_not, Bool.or_eq_true, Bool.and_eq_true, Bool.or_eq_false_iff, Bool.not_eq_true', Bool.not_eq_false', beq_iff_eq] at hc); (try (exfalso; omega)))) | ((first | with_reducible (first | refine am_reg ?_ | refine am_drw ?_ | refine am_drx ?_ | refine am_drt ?_ | refine both_intro ?_ ?_ | refine am_skip ?_ | refine am_exit ?_ | refine am_ret ?_ | refine And.intro (by first | exact AH.lec_refl _ | assumption | exact AccP.lec (by assumption) | omega) ?_ | refine isnE_of (fun hc => ?_) (fun hc => ?_) (fun hc => ?_) | refine need_elems (by assumption) ?_ | refine vlen_acc (by assumption) ?_ | refine need_bytes (by assumption) ?_ | refine need_look (by repeat (first | assumption | exact AH.put_same _ _ _ | refine look_put ?_ (by assumption) | refine look_lec ?_ (by assumption))) ?_) | ((with_reducible (first | refine gd_not (fun hc => ?_) (fun hc => ?_) | refine gd_of (fun hc => ?_) (fun hc => ?_) | refine gq_not (fun hc => ?_) (fun hc => ?_) | refine gq_of (fun hc => ?_) (fun hc => ?_) | refine pickB_of (fun hc => ?_) (fun hc => ?_))) <;> (try simp -implicitDefEqProofs (disch := omega) only [go_sem, eq_self, decide_true, decide_false, Nat.reduceBEq, Nat.reduceAdd, Nat.reduceSub, Nat.reduceMul, Nat.reduceEqDiff, Nat.reduceLeDiff, Nat.reduceLT, Int.reduceLE, Int.reduceLT, Int.reduceToNat, Int.reduceAdd, Int.reduceEq, Int.reduceNeg, AH.put_ne, hc, stE_length]) <;> (try simp only [reduceCtorEq, decide_eq_true_eq, decide_eq_false_iff_not, Bool.or_eq_true, Bool.and_eq_true, Bool.or_eq_false_iff, Bool.not_eq_true', Bool.not_eq_false', beq_iff_eq] at hc) <;> (try (exfalso; omega))) | ((with_reducible refine alloc_intro (fun ko hko => ?_)) <;> (try have hne := fresh_ne (by assumption) hko) <;> (try have hnk := fresh_ne hk hko) <;> (try have hnk2 := fresh_ne hk2 hko) <;> (try simp only [AH.put_none] at hko)) | ((with_reducible (first | refine vapp_accL (by assumption) ?_ (fun v2 H2 hacc hlec => ?_) | refine vapp_accL (AccP.mono (by assumption) (AccP.le (by assumption))) ?_ (fun v2 H2 hacc hlec => ?_) | refine vapp_accL (AccP.new (by assumption) (by assumption) _) ?_ (fun v2 H2 hacc hlec => ?_))); · simp only [byteCells_length, List.length_cons, List.length_nil, List.length_map, List.length_append, vE_length, mE_length, strE_len, List.length_take, rvE_length, stE_length]; omega)) <;> (try simp -implicitDefEqProofs (disch := omega) only [go_sem, eq_self, decide_true, decide_false, Nat.reduceBEq, Nat.reduceAdd, Nat.reduceSub, Nat.reduceMul, Nat.reduceEqDiff, Nat.reduceLeDiff, Nat.reduceLT, Int.reduceLE, Int.reduceLT, Int.reduceToNat, Int.reduceAdd, Int.reduceEq, Int.reduceNeg, AH.put_ne, stE_length])))
    refine AM.sub (a' := [(2, .sl 2 (stE l) .no), (7, .ptr k7 0), (8, .ptr k8 0), (9, w)]) ?_ (fun t v h => get_more _ [(_, _), (_, _)] h)
    refine AM.subA (a' := [(2, .sl 2 (stE l) .no), (7, .ptr k7 0), (8, .ptr k8 0), (9, .sl 2 (stE l) .no)]) ?_ (fun s => .cons (fun _ h => h) (.cons (fun _ h => h) (.cons (fun _ h => h) (.cons (hacc.sub s) .nil))))
    exact goes_mid (by omega) hb sv sy ov oy fm fx hv hy (hacc.get hg) (hacc.get e7) (hacc.get e8) (AH.le_trans hle hacc.le)
theorem lgoes_calls {r x : Rv} {l : List St2} (hf : r.FitB 140737488351232) (hx : x.Fit) (hb : ∀ s ∈ l, s.1.length ≤ 140737488355328) {g : Nat} {H : AH} (hg : H g = some .nodr) :
    ACalls Try.prog 14 [.agg [.int .i64 r.K, .bool r.B, .int .i64 r.N, .int .i64 r.M, .str r.S, .sl 7 (rvE r.L) .no, .sl 1 (strE r.Keys) .no], .agg [.int .i64 x.K, .bool x.B, .int .i64 x.N, .int .i64 x.M, .str x.S, .sl 7 (rvE x.L) .no, .sl 1 (strE x.Keys) .no], .sl 2 (stE l) .no] H (fun o H' => o = .ret (.bool true) ∧ H' = H) := by
  refine ACalls.drop ?_
  have sv := sm_clean r
  have sy := sm_clean x
  have ov := ok_clean r hf.fit
  have oy := ok_clean x hx
  have fm := fit_cleanB r hf
  have fx := fit_clean x hx
  have h1 := great_calls r hf.fit
  have h1x := great_calls x hx
  have h2 := clean_calls r hf.fit
  have h2x := clean_calls x hx
  obtain ⟨m, hm⟩ : ∃ m, cleanR r = m := ⟨_, rfl⟩
  rw [hm] at sv ov fm h2
  obtain ⟨mx, hmx⟩ : ∃ m, cleanR x = m := ⟨_, rfl⟩
  rw [hmx] at sy oy fx h2x
  simp only [rvC_eq] at h2 h2x
  refine acalls Try.func14 c14 r14 (by simp [Try.ntmps14]) ?_
  repeat' (first | ((with_reducible refine goes_stop2 ?_)) | with_reducible (first | refine am_seq ?_ | refine am_block ?_) | ((with_reducible apply am_cond); (case hb => rfl); all_goals (intro hc; (try simp only [reduceCtorEq, decide_eq_true_eq, decide_eq_false_iff_not, Bool.or_eq_true, Bool.and_eq_true, Bool.or_eq_false_iff, Bool.not_eq_true', Bool.not_eq_false', beq_iff_eq] at hc); (try (exfalso; omega)))) | ((first | with_reducible (first | refine am_reg ?_ | refine am_drw ?_ | refine am_drx ?_ | refine am_drt ?_ | refine both_intro ?_ ?_ | refine am_skip ?_ | refine am_exit ?_ | refine am_ret ?_ | refine And.intro (by first | exact AH.lec_refl _ | assumption | exact AccP.lec (by assumption) | omega) ?_ | refine isnE_of (fun hc => ?_) (fun hc => ?_) (fun hc => ?_) | refine need_elems (by assumption) ?_ | refine vlen_acc (by assumption) ?_ | refine need_bytes (by assumption) ?_ | refine call_of (h1) ?_ | refine qcall_of (h1) ?_ | refine call_of (h1x) ?_ | refine qcall_of (h1x) ?_ | refine call_of (awake_calls) ?_ | refine qcall_of (awake_calls) ?_ | refine call_of (h2) ?_ | refine qcall_of (h2) ?_ | refine call_of (h2x) ?_ | refine qcall_of (h2x) ?_ | refine need_look (by repeat (first | assumption | exact AH.put_same _ _ _ | refine look_put ?_ (by assumption) | refine look_lec ?_ (by assumption))) ?_) | ((with_reducible (first | refine gd_not (fun hc => ?_) (fun hc => ?_) | refine gd_of (fun hc => ?_) (fun hc => ?_) | refine gq_not (fun hc => ?_) (fun hc => ?_) | refine gq_of (fun hc => ?_) (fun hc => ?_) | refine pickB_of (fun hc => ?_) (fun hc => ?_))) <;> (try simp -implicitDefEqProofs (disch := omega) only [go_sem, eq_self, decide_true, decide_false, Nat.reduceBEq, Nat.reduceAdd, Nat.reduceSub, Nat.reduceMul, Nat.reduceEqDiff, Nat.reduceLeDiff, Nat.reduceLT, Int.reduceLE, Int.reduceLT, Int.reduceToNat, Int.reduceAdd, Int.reduceEq, Int.reduceNeg, AH.put_ne, hc, stE_length, Bool.not_true, Bool.not_false]) <;> (try simp only [reduceCtorEq, decide_eq_true_eq, decide_eq_false_iff_not, Bool.or_eq_true, Bool.and_eq_true, Bool.or_eq_false_iff, Bool.not_eq_true', Bool.not_eq_false', beq_iff_eq] at hc) <;> (try (exfalso; omega))) | ((with_reducible refine alloc_intro (fun ko hko => ?_)) <;> (try have hne := fresh_ne (by assumption) hko) <;> (try have hnk := fresh_ne hk hko) <;> (try have hnk2 := fresh_ne hk2 hko) <;> (try simp only [AH.put_none] at hko)) | ((with_reducible (first | refine vapp_accL (by assumption) ?_ (fun v2 H2 hacc hlec => ?_) | refine vapp_accL (AccP.mono (by assumption) (AccP.le (by assumption))) ?_ (fun v2 H2 hacc hlec => ?_) | refine vapp_accL (AccP.new (by assumption) (by assumption) _) ?_ (fun v2 H2 hacc hlec => ?_))); · simp only [byteCells_length, List.length_cons, List.length_nil, List.length_map, List.length_append, vE_length, mE_length, strE_len, List.length_take, rvE_length, stE_length]; omega)) <;> (try simp -implicitDefEqProofs (disch := omega) only [go_sem, eq_self, decide_true, decide_false, Nat.reduceBEq, Nat.reduceAdd, Nat.reduceSub, Nat.reduceMul, Nat.reduceEqDiff, Nat.reduceLeDiff, Nat.reduceLT, Int.reduceLE, Int.reduceLT, Int.reduceToNat, Int.reduceAdd, Int.reduceEq, Int.reduceNeg, AH.put_ne, stE_length, Bool.not_true, Bool.not_false])))
  rotate_left
  · (refine drop_end (by (first | exact fun _ _ h => h | (intro s x h; first | exact no_sub _ h | exact nil_no _ h | exact AccP.sub (by assumption) _ _ h | (refine agg_sub rfl ?_ x h; repeat (first | exact .nil | refine .cons (fun _ h => h) ?_ | refine .cons (fun _ h => nil_no _ h) ?_ | refine .cons (fun _ h => no_sub _ h) ?_ | refine .cons (fun _ h => AccP.sub (by assumption) _ _ h) ?_)) | (refine tuple_sub ?_ x h; repeat (first | exact .nil | refine .cons (fun _ h => h) ?_ | refine .cons (fun _ h => nil_no _ h) ?_ | refine .cons (fun _ h => no_sub _ h) ?_ | refine .cons (fun _ h => AccP.sub (by assumption) _ _ h) ?_ | refine .cons (fun _ h => agg_sub rfl (by repeat (first | exact .nil | refine .cons (fun _ h => h) ?_ | refine .cons (fun _ h => nil_no _ h) ?_ | refine .cons (fun _ h => no_sub _ h) ?_ | refine .cons (fun _ h => AccP.sub (by assumption) _ _ h) ?_)) _ h) ?_))))) (by (repeat (first | exact AH.le_refl _ | assumption | exact AccP.le (by assumption) | refine AH.le_put ?_ (by first | assumption | exact none_of_le (by assumption) (by assumption) | exact And.right (by assumption) | exact And.right (And.right (by assumption))) _ | refine AH.le_trans ?_ (AccP.le (by assumption))))))
  · (refine drop_end (by (first | exact fun _ _ h => h | (intro s x h; first | exact no_sub _ h | exact nil_no _ h | exact AccP.sub (by assumption) _ _ h | (refine agg_sub rfl ?_ x h; repeat (first | exact .nil | refine .cons (fun _ h => h) ?_ | refine .cons (fun _ h => nil_no _ h) ?_ | refine .cons (fun _ h => no_sub _ h) ?_ | refine .cons (fun _ h => AccP.sub (by assumption) _ _ h) ?_)) | (refine tuple_sub ?_ x h; repeat (first | exact .nil | refine .cons (fun _ h => h) ?_ | refine .cons (fun _ h => nil_no _ h) ?_ | refine .cons (fun _ h => no_sub _ h) ?_ | refine .cons (fun _ h => AccP.sub (by assumption) _ _ h) ?_ | refine .cons (fun _ h => agg_sub rfl (by repeat (first | exact .nil | refine .cons (fun _ h => h) ?_ | refine .cons (fun _ h => nil_no _ h) ?_ | refine .cons (fun _ h => no_sub _ h) ?_ | refine .cons (fun _ h => AccP.sub (by assumption) _ _ h) ?_)) _ h) ?_))))) (by (repeat (first | exact AH.le_refl _ | assumption | exact AccP.le (by assumption) | refine AH.le_put ?_ (by first | assumption | exact none_of_le (by assumption) (by assumption) | exact And.right (by assumption) | exact And.right (And.right (by assumption))) _ | refine AH.le_trans ?_ (AccP.le (by assumption))))))
  · (refine drop_end (by (first | exact fun _ _ h => h | (intro s x h; first | exact no_sub _ h | exact nil_no _ h | exact AccP.sub (by assumption) _ _ h | (refine agg_sub rfl ?_ x h; repeat (first | exact .nil | refine .cons (fun _ h => h) ?_ | refine .cons (fun _ h => nil_no _ h) ?_ | refine .cons (fun _ h => no_sub _ h) ?_ | refine .cons (fun _ h => AccP.sub (by assumption) _ _ h) ?_)) | (refine tuple_sub ?_ x h; repeat (first | exact .nil | refine .cons (fun _ h => h) ?_ | refine .cons (fun _ h => nil_no _ h) ?_ | refine .cons (fun _ h => no_sub _ h) ?_ | refine .cons (fun _ h => AccP.sub (by assumption) _ _ h) ?_ | refine .cons (fun _ h => agg_sub rfl (by repeat (first | exact .nil | refine .cons (fun _ h => h) ?_ | refine .cons (fun _ h => nil_no _ h) ?_ | refine .cons (fun _ h => no_sub _ h) ?_ | refine .cons (fun _ h => AccP.sub (by assumption) _ _ h) ?_)) _ h) ?_))))) (by (repeat (first | exact AH.le_refl _ | assumption | exact AccP.le (by assumption) | refine AH.le_put ?_ (by first | assumption | exact none_of_le (by assumption) (by assumption) | exact And.right (by assumption) | exact And.right (And.right (by assumption))) _ | refine AH.le_trans ?_ (AccP.le (by assumption))))))
  rename_i k1 q1
  have hne2 : g ≠ ko := fun e => by rw [e, hko.2] at hg; cases hg
  exact goes_loop (g := g) (by omega) hb sv sy ov oy fm fx rfl rfl (by rw [AH.put_ne _ _ hne2, AH.put_ne _ _ hne, AH.put_ne _ _ hne2, AH.put_ne _ _ hne]; exact hg) (by rw [AH.put_ne _ _ (Ne.symm hko.1), AH.put_same]) (AH.put_same _ _ _) (AH.le_put (AH.le_put (AH.le_put (AH.le_put (AH.le_refl _) q1 _) hko.2 _) q1 _) hko.2 _)
end Go.Proofs.Ytjlphncecdlmcaa
