/- Of the walks of this seat: contracts of functions of the given program, proved over the abstract values of the texts Vm. Conditions: as each theorem says. -/
import Derived.Test.YtjlphncecdlmcaaVH
import Derived.Test.YtjlphncecdlmcaaVD
import Derived.Test.YtjlphncecdlmcaaVE
set_option linter.unusedVariables false
set_option linter.unusedSimpArgs false
namespace Go.Proofs.Ytjlphncecdlmcaa
open Go.Vm Go.Sort
attribute [local go_sem] List.drop_zero toNat_succ Nat.sub_zero Int.toNat_natCast Option.map_some Int.natCast_nonneg decide_eq_true_eq decide_eq_false_iff_not
/- flange/flangelaw04.ValueMakes -/
abbrev k13_0 : MC :=
  .cond (.t 15) ((.seq (.reg [
     ⟨(some 16), none, .call 23 []⟩,
     ⟨(some 4), none, .val (.mv (.t 16))⟩] [4]) (.ret))) (.skip)

abbrev k13_1 : MC :=
  (.seq (.drw [
    ⟨(some 27), none, .val (.load true 1 (.t 6))⟩,
    ⟨(some 28), none, .val (.load true 7 (.t 5))⟩,
    ⟨(some 29), none, .call 52 [(.t 27), (.t 28)]⟩,
    ⟨(some 30), none, .val (.bin .eql .num (.t 29) (.c (.int .i64 0)))⟩,
    ⟨(some 31), none, .val (.mv (.t 30))⟩,
    ⟨(some 32), (some (31, true)), .val (.load true 1 (.t 6))⟩,
    ⟨(some 33), (some (31, true)), .call 54 [(.t 32)]⟩,
    ⟨(some 34), (some (31, true)), .val (.load true 7 (.t 5))⟩,
    ⟨(some 35), (some (31, true)), .call 55 [(.t 34)]⟩,
    ⟨(some 36), (some (31, true)), .val (.bin .eql .num (.t 33) (.t 35))⟩,
    ⟨(some 37), none, .val (.pick (.t 31) (.t 36) (.c (.bool false)))⟩,
    ⟨(some 38), none, .val (.mv (.t 37))⟩,
    ⟨(some 39), (some (38, true)), .val (.load true 1 (.t 6))⟩,
    ⟨(some 40), (some (38, true)), .call 56 [(.t 39)]⟩,
    ⟨(some 41), (some (38, true)), .val (.load true 7 (.t 5))⟩,
    ⟨(some 42), (some (38, true)), .call 57 [(.t 41)]⟩,
    ⟨(some 43), (some (38, true)), .val (.bin .eql .num (.t 40) (.t 42))⟩,
    ⟨(some 44), none, .val (.pick (.t 38) (.t 43) (.c (.bool false)))⟩,
    ⟨(some 45), none, .val (.mv (.t 44))⟩,
    ⟨(some 46), (some (45, true)), .val (.load true 1 (.t 6))⟩,
    ⟨(some 47), (some (45, true)), .call 58 [(.t 46)]⟩,
    ⟨(some 48), (some (45, true)), .val (.load true 7 (.t 5))⟩,
    ⟨(some 49), (some (45, true)), .call 59 [(.t 48)]⟩,
    ⟨(some 50), (some (45, true)), .val (.bin .eql .bool (.t 47) (.t 49))⟩,
    ⟨(some 51), none, .val (.pick (.t 45) (.t 50) (.c (.bool false)))⟩,
    ⟨(some 52), none, .val (.mv (.t 51))⟩,
    ⟨(some 53), (some (52, true)), .val (.load true 1 (.t 6))⟩,
    ⟨(some 54), (some (52, true)), .call 60 [(.t 53)]⟩,
    ⟨(some 55), (some (52, true)), .val (.load true 7 (.t 5))⟩,
    ⟨(some 56), (some (52, true)), .call 61 [(.t 55)]⟩,
    ⟨(some 57), (some (52, true)), .val (.bin .eql .bool (.t 54) (.t 56))⟩,
    ⟨(some 58), none, .val (.pick (.t 52) (.t 57) (.c (.bool false)))⟩,
    ⟨(some 59), none, .val (.mv (.t 58))⟩,
    ⟨(some 60), (some (59, true)), .val (.mv (.t 8))⟩,
    ⟨(some 61), (some (59, true)), .val (.load true 7 (.t 5))⟩,
    ⟨(some 62), (some (59, true)), .val (.mv (.t 1))⟩,
    ⟨(some 63), (some (59, true)), .call 62 [(.t 61), (.t 62)]⟩,
    ⟨(some 64), (some (59, true)), .val (.bin .geq .num (.t 63) (.c (.int .i64 0)))⟩,
    ⟨(some 65), (some (59, true)), .val (.bin .eql .bool (.t 60) (.t 64))⟩,
    ⟨(some 66), none, .val (.pick (.t 59) (.t 65) (.c (.bool false)))⟩,
    ⟨(some 4), none, .val (.mv (.t 66))⟩] [
] [4]) (.ret))

abbrev k13_2 : MC :=
  (.seq (.reg [
    ⟨(some 22), none, .val (.load true 1 (.t 6))⟩,
    ⟨(some 23), none, .val (.mv (.t 1))⟩,
    ⟨(some 24), none, .call 53 [(.t 22), (.t 23)]⟩,
    ⟨(some 21), none, .val (.mv (.t 24))⟩,
    ⟨(some 25), none, .val (.ext (.t 21) 0)⟩,
    ⟨(some 26), none, .val (.ext (.t 21) 1)⟩,
    ⟨(some 7), none, .zalloc [.nilIface]⟩,
    ⟨none, none, .store 1 (.t 7) (.t 25)⟩,
    ⟨(some 8), none, .val (.mv (.t 26))⟩] [1, 5, 6, 8]) k13_1)

abbrev k13_3 : MC :=
  (.seq (.reg [
    ⟨(some 19), none, .val (.load true 7 (.t 5))⟩,
    ⟨(some 20), none, .call 24 [(.t 19)]⟩,
    ⟨(some 6), none, .zalloc [.nilIface]⟩,
    ⟨none, none, .store 1 (.t 6) (.t 20)⟩] [1, 5, 6]) k13_2)

abbrev k13_4 : MC :=
  (.seq (.reg [
    ⟨(some 17), none, .val (.load true 7 (.t 2))⟩,
    ⟨(some 18), none, .call 25 [(.t 17)]⟩,
    ⟨(some 5), none, .zalloc [(.int .i64 0), (.bool false), (.int .i64 0), (.int .i64 0), (.str []), .nilSl, .nilSl]⟩,
    ⟨none, none, .store 7 (.t 5) (.t 18)⟩] [1, 5]) k13_3)

abbrev k13_5 : MC :=
  (.seq ((.seq (.reg [
    ⟨(some 9), none, .val (.load true 7 (.t 2))⟩,
    ⟨(some 10), none, .call 22 [(.t 9)]⟩,
    ⟨(some 11), none, .val (.bin .gtr .num (.t 10) (.c (.int .i64 0)))⟩,
    ⟨(some 12), none, .val (.mv (.t 11))⟩,
    ⟨(some 13), (some (12, false)), .call 23 []⟩,
    ⟨(some 14), (some (12, false)), .val (.not (.t 13))⟩,
    ⟨(some 15), none, .val (.pick (.t 12) (.c (.bool true)) (.t 14))⟩] [1, 2, 15]) k13_0)) k13_4)
abbrev k13 : MC :=
  (.seq (.reg [
    ⟨(some 2), none, .boxi (.t 0)⟩,
    ⟨(some 4), none, .val (.mv (.c (.bool false)))⟩] [1, 2]) k13_5)
theorem c13 : Try.f13.body.bind (mcOf Try.prog (List.contains [2] ·) (List.getD [([], [1, 2]), ([], [1, 2, 15]), ([], [4]), ([], [1, 5]), ([], [1, 5, 6]), ([], [1, 5, 6, 8]), ([0, 0, 0, 0, 0, 0, 0, 0, 0, 0, 0, 0, 0, 0, 0, 0, 0, 0, 0, 0, 0, 0, 0, 0, 0, 0, 0, 0, 0, 0, 0, 0, 0, 0, 0, 0, 0, 0, 0, 0, 0], [4])] · ([], [])) 67) = some k13 := by kernel_rfl
theorem r13 : rvsOf Try.prog Try.f13.results.toList = some [.tmp 4] := by kernel_rfl

theorem at_isSome (v : Vl) (k : List UInt8) : (v.at k).isSome = true ↔ k ∈ v.keys := by
  cases v with
  | map es => show (fnd k es).isSome = true ↔ k ∈ kys es; rw [kys_mem, fnd_isSome]
  | _ => simp [Vl.at, Vl.keys]
theorem at_idI {v : Vl} {m : Rv} (hs : Sm v m) (k : List UInt8) : (v.at k).isSome = decide (0 ≤ idI k m.Keys) := by
  have hk : v.keys = m.Keys := by cases hs; assumption
  rw [Bool.eq_iff_iff, at_isSome, decide_eq_true_eq, idI_mem, hk]
theorem makes_calls {r : Rv} {k : List UInt8} (hf : r.Fit) {g : Nat} {H : AH} (hg : H g = some .nodr) :
    ACalls Try.prog 13 [.agg [.int .i64 r.K, .bool r.B, .int .i64 r.N, .int .i64 r.M, .str r.S, .sl 7 (rvE r.L) .no, .sl 1 (strE r.Keys) .no], .str k] H (fun o H' => o = .ret (.bool true) ∧ H' = H) := by
  refine ACalls.drop ?_
  have hs := sm_clean r
  have ho := ok_clean r hf
  have hfm := fit_clean r hf
  have h1 := great_calls r hf
  have h2 := clean_calls r hf
  have h3 := to_calls _ hfm
  have hid := at_idI hs k
  obtain ⟨m, hm⟩ : ∃ m, cleanR r = m := ⟨_, rfl⟩
  rw [hm] at hs ho hfm h2 h3 hid
  simp only [rvC_eq] at h2
  obtain ⟨v, hv⟩ : ∃ v, toV m = v := ⟨_, rfl⟩
  rw [hv] at hs ho h3 hid
  have h4 := at_calls v k
  have h5 := unlike_calls m v hs ho
  have h6 := vdeep_calls m v hs ho
  have h7 := rdeep_calls m hfm
  have h8 := vsize_calls m v hs ho
  have h9 := rsize_calls m hfm
  have h10 := rright_calls hs hfm
  have h11 := known_all m
  have h12 := rknown_calls m hfm
  have h13 := rfind_calls (k := k) hs hfm
  rw [hid] at h4
  refine acalls Try.func13 c13 r13 (by simp [Try.ntmps13]) ?_
  repeat' (first | with_reducible (first | refine am_seq ?_ | refine am_block ?_) | ((with_reducible apply am_cond); (case hb => rfl); all_goals (intro hc; (try simp only [reduceCtorEq, decide_eq_true_eq, decide_eq_false_iff_not, Bool.or_eq_true, Bool.and_eq_true, Bool.or_eq_false_iff, Bool.not_eq_true', Bool.not_eq_false', beq_iff_eq] at hc); (try (exfalso; omega)))) | ((first | with_reducible (first | refine am_reg ?_ | refine am_drw ?_ | refine am_drx ?_ | refine am_skip ?_ | refine am_exit ?_ | refine am_ret ?_ | refine And.intro (by first | exact AH.lec_refl _ | assumption | exact AccP.lec (by assumption) | omega) ?_ | refine isnE_of (fun hc => ?_) (fun hc => ?_) (fun hc => ?_) | refine need_elems (by assumption) ?_ | refine vlen_acc (by assumption) ?_ | refine need_bytes (by assumption) ?_ | refine call_of (h1) ?_ | refine qcall_of (h1) ?_ | refine call_of (awake_calls) ?_ | refine qcall_of (awake_calls) ?_ | refine call_of (h2) ?_ | refine qcall_of (h2) ?_ | refine call_of (h3) ?_ | refine qcall_of (h3) ?_ | refine call_of (h4) ?_ | refine qcall_of (h4) ?_ | refine need_look (by repeat (first | assumption | exact AH.put_same _ _ _ | refine look_put ?_ (by assumption) | refine look_lec ?_ (by assumption))) ?_) | ((with_reducible (first | refine gd_not (fun hc => ?_) (fun hc => ?_) | refine gd_of (fun hc => ?_) (fun hc => ?_) | refine gq_not (fun hc => ?_) (fun hc => ?_) | refine gq_of (fun hc => ?_) (fun hc => ?_) | refine pickB_of (fun hc => ?_) (fun hc => ?_))) <;> (try simp -implicitDefEqProofs (disch := omega) only [go_sem, eq_self, decide_true, decide_false, Nat.reduceBEq, Nat.reduceAdd, Nat.reduceSub, Nat.reduceMul, Nat.reduceEqDiff, Nat.reduceLeDiff, Nat.reduceLT, Int.reduceLE, Int.reduceLT, Int.reduceToNat, Int.reduceAdd, Int.reduceEq, Int.reduceNeg, AH.put_ne, hc, Bool.not_true, Bool.not_false]) <;> (try simp only [reduceCtorEq, decide_eq_true_eq, decide_eq_false_iff_not, Bool.or_eq_true, Bool.and_eq_true, Bool.or_eq_false_iff, Bool.not_eq_true', Bool.not_eq_false', beq_iff_eq] at hc) <;> (try (exfalso; omega))) | ((with_reducible refine alloc_intro (fun ko hko => ?_)) <;> (try have hne := fresh_ne (by assumption) hko) <;> (try have hnk := fresh_ne hk hko) <;> (try have hnk2 := fresh_ne hk2 hko) <;> (try simp only [AH.put_none] at hko)) | ((with_reducible (first | refine vapp_accL (by assumption) ?_ (fun v2 H2 hacc hlec => ?_) | refine vapp_accL (AccP.mono (by assumption) (AccP.le (by assumption))) ?_ (fun v2 H2 hacc hlec => ?_) | refine vapp_accL (AccP.new (by assumption) (by assumption) _) ?_ (fun v2 H2 hacc hlec => ?_))); · simp only [byteCells_length, List.length_cons, List.length_nil, List.length_map, List.length_append, vE_length, mE_length, strE_len, List.length_take, rvE_length]; omega)) <;> (try simp -implicitDefEqProofs (disch := omega) only [go_sem, eq_self, decide_true, decide_false, Nat.reduceBEq, Nat.reduceAdd, Nat.reduceSub, Nat.reduceMul, Nat.reduceEqDiff, Nat.reduceLeDiff, Nat.reduceLT, Int.reduceLE, Int.reduceLT, Int.reduceToNat, Int.reduceAdd, Int.reduceEq, Int.reduceNeg, AH.put_ne, Bool.not_true, Bool.not_false])))
  rotate_left
  · (refine drop_end (by (first | exact fun _ _ h => h | (intro s x h; first | exact no_sub _ h | exact nil_no _ h | exact AccP.sub (by assumption) _ _ h | (refine agg_sub rfl ?_ x h; repeat (first | exact .nil | refine .cons (fun _ h => h) ?_ | refine .cons (fun _ h => nil_no _ h) ?_ | refine .cons (fun _ h => no_sub _ h) ?_ | refine .cons (fun _ h => AccP.sub (by assumption) _ _ h) ?_)) | (refine tuple_sub ?_ x h; repeat (first | exact .nil | refine .cons (fun _ h => h) ?_ | refine .cons (fun _ h => nil_no _ h) ?_ | refine .cons (fun _ h => no_sub _ h) ?_ | refine .cons (fun _ h => AccP.sub (by assumption) _ _ h) ?_ | refine .cons (fun _ h => agg_sub rfl (by repeat (first | exact .nil | refine .cons (fun _ h => h) ?_ | refine .cons (fun _ h => nil_no _ h) ?_ | refine .cons (fun _ h => no_sub _ h) ?_ | refine .cons (fun _ h => AccP.sub (by assumption) _ _ h) ?_)) _ h) ?_))))) (by (repeat (first | exact AH.le_refl _ | assumption | exact AccP.le (by assumption) | refine AH.le_put ?_ (by first | assumption | exact none_of_le (by assumption) (by assumption) | exact And.right (by assumption) | exact And.right (And.right (by assumption))) _ | refine AH.le_trans ?_ (AccP.le (by assumption))))))
  rename_i _ q0 hq0 q1 hq1
  have hg3 := look_put (p := .cells [vV ((v.at k).getD .nul)]) (look_put (p := .cells [vV v]) (look_put (p := .cells [.int .i64 m.K, .bool m.B, .int .i64 m.N, .int .i64 m.M, .str m.S, .sl 7 (rvE m.L) .no, .sl 1 (strE m.Keys) .no]) hg hq0) (by rw [AH.put_none]; exact hq1)) (show (((H.put q0 (.cells [.int .i64 m.K, .bool m.B, .int .i64 m.N, .int .i64 m.M, .str m.S, .sl 7 (rvE m.L) .no, .sl 1 (strE m.Keys) .no])).put q1 (.cells [vV v])) ko) = none by rw [AH.put_none, AH.put_none]; exact hko)
  repeat' (first | with_reducible (first | refine am_seq ?_ | refine am_block ?_) | ((with_reducible apply am_cond); (case hb => rfl); all_goals (intro hc; (try simp only [reduceCtorEq, decide_eq_true_eq, decide_eq_false_iff_not, Bool.or_eq_true, Bool.and_eq_true, Bool.or_eq_false_iff, Bool.not_eq_true', Bool.not_eq_false', beq_iff_eq] at hc); (try (exfalso; omega)))) | ((first | with_reducible (first | refine am_reg ?_ | refine am_drw ?_ | refine am_drx ?_ | refine am_skip ?_ | refine am_exit ?_ | refine am_ret ?_ | refine And.intro (by first | exact AH.lec_refl _ | assumption | exact AccP.lec (by assumption) | omega) ?_ | refine isnE_of (fun hc => ?_) (fun hc => ?_) (fun hc => ?_) | refine need_elems (by assumption) ?_ | refine vlen_acc (by assumption) ?_ | refine need_bytes (by assumption) ?_ | refine call_at (fun G hl => h5 _ _ (nodr_lec hg3 hl)) ?_ | refine qcall_at (fun G hl => h5 _ _ (nodr_lec hg3 hl)) ?_ | refine call_at (fun G hl => h6 _ _ (nodr_lec hg3 hl)) ?_ | refine qcall_at (fun G hl => h6 _ _ (nodr_lec hg3 hl)) ?_ | refine call_of (h7) ?_ | refine qcall_of (h7) ?_ | refine call_at (fun G hl => h8 _ _ (nodr_lec hg3 hl)) ?_ | refine qcall_at (fun G hl => h8 _ _ (nodr_lec hg3 hl)) ?_ | refine call_of (h9) ?_ | refine qcall_of (h9) ?_ | refine call_at (fun G hl => right_calls hs ho (nodr_lec hg3 hl)) ?_ | refine qcall_at (fun G hl => right_calls hs ho (nodr_lec hg3 hl)) ?_ | refine call_of (h10) ?_ | refine qcall_of (h10) ?_ | refine call_at (fun G hl => known_calls hs ho (nodr_lec hg3 hl)) ?_ | refine qcall_at (fun G hl => known_calls hs ho (nodr_lec hg3 hl)) ?_ | refine call_of (h12) ?_ | refine qcall_of (h12) ?_ | refine call_of (h13) ?_ | refine qcall_of (h13) ?_ | refine need_look (by repeat (first | assumption | exact AH.put_same _ _ _ | refine look_put ?_ (by assumption) | refine look_lec ?_ (by assumption))) ?_) | ((with_reducible (first | refine gd_not (fun hc => ?_) (fun hc => ?_) | refine gd_of (fun hc => ?_) (fun hc => ?_) | refine gq_not (fun hc => ?_) (fun hc => ?_) | refine gq_of (fun hc => ?_) (fun hc => ?_) | refine pickB_of (fun hc => ?_) (fun hc => ?_))) <;> (try simp -implicitDefEqProofs (disch := omega) only [go_sem, eq_self, decide_true, decide_false, Nat.reduceBEq, Nat.reduceAdd, Nat.reduceSub, Nat.reduceMul, Nat.reduceEqDiff, Nat.reduceLeDiff, Nat.reduceLT, Int.reduceLE, Int.reduceLT, Int.reduceToNat, Int.reduceAdd, Int.reduceEq, Int.reduceNeg, AH.put_ne, hc, Bool.not_true, Bool.not_false, beq_self_eq_true]) <;> (try simp only [reduceCtorEq, decide_eq_true_eq, decide_eq_false_iff_not, Bool.or_eq_true, Bool.and_eq_true, Bool.or_eq_false_iff, Bool.not_eq_true', Bool.not_eq_false', beq_iff_eq] at hc) <;> (try (exfalso; omega))) | ((with_reducible refine alloc_intro (fun ko hko => ?_)) <;> (try have hne := fresh_ne (by assumption) hko) <;> (try have hnk := fresh_ne hk hko) <;> (try have hnk2 := fresh_ne hk2 hko) <;> (try simp only [AH.put_none] at hko)) | ((with_reducible (first | refine vapp_accL (by assumption) ?_ (fun v2 H2 hacc hlec => ?_) | refine vapp_accL (AccP.mono (by assumption) (AccP.le (by assumption))) ?_ (fun v2 H2 hacc hlec => ?_) | refine vapp_accL (AccP.new (by assumption) (by assumption) _) ?_ (fun v2 H2 hacc hlec => ?_))); · simp only [byteCells_length, List.length_cons, List.length_nil, List.length_map, List.length_append, vE_length, mE_length, strE_len, List.length_take, rvE_length]; omega)) <;> (try simp -implicitDefEqProofs (disch := omega) only [go_sem, eq_self, decide_true, decide_false, Nat.reduceBEq, Nat.reduceAdd, Nat.reduceSub, Nat.reduceMul, Nat.reduceEqDiff, Nat.reduceLeDiff, Nat.reduceLT, Int.reduceLE, Int.reduceLT, Int.reduceToNat, Int.reduceAdd, Int.reduceEq, Int.reduceNeg, AH.put_ne, Bool.not_true, Bool.not_false, beq_self_eq_true])))
  all_goals exact drop_end (fun _ _ h => h) (AH.le_put (AH.le_put (AH.le_put (AH.le_refl _) hq0 _) hq1.2 _) hko.2.2 _)
end Go.Proofs.Ytjlphncecdlmcaa
