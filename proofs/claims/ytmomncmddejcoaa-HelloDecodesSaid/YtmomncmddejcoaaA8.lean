/- Of the walks of this seat: contracts of functions of the given program, proved over the abstract values of the texts Vm. Conditions: as each theorem says. -/
import Derived.Test.YtmomncmddejcoaaA7
set_option linter.unusedVariables false
set_option linter.unusedSimpArgs false
namespace Go.Proofs.Ytmomncmddejcoaa
open Go.Vm
attribute [local go_sem] strsE_get strsE_length intsE_get intsE_length Int.toNat_natCast Option.map_some Int.natCast_nonneg decide_eq_true_eq decide_eq_false_iff_not
/- flange/flangelaw21.awake -/
abbrev k13_0 : MC :=
  (.seq (.reg [
    ⟨(some 11), none, .val (.faddr 0 (.t 1))⟩,
    ⟨(some 12), none, .val (.load false 1 (.t 11))⟩,
    ⟨(some 13), none, .val (.bin .eql .num (.t 12) (.c (.int .i64 2)))⟩,
    ⟨(some 14), none, .val (.mv (.t 13))⟩,
    ⟨(some 15), (some (14, true)), .val (.faddr 1 (.t 1))⟩,
    ⟨(some 16), (some (14, true)), .val (.load false 1 (.t 15))⟩,
    ⟨(some 17), (some (14, true)), .val (.len .sl (.t 16))⟩,
    ⟨(some 18), (some (14, true)), .val (.bin .eql .num (.t 17) (.c (.int .i64 0)))⟩,
    ⟨(some 19), none, .val (.pick (.t 14) (.t 18) (.c (.bool false)))⟩,
    ⟨(some 20), none, .val (.mv (.t 19))⟩,
    ⟨(some 21), (some (20, true)), .val (.mv (.t 2))⟩,
    ⟨(some 22), (some (20, true)), .val (.bin .eql .num (.t 21) (.c (.int .i64 0)))⟩,
    ⟨(some 23), none, .val (.pick (.t 20) (.t 22) (.c (.bool false)))⟩,
    ⟨(some 0), none, .val (.mv (.t 23))⟩] [0]) .ret)

abbrev k13_1 : MC :=
  (.seq (.reg [
    ⟨(some 4), none, .bslice 1 2 [(.int .i64 0), (.int .i64 0)] [(0, 1, (.c (.int .i64 1))), (1, 1, (.c (.int .i64 2)))]⟩,
    ⟨(some 5), none, .build [.nilSl, .nilSl] [(0, 1, (.t 4))]⟩,
    ⟨(some 6), none, .bslice 1 2 [(.int .i64 0), (.int .i64 0)] [(0, 1, (.c (.int .i64 2))), (1, 1, (.c (.int .i64 3)))]⟩,
    ⟨(some 7), none, .build [.nilSl, .nilSl] [(0, 1, (.t 6))]⟩,
    ⟨(some 8), none, .call 14 [(.t 5), (.t 7)]⟩,
    ⟨(some 3), none, .val (.mv (.t 8))⟩,
    ⟨(some 9), none, .val (.ext (.t 3) 0)⟩,
    ⟨(some 10), none, .val (.ext (.t 3) 1)⟩,
    ⟨(some 1), none, .zalloc [(.int .i64 0), .nilSl]⟩,
    ⟨none, none, .store 2 (.t 1) (.t 9)⟩,
    ⟨(some 2), none, .val (.mv (.t 10))⟩] [1, 2]) k13_0)
abbrev k13 : MC :=
  (.seq (.reg [
    ⟨(some 0), none, .val (.mv (.c (.bool false)))⟩] []) k13_1)
theorem c13 : Try.f13.body.bind (mcOf Try.prog (List.contains [] ·) (List.getD [([], []), ([], [1, 2]), ([], [0])] · ([], [])) 24) = some k13 := by kernel_rfl
theorem r13 : rvsOf Try.prog Try.f13.results.toList = some [.tmp 0] := by kernel_rfl

/- flange/flangelaw21.same -/
abbrev k18_0 : MC :=
  .cond (.t 22) ((.seq (.reg [
     ⟨(some 4), none, .val (.mv (.c (.bool false)))⟩] [4]) .ret)) (.skip)

abbrev k18_1 : MC :=
  .cond (.t 27) (.skip) (.exit 0)

abbrev k18_2 : MC :=
  .cond (.t 40) ((.seq (.reg [
     ⟨(some 4), none, .val (.mv (.c (.bool false)))⟩] [4]) .ret)) (.skip)

abbrev k18_3 : MC :=
  .reg [
    ⟨(some 28), none, .val (.mv (.t 5))⟩,
    ⟨(some 29), none, .val (.bin .add .num (.t 28) (.c (.int .i64 1)))⟩,
    ⟨(some 5), none, .val (.mv (.t 29))⟩] [2, 3, 5]

abbrev k18_4 : MC :=
  (.seq (.block 1 ((.seq (.drw [
     ⟨(some 30), none, .val (.faddr 0 (.t 2))⟩,
     ⟨(some 31), none, .val (.load false 1 (.t 30))⟩,
     ⟨(some 32), none, .val (.mv (.t 5))⟩,
     ⟨(some 33), none, .val (.iaddr 1 (.t 31) (.t 32))⟩,
     ⟨(some 34), none, .val (.load false 1 (.t 33))⟩,
     ⟨(some 35), none, .val (.faddr 0 (.t 3))⟩,
     ⟨(some 36), none, .val (.load false 1 (.t 35))⟩,
     ⟨(some 37), none, .val (.mv (.t 5))⟩,
     ⟨(some 38), none, .val (.iaddr 1 (.t 36) (.t 37))⟩,
     ⟨(some 39), none, .val (.load false 1 (.t 38))⟩,
     ⟨(some 40), none, .val (.bin .neq .num (.t 34) (.t 39))⟩] [
] [2, 3, 5, 40]) k18_2))) k18_3)

abbrev k18_5 : MC :=
  (.seq ((.seq (.reg [
    ⟨(some 23), none, .val (.mv (.t 5))⟩,
    ⟨(some 24), none, .val (.faddr 0 (.t 2))⟩,
    ⟨(some 25), none, .val (.load false 1 (.t 24))⟩,
    ⟨(some 26), none, .val (.len .sl (.t 25))⟩,
    ⟨(some 27), none, .val (.bin .lss .num (.t 23) (.t 26))⟩] [2, 3, 5, 27]) k18_1)) k18_4)

abbrev k18_6 : MC :=
  .block 0 (.loop k18_5)

abbrev k18_7 : MC :=
  .cond (.t 45) (.skip) (.exit 2)

abbrev k18_8 : MC :=
  .cond (.t 58) ((.seq (.reg [
     ⟨(some 4), none, .val (.mv (.c (.bool false)))⟩] [4]) .ret)) (.skip)

abbrev k18_9 : MC :=
  .reg [
    ⟨(some 46), none, .val (.mv (.t 6))⟩,
    ⟨(some 47), none, .val (.bin .add .num (.t 46) (.c (.int .i64 1)))⟩,
    ⟨(some 6), none, .val (.mv (.t 47))⟩] [2, 3, 6]

abbrev k18_10 : MC :=
  (.seq (.block 3 ((.seq (.drw [
     ⟨(some 48), none, .val (.faddr 1 (.t 2))⟩,
     ⟨(some 49), none, .val (.load false 1 (.t 48))⟩,
     ⟨(some 50), none, .val (.mv (.t 6))⟩,
     ⟨(some 51), none, .val (.iaddr 1 (.t 49) (.t 50))⟩,
     ⟨(some 52), none, .val (.load false 1 (.t 51))⟩,
     ⟨(some 53), none, .val (.faddr 1 (.t 3))⟩,
     ⟨(some 54), none, .val (.load false 1 (.t 53))⟩,
     ⟨(some 55), none, .val (.mv (.t 6))⟩,
     ⟨(some 56), none, .val (.iaddr 1 (.t 54) (.t 55))⟩,
     ⟨(some 57), none, .val (.load false 1 (.t 56))⟩,
     ⟨(some 58), none, .val (.bin .neq .num (.t 52) (.t 57))⟩] [
] [2, 3, 6, 58]) k18_8))) k18_9)

abbrev k18_11 : MC :=
  (.seq ((.seq (.reg [
    ⟨(some 41), none, .val (.mv (.t 6))⟩,
    ⟨(some 42), none, .val (.faddr 1 (.t 2))⟩,
    ⟨(some 43), none, .val (.load false 1 (.t 42))⟩,
    ⟨(some 44), none, .val (.len .sl (.t 43))⟩,
    ⟨(some 45), none, .val (.bin .lss .num (.t 41) (.t 44))⟩] [2, 3, 6, 45]) k18_7)) k18_10)

abbrev k18_12 : MC :=
  .block 2 (.loop k18_11)

abbrev k18_13 : MC :=
  (.seq (.reg [
    ⟨(some 4), none, .val (.mv (.c (.bool true)))⟩] [4]) .ret)

abbrev k18_14 : MC :=
  (.seq ((.seq (.reg [
    ⟨(some 6), none, .val (.mv (.c (.int .i64 0)))⟩] [2, 3, 6]) k18_12)) k18_13)

abbrev k18_15 : MC :=
  (.seq ((.seq (.reg [
    ⟨(some 5), none, .val (.mv (.c (.int .i64 0)))⟩] [2, 3, 5]) k18_6)) k18_14)

abbrev k18_16 : MC :=
  (.seq ((.seq (.reg [
    ⟨(some 7), none, .val (.faddr 0 (.t 2))⟩,
    ⟨(some 8), none, .val (.load false 1 (.t 7))⟩,
    ⟨(some 9), none, .val (.len .sl (.t 8))⟩,
    ⟨(some 10), none, .val (.faddr 0 (.t 3))⟩,
    ⟨(some 11), none, .val (.load false 1 (.t 10))⟩,
    ⟨(some 12), none, .val (.len .sl (.t 11))⟩,
    ⟨(some 13), none, .val (.bin .neq .num (.t 9) (.t 12))⟩,
    ⟨(some 14), none, .val (.mv (.t 13))⟩,
    ⟨(some 15), (some (14, false)), .val (.faddr 1 (.t 2))⟩,
    ⟨(some 16), (some (14, false)), .val (.load false 1 (.t 15))⟩,
    ⟨(some 17), (some (14, false)), .val (.len .sl (.t 16))⟩,
    ⟨(some 18), (some (14, false)), .val (.faddr 1 (.t 3))⟩,
    ⟨(some 19), (some (14, false)), .val (.load false 1 (.t 18))⟩,
    ⟨(some 20), (some (14, false)), .val (.len .sl (.t 19))⟩,
    ⟨(some 21), (some (14, false)), .val (.bin .neq .num (.t 17) (.t 20))⟩,
    ⟨(some 22), none, .val (.pick (.t 14) (.c (.bool true)) (.t 21))⟩] [2, 3, 22]) k18_0)) k18_15)
abbrev k18 : MC :=
  (.seq (.reg [
    ⟨(some 2), none, .boxi (.t 0)⟩,
    ⟨(some 3), none, .boxi (.t 1)⟩,
    ⟨(some 4), none, .val (.mv (.c (.bool false)))⟩] [2, 3]) k18_16)
theorem c18 : Try.f18.body.bind (mcOf Try.prog (List.contains [2, 3] ·) (List.getD [([], [2, 3]), ([], [2, 3, 22]), ([], [4]), ([], [2, 3, 5]), ([], [2, 3, 5, 27]), ([], [2, 3, 5]), ([0, 0, 0, 0, 0, 0, 0, 0, 0, 0, 0], [2, 3, 5, 40]), ([], [4]), ([], [2, 3, 6]), ([], [2, 3, 6, 45]), ([], [2, 3, 6]), ([0, 0, 0, 0, 0, 0, 0, 0, 0, 0, 0], [2, 3, 6, 58]), ([], [4]), ([], [4])] · ([], [])) 59) = some k18 := by kernel_rfl
theorem r18 : rvsOf Try.prog Try.f18.results.toList = some [.tmp 4] := by kernel_rfl

theorem agree_calls' (va : List Int) (sa : List (List UInt8)) (vb : List Int) (sb : List (List UInt8)) {a b : V} (tv ts uv us : Tok) (hsub : ∀ s : St, Subs s [a, b] [.agg [.sl 1 (intsE va) tv, .sl 1 (strsE sa) ts], .agg [.sl 1 (intsE vb) uv, .sl 1 (strsE sb) us]])
    (hv : va.length < 10000000) (hl : sa.length < 10000000) (hs : ∀ s ∈ sa, s.length < 4611686018427387904) (hv2 : vb.length < 10000000) (hl2 : sb.length < 10000000) (hs2 : ∀ s ∈ sb, s.length < 4611686018427387904) (H : AH) :
    ACalls Try.prog 14 [a, b] H (fun o H' => o = .ret (.tuple [.agg [.int .i64 (agreeS va sa vb sb).1, .sl 1 (strsE (agreeS va sa vb sb).2.1) .no], .int .i64 (agreeS va sa vb sb).2.2]) ∧ H' = H) :=
  ACalls.sub hsub (agree_calls va sa vb sb tv ts uv us hv hl hs hv2 hl2 hs2 H)
theorem agree_awake : agreeS [1, 2] [] [2, 3] [] = (2, [], 0) := by decide
theorem awake_calls (H : AH) : ACalls Try.prog 13 [] H (fun o H' => o = .ret (.bool true) ∧ H' = H) := by
  refine ACalls.drop ?_
  refine acalls Try.func13 c13 r13 (by simp [Try.ntmps13]) ?_
  repeat (first | refine am_seq ?_ | (refine am_reg ?_; simp -implicitDefEqProofs (disch := omega) only [go_sem, eq_self, decide_true, decide_false, Nat.reduceBEq, Nat.reduceAdd, Nat.reduceSub, Nat.reduceMul, Nat.reduceEqDiff, Nat.reduceLeDiff, Nat.reduceLT, Int.reduceLE, Int.reduceLT, Int.reduceToNat, Int.reduceAdd, Int.reduceEq, Int.reduceNeg, AH.put_ne]) | (refine am_drw ?_; simp -implicitDefEqProofs (disch := omega) only [go_sem, eq_self, decide_true, decide_false, Nat.reduceBEq, Nat.reduceAdd, Nat.reduceSub, Nat.reduceMul, Nat.reduceEqDiff, Nat.reduceLeDiff, Nat.reduceLT, Int.reduceLE, Int.reduceLT, Int.reduceToNat, Int.reduceAdd, Int.reduceEq, Int.reduceNeg, AH.put_ne]) | refine am_block ?_)
  refine call_of (agree_calls' [1, 2] [] [2, 3] [] .tight .no .tight .no (fun s => .cons (agg_sub rfl (.cons (fun _ h => h) (.cons (fun _ h => nil_no _ h) .nil))) (.cons (agg_sub rfl (.cons (fun _ h => h) (.cons (fun _ h => nil_no _ h) .nil))) .nil)) (by simp) (by simp) (by simp) (by simp) (by simp) (by simp)) ?_
  rw [agree_awake]
  try simp -implicitDefEqProofs (disch := omega) only [go_sem, eq_self, decide_true, decide_false, Nat.reduceBEq, Nat.reduceAdd, Nat.reduceSub, Nat.reduceMul, Nat.reduceEqDiff, Nat.reduceLeDiff, Nat.reduceLT, Int.reduceLE, Int.reduceLT, Int.reduceToNat, Int.reduceAdd, Int.reduceEq, Int.reduceNeg, AH.put_ne]
  intro k hk
  repeat (first | refine am_seq ?_ | (refine am_reg ?_; simp -implicitDefEqProofs (disch := omega) only [go_sem, eq_self, decide_true, decide_false, Nat.reduceBEq, Nat.reduceAdd, Nat.reduceSub, Nat.reduceMul, Nat.reduceEqDiff, Nat.reduceLeDiff, Nat.reduceLT, Int.reduceLE, Int.reduceLT, Int.reduceToNat, Int.reduceAdd, Int.reduceEq, Int.reduceNeg, AH.put_ne, List.length_nil]) | (refine am_drw ?_; simp -implicitDefEqProofs (disch := omega) only [go_sem, eq_self, decide_true, decide_false, Nat.reduceBEq, Nat.reduceAdd, Nat.reduceSub, Nat.reduceMul, Nat.reduceEqDiff, Nat.reduceLeDiff, Nat.reduceLT, Int.reduceLE, Int.reduceLT, Int.reduceToNat, Int.reduceAdd, Int.reduceEq, Int.reduceNeg, AH.put_ne, List.length_nil]) | refine am_block ?_)
  all_goals (refine am_ret ?_; simp -implicitDefEqProofs (disch := omega) only [go_sem, eq_self, decide_true, decide_false, Nat.reduceBEq, Nat.reduceAdd, Nat.reduceSub, Nat.reduceMul, Nat.reduceEqDiff, Nat.reduceLeDiff, Nat.reduceLT, Int.reduceLE, Int.reduceLT, Int.reduceToNat, Int.reduceAdd, Int.reduceEq, Int.reduceNeg, AH.put_ne]; exact ⟨⟨_, rfl, fun s x h => h⟩, AH.le_put (AH.le_refl _) hk _⟩)
theorem ext_of {α : Type} {l m : List α} (hlen : l.length = m.length) (h : ∀ j, j < l.length → l[j]? = m[j]?) : l = m := by
  apply List.ext_getElem? 
  intro j
  by_cases hj : j < l.length
  · exact h j hj
  · rw [List.getElem?_eq_none (by omega), List.getElem?_eq_none (by omega)]
theorem same_calls (va : List Int) (sa : List (List UInt8)) (vb : List Int) (sb : List (List UInt8)) (tv ts uv us : Tok) (hv : va.length < 10000000) (hl : sa.length < 10000000) (H : AH) :
    ACalls Try.prog 18 [.agg [.sl 1 (intsE va) tv, .sl 1 (strsE sa) ts], .agg [.sl 1 (intsE vb) uv, .sl 1 (strsE sb) us]] H (fun o H' => o = .ret (.bool (decide (va = vb ∧ sa = sb))) ∧ H' = H) := by
  refine acalls Try.func18 c18 r18 (by simp [Try.ntmps18]) ?_
  repeat (first | refine am_seq ?_ | (refine am_reg ?_; simp -implicitDefEqProofs (disch := omega) only [go_sem, eq_self, decide_true, decide_false, Nat.reduceBEq, Nat.reduceAdd, Nat.reduceSub, Nat.reduceMul, Nat.reduceEqDiff, Nat.reduceLeDiff, Nat.reduceLT, Int.reduceLE, Int.reduceLT, Int.reduceToNat, Int.reduceAdd, Int.reduceEq, Int.reduceNeg, AH.put_ne]) | (refine am_drw ?_; simp -implicitDefEqProofs (disch := omega) only [go_sem, eq_self, decide_true, decide_false, Nat.reduceBEq, Nat.reduceAdd, Nat.reduceSub, Nat.reduceMul, Nat.reduceEqDiff, Nat.reduceLeDiff, Nat.reduceLT, Int.reduceLE, Int.reduceLT, Int.reduceToNat, Int.reduceAdd, Int.reduceEq, Int.reduceNeg, AH.put_ne]) | refine am_block ?_)
  refine gd_of (fun h => ?_) (fun h => ?_) <;> simp -implicitDefEqProofs (disch := omega) only [go_sem, eq_self, decide_true, decide_false, Nat.reduceBEq, Nat.reduceAdd, Nat.reduceSub, Nat.reduceMul, Nat.reduceEqDiff, Nat.reduceLeDiff, Nat.reduceLT, Int.reduceLE, Int.reduceLT, Int.reduceToNat, Int.reduceAdd, Int.reduceEq, Int.reduceNeg, AH.put_ne, h]
  · refine am_cond rfl (fun hc => ?_) (fun hc => ?_) <;> (try simp -implicitDefEqProofs (disch := omega) only [go_sem, eq_self, decide_true, decide_false, Nat.reduceBEq, Nat.reduceAdd, Nat.reduceSub, Nat.reduceMul, Nat.reduceEqDiff, Nat.reduceLeDiff, Nat.reduceLT, Int.reduceLE, Int.reduceLT, Int.reduceToNat, Int.reduceAdd, Int.reduceEq, Int.reduceNeg, AH.put_ne] at hc)
    · repeat (first | refine am_seq ?_ | (refine am_reg ?_; simp -implicitDefEqProofs (disch := omega) only [go_sem, eq_self, decide_true, decide_false, Nat.reduceBEq, Nat.reduceAdd, Nat.reduceSub, Nat.reduceMul, Nat.reduceEqDiff, Nat.reduceLeDiff, Nat.reduceLT, Int.reduceLE, Int.reduceLT, Int.reduceToNat, Int.reduceAdd, Int.reduceEq, Int.reduceNeg, AH.put_ne]) | (refine am_drw ?_; simp -implicitDefEqProofs (disch := omega) only [go_sem, eq_self, decide_true, decide_false, Nat.reduceBEq, Nat.reduceAdd, Nat.reduceSub, Nat.reduceMul, Nat.reduceEqDiff, Nat.reduceLeDiff, Nat.reduceLT, Int.reduceLE, Int.reduceLT, Int.reduceToNat, Int.reduceAdd, Int.reduceEq, Int.reduceNeg, AH.put_ne]) | refine am_block ?_)
      refine am_ret ?_
      simp -implicitDefEqProofs (disch := omega) only [go_sem, eq_self, decide_true, decide_false, Nat.reduceBEq, Nat.reduceAdd, Nat.reduceSub, Nat.reduceMul, Nat.reduceEqDiff, Nat.reduceLeDiff, Nat.reduceLT, Int.reduceLE, Int.reduceLT, Int.reduceToNat, Int.reduceAdd, Int.reduceEq, Int.reduceNeg, AH.put_ne]
      simp only [decide_eq_true_eq] at h
      rw [decide_eq_false]
      rintro ⟨rfl, rfl⟩
      first | omega | simp at hc
    · refine am_skip ?_
      simp -implicitDefEqProofs (disch := omega) only [go_sem, eq_self, decide_true, decide_false, Nat.reduceBEq, Nat.reduceAdd, Nat.reduceSub, Nat.reduceMul, Nat.reduceEqDiff, Nat.reduceLeDiff, Nat.reduceLT, Int.reduceLE, Int.reduceLT, Int.reduceToNat, Int.reduceAdd, Int.reduceEq, Int.reduceNeg, AH.put_ne]
      simp only [decide_eq_true_eq] at h
      have hc2 : sa.length = sb.length := by
        have := not_f hc.symm
        simp only [decide_eq_true_eq] at this
        omega
      have hc1 : va.length = vb.length := by omega
      repeat (first | refine am_seq ?_ | (refine am_reg ?_; simp -implicitDefEqProofs (disch := omega) only [go_sem, eq_self, decide_true, decide_false, Nat.reduceBEq, Nat.reduceAdd, Nat.reduceSub, Nat.reduceMul, Nat.reduceEqDiff, Nat.reduceLeDiff, Nat.reduceLT, Int.reduceLE, Int.reduceLT, Int.reduceToNat, Int.reduceAdd, Int.reduceEq, Int.reduceNeg, AH.put_ne]) | (refine am_drw ?_; simp -implicitDefEqProofs (disch := omega) only [go_sem, eq_self, decide_true, decide_false, Nat.reduceBEq, Nat.reduceAdd, Nat.reduceSub, Nat.reduceMul, Nat.reduceEqDiff, Nat.reduceLeDiff, Nat.reduceLT, Int.reduceLE, Int.reduceLT, Int.reduceToNat, Int.reduceAdd, Int.reduceEq, Int.reduceNeg, AH.put_ne]) | refine am_block ?_)
      refine am_loop (fun n a H' => ∃ i : Nat, i + n = va.length ∧ a = [(2, V.rptr [V.sl 1 (intsE va) tv, V.sl 1 (strsE sa) ts] 0), (3, V.rptr [V.sl 1 (intsE vb) uv, V.sl 1 (strsE sb) us] 0), (5, .int .i64 i)] ∧ H' = H ∧ ∀ j, j < i → va[j]? = vb[j]?) ?_ va.length ⟨0, by omega, by simp, rfl, by omega⟩
      rintro n a H' ⟨i, hi, rfl, rfl, hg⟩
      repeat (first | refine am_seq ?_ | (refine am_reg ?_; simp -implicitDefEqProofs (disch := omega) only [go_sem, eq_self, decide_true, decide_false, Nat.reduceBEq, Nat.reduceAdd, Nat.reduceSub, Nat.reduceMul, Nat.reduceEqDiff, Nat.reduceLeDiff, Nat.reduceLT, Int.reduceLE, Int.reduceLT, Int.reduceToNat, Int.reduceAdd, Int.reduceEq, Int.reduceNeg, AH.put_ne]) | (refine am_drw ?_; simp -implicitDefEqProofs (disch := omega) only [go_sem, eq_self, decide_true, decide_false, Nat.reduceBEq, Nat.reduceAdd, Nat.reduceSub, Nat.reduceMul, Nat.reduceEqDiff, Nat.reduceLeDiff, Nat.reduceLT, Int.reduceLE, Int.reduceLT, Int.reduceToNat, Int.reduceAdd, Int.reduceEq, Int.reduceNeg, AH.put_ne]) | refine am_block ?_)
      refine am_cond rfl (fun hc => ?_) (fun hc => ?_) <;> (try simp -implicitDefEqProofs (disch := omega) only [go_sem, eq_self, decide_true, decide_false, Nat.reduceBEq, Nat.reduceAdd, Nat.reduceSub, Nat.reduceMul, Nat.reduceEqDiff, Nat.reduceLeDiff, Nat.reduceLT, Int.reduceLE, Int.reduceLT, Int.reduceToNat, Int.reduceAdd, Int.reduceEq, Int.reduceNeg, AH.put_ne] at hc)
      · have hlt : i < va.length := by omega
        have hlt2 : i < vb.length := by omega
        refine am_skip ?_
        simp -implicitDefEqProofs (disch := omega) only [go_sem, eq_self, decide_true, decide_false, Nat.reduceBEq, Nat.reduceAdd, Nat.reduceSub, Nat.reduceMul, Nat.reduceEqDiff, Nat.reduceLeDiff, Nat.reduceLT, Int.reduceLE, Int.reduceLT, Int.reduceToNat, Int.reduceAdd, Int.reduceEq, Int.reduceNeg, AH.put_ne]
        repeat (first | refine am_seq ?_ | (refine am_reg ?_; simp -implicitDefEqProofs (disch := omega) only [go_sem, eq_self, decide_true, decide_false, Nat.reduceBEq, Nat.reduceAdd, Nat.reduceSub, Nat.reduceMul, Nat.reduceEqDiff, Nat.reduceLeDiff, Nat.reduceLT, Int.reduceLE, Int.reduceLT, Int.reduceToNat, Int.reduceAdd, Int.reduceEq, Int.reduceNeg, AH.put_ne, get_of_lt hlt, get_of_lt hlt2]) | (refine am_drw ?_; simp -implicitDefEqProofs (disch := omega) only [go_sem, eq_self, decide_true, decide_false, Nat.reduceBEq, Nat.reduceAdd, Nat.reduceSub, Nat.reduceMul, Nat.reduceEqDiff, Nat.reduceLeDiff, Nat.reduceLT, Int.reduceLE, Int.reduceLT, Int.reduceToNat, Int.reduceAdd, Int.reduceEq, Int.reduceNeg, AH.put_ne, get_of_lt hlt, get_of_lt hlt2]) | refine am_block ?_)
        refine am_cond rfl (fun hc => ?_) (fun hc => ?_) <;> (try simp -implicitDefEqProofs (disch := omega) only [go_sem, eq_self, decide_true, decide_false, Nat.reduceBEq, Nat.reduceAdd, Nat.reduceSub, Nat.reduceMul, Nat.reduceEqDiff, Nat.reduceLeDiff, Nat.reduceLT, Int.reduceLE, Int.reduceLT, Int.reduceToNat, Int.reduceAdd, Int.reduceEq, Int.reduceNeg, AH.put_ne] at hc)
        · repeat (first | refine am_seq ?_ | (refine am_reg ?_; simp -implicitDefEqProofs (disch := omega) only [go_sem, eq_self, decide_true, decide_false, Nat.reduceBEq, Nat.reduceAdd, Nat.reduceSub, Nat.reduceMul, Nat.reduceEqDiff, Nat.reduceLeDiff, Nat.reduceLT, Int.reduceLE, Int.reduceLT, Int.reduceToNat, Int.reduceAdd, Int.reduceEq, Int.reduceNeg, AH.put_ne]) | (refine am_drw ?_; simp -implicitDefEqProofs (disch := omega) only [go_sem, eq_self, decide_true, decide_false, Nat.reduceBEq, Nat.reduceAdd, Nat.reduceSub, Nat.reduceMul, Nat.reduceEqDiff, Nat.reduceLeDiff, Nat.reduceLT, Int.reduceLE, Int.reduceLT, Int.reduceToNat, Int.reduceAdd, Int.reduceEq, Int.reduceNeg, AH.put_ne]) | refine am_block ?_)
          refine am_ret ?_
          simp -implicitDefEqProofs (disch := omega) only [go_sem, eq_self, decide_true, decide_false, Nat.reduceBEq, Nat.reduceAdd, Nat.reduceSub, Nat.reduceMul, Nat.reduceEqDiff, Nat.reduceLeDiff, Nat.reduceLT, Int.reduceLE, Int.reduceLT, Int.reduceToNat, Int.reduceAdd, Int.reduceEq, Int.reduceNeg, AH.put_ne]
          have hn := not_t hc.symm
          simp only [decide_eq_false_iff_not] at hn
          rw [decide_eq_false]
          rintro ⟨rfl, rfl⟩
          exact hn rfl
        · refine am_skip ?_
          simp -implicitDefEqProofs (disch := omega) only [go_sem, eq_self, decide_true, decide_false, Nat.reduceBEq, Nat.reduceAdd, Nat.reduceSub, Nat.reduceMul, Nat.reduceEqDiff, Nat.reduceLeDiff, Nat.reduceLT, Int.reduceLE, Int.reduceLT, Int.reduceToNat, Int.reduceAdd, Int.reduceEq, Int.reduceNeg, AH.put_ne]
          repeat (first | refine am_seq ?_ | (refine am_reg ?_; simp -implicitDefEqProofs (disch := omega) only [go_sem, eq_self, decide_true, decide_false, Nat.reduceBEq, Nat.reduceAdd, Nat.reduceSub, Nat.reduceMul, Nat.reduceEqDiff, Nat.reduceLeDiff, Nat.reduceLT, Int.reduceLE, Int.reduceLT, Int.reduceToNat, Int.reduceAdd, Int.reduceEq, Int.reduceNeg, AH.put_ne, wrap_id]) | (refine am_drw ?_; simp -implicitDefEqProofs (disch := omega) only [go_sem, eq_self, decide_true, decide_false, Nat.reduceBEq, Nat.reduceAdd, Nat.reduceSub, Nat.reduceMul, Nat.reduceEqDiff, Nat.reduceLeDiff, Nat.reduceLT, Int.reduceLE, Int.reduceLT, Int.reduceToNat, Int.reduceAdd, Int.reduceEq, Int.reduceNeg, AH.put_ne, wrap_id]) | refine am_block ?_)
          refine ⟨n - 1, by omega, i + 1, by omega, by simp, fun j hj => ?_⟩
          by_cases e : j = i
          · subst e
            have := not_f hc.symm
            simp only [decide_eq_true_eq] at this
            rw [get_of_lt hlt, get_of_lt hlt2, this]
          · exact hg j (by omega)
      · refine am_exit ?_
        simp -implicitDefEqProofs (disch := omega) only [go_sem, eq_self, decide_true, decide_false, Nat.reduceBEq, Nat.reduceAdd, Nat.reduceSub, Nat.reduceMul, Nat.reduceEqDiff, Nat.reduceLeDiff, Nat.reduceLT, Int.reduceLE, Int.reduceLT, Int.reduceToNat, Int.reduceAdd, Int.reduceEq, Int.reduceNeg, AH.put_ne]
        have hva : va = vb := ext_of hc1 (fun j hj => hg j (by omega))
        subst hva
        clear hg hi hc
        repeat (first | refine am_seq ?_ | (refine am_reg ?_; simp -implicitDefEqProofs (disch := omega) only [go_sem, eq_self, decide_true, decide_false, Nat.reduceBEq, Nat.reduceAdd, Nat.reduceSub, Nat.reduceMul, Nat.reduceEqDiff, Nat.reduceLeDiff, Nat.reduceLT, Int.reduceLE, Int.reduceLT, Int.reduceToNat, Int.reduceAdd, Int.reduceEq, Int.reduceNeg, AH.put_ne]) | (refine am_drw ?_; simp -implicitDefEqProofs (disch := omega) only [go_sem, eq_self, decide_true, decide_false, Nat.reduceBEq, Nat.reduceAdd, Nat.reduceSub, Nat.reduceMul, Nat.reduceEqDiff, Nat.reduceLeDiff, Nat.reduceLT, Int.reduceLE, Int.reduceLT, Int.reduceToNat, Int.reduceAdd, Int.reduceEq, Int.reduceNeg, AH.put_ne]) | refine am_block ?_)
        refine am_loop (fun n a H2 => ∃ i : Nat, i + n = sa.length ∧ a = [(2, V.rptr [V.sl 1 (intsE va) tv, V.sl 1 (strsE sa) ts] 0), (3, V.rptr [V.sl 1 (intsE va) uv, V.sl 1 (strsE sb) us] 0), (6, .int .i64 i)] ∧ H2 = H' ∧ ∀ j, j < i → sa[j]? = sb[j]?) ?_ sa.length ⟨0, by omega, by simp, rfl, by omega⟩
        rintro n a H2 ⟨i, hi, rfl, rfl, hg⟩
        repeat (first | refine am_seq ?_ | (refine am_reg ?_; simp -implicitDefEqProofs (disch := omega) only [go_sem, eq_self, decide_true, decide_false, Nat.reduceBEq, Nat.reduceAdd, Nat.reduceSub, Nat.reduceMul, Nat.reduceEqDiff, Nat.reduceLeDiff, Nat.reduceLT, Int.reduceLE, Int.reduceLT, Int.reduceToNat, Int.reduceAdd, Int.reduceEq, Int.reduceNeg, AH.put_ne]) | (refine am_drw ?_; simp -implicitDefEqProofs (disch := omega) only [go_sem, eq_self, decide_true, decide_false, Nat.reduceBEq, Nat.reduceAdd, Nat.reduceSub, Nat.reduceMul, Nat.reduceEqDiff, Nat.reduceLeDiff, Nat.reduceLT, Int.reduceLE, Int.reduceLT, Int.reduceToNat, Int.reduceAdd, Int.reduceEq, Int.reduceNeg, AH.put_ne]) | refine am_block ?_)
        refine am_cond rfl (fun hc => ?_) (fun hc => ?_) <;> (try simp -implicitDefEqProofs (disch := omega) only [go_sem, eq_self, decide_true, decide_false, Nat.reduceBEq, Nat.reduceAdd, Nat.reduceSub, Nat.reduceMul, Nat.reduceEqDiff, Nat.reduceLeDiff, Nat.reduceLT, Int.reduceLE, Int.reduceLT, Int.reduceToNat, Int.reduceAdd, Int.reduceEq, Int.reduceNeg, AH.put_ne] at hc)
        · have hlt : i < sa.length := by omega
          have hlt2 : i < sb.length := by omega
          refine am_skip ?_
          simp -implicitDefEqProofs (disch := omega) only [go_sem, eq_self, decide_true, decide_false, Nat.reduceBEq, Nat.reduceAdd, Nat.reduceSub, Nat.reduceMul, Nat.reduceEqDiff, Nat.reduceLeDiff, Nat.reduceLT, Int.reduceLE, Int.reduceLT, Int.reduceToNat, Int.reduceAdd, Int.reduceEq, Int.reduceNeg, AH.put_ne]
          repeat (first | refine am_seq ?_ | (refine am_reg ?_; simp -implicitDefEqProofs (disch := omega) only [go_sem, eq_self, decide_true, decide_false, Nat.reduceBEq, Nat.reduceAdd, Nat.reduceSub, Nat.reduceMul, Nat.reduceEqDiff, Nat.reduceLeDiff, Nat.reduceLT, Int.reduceLE, Int.reduceLT, Int.reduceToNat, Int.reduceAdd, Int.reduceEq, Int.reduceNeg, AH.put_ne, get_of_lt hlt, get_of_lt hlt2]) | (refine am_drw ?_; simp -implicitDefEqProofs (disch := omega) only [go_sem, eq_self, decide_true, decide_false, Nat.reduceBEq, Nat.reduceAdd, Nat.reduceSub, Nat.reduceMul, Nat.reduceEqDiff, Nat.reduceLeDiff, Nat.reduceLT, Int.reduceLE, Int.reduceLT, Int.reduceToNat, Int.reduceAdd, Int.reduceEq, Int.reduceNeg, AH.put_ne, get_of_lt hlt, get_of_lt hlt2]) | refine am_block ?_)
          refine am_cond rfl (fun hc => ?_) (fun hc => ?_) <;> (try simp -implicitDefEqProofs (disch := omega) only [go_sem, eq_self, decide_true, decide_false, Nat.reduceBEq, Nat.reduceAdd, Nat.reduceSub, Nat.reduceMul, Nat.reduceEqDiff, Nat.reduceLeDiff, Nat.reduceLT, Int.reduceLE, Int.reduceLT, Int.reduceToNat, Int.reduceAdd, Int.reduceEq, Int.reduceNeg, AH.put_ne] at hc)
          · repeat (first | refine am_seq ?_ | (refine am_reg ?_; simp -implicitDefEqProofs (disch := omega) only [go_sem, eq_self, decide_true, decide_false, Nat.reduceBEq, Nat.reduceAdd, Nat.reduceSub, Nat.reduceMul, Nat.reduceEqDiff, Nat.reduceLeDiff, Nat.reduceLT, Int.reduceLE, Int.reduceLT, Int.reduceToNat, Int.reduceAdd, Int.reduceEq, Int.reduceNeg, AH.put_ne]) | (refine am_drw ?_; simp -implicitDefEqProofs (disch := omega) only [go_sem, eq_self, decide_true, decide_false, Nat.reduceBEq, Nat.reduceAdd, Nat.reduceSub, Nat.reduceMul, Nat.reduceEqDiff, Nat.reduceLeDiff, Nat.reduceLT, Int.reduceLE, Int.reduceLT, Int.reduceToNat, Int.reduceAdd, Int.reduceEq, Int.reduceNeg, AH.put_ne]) | refine am_block ?_)
            refine am_ret ?_
            simp -implicitDefEqProofs (disch := omega) only [go_sem, eq_self, decide_true, decide_false, Nat.reduceBEq, Nat.reduceAdd, Nat.reduceSub, Nat.reduceMul, Nat.reduceEqDiff, Nat.reduceLeDiff, Nat.reduceLT, Int.reduceLE, Int.reduceLT, Int.reduceToNat, Int.reduceAdd, Int.reduceEq, Int.reduceNeg, AH.put_ne]
            have hn := not_t hc.symm
            simp only [decide_eq_false_iff_not] at hn
            rw [decide_eq_false]
            rintro ⟨_, rfl⟩
            exact hn rfl
          · refine am_skip ?_
            simp -implicitDefEqProofs (disch := omega) only [go_sem, eq_self, decide_true, decide_false, Nat.reduceBEq, Nat.reduceAdd, Nat.reduceSub, Nat.reduceMul, Nat.reduceEqDiff, Nat.reduceLeDiff, Nat.reduceLT, Int.reduceLE, Int.reduceLT, Int.reduceToNat, Int.reduceAdd, Int.reduceEq, Int.reduceNeg, AH.put_ne]
            repeat (first | refine am_seq ?_ | (refine am_reg ?_; simp -implicitDefEqProofs (disch := omega) only [go_sem, eq_self, decide_true, decide_false, Nat.reduceBEq, Nat.reduceAdd, Nat.reduceSub, Nat.reduceMul, Nat.reduceEqDiff, Nat.reduceLeDiff, Nat.reduceLT, Int.reduceLE, Int.reduceLT, Int.reduceToNat, Int.reduceAdd, Int.reduceEq, Int.reduceNeg, AH.put_ne, wrap_id]) | (refine am_drw ?_; simp -implicitDefEqProofs (disch := omega) only [go_sem, eq_self, decide_true, decide_false, Nat.reduceBEq, Nat.reduceAdd, Nat.reduceSub, Nat.reduceMul, Nat.reduceEqDiff, Nat.reduceLeDiff, Nat.reduceLT, Int.reduceLE, Int.reduceLT, Int.reduceToNat, Int.reduceAdd, Int.reduceEq, Int.reduceNeg, AH.put_ne, wrap_id]) | refine am_block ?_)
            refine ⟨n - 1, by omega, i + 1, by omega, by simp, fun j hj => ?_⟩
            by_cases e : j = i
            · subst e
              have := not_f hc.symm
              simp only [decide_eq_true_eq] at this
              rw [get_of_lt hlt, get_of_lt hlt2, this]
            · exact hg j (by omega)
        · refine am_exit ?_
          simp -implicitDefEqProofs (disch := omega) only [go_sem, eq_self, decide_true, decide_false, Nat.reduceBEq, Nat.reduceAdd, Nat.reduceSub, Nat.reduceMul, Nat.reduceEqDiff, Nat.reduceLeDiff, Nat.reduceLT, Int.reduceLE, Int.reduceLT, Int.reduceToNat, Int.reduceAdd, Int.reduceEq, Int.reduceNeg, AH.put_ne]
          have hsa : sa = sb := ext_of hc2 (fun j hj => hg j (by omega))
          repeat (first | refine am_seq ?_ | (refine am_reg ?_; simp -implicitDefEqProofs (disch := omega) only [go_sem, eq_self, decide_true, decide_false, Nat.reduceBEq, Nat.reduceAdd, Nat.reduceSub, Nat.reduceMul, Nat.reduceEqDiff, Nat.reduceLeDiff, Nat.reduceLT, Int.reduceLE, Int.reduceLT, Int.reduceToNat, Int.reduceAdd, Int.reduceEq, Int.reduceNeg, AH.put_ne]) | (refine am_drw ?_; simp -implicitDefEqProofs (disch := omega) only [go_sem, eq_self, decide_true, decide_false, Nat.reduceBEq, Nat.reduceAdd, Nat.reduceSub, Nat.reduceMul, Nat.reduceEqDiff, Nat.reduceLeDiff, Nat.reduceLT, Int.reduceLE, Int.reduceLT, Int.reduceToNat, Int.reduceAdd, Int.reduceEq, Int.reduceNeg, AH.put_ne]) | refine am_block ?_)
          refine am_ret ?_
          simp -implicitDefEqProofs (disch := omega) only [go_sem, eq_self, decide_true, decide_false, Nat.reduceBEq, Nat.reduceAdd, Nat.reduceSub, Nat.reduceMul, Nat.reduceEqDiff, Nat.reduceLeDiff, Nat.reduceLT, Int.reduceLE, Int.reduceLT, Int.reduceToNat, Int.reduceAdd, Int.reduceEq, Int.reduceNeg, AH.put_ne]
          simp [hsa]
  · refine am_cond rfl (fun hc => ?_) (fun hc => ?_) <;> (try simp -implicitDefEqProofs (disch := omega) only [go_sem, eq_self, decide_true, decide_false, Nat.reduceBEq, Nat.reduceAdd, Nat.reduceSub, Nat.reduceMul, Nat.reduceEqDiff, Nat.reduceLeDiff, Nat.reduceLT, Int.reduceLE, Int.reduceLT, Int.reduceToNat, Int.reduceAdd, Int.reduceEq, Int.reduceNeg, AH.put_ne] at hc)
    repeat (first | refine am_seq ?_ | (refine am_reg ?_; simp -implicitDefEqProofs (disch := omega) only [go_sem, eq_self, decide_true, decide_false, Nat.reduceBEq, Nat.reduceAdd, Nat.reduceSub, Nat.reduceMul, Nat.reduceEqDiff, Nat.reduceLeDiff, Nat.reduceLT, Int.reduceLE, Int.reduceLT, Int.reduceToNat, Int.reduceAdd, Int.reduceEq, Int.reduceNeg, AH.put_ne]) | (refine am_drw ?_; simp -implicitDefEqProofs (disch := omega) only [go_sem, eq_self, decide_true, decide_false, Nat.reduceBEq, Nat.reduceAdd, Nat.reduceSub, Nat.reduceMul, Nat.reduceEqDiff, Nat.reduceLeDiff, Nat.reduceLT, Int.reduceLE, Int.reduceLT, Int.reduceToNat, Int.reduceAdd, Int.reduceEq, Int.reduceNeg, AH.put_ne]) | refine am_block ?_)
    refine am_ret ?_
    simp -implicitDefEqProofs (disch := omega) only [go_sem, eq_self, decide_true, decide_false, Nat.reduceBEq, Nat.reduceAdd, Nat.reduceSub, Nat.reduceMul, Nat.reduceEqDiff, Nat.reduceLeDiff, Nat.reduceLT, Int.reduceLE, Int.reduceLT, Int.reduceToNat, Int.reduceAdd, Int.reduceEq, Int.reduceNeg, AH.put_ne]
    simp only [decide_eq_false_iff_not] at h
    rw [decide_eq_false]
    rintro ⟨rfl, rfl⟩
    simp at h
end Go.Proofs.Ytmomncmddejcoaa
