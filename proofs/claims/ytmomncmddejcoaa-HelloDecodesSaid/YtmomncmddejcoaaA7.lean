/- Of the walks of this seat: contracts of functions of the given program, proved over the abstract values of the texts Vm. Conditions: as each theorem says. -/
import Derived.Test.YtmomncmddejcoaaA6
set_option linter.unusedVariables false
set_option linter.unusedSimpArgs false
namespace Go.Proofs.Ytmomncmddejcoaa
open Go.Vm
attribute [local go_sem] strsE_get strsE_length intsE_get intsE_length Int.toNat_natCast Option.map_some Int.natCast_nonneg decide_eq_true_eq decide_eq_false_iff_not
/- (flange/hello.Deal).Has -/
abbrev k16_0 : MC :=
  (.seq (.reg [
    ⟨(some 5), none, .val (.faddr 1 (.t 2))⟩,
    ⟨(some 6), none, .val (.load false 1 (.t 5))⟩,
    ⟨(some 7), none, .val (.mv (.t 1))⟩,
    ⟨(some 8), none, .call 40 [(.t 6), (.t 7)]⟩,
    ⟨(some 4), none, .val (.mv (.t 8))⟩] [4]) .ret)
abbrev k16 : MC :=
  (.seq (.reg [
    ⟨(some 2), none, .boxi (.t 0)⟩,
    ⟨(some 4), none, .val (.mv (.c (.bool false)))⟩] [1, 2]) k16_0)
theorem c16 : Try.f16.body.bind (mcOf Try.prog (List.contains [2] ·) (List.getD [([], [1, 2]), ([], [4])] · ([], [])) 9) = some k16 := by kernel_rfl
theorem r16 : rvsOf Try.prog Try.f16.results.toList = some [.tmp 4] := by kernel_rfl

/- flange/hello.Own -/
abbrev k17_0 : MC :=
  (.seq (.reg [
    ⟨(some 1), none, .bslice 1 2 [(.int .i64 0), (.int .i64 0)] [(0, 1, (.c (.int .i64 1))), (1, 1, (.c (.int .i64 2)))]⟩,
    ⟨(some 2), none, .bslice 1 2 [(.str []), (.str [])] [(0, 1, (.c (.str [105, 109, 112, 111, 114, 116]))), (1, 1, (.c (.str [117, 112, 103, 114, 97, 100, 101])))]⟩,
    ⟨(some 3), none, .build [.nilSl, .nilSl] [(0, 1, (.t 1)), (1, 1, (.t 2))]⟩,
    ⟨none, none, .store 2 (.t 0) (.t 3)⟩] [0]) .ret)
abbrev k17 : MC :=
  (.seq (.reg [
    ⟨(some 0), none, .zalloc [.nilSl, .nilSl]⟩] [0]) k17_0)
theorem c17 : Try.f17.body.bind (mcOf Try.prog (List.contains [] ·) (List.getD [([], [0]), ([], [0])] · ([], [])) 4) = some k17 := by kernel_rfl
theorem r17 : rvsOf Try.prog Try.f17.results.toList = some [.cell 0 true 2] := by kernel_rfl

/- flange/hello.Agree -/
abbrev k14_0 : MC :=
  .cond (.t 19) ((.seq (.reg [
     ⟨(some 20), none, .build [(.int .i64 0), .nilSl] []⟩,
     ⟨(some 21), none, .val (.mv (.t 8))⟩,
     ⟨none, none, .store 2 (.t 4) (.t 20)⟩,
     ⟨(some 5), none, .val (.mv (.t 21))⟩] [4, 5]) .ret)) (.skip)

abbrev k14_1 : MC :=
  (.seq (.reg [
    ⟨(some 18), none, .val (.mv (.t 8))⟩,
    ⟨(some 19), none, .val (.bin .neq .num (.t 18) (.c (.int .i64 0)))⟩] [2, 3, 4, 8, 12, 13, 19]) k14_0)

abbrev k14_2 : MC :=
  (.seq (.reg [
    ⟨(some 16), none, .val (.load true 2 (.t 7))⟩,
    ⟨(some 17), none, .call 34 [(.t 16)]⟩,
    ⟨(some 8), none, .val (.mv (.t 17))⟩] [2, 3, 4, 8, 12, 13]) k14_1)

abbrev k14_3 : MC :=
  .reg [
    ⟨(some 22), none, .val (.bin .add .num (.t 13) (.c (.int .i64 1)))⟩,
    ⟨(some 13), none, .val (.mv (.t 22))⟩] [2, 3, 4, 12, 13]

abbrev k14_4 : MC :=
  (.seq (.block 1 ((.seq (.reg [
     ⟨(some 15), none, .val (.aidx true 2 2 (.t 12) (.t 13))⟩,
     ⟨(some 7), none, .zalloc [.nilSl, .nilSl]⟩,
     ⟨none, none, .store 2 (.t 7) (.t 15)⟩] [2, 3, 4, 7, 12, 13]) k14_2))) k14_3)

abbrev k14_5 : MC :=
  (.seq (.cond (.t 14) (.skip) (.exit 0)) k14_4)

abbrev k14_6 : MC :=
  (.seq (.reg [
    ⟨(some 14), none, .val (.bin .lss .num (.t 13) (.c (.int .i64 2)))⟩] [2, 3, 4, 12, 13, 14]) k14_5)

abbrev k14_7 : MC :=
  .block 0 (.loop k14_6)

abbrev k14_8 : MC :=
  .cond (.t 30) ((.seq (.reg [
     ⟨(some 31), none, .build [(.int .i64 0), .nilSl] []⟩,
     ⟨none, none, .store 2 (.t 4) (.t 31)⟩,
     ⟨(some 5), none, .val (.mv (.c (.int .i64 8)))⟩] [4, 5]) .ret)) (.skip)

abbrev k14_9 : MC :=
  (.seq (.drw [
    ⟨(some 32), none, .val (.mv (.t 9))⟩,
    ⟨(some 33), none, .val (.mv (.t 9))⟩,
    ⟨(some 34), none, .val (.len .sl (.t 33))⟩,
    ⟨(some 35), none, .val (.bin .sub .num (.t 34) (.c (.int .i64 1)))⟩,
    ⟨(some 36), none, .val (.iaddr 1 (.t 32) (.t 35))⟩,
    ⟨(some 37), none, .val (.load false 1 (.t 36))⟩,
    ⟨(some 38), none, .val (.faddr 1 (.t 2))⟩,
    ⟨(some 39), none, .val (.load false 1 (.t 38))⟩,
    ⟨(some 40), none, .val (.faddr 1 (.t 3))⟩,
    ⟨(some 41), none, .val (.load false 1 (.t 40))⟩,
    ⟨(some 42), none, .call 38 [(.t 39), (.t 41)]⟩,
    ⟨(some 43), none, .build [(.int .i64 0), .nilSl] [(0, 1, (.t 37)), (1, 1, (.t 42))]⟩] [
    ⟨none, none, .store 2 (.t 4) (.t 43)⟩,
    ⟨(some 5), none, .val (.mv (.c (.int .i64 0)))⟩] [4, 5]) .ret)

abbrev k14_10 : MC :=
  (.seq ((.seq (.reg [
    ⟨(some 28), none, .val (.mv (.t 9))⟩,
    ⟨(some 29), none, .val (.len .sl (.t 28))⟩,
    ⟨(some 30), none, .val (.bin .eql .num (.t 29) (.c (.int .i64 0)))⟩] [2, 3, 4, 9, 30]) k14_8)) k14_9)

abbrev k14_11 : MC :=
  (.seq (.reg [
    ⟨(some 23), none, .val (.faddr 0 (.t 2))⟩,
    ⟨(some 24), none, .val (.load false 1 (.t 23))⟩,
    ⟨(some 25), none, .val (.faddr 0 (.t 3))⟩,
    ⟨(some 26), none, .val (.load false 1 (.t 25))⟩,
    ⟨(some 27), none, .call 37 [(.t 24), (.t 26)]⟩,
    ⟨(some 9), none, .val (.mv (.t 27))⟩] [2, 3, 4, 9]) k14_10)

abbrev k14_12 : MC :=
  (.seq ((.seq (.reg [
    ⟨(some 10), none, .val (.load true 2 (.t 2))⟩,
    ⟨(some 11), none, .val (.load true 2 (.t 3))⟩,
    ⟨(some 12), none, .build [.nilSl, .nilSl, .nilSl, .nilSl] [(0, 2, (.t 10)), (2, 2, (.t 11))]⟩,
    ⟨(some 13), none, .val (.mv (.c (.int .i64 0)))⟩] [2, 3, 4, 12, 13]) k14_7)) k14_11)
abbrev k14 : MC :=
  (.seq (.reg [
    ⟨(some 2), none, .boxi (.t 0)⟩,
    ⟨(some 3), none, .boxi (.t 1)⟩,
    ⟨(some 4), none, .zalloc [(.int .i64 0), .nilSl]⟩,
    ⟨(some 5), none, .val (.mv (.c (.int .i64 0)))⟩] [2, 3, 4]) k14_12)
theorem c14 : Try.f14.body.bind (mcOf Try.prog (List.contains [2, 3] ·) (List.getD [([], [2, 3, 4]), ([], [2, 3, 4, 12, 13]), ([], [2, 3, 4, 12, 13, 14]), ([], [2, 3, 4, 7, 12, 13]), ([], [2, 3, 4, 8, 12, 13]), ([], [2, 3, 4, 8, 12, 13, 19]), ([], [4, 5]), ([], [2, 3, 4, 12, 13]), ([], [2, 3, 4, 9]), ([], [2, 3, 4, 9, 30]), ([], [4, 5]), ([0, 0, 0, 0, 0, 0, 0, 0, 0, 0, 0, 0, 2, 2], [4, 5])] · ([], [])) 44) = some k14 := by kernel_rfl
theorem r14 : rvsOf Try.prog Try.f14.results.toList = some [.cell 4 true 2, .tmp 5] := by kernel_rfl

theorem has_calls (n : Int) (ss : List (List UInt8)) (x : List UInt8) (ts : Tok) (hl : ss.length < 4611686018427387904) (H : AH) :
    ACalls Try.prog 16 [.agg [.int .i64 n, .sl 1 (strsE ss) ts], .str x] H (fun o H' => o = .ret (.bool (decide (x ∈ ss))) ∧ H' = H) := by
  refine acalls Try.func16 c16 r16 (by simp [Try.ntmps16]) ?_
  repeat (first | refine am_seq ?_ | (refine am_reg ?_; simp -implicitDefEqProofs (disch := omega) only [go_sem, eq_self, decide_true, decide_false, Nat.reduceBEq, Nat.reduceAdd, Nat.reduceSub, Nat.reduceMul, Nat.reduceEqDiff, Nat.reduceLeDiff, Nat.reduceLT, Int.reduceLE, Int.reduceLT, Int.reduceToNat, Int.reduceAdd, Int.reduceEq, Int.reduceNeg, AH.put_ne]) | (refine am_drw ?_; simp -implicitDefEqProofs (disch := omega) only [go_sem, eq_self, decide_true, decide_false, Nat.reduceBEq, Nat.reduceAdd, Nat.reduceSub, Nat.reduceMul, Nat.reduceEqDiff, Nat.reduceLeDiff, Nat.reduceLT, Int.reduceLE, Int.reduceLT, Int.reduceToNat, Int.reduceAdd, Int.reduceEq, Int.reduceNeg, AH.put_ne]) | refine am_block ?_)
  refine call_of (contains_str ss x ts hl) ?_
  try simp -implicitDefEqProofs (disch := omega) only [go_sem, eq_self, decide_true, decide_false, Nat.reduceBEq, Nat.reduceAdd, Nat.reduceSub, Nat.reduceMul, Nat.reduceEqDiff, Nat.reduceLeDiff, Nat.reduceLT, Int.reduceLE, Int.reduceLT, Int.reduceToNat, Int.reduceAdd, Int.reduceEq, Int.reduceNeg, AH.put_ne]
  refine am_ret ?_
  simp -implicitDefEqProofs (disch := omega) only [go_sem, eq_self, decide_true, decide_false, Nat.reduceBEq, Nat.reduceAdd, Nat.reduceSub, Nat.reduceMul, Nat.reduceEqDiff, Nat.reduceLeDiff, Nat.reduceLT, Int.reduceLE, Int.reduceLT, Int.reduceToNat, Int.reduceAdd, Int.reduceEq, Int.reduceNeg, AH.put_ne]
def impS : List UInt8 := [105, 109, 112, 111, 114, 116]
def upgS : List UInt8 := [117, 112, 103, 114, 97, 100, 101]
theorem own_calls (H : AH) : ACalls Try.prog 17 [] H (fun o H' => o = .ret (.agg [.sl 1 (intsE [1, 2]) .tight, .sl 1 (strsE [impS, upgS]) .tight]) ∧ H' = H) := by
  refine ACalls.drop ?_
  refine acalls Try.func17 c17 r17 (by simp [Try.ntmps17]) ?_
  repeat (first | refine am_seq ?_ | (refine am_reg ?_; simp -implicitDefEqProofs (disch := omega) only [go_sem, eq_self, decide_true, decide_false, Nat.reduceBEq, Nat.reduceAdd, Nat.reduceSub, Nat.reduceMul, Nat.reduceEqDiff, Nat.reduceLeDiff, Nat.reduceLT, Int.reduceLE, Int.reduceLT, Int.reduceToNat, Int.reduceAdd, Int.reduceEq, Int.reduceNeg, AH.put_ne]) | (refine am_drw ?_; simp -implicitDefEqProofs (disch := omega) only [go_sem, eq_self, decide_true, decide_false, Nat.reduceBEq, Nat.reduceAdd, Nat.reduceSub, Nat.reduceMul, Nat.reduceEqDiff, Nat.reduceLeDiff, Nat.reduceLT, Int.reduceLE, Int.reduceLT, Int.reduceToNat, Int.reduceAdd, Int.reduceEq, Int.reduceNeg, AH.put_ne]) | refine am_block ?_)
  intro k hk
  repeat (first | refine am_seq ?_ | (refine am_reg ?_; simp -implicitDefEqProofs (disch := omega) only [go_sem, eq_self, decide_true, decide_false, Nat.reduceBEq, Nat.reduceAdd, Nat.reduceSub, Nat.reduceMul, Nat.reduceEqDiff, Nat.reduceLeDiff, Nat.reduceLT, Int.reduceLE, Int.reduceLT, Int.reduceToNat, Int.reduceAdd, Int.reduceEq, Int.reduceNeg, AH.put_ne]) | (refine am_drw ?_; simp -implicitDefEqProofs (disch := omega) only [go_sem, eq_self, decide_true, decide_false, Nat.reduceBEq, Nat.reduceAdd, Nat.reduceSub, Nat.reduceMul, Nat.reduceEqDiff, Nat.reduceLeDiff, Nat.reduceLT, Int.reduceLE, Int.reduceLT, Int.reduceToNat, Int.reduceAdd, Int.reduceEq, Int.reduceNeg, AH.put_ne]) | refine am_block ?_)
  refine am_ret ?_
  simp -implicitDefEqProofs (disch := omega) only [go_sem, eq_self, decide_true, decide_false, Nat.reduceBEq, Nat.reduceAdd, Nat.reduceSub, Nat.reduceMul, Nat.reduceEqDiff, Nat.reduceLeDiff, Nat.reduceLT, Int.reduceLE, Int.reduceLT, Int.reduceToNat, Int.reduceAdd, Int.reduceEq, Int.reduceNeg, AH.put_ne]
  exact ⟨⟨_, rfl, fun s x h => h⟩, AH.le_put (AH.le_refl _) hk _⟩
/-- What two agree on: the version, the skills, the error. -/
def agreeS (va : List Int) (sa : List (List UInt8)) (vb : List Int) (sb : List (List UInt8)) : Int × List (List UInt8) × Int :=
  if wrong va sa ≠ 0 then (0, [], wrong va sa) else if wrong vb sb ≠ 0 then (0, [], wrong vb sb) else
  if bothL va vb = [] then (0, [], 8) else ((bothL va vb)[(bothL va vb).length - 1]?.getD 0, bothL sa sb, 0)
theorem deal_sub {n e : Int} {s : St} {x : Value} (h : s.val (.tuple [.agg [.int .i64 n, .nilSl], .int .i64 e]) x) : s.val (.tuple [.agg [.int .i64 n, .sl 1 [] .no], .int .i64 e]) x := by
  cases h with
  | tuple _ xs h => exact .tuple _ _ (vals_sub (.cons (agg_sub rfl (.cons (fun _ h => h) (.cons (fun _ h => nil_no _ h) .nil))) (.cons (fun _ h => h) .nil)) h)
theorem agree_calls (va : List Int) (sa : List (List UInt8)) (vb : List Int) (sb : List (List UInt8)) (tv ts uv us : Tok) (hv : va.length < 10000000) (hl : sa.length < 10000000) (hs : ∀ s ∈ sa, s.length < 4611686018427387904)
    (hv2 : vb.length < 10000000) (hl2 : sb.length < 10000000) (hs2 : ∀ s ∈ sb, s.length < 4611686018427387904) (H : AH) :
    ACalls Try.prog 14 [.agg [.sl 1 (intsE va) tv, .sl 1 (strsE sa) ts], .agg [.sl 1 (intsE vb) uv, .sl 1 (strsE sb) us]] H (fun o H' => o = .ret (.tuple [.agg [.int .i64 (agreeS va sa vb sb).1, .sl 1 (strsE (agreeS va sa vb sb).2.1) .no], .int .i64 (agreeS va sa vb sb).2.2]) ∧ H' = H) := by
  refine ACalls.drop ?_
  refine acalls Try.func14 c14 r14 (by simp [Try.ntmps14]) ?_
  repeat (first | refine am_seq ?_ | (refine am_reg ?_; simp -implicitDefEqProofs (disch := omega) only [go_sem, eq_self, decide_true, decide_false, Nat.reduceBEq, Nat.reduceAdd, Nat.reduceSub, Nat.reduceMul, Nat.reduceEqDiff, Nat.reduceLeDiff, Nat.reduceLT, Int.reduceLE, Int.reduceLT, Int.reduceToNat, Int.reduceAdd, Int.reduceEq, Int.reduceNeg, AH.put_ne]) | (refine am_drw ?_; simp -implicitDefEqProofs (disch := omega) only [go_sem, eq_self, decide_true, decide_false, Nat.reduceBEq, Nat.reduceAdd, Nat.reduceSub, Nat.reduceMul, Nat.reduceEqDiff, Nat.reduceLeDiff, Nat.reduceLT, Int.reduceLE, Int.reduceLT, Int.reduceToNat, Int.reduceAdd, Int.reduceEq, Int.reduceNeg, AH.put_ne]) | refine am_block ?_)
  intro k hk
  repeat (first | refine am_seq ?_ | (refine am_reg ?_; simp -implicitDefEqProofs (disch := omega) only [go_sem, eq_self, decide_true, decide_false, Nat.reduceBEq, Nat.reduceAdd, Nat.reduceSub, Nat.reduceMul, Nat.reduceEqDiff, Nat.reduceLeDiff, Nat.reduceLT, Int.reduceLE, Int.reduceLT, Int.reduceToNat, Int.reduceAdd, Int.reduceEq, Int.reduceNeg, AH.put_ne]) | (refine am_drw ?_; simp -implicitDefEqProofs (disch := omega) only [go_sem, eq_self, decide_true, decide_false, Nat.reduceBEq, Nat.reduceAdd, Nat.reduceSub, Nat.reduceMul, Nat.reduceEqDiff, Nat.reduceLeDiff, Nat.reduceLT, Int.reduceLE, Int.reduceLT, Int.reduceToNat, Int.reduceAdd, Int.reduceEq, Int.reduceNeg, AH.put_ne]) | refine am_block ?_)
  refine am_loop (fun n a H' => (H.put k (.cells [.int .i64 0, .nilSl])).le H' ∧ ((n = 2 ∧ a = [(2, V.rptr [V.sl 1 (intsE va) tv, V.sl 1 (strsE sa) ts] 0), (3, V.rptr [V.sl 1 (intsE vb) uv, V.sl 1 (strsE sb) us] 0), (4, V.ptr k 0), (12, V.agg [V.sl 1 (intsE va) tv, V.sl 1 (strsE sa) ts, V.sl 1 (intsE vb) uv, V.sl 1 (strsE sb) us]), (13, V.int IntKind.i64 0)])
    ∨ (n = 1 ∧ wrong va sa = 0 ∧ a = [(2, V.rptr [V.sl 1 (intsE va) tv, V.sl 1 (strsE sa) ts] 0), (3, V.rptr [V.sl 1 (intsE vb) uv, V.sl 1 (strsE sb) us] 0), (4, V.ptr k 0), (12, V.agg [V.sl 1 (intsE va) tv, V.sl 1 (strsE sa) ts, V.sl 1 (intsE vb) uv, V.sl 1 (strsE sb) us]), (13, V.int IntKind.i64 1)])
    ∨ (n = 0 ∧ wrong va sa = 0 ∧ wrong vb sb = 0 ∧ a = [(2, V.rptr [V.sl 1 (intsE va) tv, V.sl 1 (strsE sa) ts] 0), (3, V.rptr [V.sl 1 (intsE vb) uv, V.sl 1 (strsE sb) us] 0), (4, V.ptr k 0), (12, V.agg [V.sl 1 (intsE va) tv, V.sl 1 (strsE sa) ts, V.sl 1 (intsE vb) uv, V.sl 1 (strsE sb) us]), (13, V.int IntKind.i64 2)]))) ?_ 2 ⟨AH.le_refl _, .inl ⟨rfl, rfl⟩⟩
  rintro n a H' ⟨hle, ⟨rfl, rfl⟩ | ⟨rfl, hw, rfl⟩ | ⟨rfl, hw, hw2, rfl⟩⟩
  · repeat (first | refine am_seq ?_ | (refine am_reg ?_; simp -implicitDefEqProofs (disch := omega) only [go_sem, eq_self, decide_true, decide_false, Nat.reduceBEq, Nat.reduceAdd, Nat.reduceSub, Nat.reduceMul, Nat.reduceEqDiff, Nat.reduceLeDiff, Nat.reduceLT, Int.reduceLE, Int.reduceLT, Int.reduceToNat, Int.reduceAdd, Int.reduceEq, Int.reduceNeg, AH.put_ne]) | (refine am_drw ?_; simp -implicitDefEqProofs (disch := omega) only [go_sem, eq_self, decide_true, decide_false, Nat.reduceBEq, Nat.reduceAdd, Nat.reduceSub, Nat.reduceMul, Nat.reduceEqDiff, Nat.reduceLeDiff, Nat.reduceLT, Int.reduceLE, Int.reduceLT, Int.reduceToNat, Int.reduceAdd, Int.reduceEq, Int.reduceNeg, AH.put_ne]) | refine am_block ?_)
    refine am_cond rfl (fun hc => ?_) (fun hc => ?_) <;> (try simp -implicitDefEqProofs (disch := omega) only [go_sem, eq_self, decide_true, decide_false, Nat.reduceBEq, Nat.reduceAdd, Nat.reduceSub, Nat.reduceMul, Nat.reduceEqDiff, Nat.reduceLeDiff, Nat.reduceLT, Int.reduceLE, Int.reduceLT, Int.reduceToNat, Int.reduceAdd, Int.reduceEq, Int.reduceNeg, AH.put_ne] at hc)
    refine am_skip ?_
    simp -implicitDefEqProofs (disch := omega) only [go_sem, eq_self, decide_true, decide_false, Nat.reduceBEq, Nat.reduceAdd, Nat.reduceSub, Nat.reduceMul, Nat.reduceEqDiff, Nat.reduceLeDiff, Nat.reduceLT, Int.reduceLE, Int.reduceLT, Int.reduceToNat, Int.reduceAdd, Int.reduceEq, Int.reduceNeg, AH.put_ne]
    repeat (first | refine am_seq ?_ | (refine am_reg ?_; simp -implicitDefEqProofs (disch := omega) only [go_sem, eq_self, decide_true, decide_false, Nat.reduceBEq, Nat.reduceAdd, Nat.reduceSub, Nat.reduceMul, Nat.reduceEqDiff, Nat.reduceLeDiff, Nat.reduceLT, Int.reduceLE, Int.reduceLT, Int.reduceToNat, Int.reduceAdd, Int.reduceEq, Int.reduceNeg, AH.put_ne]) | (refine am_drw ?_; simp -implicitDefEqProofs (disch := omega) only [go_sem, eq_self, decide_true, decide_false, Nat.reduceBEq, Nat.reduceAdd, Nat.reduceSub, Nat.reduceMul, Nat.reduceEqDiff, Nat.reduceLeDiff, Nat.reduceLT, Int.reduceLE, Int.reduceLT, Int.reduceToNat, Int.reduceAdd, Int.reduceEq, Int.reduceNeg, AH.put_ne]) | refine am_block ?_)
    intro k2 hk2
    repeat (first | refine am_seq ?_ | (refine am_reg ?_; simp -implicitDefEqProofs (disch := omega) only [go_sem, eq_self, decide_true, decide_false, Nat.reduceBEq, Nat.reduceAdd, Nat.reduceSub, Nat.reduceMul, Nat.reduceEqDiff, Nat.reduceLeDiff, Nat.reduceLT, Int.reduceLE, Int.reduceLT, Int.reduceToNat, Int.reduceAdd, Int.reduceEq, Int.reduceNeg, AH.put_ne]) | (refine am_drw ?_; simp -implicitDefEqProofs (disch := omega) only [go_sem, eq_self, decide_true, decide_false, Nat.reduceBEq, Nat.reduceAdd, Nat.reduceSub, Nat.reduceMul, Nat.reduceEqDiff, Nat.reduceLeDiff, Nat.reduceLT, Int.reduceLE, Int.reduceLT, Int.reduceToNat, Int.reduceAdd, Int.reduceEq, Int.reduceNeg, AH.put_ne]) | refine am_block ?_)
    refine call_of (right_calls va sa tv ts (by omega) (by omega) hs) ?_
    try simp -implicitDefEqProofs (disch := omega) only [go_sem, eq_self, decide_true, decide_false, Nat.reduceBEq, Nat.reduceAdd, Nat.reduceSub, Nat.reduceMul, Nat.reduceEqDiff, Nat.reduceLeDiff, Nat.reduceLT, Int.reduceLE, Int.reduceLT, Int.reduceToNat, Int.reduceAdd, Int.reduceEq, Int.reduceNeg, AH.put_ne]
    repeat (first | refine am_seq ?_ | (refine am_reg ?_; simp -implicitDefEqProofs (disch := omega) only [go_sem, eq_self, decide_true, decide_false, Nat.reduceBEq, Nat.reduceAdd, Nat.reduceSub, Nat.reduceMul, Nat.reduceEqDiff, Nat.reduceLeDiff, Nat.reduceLT, Int.reduceLE, Int.reduceLT, Int.reduceToNat, Int.reduceAdd, Int.reduceEq, Int.reduceNeg, AH.put_ne]) | (refine am_drw ?_; simp -implicitDefEqProofs (disch := omega) only [go_sem, eq_self, decide_true, decide_false, Nat.reduceBEq, Nat.reduceAdd, Nat.reduceSub, Nat.reduceMul, Nat.reduceEqDiff, Nat.reduceLeDiff, Nat.reduceLT, Int.reduceLE, Int.reduceLT, Int.reduceToNat, Int.reduceAdd, Int.reduceEq, Int.reduceNeg, AH.put_ne]) | refine am_block ?_)
    have hH : H.le H' := fun i o h => hle i o (AH.le_put (AH.le_refl H) hk _ i o h)
    have hkk : H' k = some (.cells [.int .i64 0, .nilSl]) := hle k _ (AH.put_same _ _ _)
    have hne : k ≠ k2 := by rintro rfl; rw [hkk] at hk2; cases hk2
    refine am_cond rfl (fun hc => ?_) (fun hc => ?_) <;> (try simp -implicitDefEqProofs (disch := omega) only [go_sem, eq_self, decide_true, decide_false, Nat.reduceBEq, Nat.reduceAdd, Nat.reduceSub, Nat.reduceMul, Nat.reduceEqDiff, Nat.reduceLeDiff, Nat.reduceLT, Int.reduceLE, Int.reduceLT, Int.reduceToNat, Int.reduceAdd, Int.reduceEq, Int.reduceNeg, AH.put_ne] at hc)
    · repeat (first | refine am_seq ?_ | (refine am_reg ?_; simp -implicitDefEqProofs (disch := omega) only [go_sem, eq_self, decide_true, decide_false, Nat.reduceBEq, Nat.reduceAdd, Nat.reduceSub, Nat.reduceMul, Nat.reduceEqDiff, Nat.reduceLeDiff, Nat.reduceLT, Int.reduceLE, Int.reduceLT, Int.reduceToNat, Int.reduceAdd, Int.reduceEq, Int.reduceNeg, AH.put_ne, AH.put_ne _ _ hne, hkk]) | (refine am_drw ?_; simp -implicitDefEqProofs (disch := omega) only [go_sem, eq_self, decide_true, decide_false, Nat.reduceBEq, Nat.reduceAdd, Nat.reduceSub, Nat.reduceMul, Nat.reduceEqDiff, Nat.reduceLeDiff, Nat.reduceLT, Int.reduceLE, Int.reduceLT, Int.reduceToNat, Int.reduceAdd, Int.reduceEq, Int.reduceNeg, AH.put_ne, AH.put_ne _ _ hne, hkk]) | refine am_block ?_)
      refine am_ret ?_
      simp -implicitDefEqProofs (disch := omega) only [go_sem, eq_self, decide_true, decide_false, Nat.reduceBEq, Nat.reduceAdd, Nat.reduceSub, Nat.reduceMul, Nat.reduceEqDiff, Nat.reduceLeDiff, Nat.reduceLT, Int.reduceLE, Int.reduceLT, Int.reduceToNat, Int.reduceAdd, Int.reduceEq, Int.reduceNeg, AH.put_ne]
      refine ⟨⟨_, rfl, fun s x h => ?_⟩, AH.le_put (AH.le_put hH (none_of_le hH hk2) _) hk _⟩
      rw [show agreeS va sa vb sb = (0, [], wrong va sa) from by rw [agreeS, if_pos (by simpa using hc)]]
      exact deal_sub h
    · refine am_skip ?_
      simp -implicitDefEqProofs (disch := omega) only [go_sem, eq_self, decide_true, decide_false, Nat.reduceBEq, Nat.reduceAdd, Nat.reduceSub, Nat.reduceMul, Nat.reduceEqDiff, Nat.reduceLeDiff, Nat.reduceLT, Int.reduceLE, Int.reduceLT, Int.reduceToNat, Int.reduceAdd, Int.reduceEq, Int.reduceNeg, AH.put_ne]
      repeat (first | refine am_seq ?_ | (refine am_reg ?_; simp -implicitDefEqProofs (disch := omega) only [go_sem, eq_self, decide_true, decide_false, Nat.reduceBEq, Nat.reduceAdd, Nat.reduceSub, Nat.reduceMul, Nat.reduceEqDiff, Nat.reduceLeDiff, Nat.reduceLT, Int.reduceLE, Int.reduceLT, Int.reduceToNat, Int.reduceAdd, Int.reduceEq, Int.reduceNeg, AH.put_ne]) | (refine am_drw ?_; simp -implicitDefEqProofs (disch := omega) only [go_sem, eq_self, decide_true, decide_false, Nat.reduceBEq, Nat.reduceAdd, Nat.reduceSub, Nat.reduceMul, Nat.reduceEqDiff, Nat.reduceLeDiff, Nat.reduceLT, Int.reduceLE, Int.reduceLT, Int.reduceToNat, Int.reduceAdd, Int.reduceEq, Int.reduceNeg, AH.put_ne]) | refine am_block ?_)
      exact ⟨1, by omega, AH.le_put hle (none_of_le hle hk2) _, .inr (.inl ⟨rfl, by simpa using hc, rfl⟩)⟩
  · repeat (first | refine am_seq ?_ | (refine am_reg ?_; simp -implicitDefEqProofs (disch := omega) only [go_sem, eq_self, decide_true, decide_false, Nat.reduceBEq, Nat.reduceAdd, Nat.reduceSub, Nat.reduceMul, Nat.reduceEqDiff, Nat.reduceLeDiff, Nat.reduceLT, Int.reduceLE, Int.reduceLT, Int.reduceToNat, Int.reduceAdd, Int.reduceEq, Int.reduceNeg, AH.put_ne]) | (refine am_drw ?_; simp -implicitDefEqProofs (disch := omega) only [go_sem, eq_self, decide_true, decide_false, Nat.reduceBEq, Nat.reduceAdd, Nat.reduceSub, Nat.reduceMul, Nat.reduceEqDiff, Nat.reduceLeDiff, Nat.reduceLT, Int.reduceLE, Int.reduceLT, Int.reduceToNat, Int.reduceAdd, Int.reduceEq, Int.reduceNeg, AH.put_ne]) | refine am_block ?_)
    refine am_cond rfl (fun hc => ?_) (fun hc => ?_) <;> (try simp -implicitDefEqProofs (disch := omega) only [go_sem, eq_self, decide_true, decide_false, Nat.reduceBEq, Nat.reduceAdd, Nat.reduceSub, Nat.reduceMul, Nat.reduceEqDiff, Nat.reduceLeDiff, Nat.reduceLT, Int.reduceLE, Int.reduceLT, Int.reduceToNat, Int.reduceAdd, Int.reduceEq, Int.reduceNeg, AH.put_ne] at hc)
    refine am_skip ?_
    simp -implicitDefEqProofs (disch := omega) only [go_sem, eq_self, decide_true, decide_false, Nat.reduceBEq, Nat.reduceAdd, Nat.reduceSub, Nat.reduceMul, Nat.reduceEqDiff, Nat.reduceLeDiff, Nat.reduceLT, Int.reduceLE, Int.reduceLT, Int.reduceToNat, Int.reduceAdd, Int.reduceEq, Int.reduceNeg, AH.put_ne]
    repeat (first | refine am_seq ?_ | (refine am_reg ?_; simp -implicitDefEqProofs (disch := omega) only [go_sem, eq_self, decide_true, decide_false, Nat.reduceBEq, Nat.reduceAdd, Nat.reduceSub, Nat.reduceMul, Nat.reduceEqDiff, Nat.reduceLeDiff, Nat.reduceLT, Int.reduceLE, Int.reduceLT, Int.reduceToNat, Int.reduceAdd, Int.reduceEq, Int.reduceNeg, AH.put_ne]) | (refine am_drw ?_; simp -implicitDefEqProofs (disch := omega) only [go_sem, eq_self, decide_true, decide_false, Nat.reduceBEq, Nat.reduceAdd, Nat.reduceSub, Nat.reduceMul, Nat.reduceEqDiff, Nat.reduceLeDiff, Nat.reduceLT, Int.reduceLE, Int.reduceLT, Int.reduceToNat, Int.reduceAdd, Int.reduceEq, Int.reduceNeg, AH.put_ne]) | refine am_block ?_)
    intro k2 hk2
    repeat (first | refine am_seq ?_ | (refine am_reg ?_; simp -implicitDefEqProofs (disch := omega) only [go_sem, eq_self, decide_true, decide_false, Nat.reduceBEq, Nat.reduceAdd, Nat.reduceSub, Nat.reduceMul, Nat.reduceEqDiff, Nat.reduceLeDiff, Nat.reduceLT, Int.reduceLE, Int.reduceLT, Int.reduceToNat, Int.reduceAdd, Int.reduceEq, Int.reduceNeg, AH.put_ne]) | (refine am_drw ?_; simp -implicitDefEqProofs (disch := omega) only [go_sem, eq_self, decide_true, decide_false, Nat.reduceBEq, Nat.reduceAdd, Nat.reduceSub, Nat.reduceMul, Nat.reduceEqDiff, Nat.reduceLeDiff, Nat.reduceLT, Int.reduceLE, Int.reduceLT, Int.reduceToNat, Int.reduceAdd, Int.reduceEq, Int.reduceNeg, AH.put_ne]) | refine am_block ?_)
    refine call_of (right_calls vb sb uv us (by omega) (by omega) hs2) ?_
    try simp -implicitDefEqProofs (disch := omega) only [go_sem, eq_self, decide_true, decide_false, Nat.reduceBEq, Nat.reduceAdd, Nat.reduceSub, Nat.reduceMul, Nat.reduceEqDiff, Nat.reduceLeDiff, Nat.reduceLT, Int.reduceLE, Int.reduceLT, Int.reduceToNat, Int.reduceAdd, Int.reduceEq, Int.reduceNeg, AH.put_ne]
    repeat (first | refine am_seq ?_ | (refine am_reg ?_; simp -implicitDefEqProofs (disch := omega) only [go_sem, eq_self, decide_true, decide_false, Nat.reduceBEq, Nat.reduceAdd, Nat.reduceSub, Nat.reduceMul, Nat.reduceEqDiff, Nat.reduceLeDiff, Nat.reduceLT, Int.reduceLE, Int.reduceLT, Int.reduceToNat, Int.reduceAdd, Int.reduceEq, Int.reduceNeg, AH.put_ne]) | (refine am_drw ?_; simp -implicitDefEqProofs (disch := omega) only [go_sem, eq_self, decide_true, decide_false, Nat.reduceBEq, Nat.reduceAdd, Nat.reduceSub, Nat.reduceMul, Nat.reduceEqDiff, Nat.reduceLeDiff, Nat.reduceLT, Int.reduceLE, Int.reduceLT, Int.reduceToNat, Int.reduceAdd, Int.reduceEq, Int.reduceNeg, AH.put_ne]) | refine am_block ?_)
    have hH : H.le H' := fun i o h => hle i o (AH.le_put (AH.le_refl H) hk _ i o h)
    have hkk : H' k = some (.cells [.int .i64 0, .nilSl]) := hle k _ (AH.put_same _ _ _)
    have hne : k ≠ k2 := by rintro rfl; rw [hkk] at hk2; cases hk2
    refine am_cond rfl (fun hc => ?_) (fun hc => ?_) <;> (try simp -implicitDefEqProofs (disch := omega) only [go_sem, eq_self, decide_true, decide_false, Nat.reduceBEq, Nat.reduceAdd, Nat.reduceSub, Nat.reduceMul, Nat.reduceEqDiff, Nat.reduceLeDiff, Nat.reduceLT, Int.reduceLE, Int.reduceLT, Int.reduceToNat, Int.reduceAdd, Int.reduceEq, Int.reduceNeg, AH.put_ne] at hc)
    · repeat (first | refine am_seq ?_ | (refine am_reg ?_; simp -implicitDefEqProofs (disch := omega) only [go_sem, eq_self, decide_true, decide_false, Nat.reduceBEq, Nat.reduceAdd, Nat.reduceSub, Nat.reduceMul, Nat.reduceEqDiff, Nat.reduceLeDiff, Nat.reduceLT, Int.reduceLE, Int.reduceLT, Int.reduceToNat, Int.reduceAdd, Int.reduceEq, Int.reduceNeg, AH.put_ne, AH.put_ne _ _ hne, hkk]) | (refine am_drw ?_; simp -implicitDefEqProofs (disch := omega) only [go_sem, eq_self, decide_true, decide_false, Nat.reduceBEq, Nat.reduceAdd, Nat.reduceSub, Nat.reduceMul, Nat.reduceEqDiff, Nat.reduceLeDiff, Nat.reduceLT, Int.reduceLE, Int.reduceLT, Int.reduceToNat, Int.reduceAdd, Int.reduceEq, Int.reduceNeg, AH.put_ne, AH.put_ne _ _ hne, hkk]) | refine am_block ?_)
      refine am_ret ?_
      simp -implicitDefEqProofs (disch := omega) only [go_sem, eq_self, decide_true, decide_false, Nat.reduceBEq, Nat.reduceAdd, Nat.reduceSub, Nat.reduceMul, Nat.reduceEqDiff, Nat.reduceLeDiff, Nat.reduceLT, Int.reduceLE, Int.reduceLT, Int.reduceToNat, Int.reduceAdd, Int.reduceEq, Int.reduceNeg, AH.put_ne]
      refine ⟨⟨_, rfl, fun s x h => ?_⟩, AH.le_put (AH.le_put hH (none_of_le hH hk2) _) hk _⟩
      rw [show agreeS va sa vb sb = (0, [], wrong vb sb) from by rw [agreeS, if_neg (by simp [hw]), if_pos (by simpa using hc)]]
      exact deal_sub h
    · refine am_skip ?_
      simp -implicitDefEqProofs (disch := omega) only [go_sem, eq_self, decide_true, decide_false, Nat.reduceBEq, Nat.reduceAdd, Nat.reduceSub, Nat.reduceMul, Nat.reduceEqDiff, Nat.reduceLeDiff, Nat.reduceLT, Int.reduceLE, Int.reduceLT, Int.reduceToNat, Int.reduceAdd, Int.reduceEq, Int.reduceNeg, AH.put_ne]
      repeat (first | refine am_seq ?_ | (refine am_reg ?_; simp -implicitDefEqProofs (disch := omega) only [go_sem, eq_self, decide_true, decide_false, Nat.reduceBEq, Nat.reduceAdd, Nat.reduceSub, Nat.reduceMul, Nat.reduceEqDiff, Nat.reduceLeDiff, Nat.reduceLT, Int.reduceLE, Int.reduceLT, Int.reduceToNat, Int.reduceAdd, Int.reduceEq, Int.reduceNeg, AH.put_ne]) | (refine am_drw ?_; simp -implicitDefEqProofs (disch := omega) only [go_sem, eq_self, decide_true, decide_false, Nat.reduceBEq, Nat.reduceAdd, Nat.reduceSub, Nat.reduceMul, Nat.reduceEqDiff, Nat.reduceLeDiff, Nat.reduceLT, Int.reduceLE, Int.reduceLT, Int.reduceToNat, Int.reduceAdd, Int.reduceEq, Int.reduceNeg, AH.put_ne]) | refine am_block ?_)
      exact ⟨0, by omega, AH.le_put hle (none_of_le hle hk2) _, .inr (.inr ⟨rfl, hw, by simpa using hc, rfl⟩)⟩
  · repeat (first | refine am_seq ?_ | (refine am_reg ?_; simp -implicitDefEqProofs (disch := omega) only [go_sem, eq_self, decide_true, decide_false, Nat.reduceBEq, Nat.reduceAdd, Nat.reduceSub, Nat.reduceMul, Nat.reduceEqDiff, Nat.reduceLeDiff, Nat.reduceLT, Int.reduceLE, Int.reduceLT, Int.reduceToNat, Int.reduceAdd, Int.reduceEq, Int.reduceNeg, AH.put_ne]) | (refine am_drw ?_; simp -implicitDefEqProofs (disch := omega) only [go_sem, eq_self, decide_true, decide_false, Nat.reduceBEq, Nat.reduceAdd, Nat.reduceSub, Nat.reduceMul, Nat.reduceEqDiff, Nat.reduceLeDiff, Nat.reduceLT, Int.reduceLE, Int.reduceLT, Int.reduceToNat, Int.reduceAdd, Int.reduceEq, Int.reduceNeg, AH.put_ne]) | refine am_block ?_)
    refine am_cond rfl (fun hc => ?_) (fun hc => ?_) <;> (try simp -implicitDefEqProofs (disch := omega) only [go_sem, eq_self, decide_true, decide_false, Nat.reduceBEq, Nat.reduceAdd, Nat.reduceSub, Nat.reduceMul, Nat.reduceEqDiff, Nat.reduceLeDiff, Nat.reduceLT, Int.reduceLE, Int.reduceLT, Int.reduceToNat, Int.reduceAdd, Int.reduceEq, Int.reduceNeg, AH.put_ne] at hc)
    refine am_exit ?_
    simp -implicitDefEqProofs (disch := omega) only [go_sem, eq_self, decide_true, decide_false, Nat.reduceBEq, Nat.reduceAdd, Nat.reduceSub, Nat.reduceMul, Nat.reduceEqDiff, Nat.reduceLeDiff, Nat.reduceLT, Int.reduceLE, Int.reduceLT, Int.reduceToNat, Int.reduceAdd, Int.reduceEq, Int.reduceNeg, AH.put_ne]
    repeat (first | refine am_seq ?_ | (refine am_reg ?_; simp -implicitDefEqProofs (disch := omega) only [go_sem, eq_self, decide_true, decide_false, Nat.reduceBEq, Nat.reduceAdd, Nat.reduceSub, Nat.reduceMul, Nat.reduceEqDiff, Nat.reduceLeDiff, Nat.reduceLT, Int.reduceLE, Int.reduceLT, Int.reduceToNat, Int.reduceAdd, Int.reduceEq, Int.reduceNeg, AH.put_ne]) | (refine am_drw ?_; simp -implicitDefEqProofs (disch := omega) only [go_sem, eq_self, decide_true, decide_false, Nat.reduceBEq, Nat.reduceAdd, Nat.reduceSub, Nat.reduceMul, Nat.reduceEqDiff, Nat.reduceLeDiff, Nat.reduceLT, Int.reduceLE, Int.reduceLT, Int.reduceToNat, Int.reduceAdd, Int.reduceEq, Int.reduceNeg, AH.put_ne]) | refine am_block ?_)
    have hH : H.le H' := fun i o h => hle i o (AH.le_put (AH.le_refl H) hk _ i o h)
    have hkk : H' k = some (.cells [.int .i64 0, .nilSl]) := hle k _ (AH.put_same _ _ _)
    refine call_of (both_int va vb tv uv hv (by omega)) ?_
    try simp -implicitDefEqProofs (disch := omega) only [go_sem, eq_self, decide_true, decide_false, Nat.reduceBEq, Nat.reduceAdd, Nat.reduceSub, Nat.reduceMul, Nat.reduceEqDiff, Nat.reduceLeDiff, Nat.reduceLT, Int.reduceLE, Int.reduceLT, Int.reduceToNat, Int.reduceAdd, Int.reduceEq, Int.reduceNeg, AH.put_ne]
    repeat (first | refine am_seq ?_ | (refine am_reg ?_; simp -implicitDefEqProofs (disch := omega) only [go_sem, eq_self, decide_true, decide_false, Nat.reduceBEq, Nat.reduceAdd, Nat.reduceSub, Nat.reduceMul, Nat.reduceEqDiff, Nat.reduceLeDiff, Nat.reduceLT, Int.reduceLE, Int.reduceLT, Int.reduceToNat, Int.reduceAdd, Int.reduceEq, Int.reduceNeg, AH.put_ne]) | (refine am_drw ?_; simp -implicitDefEqProofs (disch := omega) only [go_sem, eq_self, decide_true, decide_false, Nat.reduceBEq, Nat.reduceAdd, Nat.reduceSub, Nat.reduceMul, Nat.reduceEqDiff, Nat.reduceLeDiff, Nat.reduceLT, Int.reduceLE, Int.reduceLT, Int.reduceToNat, Int.reduceAdd, Int.reduceEq, Int.reduceNeg, AH.put_ne]) | refine am_block ?_)
    refine am_cond rfl (fun hc => ?_) (fun hc => ?_) <;> (try simp -implicitDefEqProofs (disch := omega) only [go_sem, eq_self, decide_true, decide_false, Nat.reduceBEq, Nat.reduceAdd, Nat.reduceSub, Nat.reduceMul, Nat.reduceEqDiff, Nat.reduceLeDiff, Nat.reduceLT, Int.reduceLE, Int.reduceLT, Int.reduceToNat, Int.reduceAdd, Int.reduceEq, Int.reduceNeg, AH.put_ne] at hc)
    · repeat (first | refine am_seq ?_ | (refine am_reg ?_; simp -implicitDefEqProofs (disch := omega) only [go_sem, eq_self, decide_true, decide_false, Nat.reduceBEq, Nat.reduceAdd, Nat.reduceSub, Nat.reduceMul, Nat.reduceEqDiff, Nat.reduceLeDiff, Nat.reduceLT, Int.reduceLE, Int.reduceLT, Int.reduceToNat, Int.reduceAdd, Int.reduceEq, Int.reduceNeg, AH.put_ne, hkk]) | (refine am_drw ?_; simp -implicitDefEqProofs (disch := omega) only [go_sem, eq_self, decide_true, decide_false, Nat.reduceBEq, Nat.reduceAdd, Nat.reduceSub, Nat.reduceMul, Nat.reduceEqDiff, Nat.reduceLeDiff, Nat.reduceLT, Int.reduceLE, Int.reduceLT, Int.reduceToNat, Int.reduceAdd, Int.reduceEq, Int.reduceNeg, AH.put_ne, hkk]) | refine am_block ?_)
      refine am_ret ?_
      simp -implicitDefEqProofs (disch := omega) only [go_sem, eq_self, decide_true, decide_false, Nat.reduceBEq, Nat.reduceAdd, Nat.reduceSub, Nat.reduceMul, Nat.reduceEqDiff, Nat.reduceLeDiff, Nat.reduceLT, Int.reduceLE, Int.reduceLT, Int.reduceToNat, Int.reduceAdd, Int.reduceEq, Int.reduceNeg, AH.put_ne]
      refine ⟨⟨_, rfl, fun s x h => ?_⟩, AH.le_put hH hk _⟩
      have e : bothL va vb = [] := List.eq_nil_of_length_eq_zero (by omega)
      rw [show agreeS va sa vb sb = (0, [], 8) from by rw [agreeS, if_neg (by simp [hw]), if_neg (by simp [hw2]), if_pos e]]
      exact deal_sub h
    · refine am_skip ?_
      simp -implicitDefEqProofs (disch := omega) only [go_sem, eq_self, decide_true, decide_false, Nat.reduceBEq, Nat.reduceAdd, Nat.reduceSub, Nat.reduceMul, Nat.reduceEqDiff, Nat.reduceLeDiff, Nat.reduceLT, Int.reduceLE, Int.reduceLT, Int.reduceToNat, Int.reduceAdd, Int.reduceEq, Int.reduceNeg, AH.put_ne]
      have hne : 0 < (bothL va vb).length := by omega
      have hbl : (bothL va vb).length ≤ va.length := List.length_filter_le _ _
      repeat (first | refine am_seq ?_ | (refine am_reg ?_; simp -implicitDefEqProofs (disch := omega) only [go_sem, eq_self, decide_true, decide_false, Nat.reduceBEq, Nat.reduceAdd, Nat.reduceSub, Nat.reduceMul, Nat.reduceEqDiff, Nat.reduceLeDiff, Nat.reduceLT, Int.reduceLE, Int.reduceLT, Int.reduceToNat, Int.reduceAdd, Int.reduceEq, Int.reduceNeg, AH.put_ne, wrap_id, toNat_pred, last_get hne, pred_nonneg hne]) | (refine am_drw ?_; simp -implicitDefEqProofs (disch := omega) only [go_sem, eq_self, decide_true, decide_false, Nat.reduceBEq, Nat.reduceAdd, Nat.reduceSub, Nat.reduceMul, Nat.reduceEqDiff, Nat.reduceLeDiff, Nat.reduceLT, Int.reduceLE, Int.reduceLT, Int.reduceToNat, Int.reduceAdd, Int.reduceEq, Int.reduceNeg, AH.put_ne, wrap_id, toNat_pred, last_get hne, pred_nonneg hne]) | refine am_block ?_)
      refine qcall_of (both_str sa sb ts us hl (by omega)) ?_
      try simp -implicitDefEqProofs (disch := omega) only [go_sem, eq_self, decide_true, decide_false, Nat.reduceBEq, Nat.reduceAdd, Nat.reduceSub, Nat.reduceMul, Nat.reduceEqDiff, Nat.reduceLeDiff, Nat.reduceLT, Int.reduceLE, Int.reduceLT, Int.reduceToNat, Int.reduceAdd, Int.reduceEq, Int.reduceNeg, AH.put_ne, hkk]
      refine am_ret ?_
      simp -implicitDefEqProofs (disch := omega) only [go_sem, eq_self, decide_true, decide_false, Nat.reduceBEq, Nat.reduceAdd, Nat.reduceSub, Nat.reduceMul, Nat.reduceEqDiff, Nat.reduceLeDiff, Nat.reduceLT, Int.reduceLE, Int.reduceLT, Int.reduceToNat, Int.reduceAdd, Int.reduceEq, Int.reduceNeg, AH.put_ne]
      have e : bothL va vb ≠ [] := by intro e; rw [e] at hne; simp at hne
      refine ⟨⟨_, rfl, fun s x h => ?_⟩, AH.le_put hH hk _⟩
      rw [show agreeS va sa vb sb = ((bothL va vb)[(bothL va vb).length - 1], bothL sa sb, 0) from by
        rw [agreeS, if_neg (by simp [hw]), if_neg (by simp [hw2]), if_neg e, last_get hne]; rfl]
      exact h
end Go.Proofs.Ytmomncmddejcoaa
