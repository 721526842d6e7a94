/- Of the walks of this seat: contracts of functions of the given program, proved over the abstract values of the texts Vm. Conditions: as each theorem says. -/
import Derived.Test.YtcfeafpjkcmdiaaGreatDoorPA6
set_option linter.unusedVariables false
set_option linter.unusedSimpArgs false
namespace Go.Proofs.YtcfeafpjkcmdiaaGreatDoor.Hel
open Go.Vm
attribute [local go_sem] strsE_get strsE_length intsE_get intsE_length Int.toNat_natCast Option.map_some Int.natCast_nonneg decide_eq_true_eq decide_eq_false_iff_not
/- flange/hello.Own -/
abbrev k32_0 : MC :=
  (.seq (.reg [
    ⟨(some 1), none, .bslice 1 2 [(.int .i64 0), (.int .i64 0)] [(0, 1, (.c (.int .i64 1))), (1, 1, (.c (.int .i64 2)))]⟩,
    ⟨(some 2), none, .bslice 1 2 [(.str []), (.str [])] [(0, 1, (.c (.str [105, 109, 112, 111, 114, 116]))), (1, 1, (.c (.str [117, 112, 103, 114, 97, 100, 101])))]⟩,
    ⟨(some 3), none, .build [.nilSl, .nilSl] [(0, 1, (.t 1)), (1, 1, (.t 2))]⟩,
    ⟨none, none, .store 2 (.t 0) (.t 3)⟩] [0]) (.ret))
abbrev k32 : MC :=
  (.seq (.reg [
    ⟨(some 0), none, .zalloc [.nilSl, .nilSl]⟩] [0]) k32_0)
theorem c32 : Tryz.f32.body.bind (mcOf Tryz.prog (List.contains [] ·) (List.getD [([], [0]), ([], [0])] · ([], [])) 4) = some k32 := by kernel_rfl
theorem r32 : rvsOf Tryz.prog Tryz.f32.results.toList = some [.cell 0 true 2] := by kernel_rfl

/- flange/hello.Agree -/
abbrev k65_0 : MC :=
  .cond (.t 19) ((.seq (.reg [
     ⟨(some 20), none, .build [(.int .i64 0), .nilSl] []⟩,
     ⟨(some 21), none, .val (.mv (.t 8))⟩,
     ⟨none, none, .store 2 (.t 4) (.t 20)⟩,
     ⟨(some 5), none, .val (.mv (.t 21))⟩] [4, 5]) (.ret))) (.skip)

abbrev k65_1 : MC :=
  (.seq (.reg [
    ⟨(some 18), none, .val (.mv (.t 8))⟩,
    ⟨(some 19), none, .val (.bin .neq .num (.t 18) (.c (.int .i64 0)))⟩] [2, 3, 4, 8, 12, 13, 19]) k65_0)

abbrev k65_2 : MC :=
  (.seq (.reg [
    ⟨(some 16), none, .val (.load true 2 (.t 7))⟩,
    ⟨(some 17), none, .call 56 [(.t 16)]⟩,
    ⟨(some 8), none, .val (.mv (.t 17))⟩] [2, 3, 4, 8, 12, 13]) k65_1)

abbrev k65_3 : MC :=
  .reg [
    ⟨(some 22), none, .val (.bin .add .num (.t 13) (.c (.int .i64 1)))⟩,
    ⟨(some 13), none, .val (.mv (.t 22))⟩] [2, 3, 4, 12, 13]

abbrev k65_4 : MC :=
  (.seq (.block 1 ((.seq (.reg [
     ⟨(some 15), none, .val (.aidx true 2 2 (.t 12) (.t 13))⟩,
     ⟨(some 7), none, .zalloc [.nilSl, .nilSl]⟩,
     ⟨none, none, .store 2 (.t 7) (.t 15)⟩] [2, 3, 4, 7, 12, 13]) k65_2))) k65_3)

abbrev k65_5 : MC :=
  (.seq (.cond (.t 14) (.skip) (.exit 0)) k65_4)

abbrev k65_6 : MC :=
  (.seq (.reg [
    ⟨(some 14), none, .val (.bin .lss .num (.t 13) (.c (.int .i64 2)))⟩] [2, 3, 4, 12, 13, 14]) k65_5)

abbrev k65_7 : MC :=
  .block 0 (.loop k65_6)

abbrev k65_8 : MC :=
  .cond (.t 30) ((.seq (.reg [
     ⟨(some 31), none, .build [(.int .i64 0), .nilSl] []⟩,
     ⟨none, none, .store 2 (.t 4) (.t 31)⟩,
     ⟨(some 5), none, .val (.mv (.c (.int .i64 8)))⟩] [4, 5]) (.ret))) (.skip)

abbrev k65_9 : MC :=
  (.seq (.drw [
    ⟨(some 32), none, .val (.mv (.t 9))⟩,
    ⟨(some 33), none, .val (.mv (.t 9))⟩,
    ⟨(some 34), none, .val (.len .sl (.t 33))⟩,
    ⟨(some 35), none, .val (.bin .sub .num (.t 34) (.c (.int .i64 1)))⟩,
    ⟨(some 36), none, .val (.iaddr 1 (.t 32) (.t 35))⟩,
    ⟨(some 37), none, .val (.load false 1 (.t 36))⟩,
    ⟨(some 38), none, .val (.faddr 1 (.t 2))⟩,
    ⟨(some 39), none, .val (.load false 1 (.t 38))⟩,
    ⟨(some 40), none, .val (.faddr 1 (.t 3))⟩,
    ⟨(some 41), none, .val (.load false 1 (.t 40))⟩,
    ⟨(some 42), none, .call 95 [(.t 39), (.t 41)]⟩,
    ⟨(some 43), none, .build [(.int .i64 0), .nilSl] [(0, 1, (.t 37)), (1, 1, (.t 42))]⟩] [
    ⟨none, none, .store 2 (.t 4) (.t 43)⟩,
    ⟨(some 5), none, .val (.mv (.c (.int .i64 0)))⟩] [4, 5]) (.ret))

abbrev k65_10 : MC :=
  (.seq ((.seq (.reg [
    ⟨(some 28), none, .val (.mv (.t 9))⟩,
    ⟨(some 29), none, .val (.len .sl (.t 28))⟩,
    ⟨(some 30), none, .val (.bin .eql .num (.t 29) (.c (.int .i64 0)))⟩] [2, 3, 4, 9, 30]) k65_8)) k65_9)

abbrev k65_11 : MC :=
  (.seq (.reg [
    ⟨(some 23), none, .val (.faddr 0 (.t 2))⟩,
    ⟨(some 24), none, .val (.load false 1 (.t 23))⟩,
    ⟨(some 25), none, .val (.faddr 0 (.t 3))⟩,
    ⟨(some 26), none, .val (.load false 1 (.t 25))⟩,
    ⟨(some 27), none, .call 94 [(.t 24), (.t 26)]⟩,
    ⟨(some 9), none, .val (.mv (.t 27))⟩] [2, 3, 4, 9]) k65_10)

abbrev k65_12 : MC :=
  (.seq ((.seq (.reg [
    ⟨(some 10), none, .val (.load true 2 (.t 2))⟩,
    ⟨(some 11), none, .val (.load true 2 (.t 3))⟩,
    ⟨(some 12), none, .build [.nilSl, .nilSl, .nilSl, .nilSl] [(0, 2, (.t 10)), (2, 2, (.t 11))]⟩,
    ⟨(some 13), none, .val (.mv (.c (.int .i64 0)))⟩] [2, 3, 4, 12, 13]) k65_7)) k65_11)
abbrev k65 : MC :=
  (.seq (.reg [
    ⟨(some 2), none, .boxi (.t 0)⟩,
    ⟨(some 3), none, .boxi (.t 1)⟩,
    ⟨(some 4), none, .zalloc [(.int .i64 0), .nilSl]⟩,
    ⟨(some 5), none, .val (.mv (.c (.int .i64 0)))⟩] [2, 3, 4]) k65_12)
theorem c65 : Tryz.f65.body.bind (mcOf Tryz.prog (List.contains [2, 3] ·) (List.getD [([], [2, 3, 4]), ([], [2, 3, 4, 12, 13]), ([], [2, 3, 4, 12, 13, 14]), ([], [2, 3, 4, 7, 12, 13]), ([], [2, 3, 4, 8, 12, 13]), ([], [2, 3, 4, 8, 12, 13, 19]), ([], [4, 5]), ([], [2, 3, 4, 12, 13]), ([], [2, 3, 4, 9]), ([], [2, 3, 4, 9, 30]), ([], [4, 5]), ([0, 0, 0, 0, 0, 0, 0, 0, 0, 0, 0, 0, 2, 2], [4, 5])] · ([], [])) 44) = some k65 := by kernel_rfl
theorem r65 : rvsOf Tryz.prog Tryz.f65.results.toList = some [.cell 4 true 2, .tmp 5] := by kernel_rfl

def impS : List UInt8 := [105, 109, 112, 111, 114, 116]
def upgS : List UInt8 := [117, 112, 103, 114, 97, 100, 101]
theorem own_calls (H : AH) : ACalls Tryz.prog 32 [] H (fun o H' => o = .ret (.agg [.sl 1 (intsE [1, 2]) .tight, .sl 1 (strsE [impS, upgS]) .tight]) ∧ H' = H) := by
  refine ACalls.drop ?_
  refine acalls Tryz.func32 c32 r32 (by simp [Tryz.ntmps32]) ?_
  repeat (first | refine am_seq ?_ | (refine am_reg ?_; simp -implicitDefEqProofs (disch := omega) only [go_sem, eq_self, decide_true, decide_false, Nat.reduceBEq, Nat.reduceAdd, Nat.reduceSub, Nat.reduceMul, Nat.reduceEqDiff, Nat.reduceLeDiff, Nat.reduceLT, Int.reduceLE, Int.reduceLT, Int.reduceToNat, Int.reduceAdd, Int.reduceEq, Int.reduceNeg, AH.put_ne]) | (refine am_drw ?_; simp -implicitDefEqProofs (disch := omega) only [go_sem, eq_self, decide_true, decide_false, Nat.reduceBEq, Nat.reduceAdd, Nat.reduceSub, Nat.reduceMul, Nat.reduceEqDiff, Nat.reduceLeDiff, Nat.reduceLT, Int.reduceLE, Int.reduceLT, Int.reduceToNat, Int.reduceAdd, Int.reduceEq, Int.reduceNeg, AH.put_ne]) | refine am_block ?_)
  intro k hk
  repeat (first | refine am_seq ?_ | (refine am_reg ?_; simp -implicitDefEqProofs (disch := omega) only [go_sem, eq_self, decide_true, decide_false, Nat.reduceBEq, Nat.reduceAdd, Nat.reduceSub, Nat.reduceMul, Nat.reduceEqDiff, Nat.reduceLeDiff, Nat.reduceLT, Int.reduceLE, Int.reduceLT, Int.reduceToNat, Int.reduceAdd, Int.reduceEq, Int.reduceNeg, AH.put_ne]) | (refine am_drw ?_; simp -implicitDefEqProofs (disch := omega) only [go_sem, eq_self, decide_true, decide_false, Nat.reduceBEq, Nat.reduceAdd, Nat.reduceSub, Nat.reduceMul, Nat.reduceEqDiff, Nat.reduceLeDiff, Nat.reduceLT, Int.reduceLE, Int.reduceLT, Int.reduceToNat, Int.reduceAdd, Int.reduceEq, Int.reduceNeg, AH.put_ne]) | refine am_block ?_)
  refine am_ret ?_
  simp -implicitDefEqProofs (disch := omega) only [go_sem, eq_self, decide_true, decide_false, Nat.reduceBEq, Nat.reduceAdd, Nat.reduceSub, Nat.reduceMul, Nat.reduceEqDiff, Nat.reduceLeDiff, Nat.reduceLT, Int.reduceLE, Int.reduceLT, Int.reduceToNat, Int.reduceAdd, Int.reduceEq, Int.reduceNeg, AH.put_ne]
  exact ⟨⟨_, rfl, fun s x h => h⟩, AH.le_put (AH.le_refl _) hk _⟩
/-- What two agree on: the version, the skills, the error. -/
def agreeS (va : List Int) (sa : List (List UInt8)) (vb : List Int) (sb : List (List UInt8)) : Int × List (List UInt8) × Int :=
  if wrong va sa ≠ 0 then (0, [], wrong va sa) else if wrong vb sb ≠ 0 then (0, [], wrong vb sb) else
  if bothL va vb = [] then (0, [], 8) else ((bothL va vb)[(bothL va vb).length - 1]?.getD 0, bothL sa sb, 0)
theorem deal_sub {n e : Int} {s : St} {x : Value} (h : s.val (.tuple [.agg [.int .i64 n, .nilSl], .int .i64 e]) x) : s.val (.tuple [.agg [.int .i64 n, .sl 1 [] .no], .int .i64 e]) x := by
  cases h with
  | tuple _ xs h => exact .tuple _ _ (vals_sub (.cons (agg_sub rfl (.cons (fun _ h => h) (.cons (fun _ h => nil_no _ h) .nil))) (.cons (fun _ h => h) .nil)) h)
end Go.Proofs.YtcfeafpjkcmdiaaGreatDoor.Hel
