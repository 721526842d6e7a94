/- Of the walks of this seat: contracts of functions of the given program, proved over the abstract values of the texts Vm. Conditions: as each theorem says. -/
import Derived.Test.YtcfeafpjkcmdiaaGreatDoorPA1
set_option linter.unusedVariables false
set_option linter.unusedSimpArgs false
namespace Go.Proofs.YtcfeafpjkcmdiaaGreatDoor.Hel
open Go.Vm
attribute [local go_sem] strsE_get strsE_length intsE_get intsE_length Int.toNat_natCast Option.map_some Int.natCast_nonneg decide_eq_true_eq decide_eq_false_iff_not
/- flange/hello.rising[int] -/
abbrev k81_0 : MC :=
  .cond (.t 7) (.skip) (.exit 0)

abbrev k81_1 : MC :=
  .cond (.t 19) ((.seq (.reg [
     ⟨(some 2), none, .val (.mv (.c (.bool false)))⟩] [2]) (.ret))) (.skip)

abbrev k81_2 : MC :=
  .reg [
    ⟨(some 8), none, .val (.mv (.t 3))⟩,
    ⟨(some 9), none, .val (.bin .add .num (.t 8) (.c (.int .i64 1)))⟩,
    ⟨(some 3), none, .val (.mv (.t 9))⟩] [0, 3]

abbrev k81_3 : MC :=
  (.seq (.block 1 ((.seq (.drw [
     ⟨(some 10), none, .val (.mv (.t 0))⟩,
     ⟨(some 11), none, .val (.mv (.t 3))⟩,
     ⟨(some 12), none, .val (.bin .sub .num (.t 11) (.c (.int .i64 1)))⟩,
     ⟨(some 13), none, .val (.iaddr 1 (.t 10) (.t 12))⟩,
     ⟨(some 14), none, .val (.load false 1 (.t 13))⟩,
     ⟨(some 15), none, .val (.mv (.t 0))⟩,
     ⟨(some 16), none, .val (.mv (.t 3))⟩,
     ⟨(some 17), none, .val (.iaddr 1 (.t 15) (.t 16))⟩,
     ⟨(some 18), none, .val (.load false 1 (.t 17))⟩,
     ⟨(some 19), none, .val (.bin .geq .num (.t 14) (.t 18))⟩] [
] [0, 3, 19]) k81_1))) k81_2)

abbrev k81_4 : MC :=
  (.seq ((.seq (.reg [
    ⟨(some 4), none, .val (.mv (.t 3))⟩,
    ⟨(some 5), none, .val (.mv (.t 0))⟩,
    ⟨(some 6), none, .val (.len .sl (.t 5))⟩,
    ⟨(some 7), none, .val (.bin .lss .num (.t 4) (.t 6))⟩] [0, 3, 7]) k81_0)) k81_3)

abbrev k81_5 : MC :=
  .block 0 (.loop k81_4)

abbrev k81_6 : MC :=
  (.seq (.reg [
    ⟨(some 2), none, .val (.mv (.c (.bool true)))⟩] [2]) (.ret))

abbrev k81_7 : MC :=
  (.seq ((.seq (.reg [
    ⟨(some 3), none, .val (.mv (.c (.int .i64 1)))⟩] [0, 3]) k81_5)) k81_6)
abbrev k81 : MC :=
  (.seq (.reg [
    ⟨(some 2), none, .val (.mv (.c (.bool false)))⟩] [0]) k81_7)
theorem c81 : Tryz.f81.body.bind (mcOf Tryz.prog (List.contains [] ·) (List.getD [([], [0]), ([], [0, 3]), ([], [0, 3, 7]), ([], [0, 3]), ([0, 0, 0, 0, 0, 0, 0, 0, 0, 0], [0, 3, 19]), ([], [2]), ([], [2])] · ([], [])) 20) = some k81 := by kernel_rfl
theorem r81 : rvsOf Tryz.prog Tryz.f81.results.toList = some [.tmp 2] := by kernel_rfl

/- flange/hello.rising[string] -/
abbrev k82_0 : MC :=
  .cond (.t 7) (.skip) (.exit 0)

abbrev k82_1 : MC :=
  .cond (.t 19) ((.seq (.reg [
     ⟨(some 2), none, .val (.mv (.c (.bool false)))⟩] [2]) (.ret))) (.skip)

abbrev k82_2 : MC :=
  .reg [
    ⟨(some 8), none, .val (.mv (.t 3))⟩,
    ⟨(some 9), none, .val (.bin .add .num (.t 8) (.c (.int .i64 1)))⟩,
    ⟨(some 3), none, .val (.mv (.t 9))⟩] [0, 3]

abbrev k82_3 : MC :=
  (.seq (.block 1 ((.seq (.drw [
     ⟨(some 10), none, .val (.mv (.t 0))⟩,
     ⟨(some 11), none, .val (.mv (.t 3))⟩,
     ⟨(some 12), none, .val (.bin .sub .num (.t 11) (.c (.int .i64 1)))⟩,
     ⟨(some 13), none, .val (.iaddr 1 (.t 10) (.t 12))⟩,
     ⟨(some 14), none, .val (.load false 1 (.t 13))⟩,
     ⟨(some 15), none, .val (.mv (.t 0))⟩,
     ⟨(some 16), none, .val (.mv (.t 3))⟩,
     ⟨(some 17), none, .val (.iaddr 1 (.t 15) (.t 16))⟩,
     ⟨(some 18), none, .val (.load false 1 (.t 17))⟩,
     ⟨(some 19), none, .val (.bin .geq .num (.t 14) (.t 18))⟩] [
] [0, 3, 19]) k82_1))) k82_2)

abbrev k82_4 : MC :=
  (.seq ((.seq (.reg [
    ⟨(some 4), none, .val (.mv (.t 3))⟩,
    ⟨(some 5), none, .val (.mv (.t 0))⟩,
    ⟨(some 6), none, .val (.len .sl (.t 5))⟩,
    ⟨(some 7), none, .val (.bin .lss .num (.t 4) (.t 6))⟩] [0, 3, 7]) k82_0)) k82_3)

abbrev k82_5 : MC :=
  .block 0 (.loop k82_4)

abbrev k82_6 : MC :=
  (.seq (.reg [
    ⟨(some 2), none, .val (.mv (.c (.bool true)))⟩] [2]) (.ret))

abbrev k82_7 : MC :=
  (.seq ((.seq (.reg [
    ⟨(some 3), none, .val (.mv (.c (.int .i64 1)))⟩] [0, 3]) k82_5)) k82_6)
abbrev k82 : MC :=
  (.seq (.reg [
    ⟨(some 2), none, .val (.mv (.c (.bool false)))⟩] [0]) k82_7)
theorem c82 : Tryz.f82.body.bind (mcOf Tryz.prog (List.contains [] ·) (List.getD [([], [0]), ([], [0, 3]), ([], [0, 3, 7]), ([], [0, 3]), ([0, 0, 0, 0, 0, 0, 0, 0, 0, 0], [0, 3, 19]), ([], [2]), ([], [2])] · ([], [])) 20) = some k82 := by kernel_rfl
theorem r82 : rvsOf Tryz.prog Tryz.f82.results.toList = some [.tmp 2] := by kernel_rfl

/-- Things that rise. -/
def rise {α : Type} (lt : α → α → Bool) : List α → Bool
  | a :: b :: l => lt a b && rise lt (b :: l)
  | _ => true
theorem rise_drop {α : Type} (lt : α → α → Bool) (l : List α) (i : Nat) (h : i < l.length) (h1 : 1 ≤ i) : rise lt (l.drop (i - 1)) = (lt (l[i - 1]'(by omega)) l[i] && rise lt (l.drop i)) := by
  rw [List.drop_eq_getElem_cons (i := i - 1) (by omega)]
  have e : i - 1 + 1 = i := by omega
  simp only [e]
  rw [List.drop_eq_getElem_cons h, rise]
theorem rise_end {α : Type} (lt : α → α → Bool) (l : List α) (h : l.length ≤ 1) : rise lt l = true := by
  match l, h with
  | [], _ => rfl
  | [_], _ => rfl
def ltI (a b : Int) : Bool := decide (a < b)
theorem get_pred {α : Type} {l : List α} {i : Nat} (h : i < l.length) : l[i - 1]? = some (l[i - 1]'(by omega)) := List.getElem?_eq_getElem (by omega)
theorem pred_nonneg {i : Nat} (h : 1 ≤ i) : (0 : Int) ≤ (i : Int) - 1 := by omega
theorem rising_int (l : List Int) (t : Tok) (hl : l.length < 4611686018427387904) (H : AH) : ACalls Tryz.prog 81 [.sl 1 (intsE l) t] H (fun o H' => o = .ret (.bool (rise ltI l)) ∧ H' = H) := by
  refine acalls Tryz.func81 c81 r81 (by simp [Tryz.ntmps81]) ?_
  repeat (first | refine am_seq ?_ | (refine am_reg ?_; simp -implicitDefEqProofs (disch := omega) only [go_sem, eq_self, decide_true, decide_false, Nat.reduceBEq, Nat.reduceAdd, Nat.reduceSub, Nat.reduceMul, Nat.reduceEqDiff, Nat.reduceLeDiff, Nat.reduceLT, Int.reduceLE, Int.reduceLT, Int.reduceToNat, Int.reduceAdd, Int.reduceEq, Int.reduceNeg, AH.put_ne]) | (refine am_drw ?_; simp -implicitDefEqProofs (disch := omega) only [go_sem, eq_self, decide_true, decide_false, Nat.reduceBEq, Nat.reduceAdd, Nat.reduceSub, Nat.reduceMul, Nat.reduceEqDiff, Nat.reduceLeDiff, Nat.reduceLT, Int.reduceLE, Int.reduceLT, Int.reduceToNat, Int.reduceAdd, Int.reduceEq, Int.reduceNeg, AH.put_ne]) | refine am_block ?_)
  refine am_loop (fun n a H' => ∃ i : Nat, i + n = l.length + 1 ∧ 1 ≤ i ∧ a = [(0, .sl 1 (intsE l) t), (3, .int .i64 i)] ∧ H' = H ∧ rise ltI l = rise ltI (l.drop (i - 1))) ?_ l.length ⟨1, by omega, by omega, by simp, rfl, by simp⟩
  rintro n a H' ⟨i, hi, h1, rfl, rfl, hg⟩
  repeat (first | refine am_seq ?_ | (refine am_reg ?_; simp -implicitDefEqProofs (disch := omega) only [go_sem, eq_self, decide_true, decide_false, Nat.reduceBEq, Nat.reduceAdd, Nat.reduceSub, Nat.reduceMul, Nat.reduceEqDiff, Nat.reduceLeDiff, Nat.reduceLT, Int.reduceLE, Int.reduceLT, Int.reduceToNat, Int.reduceAdd, Int.reduceEq, Int.reduceNeg, AH.put_ne]) | (refine am_drw ?_; simp -implicitDefEqProofs (disch := omega) only [go_sem, eq_self, decide_true, decide_false, Nat.reduceBEq, Nat.reduceAdd, Nat.reduceSub, Nat.reduceMul, Nat.reduceEqDiff, Nat.reduceLeDiff, Nat.reduceLT, Int.reduceLE, Int.reduceLT, Int.reduceToNat, Int.reduceAdd, Int.reduceEq, Int.reduceNeg, AH.put_ne]) | refine am_block ?_)
  refine am_cond rfl (fun hc => ?_) (fun hc => ?_) <;> (try simp -implicitDefEqProofs (disch := omega) only [go_sem, eq_self, decide_true, decide_false, Nat.reduceBEq, Nat.reduceAdd, Nat.reduceSub, Nat.reduceMul, Nat.reduceEqDiff, Nat.reduceLeDiff, Nat.reduceLT, Int.reduceLE, Int.reduceLT, Int.reduceToNat, Int.reduceAdd, Int.reduceEq, Int.reduceNeg, AH.put_ne] at hc)
  · have hlt : i < l.length := by omega
    rw [rise_drop ltI l i hlt h1] at hg
    refine am_skip ?_
    simp -implicitDefEqProofs (disch := omega) only [go_sem, eq_self, decide_true, decide_false, Nat.reduceBEq, Nat.reduceAdd, Nat.reduceSub, Nat.reduceMul, Nat.reduceEqDiff, Nat.reduceLeDiff, Nat.reduceLT, Int.reduceLE, Int.reduceLT, Int.reduceToNat, Int.reduceAdd, Int.reduceEq, Int.reduceNeg, AH.put_ne]
    repeat (first | refine am_seq ?_ | (refine am_reg ?_; simp -implicitDefEqProofs (disch := omega) only [go_sem, eq_self, decide_true, decide_false, Nat.reduceBEq, Nat.reduceAdd, Nat.reduceSub, Nat.reduceMul, Nat.reduceEqDiff, Nat.reduceLeDiff, Nat.reduceLT, Int.reduceLE, Int.reduceLT, Int.reduceToNat, Int.reduceAdd, Int.reduceEq, Int.reduceNeg, AH.put_ne, get_of_lt hlt, get_pred hlt, wrap_id, toNat_pred, pred_nonneg h1]) | (refine am_drw ?_; simp -implicitDefEqProofs (disch := omega) only [go_sem, eq_self, decide_true, decide_false, Nat.reduceBEq, Nat.reduceAdd, Nat.reduceSub, Nat.reduceMul, Nat.reduceEqDiff, Nat.reduceLeDiff, Nat.reduceLT, Int.reduceLE, Int.reduceLT, Int.reduceToNat, Int.reduceAdd, Int.reduceEq, Int.reduceNeg, AH.put_ne, get_of_lt hlt, get_pred hlt, wrap_id, toNat_pred, pred_nonneg h1]) | refine am_block ?_)
    refine am_cond rfl (fun hc => ?_) (fun hc => ?_) <;> (try simp -implicitDefEqProofs (disch := omega) only [go_sem, eq_self, decide_true, decide_false, Nat.reduceBEq, Nat.reduceAdd, Nat.reduceSub, Nat.reduceMul, Nat.reduceEqDiff, Nat.reduceLeDiff, Nat.reduceLT, Int.reduceLE, Int.reduceLT, Int.reduceToNat, Int.reduceAdd, Int.reduceEq, Int.reduceNeg, AH.put_ne] at hc)
    · repeat (first | refine am_seq ?_ | (refine am_reg ?_; simp -implicitDefEqProofs (disch := omega) only [go_sem, eq_self, decide_true, decide_false, Nat.reduceBEq, Nat.reduceAdd, Nat.reduceSub, Nat.reduceMul, Nat.reduceEqDiff, Nat.reduceLeDiff, Nat.reduceLT, Int.reduceLE, Int.reduceLT, Int.reduceToNat, Int.reduceAdd, Int.reduceEq, Int.reduceNeg, AH.put_ne]) | (refine am_drw ?_; simp -implicitDefEqProofs (disch := omega) only [go_sem, eq_self, decide_true, decide_false, Nat.reduceBEq, Nat.reduceAdd, Nat.reduceSub, Nat.reduceMul, Nat.reduceEqDiff, Nat.reduceLeDiff, Nat.reduceLT, Int.reduceLE, Int.reduceLT, Int.reduceToNat, Int.reduceAdd, Int.reduceEq, Int.reduceNeg, AH.put_ne]) | refine am_block ?_)
      refine am_ret ?_
      simp -implicitDefEqProofs (disch := omega) only [go_sem, eq_self, decide_true, decide_false, Nat.reduceBEq, Nat.reduceAdd, Nat.reduceSub, Nat.reduceMul, Nat.reduceEqDiff, Nat.reduceLeDiff, Nat.reduceLT, Int.reduceLE, Int.reduceLT, Int.reduceToNat, Int.reduceAdd, Int.reduceEq, Int.reduceNeg, AH.put_ne]
      rw [hg]
      simp [ltI]
      omega
    · refine am_skip ?_
      simp -implicitDefEqProofs (disch := omega) only [go_sem, eq_self, decide_true, decide_false, Nat.reduceBEq, Nat.reduceAdd, Nat.reduceSub, Nat.reduceMul, Nat.reduceEqDiff, Nat.reduceLeDiff, Nat.reduceLT, Int.reduceLE, Int.reduceLT, Int.reduceToNat, Int.reduceAdd, Int.reduceEq, Int.reduceNeg, AH.put_ne]
      repeat (first | refine am_seq ?_ | (refine am_reg ?_; simp -implicitDefEqProofs (disch := omega) only [go_sem, eq_self, decide_true, decide_false, Nat.reduceBEq, Nat.reduceAdd, Nat.reduceSub, Nat.reduceMul, Nat.reduceEqDiff, Nat.reduceLeDiff, Nat.reduceLT, Int.reduceLE, Int.reduceLT, Int.reduceToNat, Int.reduceAdd, Int.reduceEq, Int.reduceNeg, AH.put_ne, wrap_id]) | (refine am_drw ?_; simp -implicitDefEqProofs (disch := omega) only [go_sem, eq_self, decide_true, decide_false, Nat.reduceBEq, Nat.reduceAdd, Nat.reduceSub, Nat.reduceMul, Nat.reduceEqDiff, Nat.reduceLeDiff, Nat.reduceLT, Int.reduceLE, Int.reduceLT, Int.reduceToNat, Int.reduceAdd, Int.reduceEq, Int.reduceNeg, AH.put_ne, wrap_id]) | refine am_block ?_)
      refine ⟨n - 1, by omega, i + 1, by omega, by omega, by simp, ?_⟩
      rw [hg]
      simp [ltI]
      omega
  · refine am_exit ?_
    simp -implicitDefEqProofs (disch := omega) only [go_sem, eq_self, decide_true, decide_false, Nat.reduceBEq, Nat.reduceAdd, Nat.reduceSub, Nat.reduceMul, Nat.reduceEqDiff, Nat.reduceLeDiff, Nat.reduceLT, Int.reduceLE, Int.reduceLT, Int.reduceToNat, Int.reduceAdd, Int.reduceEq, Int.reduceNeg, AH.put_ne]
    repeat (first | refine am_seq ?_ | (refine am_reg ?_; simp -implicitDefEqProofs (disch := omega) only [go_sem, eq_self, decide_true, decide_false, Nat.reduceBEq, Nat.reduceAdd, Nat.reduceSub, Nat.reduceMul, Nat.reduceEqDiff, Nat.reduceLeDiff, Nat.reduceLT, Int.reduceLE, Int.reduceLT, Int.reduceToNat, Int.reduceAdd, Int.reduceEq, Int.reduceNeg, AH.put_ne]) | (refine am_drw ?_; simp -implicitDefEqProofs (disch := omega) only [go_sem, eq_self, decide_true, decide_false, Nat.reduceBEq, Nat.reduceAdd, Nat.reduceSub, Nat.reduceMul, Nat.reduceEqDiff, Nat.reduceLeDiff, Nat.reduceLT, Int.reduceLE, Int.reduceLT, Int.reduceToNat, Int.reduceAdd, Int.reduceEq, Int.reduceNeg, AH.put_ne]) | refine am_block ?_)
    refine am_ret ?_
    simp -implicitDefEqProofs (disch := omega) only [go_sem, eq_self, decide_true, decide_false, Nat.reduceBEq, Nat.reduceAdd, Nat.reduceSub, Nat.reduceMul, Nat.reduceEqDiff, Nat.reduceLeDiff, Nat.reduceLT, Int.reduceLE, Int.reduceLT, Int.reduceToNat, Int.reduceAdd, Int.reduceEq, Int.reduceNeg, AH.put_ne]
    rw [hg, rise_end _ _ (by simp; omega)]
theorem rising_str (l : List (List UInt8)) (t : Tok) (hl : l.length < 4611686018427387904) (H : AH) : ACalls Tryz.prog 82 [.sl 1 (strsE l) t] H (fun o H' => o = .ret (.bool (rise Op.bytesLess l)) ∧ H' = H) := by
  refine acalls Tryz.func82 c82 r82 (by simp [Tryz.ntmps82]) ?_
  repeat (first | refine am_seq ?_ | (refine am_reg ?_; simp -implicitDefEqProofs (disch := omega) only [go_sem, eq_self, decide_true, decide_false, Nat.reduceBEq, Nat.reduceAdd, Nat.reduceSub, Nat.reduceMul, Nat.reduceEqDiff, Nat.reduceLeDiff, Nat.reduceLT, Int.reduceLE, Int.reduceLT, Int.reduceToNat, Int.reduceAdd, Int.reduceEq, Int.reduceNeg, AH.put_ne]) | (refine am_drw ?_; simp -implicitDefEqProofs (disch := omega) only [go_sem, eq_self, decide_true, decide_false, Nat.reduceBEq, Nat.reduceAdd, Nat.reduceSub, Nat.reduceMul, Nat.reduceEqDiff, Nat.reduceLeDiff, Nat.reduceLT, Int.reduceLE, Int.reduceLT, Int.reduceToNat, Int.reduceAdd, Int.reduceEq, Int.reduceNeg, AH.put_ne]) | refine am_block ?_)
  refine am_loop (fun n a H' => ∃ i : Nat, i + n = l.length + 1 ∧ 1 ≤ i ∧ a = [(0, .sl 1 (strsE l) t), (3, .int .i64 i)] ∧ H' = H ∧ rise Op.bytesLess l = rise Op.bytesLess (l.drop (i - 1))) ?_ l.length ⟨1, by omega, by omega, by simp, rfl, by simp⟩
  rintro n a H' ⟨i, hi, h1, rfl, rfl, hg⟩
  repeat (first | refine am_seq ?_ | (refine am_reg ?_; simp -implicitDefEqProofs (disch := omega) only [go_sem, eq_self, decide_true, decide_false, Nat.reduceBEq, Nat.reduceAdd, Nat.reduceSub, Nat.reduceMul, Nat.reduceEqDiff, Nat.reduceLeDiff, Nat.reduceLT, Int.reduceLE, Int.reduceLT, Int.reduceToNat, Int.reduceAdd, Int.reduceEq, Int.reduceNeg, AH.put_ne]) | (refine am_drw ?_; simp -implicitDefEqProofs (disch := omega) only [go_sem, eq_self, decide_true, decide_false, Nat.reduceBEq, Nat.reduceAdd, Nat.reduceSub, Nat.reduceMul, Nat.reduceEqDiff, Nat.reduceLeDiff, Nat.reduceLT, Int.reduceLE, Int.reduceLT, Int.reduceToNat, Int.reduceAdd, Int.reduceEq, Int.reduceNeg, AH.put_ne]) | refine am_block ?_)
  refine am_cond rfl (fun hc => ?_) (fun hc => ?_) <;> (try simp -implicitDefEqProofs (disch := omega) only [go_sem, eq_self, decide_true, decide_false, Nat.reduceBEq, Nat.reduceAdd, Nat.reduceSub, Nat.reduceMul, Nat.reduceEqDiff, Nat.reduceLeDiff, Nat.reduceLT, Int.reduceLE, Int.reduceLT, Int.reduceToNat, Int.reduceAdd, Int.reduceEq, Int.reduceNeg, AH.put_ne] at hc)
  · have hlt : i < l.length := by omega
    rw [rise_drop _ l i hlt h1] at hg
    refine am_skip ?_
    simp -implicitDefEqProofs (disch := omega) only [go_sem, eq_self, decide_true, decide_false, Nat.reduceBEq, Nat.reduceAdd, Nat.reduceSub, Nat.reduceMul, Nat.reduceEqDiff, Nat.reduceLeDiff, Nat.reduceLT, Int.reduceLE, Int.reduceLT, Int.reduceToNat, Int.reduceAdd, Int.reduceEq, Int.reduceNeg, AH.put_ne]
    repeat (first | refine am_seq ?_ | (refine am_reg ?_; simp -implicitDefEqProofs (disch := omega) only [go_sem, eq_self, decide_true, decide_false, Nat.reduceBEq, Nat.reduceAdd, Nat.reduceSub, Nat.reduceMul, Nat.reduceEqDiff, Nat.reduceLeDiff, Nat.reduceLT, Int.reduceLE, Int.reduceLT, Int.reduceToNat, Int.reduceAdd, Int.reduceEq, Int.reduceNeg, AH.put_ne, get_of_lt hlt, get_pred hlt, wrap_id, toNat_pred, pred_nonneg h1]) | (refine am_drw ?_; simp -implicitDefEqProofs (disch := omega) only [go_sem, eq_self, decide_true, decide_false, Nat.reduceBEq, Nat.reduceAdd, Nat.reduceSub, Nat.reduceMul, Nat.reduceEqDiff, Nat.reduceLeDiff, Nat.reduceLT, Int.reduceLE, Int.reduceLT, Int.reduceToNat, Int.reduceAdd, Int.reduceEq, Int.reduceNeg, AH.put_ne, get_of_lt hlt, get_pred hlt, wrap_id, toNat_pred, pred_nonneg h1]) | refine am_block ?_)
    refine am_cond rfl (fun hc => ?_) (fun hc => ?_) <;> (try simp -implicitDefEqProofs (disch := omega) only [go_sem, eq_self, decide_true, decide_false, Nat.reduceBEq, Nat.reduceAdd, Nat.reduceSub, Nat.reduceMul, Nat.reduceEqDiff, Nat.reduceLeDiff, Nat.reduceLT, Int.reduceLE, Int.reduceLT, Int.reduceToNat, Int.reduceAdd, Int.reduceEq, Int.reduceNeg, AH.put_ne] at hc)
    · repeat (first | refine am_seq ?_ | (refine am_reg ?_; simp -implicitDefEqProofs (disch := omega) only [go_sem, eq_self, decide_true, decide_false, Nat.reduceBEq, Nat.reduceAdd, Nat.reduceSub, Nat.reduceMul, Nat.reduceEqDiff, Nat.reduceLeDiff, Nat.reduceLT, Int.reduceLE, Int.reduceLT, Int.reduceToNat, Int.reduceAdd, Int.reduceEq, Int.reduceNeg, AH.put_ne]) | (refine am_drw ?_; simp -implicitDefEqProofs (disch := omega) only [go_sem, eq_self, decide_true, decide_false, Nat.reduceBEq, Nat.reduceAdd, Nat.reduceSub, Nat.reduceMul, Nat.reduceEqDiff, Nat.reduceLeDiff, Nat.reduceLT, Int.reduceLE, Int.reduceLT, Int.reduceToNat, Int.reduceAdd, Int.reduceEq, Int.reduceNeg, AH.put_ne]) | refine am_block ?_)
      refine am_ret ?_
      simp -implicitDefEqProofs (disch := omega) only [go_sem, eq_self, decide_true, decide_false, Nat.reduceBEq, Nat.reduceAdd, Nat.reduceSub, Nat.reduceMul, Nat.reduceEqDiff, Nat.reduceLeDiff, Nat.reduceLT, Int.reduceLE, Int.reduceLT, Int.reduceToNat, Int.reduceAdd, Int.reduceEq, Int.reduceNeg, AH.put_ne]
      rw [hg]
      simp_all
    · refine am_skip ?_
      simp -implicitDefEqProofs (disch := omega) only [go_sem, eq_self, decide_true, decide_false, Nat.reduceBEq, Nat.reduceAdd, Nat.reduceSub, Nat.reduceMul, Nat.reduceEqDiff, Nat.reduceLeDiff, Nat.reduceLT, Int.reduceLE, Int.reduceLT, Int.reduceToNat, Int.reduceAdd, Int.reduceEq, Int.reduceNeg, AH.put_ne]
      repeat (first | refine am_seq ?_ | (refine am_reg ?_; simp -implicitDefEqProofs (disch := omega) only [go_sem, eq_self, decide_true, decide_false, Nat.reduceBEq, Nat.reduceAdd, Nat.reduceSub, Nat.reduceMul, Nat.reduceEqDiff, Nat.reduceLeDiff, Nat.reduceLT, Int.reduceLE, Int.reduceLT, Int.reduceToNat, Int.reduceAdd, Int.reduceEq, Int.reduceNeg, AH.put_ne, wrap_id]) | (refine am_drw ?_; simp -implicitDefEqProofs (disch := omega) only [go_sem, eq_self, decide_true, decide_false, Nat.reduceBEq, Nat.reduceAdd, Nat.reduceSub, Nat.reduceMul, Nat.reduceEqDiff, Nat.reduceLeDiff, Nat.reduceLT, Int.reduceLE, Int.reduceLT, Int.reduceToNat, Int.reduceAdd, Int.reduceEq, Int.reduceNeg, AH.put_ne, wrap_id]) | refine am_block ?_)
      refine ⟨n - 1, by omega, i + 1, by omega, by omega, by simp, ?_⟩
      rw [hg]
      simp_all
  · refine am_exit ?_
    simp -implicitDefEqProofs (disch := omega) only [go_sem, eq_self, decide_true, decide_false, Nat.reduceBEq, Nat.reduceAdd, Nat.reduceSub, Nat.reduceMul, Nat.reduceEqDiff, Nat.reduceLeDiff, Nat.reduceLT, Int.reduceLE, Int.reduceLT, Int.reduceToNat, Int.reduceAdd, Int.reduceEq, Int.reduceNeg, AH.put_ne]
    repeat (first | refine am_seq ?_ | (refine am_reg ?_; simp -implicitDefEqProofs (disch := omega) only [go_sem, eq_self, decide_true, decide_false, Nat.reduceBEq, Nat.reduceAdd, Nat.reduceSub, Nat.reduceMul, Nat.reduceEqDiff, Nat.reduceLeDiff, Nat.reduceLT, Int.reduceLE, Int.reduceLT, Int.reduceToNat, Int.reduceAdd, Int.reduceEq, Int.reduceNeg, AH.put_ne]) | (refine am_drw ?_; simp -implicitDefEqProofs (disch := omega) only [go_sem, eq_self, decide_true, decide_false, Nat.reduceBEq, Nat.reduceAdd, Nat.reduceSub, Nat.reduceMul, Nat.reduceEqDiff, Nat.reduceLeDiff, Nat.reduceLT, Int.reduceLE, Int.reduceLT, Int.reduceToNat, Int.reduceAdd, Int.reduceEq, Int.reduceNeg, AH.put_ne]) | refine am_block ?_)
    refine am_ret ?_
    simp -implicitDefEqProofs (disch := omega) only [go_sem, eq_self, decide_true, decide_false, Nat.reduceBEq, Nat.reduceAdd, Nat.reduceSub, Nat.reduceMul, Nat.reduceEqDiff, Nat.reduceLeDiff, Nat.reduceLT, Int.reduceLE, Int.reduceLT, Int.reduceToNat, Int.reduceAdd, Int.reduceEq, Int.reduceNeg, AH.put_ne]
    rw [hg, rise_end _ _ (by simp; omega)]
end Go.Proofs.YtcfeafpjkcmdiaaGreatDoor.Hel
