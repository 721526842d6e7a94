/- Of the walks of this seat: contracts of functions of the given program, proved over the abstract values of the texts Vm. Conditions: as each theorem says. -/
import Derived.Test.YtoicninkfmfnbaaKMA
import Derived.Test.YtoicninkfmfnbaaN1
import Derived.Test.YtoicninkfmfnbaaVm36
set_option linter.unusedVariables false
set_option linter.unusedSimpArgs false
namespace Go.Proofs.Ytoicninkfmfnbaa.Msg
open Go.Vm
attribute [local go_sem] eq_self decide_true decide_false AH.put_ne
attribute [local go_sem_proc] Nat.reduceBEq Nat.reduceAdd Nat.reduceSub Nat.reduceMul Nat.reduceEqDiff Nat.reduceLeDiff Nat.reduceLT Int.reduceLE Int.reduceLT Int.reduceToNat Int.reduceAdd Int.reduceEq Int.reduceNeg
attribute [local go_sem] byteCells_get byteCells_length byteCells_take byteCells_drop bytes_cells fldC fldsE_get fldsE_length blobsE_get blobsE_length u64sE_length u64sE_get List.drop_zero bytesOf_cells toNat_succ Nat.sub_zero Int.toNat_natCast Option.map_some Int.natCast_nonneg decide_eq_true_eq decide_eq_false_iff_not
/- flange/message.Many -/
abbrev k65_0 : MC :=
 .cond (.t 21) (.reg [
 ⟨some 22, none, .val (.mv (.t 5))⟩,
 ⟨some 23, none, .val (.faddr 3 (.t 7))⟩,
 ⟨some 24, none, .val (.load false 1 (.t 23))⟩,
 ⟨some 25, none, .call 61 [(.t 24)]⟩,
 ⟨some 26, none, .bslice 1 1 [.nilSl] [(0, 1, (.t 25))]⟩,
 ⟨some 27, none, .app 1 24 (.t 22) (.t 26)⟩,
 ⟨some 5, none, .val (.mv (.t 27))⟩] [1, 5, 8, 9, 10]) (.skip)
abbrev k65_1 : MC :=
 (.seq (.reg [
 ⟨some 14, none, .val (.faddr 0 (.t 7))⟩,
 ⟨some 15, none, .val (.load false 1 (.t 14))⟩,
 ⟨some 16, none, .val (.mv (.t 1))⟩,
 ⟨some 17, none, .val (.bin .eql .num (.t 15) (.t 16))⟩,
 ⟨some 18, none, .val (.mv (.t 17))⟩,
 ⟨some 19, (some (18, true)), .val (.faddr 1 (.t 7))⟩,
 ⟨some 20, (some (18, true)), .val (.load false 1 (.t 19))⟩,
 ⟨some 21, none, .val (.pick (.t 18) (.t 20) (.c (.bool false)))⟩] [1, 5, 7, 8, 9, 10, 21]) k65_0)
abbrev k65_2 : MC :=
 .reg [
 ⟨some 28, none, .val (.bin .add .num (.t 10) (.c (.int .i64 1)))⟩,
 ⟨some 10, none, .val (.mv (.t 28))⟩] [1, 5, 8, 9, 10]
abbrev k65_3 : MC :=
 (.seq (.block 1 ((.seq (.reg [
 ⟨some 12, none, .val (.iaddr 4 (.t 8) (.t 10))⟩,
 ⟨some 13, none, .val (.load true 4 (.t 12))⟩,
 ⟨some 7, none, .zalloc [(.int .i64 0), (.bool false), (.int .u64 0), .nilSl]⟩,
 ⟨none, none, .store 4 (.t 7) (.t 13)⟩] [1, 5, 7, 8, 9, 10]) k65_1))) k65_2)
abbrev k65_4 : MC :=
 (.seq (.cond (.t 11) (.skip) (.exit 0)) k65_3)
abbrev k65_5 : MC :=
 (.seq (.reg [
 ⟨some 11, none, .val (.bin .lss .num (.t 10) (.t 9))⟩] [1, 5, 8, 9, 10, 11]) k65_4)
abbrev k65_6 : MC :=
 .block 0 (.loop k65_5)
abbrev k65_7 : MC :=
 (.seq (.reg [
 ⟨some 29, none, .val (.mv (.t 5))⟩,
 ⟨some 4, none, .val (.mv (.t 29))⟩] [4]) (.ret))
abbrev k65_8 : MC :=
 (.seq ((.seq (.reg [
 ⟨some 8, none, .val (.mv (.t 0))⟩,
 ⟨some 9, none, .val (.len .sl (.t 8))⟩,
 ⟨some 10, none, .val (.mv (.c (.int .i64 0)))⟩] [1, 5, 8, 9, 10]) k65_6)) k65_7)
abbrev k65_9 : MC :=
 (.seq (.reg [
 ⟨some 5, none, .val (.mv (.c .nilSl))⟩] [0, 1, 5]) k65_8)
abbrev k65 : MC :=
 (.seq (.reg [
 ⟨some 4, none, .val (.mv (.c .nilSl))⟩] [0, 1]) k65_9)
theorem c65 : Try.f65.body.bind (mcOf Try.prog (List.contains [] ·) (List.getD [([], [0, 1]), ([], [0, 1, 5]), ([], [1, 5, 8, 9, 10]), ([], [1, 5, 8, 9, 10, 11]), ([], [1, 5, 7, 8, 9, 10]), ([], [1, 5, 7, 8, 9, 10, 21]), ([], [1, 5, 8, 9, 10]), ([], [1, 5, 8, 9, 10]), ([], [4])] · ([], [])) 30) = some k65 := by kernel_rfl
theorem r65 : rvsOf Try.prog Try.f65.results.toList = some [.tmp 4] := by kernel_rfl
/- flange/message.Bytes -/
abbrev k63_0 : MC :=
 .cond (.t 12) ((.seq (.reg [
 ⟨some 4, none, .val (.mv (.c .nilSl))⟩,
 ⟨some 5, none, .val (.mv (.c (.bool false)))⟩] [4, 5]) (.ret))) (.skip)
abbrev k63_1 : MC :=
 (.seq (.reg [
 ⟨some 13, none, .val (.mv (.t 6))⟩,
 ⟨some 14, none, .val (.iaddr 1 (.t 13) (.c (.int .i64 0)))⟩,
 ⟨some 15, none, .val (.load false 1 (.t 14))⟩,
 ⟨some 4, none, .val (.mv (.t 15))⟩,
 ⟨some 5, none, .val (.mv (.c (.bool true)))⟩] [4, 5]) (.ret))
abbrev k63_2 : MC :=
 (.seq ((.seq (.reg [
 ⟨some 10, none, .val (.mv (.t 6))⟩,
 ⟨some 11, none, .val (.len .sl (.t 10))⟩,
 ⟨some 12, none, .val (.bin .eql .num (.t 11) (.c (.int .i64 0)))⟩] [6, 12]) k63_0)) k63_1)
abbrev k63_3 : MC :=
 (.seq (.reg [
 ⟨some 7, none, .val (.mv (.t 0))⟩,
 ⟨some 8, none, .val (.mv (.t 1))⟩,
 ⟨some 9, none, .call 65 [(.t 7), (.t 8)]⟩,
 ⟨some 6, none, .val (.mv (.t 9))⟩] [6]) k63_2)
abbrev k63 : MC :=
 (.seq (.reg [
 ⟨some 4, none, .val (.mv (.c .nilSl))⟩,
 ⟨some 5, none, .val (.mv (.c (.bool false)))⟩] [0, 1]) k63_3)
theorem c63 : Try.f63.body.bind (mcOf Try.prog (List.contains [] ·) (List.getD [([], [0, 1]), ([], [6]), ([], [6, 12]), ([], [4, 5]), ([], [4, 5])] · ([], [])) 16) = some k63 := by kernel_rfl
theorem r63 : rvsOf Try.prog Try.f63.results.toList = some [.tmp 4, .tmp 5] := by kernel_rfl
theorem many_calls {l : List Fld} {t : Tok} {tag : Int} (hl : l.length < 1000000) (hb : ∀ f ∈ l, f.b.length < 100000000) (H : AH) :
    ACalls Try.prog 65 [.sl 4 (fldsE l) t, .int .i64 tag] H (fun o H' => o = .ret (.sl 1 (blobsE (manyT l tag)) .no) ∧ H' = H) := by
  refine acc_pure ?_
  refine acalls Try.func65 c65 r65 (by simp [Try.ntmps65]) ?_
  repeat' (first | with_reducible (first | refine am_seq ?_ | refine am_block ?_) | ((with_reducible apply am_cond); (case hb => rfl); all_goals (intro hc; (try simp only [reduceCtorEq, bD, beq_iff_eq] at hc); (try (exfalso; omega)))) | ((first | with_reducible (first | refine am_reg ?_ | refine am_skip ?_ | refine am_exit ?_ | refine am_ret ?_ | refine vc_intro ?_ | refine need_elems (by assumption) ?_ | refine vlen_acc (by assumption) ?_ | refine need_bytes (by assumption) ?_ | refine need_lk ?_) | ((with_reducible (first | apply gd_not | apply gd_of | apply gq_not | apply gq_of | apply pickB_of)) <;> intro hc <;> (try simp -implicitDefEqProofs (disch := omega) only [go_sem, hc, wrap_id]) <;> (try simp only [reduceCtorEq, bD, beq_iff_eq] at hc) <;> (try (exfalso; omega))) | ((with_reducible refine alloc_intro (fun ko hko => ?_)) <;> (try have hne := fresh_ne (by assumption) hko) <;> (try have hnk := fresh_ne hk hko) <;> (try have hnk2 := fresh_ne hk2 hko) <;> (try simp only [AH.put_none] at hko)) | ((with_reducible (first | refine vapp_accL (by assumption) ?_ (fun v2 H2 hacc hlec => ?_) | refine vapp_accL (AccP.mono (by assumption) (AccP.le (by assumption))) ?_ (fun v2 H2 hacc hlec => ?_) | refine vapp_accL (AccP.new (by assumption) (by assumption) _) ?_ (fun v2 H2 hacc hlec => ?_))); · simp only [byteCells_length, List.length_cons, List.length_nil, List.length_map, List.length_append, fldsE_length, blobsE_length, u64sE_length]; omega) | done) <;> (try simp -implicitDefEqProofs (disch := omega) only [go_sem, wrap_id])))
  refine am_loop (fun n a H' => ∃ (i : Nat) (v : V) (acc : List (List UInt8)), i + n = l.length ∧ a = [(1, .int .i64 tag), (5, v), (8, .sl 4 (fldsE l) t), (9, .int .i64 l.length), (10, .int .i64 i)] ∧ AccP H 1 (blobsE acc) v H' ∧ acc.length ≤ i ∧ manyT l tag = acc ++ manyT (l.drop i) tag) ?_ l.length ⟨0, .nilSl, [], by omega, rfl, AccP.nil _ _, by simp, by simp⟩
  rintro n a H' ⟨i, v, acc, hi, rfl, hacc, hal, he⟩
  by_cases hlt : i < l.length
  · have hbb := hb l[i] (List.getElem_mem hlt)
    rw [List.drop_eq_getElem_cons hlt] at he
    have hm : manyT (l[i] :: l.drop (i + 1)) tag = (if (decide (l[i].tag = tag) && l[i].by_) = true then [l[i].b] else []) ++ manyT (l.drop (i + 1)) tag := by
      simp only [manyT, List.filter_cons]; split <;> simp
    rw [hm] at he
    repeat' (first | with_reducible (first | refine am_seq ?_ | refine am_block ?_) | ((with_reducible apply am_cond); (case hb => rfl); all_goals (intro hc; (try simp only [reduceCtorEq, bD, beq_iff_eq] at hc); (try (exfalso; omega)))) | ((first | with_reducible (first | refine am_reg ?_ | refine am_skip ?_ | refine am_exit ?_ | refine am_ret ?_ | refine vc_intro ?_ | refine need_elems (by assumption) ?_ | refine vlen_acc (by assumption) ?_ | refine need_bytes (by assumption) ?_ | refine call_of (clone_calls hbb) ?_ | refine qcall_of (clone_calls hbb) ?_ | refine need_lk ?_) | ((with_reducible (first | apply gd_not | apply gd_of | apply gq_not | apply gq_of | apply pickB_of)) <;> intro hc <;> (try simp -implicitDefEqProofs (disch := omega) only [go_sem, hc, wrap_id, get_of_lt hlt]) <;> (try simp only [reduceCtorEq, bD, beq_iff_eq] at hc) <;> (try (exfalso; omega))) | ((with_reducible refine alloc_intro (fun ko hko => ?_)) <;> (try have hne := fresh_ne (by assumption) hko) <;> (try have hnk := fresh_ne hk hko) <;> (try have hnk2 := fresh_ne hk2 hko) <;> (try simp only [AH.put_none] at hko)) | ((with_reducible (first | refine vapp_accL (by assumption) ?_ (fun v2 H2 hacc hlec => ?_) | refine vapp_accL (AccP.mono (by assumption) (AccP.le (by assumption))) ?_ (fun v2 H2 hacc hlec => ?_) | refine vapp_accL (AccP.new (by assumption) (by assumption) _) ?_ (fun v2 H2 hacc hlec => ?_))); · simp only [byteCells_length, List.length_cons, List.length_nil, List.length_map, List.length_append, fldsE_length, blobsE_length, u64sE_length]; omega) | done) <;> (try simp -implicitDefEqProofs (disch := omega) only [go_sem, wrap_id, get_of_lt hlt])))
    · have e : (decide (l[i].tag = tag) && l[i].by_) = true := by simp_all
      rw [if_pos e] at he
      exact ⟨n - 1, by omega, i + 1, v2, acc ++ [l[i].b], by omega, by simp, by rw [blobsE_append]; exact hacc, by simp; omega, by rw [he]; simp⟩
    · have e : ¬ (decide (l[i].tag = tag) && l[i].by_) = true := by simp_all
      rw [if_neg e] at he
      exact ⟨n - 1, by omega, i + 1, v, acc, by omega, by simp, hacc.new (by assumption) _, by omega, by rw [he]; simp⟩
    · have e : ¬ (decide (l[i].tag = tag) && l[i].by_) = true := by simp_all
      rw [if_neg e] at he
      exact ⟨n - 1, by omega, i + 1, v, acc, by omega, by simp, hacc.new (by assumption) _, by omega, by rw [he]; simp⟩
  · repeat' (first | with_reducible (first | refine am_seq ?_ | refine am_block ?_) | ((with_reducible apply am_cond); (case hb => rfl); all_goals (intro hc; (try simp only [reduceCtorEq, bD, beq_iff_eq] at hc); (try (exfalso; omega)))) | ((first | with_reducible (first | refine am_reg ?_ | refine am_skip ?_ | refine am_exit ?_ | refine am_ret ?_ | refine vc_intro ?_ | refine need_elems (by assumption) ?_ | refine vlen_acc (by assumption) ?_ | refine need_bytes (by assumption) ?_ | refine need_lk ?_) | ((with_reducible (first | apply gd_not | apply gd_of | apply gq_not | apply gq_of | apply pickB_of)) <;> intro hc <;> (try simp -implicitDefEqProofs (disch := omega) only [go_sem, hc, wrap_id]) <;> (try simp only [reduceCtorEq, bD, beq_iff_eq] at hc) <;> (try (exfalso; omega))) | ((with_reducible refine alloc_intro (fun ko hko => ?_)) <;> (try have hne := fresh_ne (by assumption) hko) <;> (try have hnk := fresh_ne hk hko) <;> (try have hnk2 := fresh_ne hk2 hko) <;> (try simp only [AH.put_none] at hko)) | ((with_reducible (first | refine vapp_accL (by assumption) ?_ (fun v2 H2 hacc hlec => ?_) | refine vapp_accL (AccP.mono (by assumption) (AccP.le (by assumption))) ?_ (fun v2 H2 hacc hlec => ?_) | refine vapp_accL (AccP.new (by assumption) (by assumption) _) ?_ (fun v2 H2 hacc hlec => ?_))); · simp only [byteCells_length, List.length_cons, List.length_nil, List.length_map, List.length_append, fldsE_length, blobsE_length, u64sE_length]; omega) | done) <;> (try simp -implicitDefEqProofs (disch := omega) only [go_sem, wrap_id])))
    rw [List.drop_eq_nil_of_le (by omega)] at he
    rw [show manyT l tag = acc by rw [he]; simp [manyT]]
    exact ⟨_, rfl, hacc⟩
theorem mbytes_calls {l : List Fld} {t : Tok} {tag : Int} (hl : l.length < 1000000) (hb : ∀ f ∈ l, f.b.length < 100000000) (H : AH) :
    ACalls Try.prog 63 [.sl 4 (fldsE l) t, .int .i64 tag] H (fun o H' => o = .ret (.tuple [.sl 1 (byteCells (blobT l tag)) .no, .bool (decide (manyT l tag ≠ []))]) ∧ H' = H) := by
  refine ACalls.drop ?_
  refine acalls Try.func63 c63 r63 (by simp [Try.ntmps63]) ?_
  cases hm : manyT l tag with
  | nil =>
    have c := fun H => many_calls (t := t) (tag := tag) hl hb H
    rw [hm] at c
    repeat' (first | with_reducible (first | refine am_seq ?_ | refine am_block ?_) | ((with_reducible apply am_cond); (case hb => rfl); all_goals (intro hc; (try simp only [reduceCtorEq, bD, beq_iff_eq] at hc); (try (exfalso; omega)))) | ((first | with_reducible (first | refine am_reg ?_ | refine am_skip ?_ | refine am_exit ?_ | refine am_ret ?_ | refine vc_intro ?_ | refine need_elems (by assumption) ?_ | refine vlen_acc (by assumption) ?_ | refine need_bytes (by assumption) ?_ | refine call_of (c) ?_ | refine qcall_of (c) ?_ | refine need_lk ?_) | done) <;> (try simp -implicitDefEqProofs (disch := omega) only [go_sem, wrap_id])))
    rw [show blobT l tag = [] by simp [blobT, hm]]
    (refine drop_end (by (first | exact fun _ _ h => h | (intro s x h; first | exact no_sub _ h | exact nil_no _ h | exact AccP.sub (by assumption) _ _ h | (refine agg_sub rfl ?_ x h; repeat (first | exact .nil | refine .cons (fun _ h => h) ?_ | refine .cons (fun _ h => nil_no _ h) ?_ | refine .cons (fun _ h => no_sub _ h) ?_ | refine .cons (fun _ h => AccP.sub (by assumption) _ _ h) ?_)) | (refine tuple_sub ?_ x h; repeat (first | exact .nil | refine .cons (fun _ h => h) ?_ | refine .cons (fun _ h => nil_no _ h) ?_ | refine .cons (fun _ h => no_sub _ h) ?_ | refine .cons (fun _ h => AccP.sub (by assumption) _ _ h) ?_ | refine .cons (fun _ h => agg_sub rfl (by repeat (first | exact .nil | refine .cons (fun _ h => h) ?_ | refine .cons (fun _ h => nil_no _ h) ?_ | refine .cons (fun _ h => no_sub _ h) ?_ | refine .cons (fun _ h => AccP.sub (by assumption) _ _ h) ?_)) _ h) ?_))))) (by (repeat (first | exact AH.le_refl _ | assumption | exact AccP.le (by assumption) | refine AH.le_put ?_ (by first | assumption | exact none_of_le (by assumption) (by assumption) | exact And.right (by assumption) | exact And.right (And.right (by assumption))) _ | refine AH.le_trans ?_ (AccP.le (by assumption))))))
  | cons x xs =>
    have c := fun H => many_calls (t := t) (tag := tag) hl hb H
    rw [hm] at c
    repeat' (first | with_reducible (first | refine am_seq ?_ | refine am_block ?_) | ((with_reducible apply am_cond); (case hb => rfl); all_goals (intro hc; (try simp only [reduceCtorEq, bD, beq_iff_eq] at hc); (try (exfalso; omega)))) | ((first | with_reducible (first | refine am_reg ?_ | refine am_skip ?_ | refine am_exit ?_ | refine am_ret ?_ | refine vc_intro ?_ | refine need_elems (by assumption) ?_ | refine vlen_acc (by assumption) ?_ | refine need_bytes (by assumption) ?_ | refine call_of (c) ?_ | refine qcall_of (c) ?_ | refine need_lk ?_) | done) <;> (try simp -implicitDefEqProofs (disch := omega) only [go_sem, wrap_id])))
    rw [show blobT l tag = x by simp [blobT, hm]]
    (refine drop_end (by (first | exact fun _ _ h => h | (intro s x h; first | exact no_sub _ h | exact nil_no _ h | exact AccP.sub (by assumption) _ _ h | (refine agg_sub rfl ?_ x h; repeat (first | exact .nil | refine .cons (fun _ h => h) ?_ | refine .cons (fun _ h => nil_no _ h) ?_ | refine .cons (fun _ h => no_sub _ h) ?_ | refine .cons (fun _ h => AccP.sub (by assumption) _ _ h) ?_)) | (refine tuple_sub ?_ x h; repeat (first | exact .nil | refine .cons (fun _ h => h) ?_ | refine .cons (fun _ h => nil_no _ h) ?_ | refine .cons (fun _ h => no_sub _ h) ?_ | refine .cons (fun _ h => AccP.sub (by assumption) _ _ h) ?_ | refine .cons (fun _ h => agg_sub rfl (by repeat (first | exact .nil | refine .cons (fun _ h => h) ?_ | refine .cons (fun _ h => nil_no _ h) ?_ | refine .cons (fun _ h => no_sub _ h) ?_ | refine .cons (fun _ h => AccP.sub (by assumption) _ _ h) ?_)) _ h) ?_))))) (by (repeat (first | exact AH.le_refl _ | assumption | exact AccP.le (by assumption) | refine AH.le_put ?_ (by first | assumption | exact none_of_le (by assumption) (by assumption) | exact And.right (by assumption) | exact And.right (And.right (by assumption))) _ | refine AH.le_trans ?_ (AccP.le (by assumption))))))
end Go.Proofs.Ytoicninkfmfnbaa.Msg
namespace Go.Proofs.Ytoicninkfmfnbaa.Msg
open Go.Vm
attribute [local go_sem] eq_self decide_true decide_false AH.put_ne
attribute [local go_sem_proc] Nat.reduceBEq Nat.reduceAdd Nat.reduceSub Nat.reduceMul Nat.reduceEqDiff Nat.reduceLeDiff Nat.reduceLT Int.reduceLE Int.reduceLT Int.reduceToNat Int.reduceAdd Int.reduceEq Int.reduceNeg
attribute [local go_sem] strsE_get strsE_length intsE_get intsE_length byteCells_get byteCells_length byteCells_take byteCells_drop bytes_cells fldC fldsE_get fldsE_length blobsE_get blobsE_length u64sE_length u64sE_get List.drop_zero bytesOf_cells toNat_succ Nat.sub_zero Int.toNat_natCast Option.map_some Int.natCast_nonneg decide_eq_true_eq decide_eq_false_iff_not
/- slices.IndexFunc[[]flange/message.Field,flange/message.Field] -/
abbrev k75_0 : MC :=
 .cond (.t 16) ((.seq (.reg [
 ⟨some 17, none, .val (.mv (.t 5))⟩,
 ⟨some 4, none, .val (.mv (.t 17))⟩] [4]) (.ret))) (.skip)
abbrev k75_1 : MC :=
 (.seq (.reg [
 ⟨some 11, none, .val (.mv (.t 1))⟩,
 ⟨some 12, none, .val (.mv (.t 0))⟩,
 ⟨some 13, none, .val (.mv (.t 5))⟩,
 ⟨some 14, none, .val (.iaddr 4 (.t 12) (.t 13))⟩,
 ⟨some 15, none, .val (.load true 4 (.t 14))⟩,
 ⟨some 16, none, .callv (.t 11) [(.t 15)]⟩] [0, 1, 5, 7, 8, 16]) k75_0)
abbrev k75_2 : MC :=
 .reg [
 ⟨some 18, none, .val (.bin .add .num (.t 8) (.c (.int .i64 1)))⟩,
 ⟨some 8, none, .val (.mv (.t 18))⟩] [0, 1, 7, 8]
abbrev k75_3 : MC :=
 (.seq (.block 1 ((.seq (.reg [
 ⟨some 10, none, .val (.mv (.t 8))⟩,
 ⟨some 5, none, .val (.mv (.t 10))⟩] [0, 1, 5, 7, 8]) k75_1))) k75_2)
abbrev k75_4 : MC :=
 (.seq (.cond (.t 9) (.skip) (.exit 0)) k75_3)
abbrev k75_5 : MC :=
 (.seq (.reg [
 ⟨some 9, none, .val (.bin .lss .num (.t 8) (.t 7))⟩] [0, 1, 7, 8, 9]) k75_4)
abbrev k75_6 : MC :=
 .block 0 (.loop k75_5)
abbrev k75_7 : MC :=
 (.seq (.reg [
 ⟨some 4, none, .val (.mv (.c (.int .i64 (-1))))⟩] [4]) (.ret))
abbrev k75_8 : MC :=
 (.seq ((.seq (.reg [
 ⟨some 6, none, .val (.mv (.t 0))⟩,
 ⟨some 7, none, .val (.len .sl (.t 6))⟩,
 ⟨some 8, none, .val (.mv (.c (.int .i64 0)))⟩] [0, 1, 7, 8]) k75_6)) k75_7)
abbrev k75 : MC :=
 (.seq (.reg [
 ⟨some 4, none, .val (.mv (.c (.int .i64 0)))⟩] [0, 1]) k75_8)
theorem c75 : Try.f75.body.bind (mcOf Try.prog (List.contains [] ·) (List.getD [([], [0, 1]), ([], [0, 1, 7, 8]), ([], [0, 1, 7, 8, 9]), ([], [0, 1, 5, 7, 8]), ([], [0, 1, 5, 7, 8, 16]), ([], [4]), ([], [0, 1, 7, 8]), ([], [4])] · ([], [])) 19) = some k75 := by kernel_rfl
theorem r75 : rvsOf Try.prog Try.f75.results.toList = some [.tmp 4] := by kernel_rfl
/- flange/message.Number -/
abbrev k62_0 : MC :=
 .cond (.t 11) ((.seq (.reg [
 ⟨some 4, none, .val (.mv (.c (.int .u64 0)))⟩,
 ⟨some 5, none, .val (.mv (.c (.bool false)))⟩] [4, 5]) (.ret))) (.skip)
abbrev k62_1 : MC :=
 (.seq (.reg [
 ⟨some 12, none, .val (.mv (.t 0))⟩,
 ⟨some 13, none, .val (.mv (.t 6))⟩,
 ⟨some 14, none, .val (.iaddr 4 (.t 12) (.t 13))⟩,
 ⟨some 15, none, .val (.faddr 2 (.t 14))⟩,
 ⟨some 16, none, .val (.load false 1 (.t 15))⟩,
 ⟨some 4, none, .val (.mv (.t 16))⟩,
 ⟨some 5, none, .val (.mv (.c (.bool true)))⟩] [4, 5]) (.ret))
abbrev k62_2 : MC :=
 (.seq ((.seq (.reg [
 ⟨some 10, none, .val (.mv (.t 6))⟩,
 ⟨some 11, none, .val (.bin .lss .num (.t 10) (.c (.int .i64 0)))⟩] [0, 6, 11]) k62_0)) k62_1)
abbrev k62_3 : MC :=
 (.seq (.reg [
 ⟨some 7, none, .val (.mv (.t 0))⟩,
 ⟨some 8, none, .val (.mkfn (.func 76) [] [(.t 3)])⟩,
 ⟨some 9, none, .call 75 [(.t 7), (.t 8)]⟩,
 ⟨some 6, none, .val (.mv (.t 9))⟩] [0, 6]) k62_2)
abbrev k62 : MC :=
 (.seq (.reg [
 ⟨some 3, none, .box (.t 1)⟩,
 ⟨some 4, none, .val (.mv (.c (.int .u64 0)))⟩,
 ⟨some 5, none, .val (.mv (.c (.bool false)))⟩] [0, 3]) k62_3)
theorem c62 : Try.f62.body.bind (mcOf Try.prog (List.contains [] ·) (List.getD [([], [0, 3]), ([], [0, 6]), ([], [0, 6, 11]), ([], [4, 5]), ([], [4, 5])] · ([], [])) 17) = some k62 := by kernel_rfl
theorem r62 : rvsOf Try.prog Try.f62.results.toList = some [.tmp 4, .tmp 5] := by kernel_rfl
/- flange/message.Number$1 -/
abbrev k76_0 : MC :=
 (.seq (.reg [
 ⟨some 4, none, .val (.faddr 0 (.t 2))⟩,
 ⟨some 5, none, .val (.load false 1 (.t 4))⟩,
 ⟨some 6, none, .val (.load false 1 (.t 1))⟩,
 ⟨some 7, none, .val (.bin .eql .num (.t 5) (.t 6))⟩,
 ⟨some 8, none, .val (.mv (.t 7))⟩,
 ⟨some 9, (some (8, true)), .val (.faddr 1 (.t 2))⟩,
 ⟨some 10, (some (8, true)), .val (.load false 1 (.t 9))⟩,
 ⟨some 11, (some (8, true)), .val (.not (.t 10))⟩,
 ⟨some 12, none, .val (.pick (.t 8) (.t 11) (.c (.bool false)))⟩,
 ⟨some 3, none, .val (.mv (.t 12))⟩] [3]) (.ret))
abbrev k76 : MC :=
 (.seq (.reg [
 ⟨some 2, none, .boxi (.t 0)⟩,
 ⟨some 3, none, .val (.mv (.c (.bool false)))⟩] [1, 2]) k76_0)
theorem c76 : Try.f76.body.bind (mcOf Try.prog (List.contains [2] ·) (List.getD [([], [1, 2]), ([], [3])] · ([], [])) 13) = some k76 := by kernel_rfl
theorem r76 : rvsOf Try.prog Try.f76.results.toList = some [.tmp 3] := by kernel_rfl
def idxB {α : Type} (p : α → Bool) : List α → Int → Int
  | [], _ => -1
  | y :: l, i => if p y = true then i else idxB p l (i + 1)
theorem findex_calls {l : List Fld} {t : Tok} {f : Nat} {us ws : List V} {p : Fld → Bool} (hl : l.length < 4611686018427387904) (he : entered Try.prog f = true) (H : AH) (hf : ∀ x ∈ l, ACalls Try.prog f (us ++ [.agg (fldC x)] ++ ws) H (fun o H' => o = .ret (.bool (p x)) ∧ H' = H)) :
    ACalls Try.prog 75 [.sl 4 (fldsE l) t, .func (.func f) us ws] H (fun o H' => o = .ret (.int .i64 (idxB p l 0)) ∧ H' = H) := by
  refine acalls Try.func75 c75 r75 (by simp [Try.ntmps75]) ?_
  repeat' (first | with_reducible (first | refine am_seq ?_ | refine am_block ?_) | ((with_reducible apply am_cond); (case hb => rfl); all_goals (intro hc; (try simp only [reduceCtorEq, bD, beq_iff_eq] at hc); (try (exfalso; omega)))) | ((first | with_reducible (first | refine am_reg ?_ | refine am_skip ?_ | refine am_exit ?_ | refine am_ret ?_ | refine vc_intro ?_ | refine need_elems (by assumption) ?_ | refine vlen_acc (by assumption) ?_ | refine need_bytes (by assumption) ?_ | refine need_lk ?_) | done) <;> (try simp -implicitDefEqProofs (disch := omega) only [go_sem, wrap_id])))
  refine am_loop (fun n a H' => ∃ i : Nat, i + n = l.length ∧ a = [(0, .sl 4 (fldsE l) t), (1, .func (.func f) us ws), (7, .int .i64 l.length), (8, .int .i64 i)] ∧ H' = H ∧ idxB p l 0 = idxB p (l.drop i) i) ?_ l.length ⟨0, by simp, by simp, rfl, by simp⟩
  rintro n a H' ⟨i, hi, rfl, rfl, hg⟩
  by_cases hlt : i < l.length
  · rw [List.drop_eq_getElem_cons hlt, idxB] at hg
    repeat' (first | with_reducible (first | refine am_seq ?_ | refine am_block ?_) | ((with_reducible apply am_cond); (case hb => rfl); all_goals (intro hc; (try simp only [reduceCtorEq, bD, beq_iff_eq] at hc); (try (exfalso; omega)))) | ((first | with_reducible (first | refine am_reg ?_ | refine am_skip ?_ | refine am_exit ?_ | refine am_ret ?_ | refine vc_intro ?_ | refine need_elems (by assumption) ?_ | refine vlen_acc (by assumption) ?_ | refine need_bytes (by assumption) ?_ | refine need_lk ?_) | done) <;> (try simp -implicitDefEqProofs (disch := omega) only [go_sem, wrap_id, get_of_lt hlt])))
    refine call_turn (hf _ (List.getElem_mem hlt)) ?_
    try simp -implicitDefEqProofs (disch := omega) only [go_sem]
    cases hp : p l[i]
    · rw [if_neg (by simp [hp])] at hg
      repeat' (first | with_reducible (first | refine am_seq ?_ | refine am_block ?_) | ((with_reducible apply am_cond); (case hb => rfl); all_goals (intro hc; (try simp only [reduceCtorEq, bD, beq_iff_eq] at hc); (try (exfalso; omega)))) | ((first | with_reducible (first | refine am_reg ?_ | refine am_skip ?_ | refine am_exit ?_ | refine am_ret ?_ | refine vc_intro ?_ | refine need_elems (by assumption) ?_ | refine vlen_acc (by assumption) ?_ | refine need_bytes (by assumption) ?_ | refine need_lk ?_) | done) <;> (try simp -implicitDefEqProofs (disch := omega) only [go_sem, wrap_id, hp])))
      all_goals exact ⟨n - 1, by omega, i + 1, by omega, by simp, by rw [hg]; rfl⟩
    · rw [if_pos (by simp [hp])] at hg
      repeat' (first | with_reducible (first | refine am_seq ?_ | refine am_block ?_) | ((with_reducible apply am_cond); (case hb => rfl); all_goals (intro hc; (try simp only [reduceCtorEq, bD, beq_iff_eq] at hc); (try (exfalso; omega)))) | ((first | with_reducible (first | refine am_reg ?_ | refine am_skip ?_ | refine am_exit ?_ | refine am_ret ?_ | refine vc_intro ?_ | refine need_elems (by assumption) ?_ | refine vlen_acc (by assumption) ?_ | refine need_bytes (by assumption) ?_ | refine need_lk ?_) | done) <;> (try simp -implicitDefEqProofs (disch := omega) only [go_sem, wrap_id, hp])))
      all_goals (rw [hg])
  · rw [List.drop_eq_nil_of_le (by omega)] at hg
    repeat' (first | with_reducible (first | refine am_seq ?_ | refine am_block ?_) | ((with_reducible apply am_cond); (case hb => rfl); all_goals (intro hc; (try simp only [reduceCtorEq, bD, beq_iff_eq] at hc); (try (exfalso; omega)))) | ((first | with_reducible (first | refine am_reg ?_ | refine am_skip ?_ | refine am_exit ?_ | refine am_ret ?_ | refine vc_intro ?_ | refine need_elems (by assumption) ?_ | refine vlen_acc (by assumption) ?_ | refine need_bytes (by assumption) ?_ | refine need_lk ?_) | done) <;> (try simp -implicitDefEqProofs (disch := omega) only [go_sem, wrap_id])))
    all_goals (rw [hg]; try rfl)
theorem number1_calls {x : Fld} {k : Nat} {tag : Int} {H : AH} (hk : H k = some (.cells [.int .i64 tag])) :
    ACalls Try.prog 76 [.agg (fldC x), .ptr k 0] H (fun o H' => o = .ret (.bool (decide (x.tag = tag) && !x.by_)) ∧ H' = H) := by
  refine ACalls.drop ?_
  refine acalls Try.func76 c76 r76 (by simp [Try.ntmps76]) ?_
  repeat' (first | with_reducible (first | refine am_seq ?_ | refine am_block ?_) | ((with_reducible apply am_cond); (case hb => rfl); all_goals (intro hc; (try simp only [reduceCtorEq, bD, beq_iff_eq] at hc); (try (exfalso; omega)))) | ((first | with_reducible (first | refine am_reg ?_ | refine am_skip ?_ | refine am_exit ?_ | refine am_ret ?_ | refine vc_intro ?_ | refine need_elems (by assumption) ?_ | refine vlen_acc (by assumption) ?_ | refine need_bytes (by assumption) ?_ | refine need_lk ?_) | ((with_reducible (first | apply gd_not | apply gd_of | apply gq_not | apply gq_of | apply pickB_of)) <;> intro hc <;> (try simp -implicitDefEqProofs (disch := omega) only [go_sem, hc, wrap_id, hk]) <;> (try simp only [reduceCtorEq, bD, beq_iff_eq] at hc) <;> (try (exfalso; omega))) | ((with_reducible refine alloc_intro (fun ko hko => ?_)) <;> (try have hne := fresh_ne (by assumption) hko) <;> (try have hnk := fresh_ne hk hko) <;> (try have hnk2 := fresh_ne hk2 hko) <;> (try simp only [AH.put_none] at hko)) | done) <;> (try simp -implicitDefEqProofs (disch := omega) only [go_sem, wrap_id, hk])))
  all_goals exact drop_end (fun _ _ h => h) (AH.le_refl _)
theorem idxB_find {α : Type} (p : α → Bool) : ∀ (l : List α) (i : Nat), (l.find? p = none ∧ idxB p l i = -1) ∨ (∃ (j : Nat) (h : j < l.length), l.find? p = some l[j] ∧ idxB p l i = (i : Int) + j)
  | [], i => .inl ⟨rfl, rfl⟩
  | y :: l, i => by
    simp only [List.find?_cons, idxB]
    cases hp : p y
    · rcases idxB_find p l (i + 1) with ⟨h1, h2⟩ | ⟨j, hj, h1, h2⟩
      · exact .inl ⟨h1, by rw [if_neg (by simp)]; exact h2⟩
      · refine .inr ⟨j + 1, by simp; omega, by simpa using h1, ?_⟩
        rw [if_neg (by simp)]
        have : (((i + 1 : Nat) : Int)) = (i : Int) + 1 := by omega
        rw [this] at h2
        rw [h2]; omega
    · exact .inr ⟨0, by simp, by simp, by simp⟩
def numT (tag : Int) (f : Fld) : Bool := decide (f.tag = tag) && !f.by_
def numS (l : List Fld) (tag : Int) : Nat × Bool := match l.find? (numT tag) with
  | none => (0, false)
  | some f => (f.n, true)
theorem mnumber_calls {l : List Fld} {t : Tok} {tag : Int} (hl : l.length < 4611686018427387904) (H : AH) :
    ACalls Try.prog 62 [.sl 4 (fldsE l) t, .int .i64 tag] H (fun o H' => o = .ret (.tuple [.int .u64 (numS l tag).1, .bool (numS l tag).2]) ∧ H' = H) := by
  refine ACalls.drop ?_
  refine acalls Try.func62 c62 r62 (by simp [Try.ntmps62]) ?_
  repeat' (first | with_reducible (first | refine am_seq ?_ | refine am_block ?_) | ((with_reducible apply am_cond); (case hb => rfl); all_goals (intro hc; (try simp only [reduceCtorEq, bD, beq_iff_eq] at hc); (try (exfalso; omega)))) | ((first | with_reducible (first | refine am_reg ?_ | refine am_skip ?_ | refine am_exit ?_ | refine am_ret ?_ | refine vc_intro ?_ | refine need_elems (by assumption) ?_ | refine vlen_acc (by assumption) ?_ | refine need_bytes (by assumption) ?_ | refine need_lk ?_) | ((with_reducible refine alloc_intro (fun ko hko => ?_)) <;> (try have hne := fresh_ne (by assumption) hko) <;> (try have hnk := fresh_ne hk hko) <;> (try have hnk2 := fresh_ne hk2 hko) <;> (try simp only [AH.put_none] at hko)) | done) <;> (try simp -implicitDefEqProofs (disch := omega) only [go_sem, wrap_id])))
  refine call_turn (findex_calls (p := numT tag) hl (by kernel_rfl) _ (fun x _ => number1_calls (AH.put_same _ _ _))) ?_
  rcases idxB_find (numT tag) l 0 with ⟨h1, h2⟩ | ⟨j, hj, h1, h2⟩
  · have h3 : numS l tag = (0, false) := by rw [numS, h1]
    have h2' : idxB (numT tag) l 0 = -1 := h2
    rw [h2', h3]
    simp -implicitDefEqProofs (disch := omega) only [go_sem]
    try repeat' (first | with_reducible (first | refine am_seq ?_ | refine am_block ?_) | ((with_reducible apply am_cond); (case hb => rfl); all_goals (intro hc; (try simp only [reduceCtorEq, bD, beq_iff_eq] at hc); (try (exfalso; omega)))) | ((first | with_reducible (first | refine am_reg ?_ | refine am_skip ?_ | refine am_exit ?_ | refine am_ret ?_ | refine vc_intro ?_ | refine need_elems (by assumption) ?_ | refine vlen_acc (by assumption) ?_ | refine need_bytes (by assumption) ?_ | refine need_lk ?_) | ((with_reducible refine alloc_intro (fun ko hko => ?_)) <;> (try have hne := fresh_ne (by assumption) hko) <;> (try have hnk := fresh_ne hk hko) <;> (try have hnk2 := fresh_ne hk2 hko) <;> (try simp only [AH.put_none] at hko)) | done) <;> (try simp -implicitDefEqProofs (disch := omega) only [go_sem, wrap_id])))
    all_goals exact drop_end (fun _ _ h => h) (AH.le_put (AH.le_refl _) (by assumption) _)
  · have h3 : numS l tag = (l[j].n, true) := by rw [numS, h1]
    have h2' : idxB (numT tag) l 0 = (j : Int) := by rw [show (0 : Int) = ((0 : Nat) : Int) from rfl, h2]; omega
    rw [h2', h3]
    simp -implicitDefEqProofs (disch := omega) only [go_sem]
    try repeat' (first | with_reducible (first | refine am_seq ?_ | refine am_block ?_) | ((with_reducible apply am_cond); (case hb => rfl); all_goals (intro hc; (try simp only [reduceCtorEq, bD, beq_iff_eq] at hc); (try (exfalso; omega)))) | ((first | with_reducible (first | refine am_reg ?_ | refine am_skip ?_ | refine am_exit ?_ | refine am_ret ?_ | refine vc_intro ?_ | refine need_elems (by assumption) ?_ | refine vlen_acc (by assumption) ?_ | refine need_bytes (by assumption) ?_ | refine need_lk ?_) | ((with_reducible refine alloc_intro (fun ko hko => ?_)) <;> (try have hne := fresh_ne (by assumption) hko) <;> (try have hnk := fresh_ne hk hko) <;> (try have hnk2 := fresh_ne hk2 hko) <;> (try simp only [AH.put_none] at hko)) | done) <;> (try simp -implicitDefEqProofs (disch := omega) only [go_sem, wrap_id, get_of_lt hj])))
    all_goals exact drop_end (fun _ _ h => h) (AH.le_put (AH.le_refl _) (by assumption) _)
end Go.Proofs.Ytoicninkfmfnbaa.Msg
