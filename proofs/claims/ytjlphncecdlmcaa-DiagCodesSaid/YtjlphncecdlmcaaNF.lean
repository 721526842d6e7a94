/- Of the walks of this seat: contracts of functions of the given program, proved over the abstract values of the texts Vm. Conditions: as each theorem says. -/
import Derived.Test.YtjlphncecdlmcaaNE
import Derived.Test.YtjlphncecdlmcaaVm36
set_option linter.unusedVariables false
set_option linter.unusedSimpArgs false
namespace Go.Proofs.Ytjlphncecdlmcaa
open Go.Vm
attribute [local go_sem] eq_self decide_true decide_false AH.put_ne
attribute [local go_sem_proc] Nat.reduceBEq Nat.reduceAdd Nat.reduceSub Nat.reduceMul Nat.reduceEqDiff Nat.reduceLeDiff Nat.reduceLT Int.reduceLE Int.reduceLT Int.reduceToNat Int.reduceAdd Int.reduceEq Int.reduceNeg
attribute [local go_sem] byteCells_get byteCells_length byteCells_take byteCells_drop bytes_cells fldC fldsE_get fldsE_length List.drop_zero bytesOf_cells toNat_succ Nat.sub_zero Int.toNat_natCast Option.map_some Int.natCast_nonneg decide_eq_true_eq decide_eq_false_iff_not
/- flange/message.Encode -/
abbrev k89_0 : MC :=
 .cond (.t 14) ((.seq (.reg [
 ⟨some 2, none, .val (.mv (.c .nilSl))⟩,
 ⟨some 3, none, .val (.mv (.c (.int .i64 3)))⟩] [2, 3]) (.ret))) (.skip)
abbrev k89_1 : MC :=
 .reg [
 ⟨some 21, none, .val (.mv (.t 4))⟩,
 ⟨some 22, none, .val (.faddr 3 (.t 6))⟩,
 ⟨some 23, none, .val (.load false 1 (.t 22))⟩,
 ⟨some 24, none, .val (.len .sl (.t 23))⟩,
 ⟨some 25, none, .val (.bin .add .num (.t 21) (.t 24))⟩,
 ⟨some 26, none, .val (.mx false (.t 25) (.c (.int .i64 4097)))⟩,
 ⟨some 4, none, .val (.mv (.t 26))⟩] [0, 4, 15, 16, 17]
abbrev k89_2 : MC :=
 .reg [
 ⟨some 27, none, .val (.bin .add .num (.t 17) (.c (.int .i64 1)))⟩,
 ⟨some 17, none, .val (.mv (.t 27))⟩] [0, 4, 15, 16, 17]
abbrev k89_3 : MC :=
 (.seq (.block 1 ((.seq (.reg [
 ⟨some 19, none, .val (.iaddr 4 (.t 15) (.t 17))⟩,
 ⟨some 20, none, .val (.load true 4 (.t 19))⟩,
 ⟨some 6, none, .zalloc [(.int .i64 0), (.bool false), (.int .u64 0), .nilSl]⟩,
 ⟨none, none, .store 4 (.t 6) (.t 20)⟩] [0, 4, 6, 15, 16, 17]) k89_1))) k89_2)
abbrev k89_4 : MC :=
 (.seq (.cond (.t 18) (.skip) (.exit 0)) k89_3)
abbrev k89_5 : MC :=
 (.seq (.reg [
 ⟨some 18, none, .val (.bin .lss .num (.t 17) (.t 16))⟩] [0, 4, 15, 16, 17, 18]) k89_4)
abbrev k89_6 : MC :=
 .block 0 (.loop k89_5)
abbrev k89_7 : MC :=
 .cond (.t 29) ((.seq (.reg [
 ⟨some 2, none, .val (.mv (.c .nilSl))⟩,
 ⟨some 3, none, .val (.mv (.c (.int .i64 3)))⟩] [2, 3]) (.ret))) (.skip)
abbrev k89_8 : MC :=
 .cond (.t 49) (.reg [
 ⟨some 50, none, .val (.load true 4 (.t 11))⟩,
 ⟨some 51, none, .val (.mv (.t 7))⟩,
 ⟨some 52, none, .call 118 [(.t 50), (.t 51)]⟩,
 ⟨some 7, none, .val (.mv (.t 52))⟩] [7, 8, 9, 11, 30, 31, 32]) (.skip)
abbrev k89_9 : MC :=
 .reg [
 ⟨some 53, none, .val (.load true 4 (.t 11))⟩,
 ⟨none, none, .store 4 (.t 8) (.t 53)⟩] [7, 8, 9, 30, 31, 32]
abbrev k89_10 : MC :=
 (.seq ((.seq (.reg [
 ⟨some 48, none, .val (.mv (.t 9))⟩,
 ⟨some 49, none, .val (.not (.t 48))⟩] [7, 8, 9, 11, 30, 31, 32, 49]) k89_8)) k89_9)
abbrev k89_11 : MC :=
 (.seq (.reg [
 ⟨some 36, none, .val (.mv (.t 9))⟩,
 ⟨some 37, none, .val (.mv (.t 36))⟩,
 ⟨some 38, (some (37, false)), .val (.load true 4 (.t 11))⟩,
 ⟨some 39, (some (37, false)), .call 116 [(.t 38)]⟩,
 ⟨some 40, (some (37, false)), .val (.not (.t 39))⟩,
 ⟨some 41, none, .val (.pick (.t 37) (.c (.bool true)) (.t 40))⟩,
 ⟨some 42, none, .val (.mv (.t 41))⟩,
 ⟨some 43, (some (42, false)), .val (.load true 4 (.t 11))⟩,
 ⟨some 44, (some (42, false)), .val (.load true 4 (.t 8))⟩,
 ⟨some 45, (some (42, false)), .call 117 [(.t 43), (.t 44)]⟩,
 ⟨some 46, (some (42, false)), .val (.not (.t 45))⟩,
 ⟨some 47, none, .val (.pick (.t 42) (.c (.bool true)) (.t 46))⟩,
 ⟨some 9, none, .val (.mv (.t 47))⟩] [7, 8, 9, 11, 30, 31, 32]) k89_10)
abbrev k89_12 : MC :=
 .reg [
 ⟨some 54, none, .val (.bin .add .num (.t 32) (.c (.int .i64 1)))⟩,
 ⟨some 32, none, .val (.mv (.t 54))⟩] [7, 8, 9, 30, 31, 32]
abbrev k89_13 : MC :=
 (.seq (.block 3 ((.seq (.reg [
 ⟨some 34, none, .val (.iaddr 4 (.t 30) (.t 32))⟩,
 ⟨some 35, none, .val (.load true 4 (.t 34))⟩,
 ⟨some 11, none, .zalloc [(.int .i64 0), (.bool false), (.int .u64 0), .nilSl]⟩,
 ⟨none, none, .store 4 (.t 11) (.t 35)⟩] [7, 8, 9, 11, 30, 31, 32]) k89_11))) k89_12)
abbrev k89_14 : MC :=
 (.seq (.cond (.t 33) (.skip) (.exit 2)) k89_13)
abbrev k89_15 : MC :=
 (.seq (.reg [
 ⟨some 33, none, .val (.bin .lss .num (.t 32) (.t 31))⟩] [7, 8, 9, 30, 31, 32, 33]) k89_14)
abbrev k89_16 : MC :=
 .block 2 (.loop k89_15)
abbrev k89_17 : MC :=
 .cond (.t 57) ((.seq (.reg [
 ⟨some 2, none, .val (.mv (.c .nilSl))⟩,
 ⟨some 3, none, .val (.mv (.c (.int .i64 3)))⟩] [2, 3]) (.ret))) (.skip)
abbrev k89_18 : MC :=
 .cond (.t 55) ((.seq (.reg [
 ⟨some 2, none, .val (.mv (.c .nilSl))⟩,
 ⟨some 3, none, .val (.mv (.c (.int .i64 1)))⟩] [2, 3]) (.ret))) ((.seq (.reg [
 ⟨some 58, none, .val (.mv (.t 7))⟩,
 ⟨some 59, none, .val (.len .sl (.t 58))⟩,
 ⟨some 60, none, .val (.bin .gtr .num (.t 59) (.c (.int .i64 4096)))⟩,
 ⟨some 57, none, .val (.mv (.t 60))⟩] [7, 57]) k89_17))
abbrev k89_19 : MC :=
 (.seq (.reg [
 ⟨some 61, none, .val (.mv (.t 7))⟩,
 ⟨some 2, none, .val (.mv (.t 61))⟩,
 ⟨some 3, none, .val (.mv (.c (.int .i64 0)))⟩] [2, 3]) (.ret))
abbrev k89_20 : MC :=
 (.seq (.block 4 ((.seq (.reg [
 ⟨some 56, none, .val (.mv (.t 9))⟩,
 ⟨some 55, none, .val (.mv (.t 56))⟩] [7, 55]) k89_18))) k89_19)
abbrev k89_21 : MC :=
 (.seq ((.seq (.reg [
 ⟨some 30, none, .val (.mv (.t 0))⟩,
 ⟨some 31, none, .val (.len .sl (.t 30))⟩,
 ⟨some 32, none, .val (.mv (.c (.int .i64 0)))⟩] [7, 8, 9, 30, 31, 32]) k89_16)) k89_20)
abbrev k89_22 : MC :=
 (.seq (.reg [
 ⟨some 9, none, .val (.mv (.c (.bool false)))⟩] [0, 7, 8, 9]) k89_21)
abbrev k89_23 : MC :=
 (.seq (.reg [
 ⟨some 8, none, .zalloc [(.int .i64 0), (.bool false), (.int .u64 0), .nilSl]⟩] [0, 7, 8]) k89_22)
abbrev k89_24 : MC :=
 (.seq (.reg [
 ⟨some 7, none, .val (.mv (.c .nilSl))⟩] [0, 7]) k89_23)
abbrev k89_25 : MC :=
 (.seq ((.seq (.reg [
 ⟨some 28, none, .val (.mv (.t 4))⟩,
 ⟨some 29, none, .val (.bin .gtr .num (.t 28) (.c (.int .i64 4096)))⟩] [0, 29]) k89_7)) k89_24)
abbrev k89_26 : MC :=
 (.seq ((.seq (.reg [
 ⟨some 15, none, .val (.mv (.t 0))⟩,
 ⟨some 16, none, .val (.len .sl (.t 15))⟩,
 ⟨some 17, none, .val (.mv (.c (.int .i64 0)))⟩] [0, 4, 15, 16, 17]) k89_6)) k89_25)
abbrev k89_27 : MC :=
 (.seq (.reg [
 ⟨some 4, none, .val (.mv (.c (.int .i64 0)))⟩] [0, 4]) k89_26)
abbrev k89_28 : MC :=
 (.seq ((.seq (.reg [
 ⟨some 12, none, .val (.mv (.t 0))⟩,
 ⟨some 13, none, .val (.len .sl (.t 12))⟩,
 ⟨some 14, none, .val (.bin .gtr .num (.t 13) (.c (.int .i64 64)))⟩] [0, 14]) k89_0)) k89_27)
abbrev k89 : MC :=
 (.seq (.reg [
 ⟨some 2, none, .val (.mv (.c .nilSl))⟩,
 ⟨some 3, none, .val (.mv (.c (.int .i64 0)))⟩] [0]) k89_28)
theorem c89 : Try.f89.body.bind (mcOf Try.prog (List.contains [] ·) (List.getD [([], [0]), ([], [0, 14]), ([], [2, 3]), ([], [0, 4]), ([], [0, 4, 15, 16, 17]), ([], [0, 4, 15, 16, 17, 18]), ([], [0, 4, 6, 15, 16, 17]), ([], [0, 4, 15, 16, 17]), ([], [0, 4, 15, 16, 17]), ([], [0, 29]), ([], [2, 3]), ([], [0, 7]), ([], [0, 7, 8]), ([], [0, 7, 8, 9]), ([], [7, 8, 9, 30, 31, 32]), ([], [7, 8, 9, 30, 31, 32, 33]), ([], [7, 8, 9, 11, 30, 31, 32]), ([], [7, 8, 9, 11, 30, 31, 32]), ([], [7, 8, 9, 11, 30, 31, 32, 49]), ([], [7, 8, 9, 11, 30, 31, 32]), ([], [7, 8, 9, 30, 31, 32]), ([], [7, 8, 9, 30, 31, 32]), ([], [7, 55]), ([], [2, 3]), ([], [7, 57]), ([], [2, 3]), ([], [2, 3])] · ([], [])) 62) = some k89 := by kernel_rfl
theorem r89 : rvsOf Try.prog Try.f89.results.toList = some [.tmp 2, .tmp 3] := by kernel_rfl
theorem encode_calls {l : List Fld} {t : Tok} (hl : l.length < 100000000) (ho : ∀ f ∈ l, f.n < 18446744073709551616 ∧ f.b.length < 10000000) (H : AH) :
    ACalls Try.prog 89 [.sl 4 (fldsE l) t] H (fun o H' => o = .ret (.tuple [.sl 1 (byteCells (encS l).1) .no, .int .i64 (encS l).2]) ∧ H' = H) := by
  refine ACalls.drop ?_
  refine acalls Try.func89 c89 r89 (by simp [Try.ntmps89]) ?_
  by_cases h64 : 64 < l.length
  · repeat' (first | with_reducible (first | refine am_seq ?_ | refine am_block ?_) | ((with_reducible apply am_cond); (case hb => rfl); all_goals (intro hc; (try simp only [reduceCtorEq, bD, beq_iff_eq] at hc); (try (exfalso; omega)))) | ((first | with_reducible (first | refine am_reg ?_ | refine am_skip ?_ | refine am_exit ?_ | refine am_ret ?_ | refine vc_intro ?_ | refine need_elems (by assumption) ?_ | refine vlen_acc (by assumption) ?_ | refine need_bytes (by assumption) ?_ | refine need_lk ?_) | ((with_reducible (first | apply gd_not | apply gd_of | apply gq_not | apply gq_of | apply pickB_of)) <;> intro hc <;> (try simp -implicitDefEqProofs (disch := omega) only [go_sem, hc, wrap_id]) <;> (try simp only [reduceCtorEq, bD, beq_iff_eq] at hc) <;> (try (exfalso; omega))) | ((with_reducible refine alloc_intro (fun ko hko => ?_)) <;> (try have hne := fresh_ne (by assumption) hko) <;> (try have hnk := fresh_ne hk hko) <;> (try have hnk2 := fresh_ne hk2 hko) <;> (try simp only [AH.put_none] at hko)) | done) <;> (try simp -implicitDefEqProofs (disch := omega) only [go_sem, wrap_id])))
    rw [show encS l = ([], 3) by rw [encS, if_pos (.inl h64)]]
    (refine drop_end (by (first | exact fun _ _ h => h | (intro s x h; first | exact no_sub _ h | exact nil_no _ h | exact AccP.sub (by assumption) _ _ h | (refine agg_sub rfl ?_ x h; repeat (first | exact .nil | refine .cons (fun _ h => h) ?_ | refine .cons (fun _ h => nil_no _ h) ?_ | refine .cons (fun _ h => no_sub _ h) ?_ | refine .cons (fun _ h => AccP.sub (by assumption) _ _ h) ?_)) | (refine tuple_sub ?_ x h; repeat (first | exact .nil | refine .cons (fun _ h => h) ?_ | refine .cons (fun _ h => nil_no _ h) ?_ | refine .cons (fun _ h => no_sub _ h) ?_ | refine .cons (fun _ h => AccP.sub (by assumption) _ _ h) ?_ | refine .cons (fun _ h => agg_sub rfl (by repeat (first | exact .nil | refine .cons (fun _ h => h) ?_ | refine .cons (fun _ h => nil_no _ h) ?_ | refine .cons (fun _ h => no_sub _ h) ?_ | refine .cons (fun _ h => AccP.sub (by assumption) _ _ h) ?_)) _ h) ?_))))) (by (repeat (first | exact AH.le_refl _ | assumption | exact AccP.le (by assumption) | refine AH.le_put ?_ (by first | assumption | exact none_of_le (by assumption) (by assumption) | exact And.right (by assumption) | exact And.right (And.right (by assumption))) _ | refine AH.le_trans ?_ (AccP.le (by assumption))))))
  · have hall : ∀ i (h : i < l.length), l[i].n < 18446744073709551616 ∧ l[i].b.length < 10000000 := fun i h => ho _ (List.getElem_mem h)
    repeat' (first | with_reducible (first | refine am_seq ?_ | refine am_block ?_) | ((with_reducible apply am_cond); (case hb => rfl); all_goals (intro hc; (try simp only [reduceCtorEq, bD, beq_iff_eq] at hc); (try (exfalso; omega)))) | ((first | with_reducible (first | refine am_reg ?_ | refine am_skip ?_ | refine am_exit ?_ | refine am_ret ?_ | refine vc_intro ?_ | refine need_elems (by assumption) ?_ | refine vlen_acc (by assumption) ?_ | refine need_bytes (by assumption) ?_ | refine need_lk ?_) | ((with_reducible (first | apply gd_not | apply gd_of | apply gq_not | apply gq_of | apply pickB_of)) <;> intro hc <;> (try simp -implicitDefEqProofs (disch := omega) only [go_sem, hc, wrap_id]) <;> (try simp only [reduceCtorEq, bD, beq_iff_eq] at hc) <;> (try (exfalso; omega))) | ((with_reducible refine alloc_intro (fun ko hko => ?_)) <;> (try have hne := fresh_ne (by assumption) hko) <;> (try have hnk := fresh_ne hk hko) <;> (try have hnk2 := fresh_ne hk2 hko) <;> (try simp only [AH.put_none] at hko)) | done) <;> (try simp -implicitDefEqProofs (disch := omega) only [go_sem, wrap_id])))
    refine am_loop (fun n a H' => ∃ i : Nat, i + n = l.length ∧ a = [(0, V.sl 4 (fldsE l) t), (4, V.int IntKind.i64 (min (sizeL (l.take i)) 4097 : Nat)), (15, V.sl 4 (fldsE l) t), (16, V.int IntKind.i64 ↑l.length), (17, V.int IntKind.i64 i)] ∧ H.le H') ?_ l.length ⟨0, by omega, by simp [sizeL], AH.le_refl _⟩
    rintro n a H' ⟨i, hi, rfl, hle⟩
    by_cases hlt : i < l.length
    · have hs := sizeL_take l i hlt
      have hb := (hall i hlt).2
      repeat' (first | with_reducible (first | refine am_seq ?_ | refine am_block ?_) | ((with_reducible apply am_cond); (case hb => rfl); all_goals (intro hc; (try simp only [reduceCtorEq, bD, beq_iff_eq] at hc); (try (exfalso; omega)))) | ((first | with_reducible (first | refine am_reg ?_ | refine am_skip ?_ | refine am_exit ?_ | refine am_ret ?_ | refine vc_intro ?_ | refine need_elems (by assumption) ?_ | refine vlen_acc (by assumption) ?_ | refine need_bytes (by assumption) ?_ | refine need_lk ?_) | ((with_reducible (first | apply gd_not | apply gd_of | apply gq_not | apply gq_of | apply pickB_of)) <;> intro hc <;> (try simp -implicitDefEqProofs (disch := omega) only [go_sem, hc, wrap_id, get_of_lt hlt]) <;> (try simp only [reduceCtorEq, bD, beq_iff_eq] at hc) <;> (try (exfalso; omega))) | ((with_reducible refine alloc_intro (fun ko hko => ?_)) <;> (try have hne := fresh_ne (by assumption) hko) <;> (try have hnk := fresh_ne hk hko) <;> (try have hnk2 := fresh_ne hk2 hko) <;> (try simp only [AH.put_none] at hko)) | done) <;> (try simp -implicitDefEqProofs (disch := omega) only [go_sem, wrap_id, get_of_lt hlt])))
      refine ⟨n - 1, by omega, i + 1, by omega, ?_, by (repeat (first | exact AH.le_refl _ | assumption | exact AccP.le (by assumption) | refine AH.le_put ?_ (by first | assumption | exact none_of_le (by assumption) (by assumption) | exact And.right (by assumption) | exact And.right (And.right (by assumption))) _ | refine AH.le_trans ?_ (AccP.le (by assumption))))⟩
      rw [hs]
      simp only [List.cons.injEq, Prod.mk.injEq, V.int.injEq, true_and, and_true]
      refine ⟨?_, by simp⟩
      omega
    · repeat' (first | with_reducible (first | refine am_seq ?_ | refine am_block ?_) | ((with_reducible apply am_cond); (case hb => rfl); all_goals (intro hc; (try simp only [reduceCtorEq, bD, beq_iff_eq] at hc); (try (exfalso; omega)))) | ((first | with_reducible (first | refine am_reg ?_ | refine am_skip ?_ | refine am_exit ?_ | refine am_ret ?_ | refine vc_intro ?_ | refine need_elems (by assumption) ?_ | refine vlen_acc (by assumption) ?_ | refine need_bytes (by assumption) ?_ | refine need_lk ?_) | ((with_reducible (first | apply gd_not | apply gd_of | apply gq_not | apply gq_of | apply pickB_of)) <;> intro hc <;> (try simp -implicitDefEqProofs (disch := omega) only [go_sem, hc, wrap_id]) <;> (try simp only [reduceCtorEq, bD, beq_iff_eq] at hc) <;> (try (exfalso; omega))) | ((with_reducible refine alloc_intro (fun ko hko => ?_)) <;> (try have hne := fresh_ne (by assumption) hko) <;> (try have hnk := fresh_ne hk hko) <;> (try have hnk2 := fresh_ne hk2 hko) <;> (try simp only [AH.put_none] at hko)) | done) <;> (try simp -implicitDefEqProofs (disch := omega) only [go_sem, wrap_id])))
      · rw [List.take_of_length_le (by omega)] at hc
        rw [show encS l = ([], 3) by rw [encS, if_pos (.inr (by omega))]]
        (refine drop_end (by (first | exact fun _ _ h => h | (intro s x h; first | exact no_sub _ h | exact nil_no _ h | exact AccP.sub (by assumption) _ _ h | (refine agg_sub rfl ?_ x h; repeat (first | exact .nil | refine .cons (fun _ h => h) ?_ | refine .cons (fun _ h => nil_no _ h) ?_ | refine .cons (fun _ h => no_sub _ h) ?_ | refine .cons (fun _ h => AccP.sub (by assumption) _ _ h) ?_)) | (refine tuple_sub ?_ x h; repeat (first | exact .nil | refine .cons (fun _ h => h) ?_ | refine .cons (fun _ h => nil_no _ h) ?_ | refine .cons (fun _ h => no_sub _ h) ?_ | refine .cons (fun _ h => AccP.sub (by assumption) _ _ h) ?_ | refine .cons (fun _ h => agg_sub rfl (by repeat (first | exact .nil | refine .cons (fun _ h => h) ?_ | refine .cons (fun _ h => nil_no _ h) ?_ | refine .cons (fun _ h => no_sub _ h) ?_ | refine .cons (fun _ h => AccP.sub (by assumption) _ _ h) ?_)) _ h) ?_))))) (by (repeat (first | exact AH.le_refl _ | assumption | exact AccP.le (by assumption) | refine AH.le_put ?_ (by first | assumption | exact none_of_le (by assumption) (by assumption) | exact And.right (by assumption) | exact And.right (And.right (by assumption))) _ | refine AH.le_trans ?_ (AccP.le (by assumption))))))
      · rw [List.take_of_length_le (by omega)] at hc
        have hsz : sizeL l ≤ 4096 := by omega
        have hsm : ∀ j (h : j < l.length), l[j].b.length ≤ 4096 := fun j h => Nat.le_trans (size_mem h) hsz
        refine AM.subC (ds := fldC f0) ?_ (AH.put_same _ _ _) rfl (fun s => by repeat (first | exact .nil | refine .cons (fun _ h => h) ?_ | refine .cons (fun _ h => nil_no _ h) ?_ | refine .cons (fun _ h => no_sub _ h) ?_ | refine .cons (fun _ h => AccP.sub (by assumption) _ _ h) ?_))
        rw [AH.put_put]
        have hko1 := none_of_le hle hko
        refine am_loop (fun n a H2 => ∃ (j : Nat) (v : V) (acc : List UInt8) (wrong : Bool) (last : Fld), j + n = l.length ∧ a = [(7, v), (8, V.ptr ko 0), (9, V.bool wrong), (30, V.sl 4 (fldsE l) t), (31, V.int IntKind.i64 ↑l.length), (32, V.int IntKind.i64 j)] ∧
          AccP H 1 (byteCells acc) v H2 ∧ H2 ko = some (.cells (fldC last)) ∧ acc.length ≤ j * 10020 ∧ fitsL f0 l = (!wrong && fitsL last (l.drop j)) ∧ (wrong = false → layL l = acc ++ layL (l.drop j))) ?_ l.length ⟨0, .nilSl, [], false, f0, by omega, rfl, ⟨AH.le_put hle hko1 _, .inl ⟨rfl, rfl⟩⟩, AH.put_same _ _ _, by simp, by simp, by simp⟩
        rintro n a H2 ⟨j, v, acc, wrong, last, hj, rfl, hacc, hlast, hal, hfit, hlay⟩
        by_cases hlt2 : j < l.length
        · rw [List.drop_eq_getElem_cons hlt2, fitsL] at hfit
          rw [List.drop_eq_getElem_cons hlt2] at hlay
          have hsm2 := hsm j hlt2
          have hnn := (hall j hlt2).1
          have turn : ∀ (v' : V) (H3 : AH) (l' : List UInt8) (p : AObj), AccP H 1 (byteCells l') v' H3 → H3 ko = some (.cells (fldC last)) → AccP H 1 (byteCells l') v' (H3.put ko p) := fun v' H3 l' p h1 h2 => AccP.turn h1 hko1 h2 p
          cases hw : wrong
          · subst hw
            cases hr : rightF l[j]
            · repeat' (first | with_reducible (first | refine am_seq ?_ | refine am_block ?_) | ((with_reducible apply am_cond); (case hb => rfl); all_goals (intro hc; (try simp only [reduceCtorEq, bD, beq_iff_eq] at hc); (try (exfalso; omega)))) | ((first | with_reducible (first | refine am_reg ?_ | refine am_skip ?_ | refine am_exit ?_ | refine am_ret ?_ | refine vc_intro ?_ | refine need_elems (by assumption) ?_ | refine vlen_acc (by assumption) ?_ | refine need_bytes (by assumption) ?_ | refine call_of (fright_calls) ?_ | refine qcall_of (fright_calls) ?_ | refine call_of (behind_calls) ?_ | refine qcall_of (behind_calls) ?_ | refine need_lk ?_) | ((with_reducible (first | apply gd_not | apply gd_of | apply gq_not | apply gq_of | apply pickB_of)) <;> intro hc <;> (try simp -implicitDefEqProofs (disch := omega) only [go_sem, hc, wrap_id, get_of_lt hlt2, hr]) <;> (try simp only [reduceCtorEq, bD, beq_iff_eq] at hc) <;> (try (exfalso; omega))) | ((with_reducible refine alloc_intro (fun ko hko => ?_)) <;> (try have hne := fresh_ne (by assumption) hko) <;> (try have hnk := fresh_ne hk hko) <;> (try have hnk2 := fresh_ne hk2 hko) <;> (try simp only [AH.put_none] at hko)) | done) <;> (try simp -implicitDefEqProofs (disch := omega) only [go_sem, wrap_id, get_of_lt hlt2, hr])))
              refine ⟨n - 1, by omega, j + 1, _, acc, true, l[j], by omega, ?_, turn _ _ _ _ (hacc.new (by assumption) _) (look_put hlast (by assumption)), by first | exact AH.put_same _ _ _ | rfl, Nat.le_trans hal (Nat.mul_le_mul_right _ (by omega)), ?_, by simp⟩
              · simp
              · simp [hfit, fitsF, hr]
            · have htag := right_tag hr
              have hll := layF_len htag hnn (by omega)
              cases hb : behindF l[j] last
              · repeat' (first | with_reducible (first | refine am_seq ?_ | refine am_block ?_) | ((with_reducible apply am_cond); (case hb => rfl); all_goals (intro hc; (try simp only [reduceCtorEq, bD, beq_iff_eq] at hc); (try (exfalso; omega)))) | ((first | with_reducible (first | refine am_reg ?_ | refine am_skip ?_ | refine am_exit ?_ | refine am_ret ?_ | refine vc_intro ?_ | refine need_elems (by assumption) ?_ | refine vlen_acc (by assumption) ?_ | refine need_bytes (by assumption) ?_ | refine call_of (fright_calls) ?_ | refine qcall_of (fright_calls) ?_ | refine call_of (behind_calls) ?_ | refine qcall_of (behind_calls) ?_ | refine need_lk ?_) | ((with_reducible (first | apply gd_not | apply gd_of | apply gq_not | apply gq_of | apply pickB_of)) <;> intro hc <;> (try simp -implicitDefEqProofs (disch := omega) only [go_sem, hc, wrap_id, get_of_lt hlt2, hr, hb]) <;> (try simp only [reduceCtorEq, bD, beq_iff_eq] at hc) <;> (try (exfalso; omega))) | ((with_reducible refine alloc_intro (fun ko hko => ?_)) <;> (try have hne := fresh_ne (by assumption) hko) <;> (try have hnk := fresh_ne hk hko) <;> (try have hnk2 := fresh_ne hk2 hko) <;> (try simp only [AH.put_none] at hko)) | done) <;> (try simp -implicitDefEqProofs (disch := omega) only [go_sem, wrap_id, get_of_lt hlt2, hr, hb])))
                refine ⟨n - 1, by omega, j + 1, _, acc, true, l[j], by omega, ?_, turn _ _ _ _ (hacc.new (by assumption) _) (look_put hlast (by assumption)), by first | exact AH.put_same _ _ _ | rfl, Nat.le_trans hal (Nat.mul_le_mul_right _ (by omega)), ?_, by simp⟩
                · simp
                · simp [hfit, fitsF, hr, hb]
              · repeat' (first | with_reducible (first | refine am_seq ?_ | refine am_block ?_) | ((with_reducible apply am_cond); (case hb => rfl); all_goals (intro hc; (try simp only [reduceCtorEq, bD, beq_iff_eq] at hc); (try (exfalso; omega)))) | ((first | with_reducible (first | refine am_reg ?_ | refine am_skip ?_ | refine am_exit ?_ | refine am_ret ?_ | refine vc_intro ?_ | refine need_elems (by assumption) ?_ | refine vlen_acc (by assumption) ?_ | refine need_bytes (by assumption) ?_ | refine call_of (fright_calls) ?_ | refine qcall_of (fright_calls) ?_ | refine call_of (behind_calls) ?_ | refine qcall_of (behind_calls) ?_ | refine need_lk ?_) | ((with_reducible (first | apply gd_not | apply gd_of | apply gq_not | apply gq_of | apply pickB_of)) <;> intro hc <;> (try simp -implicitDefEqProofs (disch := omega) only [go_sem, hc, wrap_id, get_of_lt hlt2, hr, hb]) <;> (try simp only [reduceCtorEq, bD, beq_iff_eq] at hc) <;> (try (exfalso; omega))) | ((with_reducible refine alloc_intro (fun ko hko => ?_)) <;> (try have hne := fresh_ne (by assumption) hko) <;> (try have hnk := fresh_ne hk hko) <;> (try have hnk2 := fresh_ne hk2 hko) <;> (try simp only [AH.put_none] at hko)) | ((with_reducible refine call_ex (lay_calls (hacc.new (by assumption) _) (by omega) ⟨hnn, by omega⟩ htag) (fun v H2 hr => ?_)); obtain ⟨hacc, hlec⟩ := hr) | done) <;> (try simp -implicitDefEqProofs (disch := omega) only [go_sem, wrap_id, get_of_lt hlt2, hr, hb])))
                refine need_look (look_lec (AH.put_same _ _ _) hlec) ?_
                simp -implicitDefEqProofs (disch := omega) only [go_sem]
                refine need_look (look_lec (look_put hlast (by assumption)) hlec) ?_
                simp -implicitDefEqProofs (disch := omega) only [go_sem]
                repeat' (first | with_reducible (first | refine am_seq ?_ | refine am_block ?_) | ((with_reducible apply am_cond); (case hb => rfl); all_goals (intro hc; (try simp only [reduceCtorEq, bD, beq_iff_eq] at hc); (try (exfalso; omega)))) | ((first | with_reducible (first | refine am_reg ?_ | refine am_skip ?_ | refine am_exit ?_ | refine am_ret ?_ | refine vc_intro ?_ | refine need_elems (by assumption) ?_ | refine vlen_acc (by assumption) ?_ | refine need_bytes (by assumption) ?_ | refine need_lk ?_) | ((with_reducible (first | apply gd_not | apply gd_of | apply gq_not | apply gq_of | apply pickB_of)) <;> intro hc <;> (try simp -implicitDefEqProofs (disch := omega) only [go_sem, hc, wrap_id]) <;> (try simp only [reduceCtorEq, bD, beq_iff_eq] at hc) <;> (try (exfalso; omega))) | ((with_reducible refine alloc_intro (fun ko hko => ?_)) <;> (try have hne := fresh_ne (by assumption) hko) <;> (try have hnk := fresh_ne hk hko) <;> (try have hnk2 := fresh_ne hk2 hko) <;> (try simp only [AH.put_none] at hko)) | done) <;> (try simp -implicitDefEqProofs (disch := omega) only [go_sem, wrap_id])))
                refine ⟨n - 1, by omega, j + 1, _, acc ++ layF l[j], false, l[j], by omega, ?_, turn _ _ _ _ (by assumption) (by (first | exact AH.put_same _ _ _ | exact (by assumption) | exact (look_put (by assumption) (by assumption)) | exact (look_lec (by assumption) (by assumption)) | exact (look_put (AH.put_same _ _ _) (by assumption)) | exact (look_lec (AH.put_same _ _ _) (by assumption)) | exact (look_put (look_put (by assumption) (by assumption)) (by assumption)) | exact (look_lec (look_put (by assumption) (by assumption)) (by assumption)) | exact (look_put (look_lec (by assumption) (by assumption)) (by assumption)) | exact (look_lec (look_lec (by assumption) (by assumption)) (by assumption)) | exact (look_put (look_put (AH.put_same _ _ _) (by assumption)) (by assumption)) | exact (look_lec (look_put (AH.put_same _ _ _) (by assumption)) (by assumption)) | exact (look_put (look_lec (AH.put_same _ _ _) (by assumption)) (by assumption)) | exact (look_lec (look_lec (AH.put_same _ _ _) (by assumption)) (by assumption)))), by first | exact AH.put_same _ _ _ | rfl, ?_, ?_, ?_⟩
                · simp
                · simp only [List.length_append]; omega
                · simp [hfit, fitsF, hr, hb]
                · intro _; rw [hlay rfl]; simp only [layL, List.flatMap_cons, List.append_assoc]
          · subst hw
            repeat' (first | with_reducible (first | refine am_seq ?_ | refine am_block ?_) | ((with_reducible apply am_cond); (case hb => rfl); all_goals (intro hc; (try simp only [reduceCtorEq, bD, beq_iff_eq] at hc); (try (exfalso; omega)))) | ((first | with_reducible (first | refine am_reg ?_ | refine am_skip ?_ | refine am_exit ?_ | refine am_ret ?_ | refine vc_intro ?_ | refine need_elems (by assumption) ?_ | refine vlen_acc (by assumption) ?_ | refine need_bytes (by assumption) ?_ | refine call_of (fright_calls) ?_ | refine qcall_of (fright_calls) ?_ | refine call_of (behind_calls) ?_ | refine qcall_of (behind_calls) ?_ | refine need_lk ?_) | ((with_reducible (first | apply gd_not | apply gd_of | apply gq_not | apply gq_of | apply pickB_of)) <;> intro hc <;> (try simp -implicitDefEqProofs (disch := omega) only [go_sem, hc, wrap_id, get_of_lt hlt2]) <;> (try simp only [reduceCtorEq, bD, beq_iff_eq] at hc) <;> (try (exfalso; omega))) | ((with_reducible refine alloc_intro (fun ko hko => ?_)) <;> (try have hne := fresh_ne (by assumption) hko) <;> (try have hnk := fresh_ne hk hko) <;> (try have hnk2 := fresh_ne hk2 hko) <;> (try simp only [AH.put_none] at hko)) | done) <;> (try simp -implicitDefEqProofs (disch := omega) only [go_sem, wrap_id, get_of_lt hlt2])))
            refine ⟨n - 1, by omega, j + 1, _, acc, true, l[j], by omega, ?_, turn _ _ _ _ (hacc.new (by assumption) _) (look_put hlast (by assumption)), by first | exact AH.put_same _ _ _ | rfl, Nat.le_trans hal (Nat.mul_le_mul_right _ (by omega)), ?_, by simp⟩
            · simp
            · simp [hfit]
        · rw [List.drop_eq_nil_of_le (by omega)] at hfit hlay
          have hsz' : ¬ (64 < l.length ∨ 4096 < sizeL l) := by omega
          repeat' (first | with_reducible (first | refine am_seq ?_ | refine am_block ?_) | ((with_reducible apply am_cond); (case hb => rfl); all_goals (intro hc; (try simp only [reduceCtorEq, bD, beq_iff_eq] at hc); (try (exfalso; omega)))) | ((first | with_reducible (first | refine am_reg ?_ | refine am_skip ?_ | refine am_exit ?_ | refine am_ret ?_ | refine vc_intro ?_ | refine need_elems (by assumption) ?_ | refine vlen_acc (by assumption) ?_ | refine need_bytes (by assumption) ?_ | refine need_lk ?_) | ((with_reducible (first | apply gd_not | apply gd_of | apply gq_not | apply gq_of | apply pickB_of)) <;> intro hc <;> (try simp -implicitDefEqProofs (disch := omega) only [go_sem, hc, wrap_id]) <;> (try simp only [reduceCtorEq, bD, beq_iff_eq] at hc) <;> (try (exfalso; omega))) | ((with_reducible refine alloc_intro (fun ko hko => ?_)) <;> (try have hne := fresh_ne (by assumption) hko) <;> (try have hnk := fresh_ne hk hko) <;> (try have hnk2 := fresh_ne hk2 hko) <;> (try simp only [AH.put_none] at hko)) | done) <;> (try simp -implicitDefEqProofs (disch := omega) only [go_sem, wrap_id])))
          · rw [show encS l = ([], 1) by rw [encS, if_neg hsz', if_pos (by simp_all)]]
            (refine drop_end (by (first | exact fun _ _ h => h | (intro s x h; first | exact no_sub _ h | exact nil_no _ h | exact AccP.sub (by assumption) _ _ h | (refine agg_sub rfl ?_ x h; repeat (first | exact .nil | refine .cons (fun _ h => h) ?_ | refine .cons (fun _ h => nil_no _ h) ?_ | refine .cons (fun _ h => no_sub _ h) ?_ | refine .cons (fun _ h => AccP.sub (by assumption) _ _ h) ?_)) | (refine tuple_sub ?_ x h; repeat (first | exact .nil | refine .cons (fun _ h => h) ?_ | refine .cons (fun _ h => nil_no _ h) ?_ | refine .cons (fun _ h => no_sub _ h) ?_ | refine .cons (fun _ h => AccP.sub (by assumption) _ _ h) ?_ | refine .cons (fun _ h => agg_sub rfl (by repeat (first | exact .nil | refine .cons (fun _ h => h) ?_ | refine .cons (fun _ h => nil_no _ h) ?_ | refine .cons (fun _ h => no_sub _ h) ?_ | refine .cons (fun _ h => AccP.sub (by assumption) _ _ h) ?_)) _ h) ?_))))) (by (repeat (first | exact AH.le_refl _ | assumption | exact AccP.le (by assumption) | refine AH.le_put ?_ (by first | assumption | exact none_of_le (by assumption) (by assumption) | exact And.right (by assumption) | exact And.right (And.right (by assumption))) _ | refine AH.le_trans ?_ (AccP.le (by assumption))))))
          · have e := hlay (by assumption)
            rw [show encS l = ([], 3) by rw [encS, if_neg hsz', if_neg (by simp_all [fitsL]), if_pos (by rw [e]; simp [layL]; omega)]]
            (refine drop_end (by (first | exact fun _ _ h => h | (intro s x h; first | exact no_sub _ h | exact nil_no _ h | exact AccP.sub (by assumption) _ _ h | (refine agg_sub rfl ?_ x h; repeat (first | exact .nil | refine .cons (fun _ h => h) ?_ | refine .cons (fun _ h => nil_no _ h) ?_ | refine .cons (fun _ h => no_sub _ h) ?_ | refine .cons (fun _ h => AccP.sub (by assumption) _ _ h) ?_)) | (refine tuple_sub ?_ x h; repeat (first | exact .nil | refine .cons (fun _ h => h) ?_ | refine .cons (fun _ h => nil_no _ h) ?_ | refine .cons (fun _ h => no_sub _ h) ?_ | refine .cons (fun _ h => AccP.sub (by assumption) _ _ h) ?_ | refine .cons (fun _ h => agg_sub rfl (by repeat (first | exact .nil | refine .cons (fun _ h => h) ?_ | refine .cons (fun _ h => nil_no _ h) ?_ | refine .cons (fun _ h => no_sub _ h) ?_ | refine .cons (fun _ h => AccP.sub (by assumption) _ _ h) ?_)) _ h) ?_))))) (by (repeat (first | exact AH.le_refl _ | assumption | exact AccP.le (by assumption) | refine AH.le_put ?_ (by first | assumption | exact none_of_le (by assumption) (by assumption) | exact And.right (by assumption) | exact And.right (And.right (by assumption))) _ | refine AH.le_trans ?_ (AccP.le (by assumption))))))
          · have e := hlay (by assumption)
            have e2 : layL l = acc := by rw [e]; simp [layL]
            rw [show encS l = (acc, 0) by rw [encS, if_neg hsz', if_neg (by simp_all [fitsL]), if_neg (by rw [e2]; omega), e2]]
            (refine drop_end (by (first | exact fun _ _ h => h | (intro s x h; first | exact no_sub _ h | exact nil_no _ h | exact AccP.sub (by assumption) _ _ h | (refine agg_sub rfl ?_ x h; repeat (first | exact .nil | refine .cons (fun _ h => h) ?_ | refine .cons (fun _ h => nil_no _ h) ?_ | refine .cons (fun _ h => no_sub _ h) ?_ | refine .cons (fun _ h => AccP.sub (by assumption) _ _ h) ?_)) | (refine tuple_sub ?_ x h; repeat (first | exact .nil | refine .cons (fun _ h => h) ?_ | refine .cons (fun _ h => nil_no _ h) ?_ | refine .cons (fun _ h => no_sub _ h) ?_ | refine .cons (fun _ h => AccP.sub (by assumption) _ _ h) ?_ | refine .cons (fun _ h => agg_sub rfl (by repeat (first | exact .nil | refine .cons (fun _ h => h) ?_ | refine .cons (fun _ h => nil_no _ h) ?_ | refine .cons (fun _ h => no_sub _ h) ?_ | refine .cons (fun _ h => AccP.sub (by assumption) _ _ h) ?_)) _ h) ?_))))) (by (repeat (first | exact AH.le_refl _ | assumption | exact AccP.le (by assumption) | refine AH.le_put ?_ (by first | assumption | exact none_of_le (by assumption) (by assumption) | exact And.right (by assumption) | exact And.right (And.right (by assumption))) _ | refine AH.le_trans ?_ (AccP.le (by assumption))))))
end Go.Proofs.Ytjlphncecdlmcaa
namespace Go.Proofs.Ytjlphncecdlmcaa
open Go.Vm
attribute [local go_sem] eq_self decide_true decide_false AH.put_ne
attribute [local go_sem_proc] Nat.reduceBEq Nat.reduceAdd Nat.reduceSub Nat.reduceMul Nat.reduceEqDiff Nat.reduceLeDiff Nat.reduceLT Int.reduceLE Int.reduceLT Int.reduceToNat Int.reduceAdd Int.reduceEq Int.reduceNeg
attribute [local go_sem] byteCells_get byteCells_length byteCells_take byteCells_drop bytes_cells fldC fldsE_get fldsE_length List.drop_zero bytesOf_cells toNat_succ Nat.sub_zero Int.toNat_natCast Option.map_some Int.natCast_nonneg decide_eq_true_eq decide_eq_false_iff_not
/- flange/flangeref02.Encode -/
abbrev k31_0 : MC :=
 .cond (.t 11) ((.seq (.reg [
 ⟨some 2, none, .val (.mv (.c .nilSl))⟩,
 ⟨some 3, none, .val (.mv (.c (.int .i64 3)))⟩] [2, 3]) (.ret))) (.skip)
abbrev k31_1 : MC :=
 .cond (.t 16) (.skip) (.exit 0)
abbrev k31_2 : MC :=
 .cond (.t 40) (.reg [
 ⟨some 41, none, .val (.mv (.t 5))⟩,
 ⟨some 42, none, .val (.mv (.t 0))⟩,
 ⟨some 43, none, .val (.mv (.t 8))⟩,
 ⟨some 44, none, .val (.iaddr 4 (.t 42) (.t 43))⟩,
 ⟨some 45, none, .val (.load true 4 (.t 44))⟩,
 ⟨some 46, none, .call 91 [(.t 45)]⟩,
 ⟨some 47, none, .app 1 1 (.t 41) (.t 46)⟩,
 ⟨some 5, none, .val (.mv (.t 47))⟩] [0, 4, 5, 6, 7, 8]) (.skip)
abbrev k31_3 : MC :=
 (.seq (.reg [
 ⟨some 40, none, .val (.mv (.t 7))⟩] [0, 4, 5, 6, 7, 8, 40]) k31_2)
abbrev k31_4 : MC :=
 (.seq (.reg [
 ⟨some 36, none, .val (.mv (.t 0))⟩,
 ⟨some 37, none, .val (.mv (.t 8))⟩,
 ⟨some 38, none, .val (.iaddr 4 (.t 36) (.t 37))⟩,
 ⟨some 39, none, .val (.load true 4 (.t 38))⟩,
 ⟨none, none, .store 4 (.t 6) (.t 39)⟩] [0, 4, 5, 6, 7, 8]) k31_3)
abbrev k31_5 : MC :=
 (.seq (.drw [
 ⟨some 27, none, .val (.mv (.t 7))⟩,
 ⟨some 28, none, .val (.mv (.t 27))⟩,
 ⟨some 29, (some (28, true)), .val (.mv (.t 0))⟩,
 ⟨some 30, (some (28, true)), .val (.mv (.t 8))⟩,
 ⟨some 31, (some (28, true)), .val (.iaddr 4 (.t 29) (.t 30))⟩,
 ⟨some 32, (some (28, true)), .val (.load true 4 (.t 31))⟩,
 ⟨some 33, (some (28, true)), .val (.load true 4 (.t 6))⟩,
 ⟨some 34, (some (28, true)), .call 90 [(.t 32), (.t 33)]⟩,
 ⟨some 35, none, .val (.pick (.t 28) (.t 34) (.c (.bool false)))⟩,
 ⟨some 7, none, .val (.mv (.t 35))⟩] [
] [0, 4, 5, 6, 7, 8]) k31_4)
abbrev k31_6 : MC :=
 .reg [
 ⟨some 17, none, .val (.mv (.t 8))⟩,
 ⟨some 18, none, .val (.bin .add .num (.t 17) (.c (.int .i64 1)))⟩,
 ⟨some 8, none, .val (.mv (.t 18))⟩] [0, 4, 5, 6, 7, 8]
abbrev k31_7 : MC :=
 (.seq (.block 1 ((.seq (.reg [
 ⟨some 19, none, .val (.mv (.t 4))⟩,
 ⟨some 20, none, .val (.mv (.t 0))⟩,
 ⟨some 21, none, .val (.mv (.t 8))⟩,
 ⟨some 22, none, .val (.iaddr 4 (.t 20) (.t 21))⟩,
 ⟨some 23, none, .val (.faddr 3 (.t 22))⟩,
 ⟨some 24, none, .val (.load false 1 (.t 23))⟩,
 ⟨some 25, none, .val (.len .sl (.t 24))⟩,
 ⟨some 26, none, .val (.bin .add .num (.t 19) (.t 25))⟩,
 ⟨some 4, none, .val (.mv (.t 26))⟩] [0, 4, 5, 6, 7, 8]) k31_5))) k31_6)
abbrev k31_8 : MC :=
 (.seq ((.seq (.reg [
 ⟨some 13, none, .val (.mv (.t 8))⟩,
 ⟨some 14, none, .val (.mv (.t 0))⟩,
 ⟨some 15, none, .val (.len .sl (.t 14))⟩,
 ⟨some 16, none, .val (.bin .lss .num (.t 13) (.t 15))⟩] [0, 4, 5, 6, 7, 8, 16]) k31_1)) k31_7)
abbrev k31_9 : MC :=
 .block 0 (.loop k31_8)
abbrev k31_10 : MC :=
 .cond (.t 49) ((.seq (.reg [
 ⟨some 2, none, .val (.mv (.c .nilSl))⟩,
 ⟨some 3, none, .val (.mv (.c (.int .i64 3)))⟩] [2, 3]) (.ret))) (.skip)
abbrev k31_11 : MC :=
 .cond (.t 51) ((.seq (.reg [
 ⟨some 2, none, .val (.mv (.c .nilSl))⟩,
 ⟨some 3, none, .val (.mv (.c (.int .i64 1)))⟩] [2, 3]) (.ret))) (.skip)
abbrev k31_12 : MC :=
 .cond (.t 54) ((.seq (.reg [
 ⟨some 2, none, .val (.mv (.c .nilSl))⟩,
 ⟨some 3, none, .val (.mv (.c (.int .i64 3)))⟩] [2, 3]) (.ret))) (.skip)
abbrev k31_13 : MC :=
 (.seq (.reg [
 ⟨some 55, none, .val (.mv (.t 5))⟩,
 ⟨some 2, none, .val (.mv (.t 55))⟩,
 ⟨some 3, none, .val (.mv (.c (.int .i64 0)))⟩] [2, 3]) (.ret))
abbrev k31_14 : MC :=
 (.seq ((.seq (.reg [
 ⟨some 52, none, .val (.mv (.t 5))⟩,
 ⟨some 53, none, .val (.len .sl (.t 52))⟩,
 ⟨some 54, none, .val (.bin .gtr .num (.t 53) (.c (.int .i64 4096)))⟩] [5, 54]) k31_12)) k31_13)
abbrev k31_15 : MC :=
 (.seq ((.seq (.reg [
 ⟨some 50, none, .val (.mv (.t 7))⟩,
 ⟨some 51, none, .val (.not (.t 50))⟩] [5, 51]) k31_11)) k31_14)
abbrev k31_16 : MC :=
 (.seq ((.seq (.reg [
 ⟨some 48, none, .val (.mv (.t 4))⟩,
 ⟨some 49, none, .val (.bin .gtr .num (.t 48) (.c (.int .i64 4096)))⟩] [5, 7, 49]) k31_10)) k31_15)
abbrev k31_17 : MC :=
 (.seq ((.seq (.reg [
 ⟨some 8, none, .val (.mv (.c (.int .i64 0)))⟩] [0, 4, 5, 6, 7, 8]) k31_9)) k31_16)
abbrev k31_18 : MC :=
 (.seq (.reg [
 ⟨some 7, none, .val (.mv (.c (.bool true)))⟩] [0, 4, 5, 6, 7]) k31_17)
abbrev k31_19 : MC :=
 (.seq (.reg [
 ⟨some 12, none, .build [(.int .i64 0), (.bool false), (.int .u64 0), .nilSl] []⟩,
 ⟨some 6, none, .zalloc [(.int .i64 0), (.bool false), (.int .u64 0), .nilSl]⟩,
 ⟨none, none, .store 4 (.t 6) (.t 12)⟩] [0, 4, 5, 6]) k31_18)
abbrev k31_20 : MC :=
 (.seq (.reg [
 ⟨some 5, none, .val (.mv (.c .nilSl))⟩] [0, 4, 5]) k31_19)
abbrev k31_21 : MC :=
 (.seq (.reg [
 ⟨some 4, none, .val (.mv (.c (.int .i64 0)))⟩] [0, 4]) k31_20)
abbrev k31_22 : MC :=
 (.seq ((.seq (.reg [
 ⟨some 9, none, .val (.mv (.t 0))⟩,
 ⟨some 10, none, .val (.len .sl (.t 9))⟩,
 ⟨some 11, none, .val (.bin .gtr .num (.t 10) (.c (.int .i64 64)))⟩] [0, 11]) k31_0)) k31_21)
abbrev k31 : MC :=
 (.seq (.reg [
 ⟨some 2, none, .val (.mv (.c .nilSl))⟩,
 ⟨some 3, none, .val (.mv (.c (.int .i64 0)))⟩] [0]) k31_22)
theorem c31 : Try.f31.body.bind (mcOf Try.prog (List.contains [] ·) (List.getD [([], [0]), ([], [0, 11]), ([], [2, 3]), ([], [0, 4]), ([], [0, 4, 5]), ([], [0, 4, 5, 6]), ([], [0, 4, 5, 6, 7]), ([], [0, 4, 5, 6, 7, 8]), ([], [0, 4, 5, 6, 7, 8, 16]), ([], [0, 4, 5, 6, 7, 8]), ([], [0, 4, 5, 6, 7, 8]), ([0, 0, 0, 0, 0, 0, 0, 0, 0, 0], [0, 4, 5, 6, 7, 8]), ([], [0, 4, 5, 6, 7, 8]), ([], [0, 4, 5, 6, 7, 8, 40]), ([], [0, 4, 5, 6, 7, 8]), ([], [5, 7, 49]), ([], [2, 3]), ([], [5, 51]), ([], [2, 3]), ([], [5, 54]), ([], [2, 3]), ([], [2, 3])] · ([], [])) 56) = some k31 := by kernel_rfl
theorem r31 : rvsOf Try.prog Try.f31.results.toList = some [.tmp 2, .tmp 3] := by kernel_rfl
theorem rencode_calls {l : List Fld} {t : Tok} (hl : l.length < 100000000) (ho : ∀ f ∈ l, f.n < 18446744073709551616 ∧ f.b.length < 10000000) (H : AH) :
    ACalls Try.prog 31 [.sl 4 (fldsE l) t] H (fun o H' => o = .ret (.tuple [.sl 1 (byteCells (encS l).1) .no, .int .i64 (encS l).2]) ∧ H' = H) := by
  refine ACalls.drop ?_
  refine acalls Try.func31 c31 r31 (by simp [Try.ntmps31]) ?_
  by_cases h64 : 64 < l.length
  · repeat' (first | with_reducible (first | refine am_seq ?_ | refine am_block ?_) | ((with_reducible apply am_cond); (case hb => rfl); all_goals (intro hc; (try simp only [reduceCtorEq, bD, beq_iff_eq] at hc); (try (exfalso; omega)))) | ((first | with_reducible (first | refine am_reg ?_ | refine am_drw ?_ | refine am_skip ?_ | refine am_exit ?_ | refine am_ret ?_ | refine vc_intro ?_ | refine need_elems (by assumption) ?_ | refine vlen_acc (by assumption) ?_ | refine need_bytes (by assumption) ?_ | refine need_lk ?_) | ((with_reducible (first | apply gd_not | apply gd_of | apply gq_not | apply gq_of | apply pickB_of)) <;> intro hc <;> (try simp -implicitDefEqProofs (disch := omega) only [go_sem, hc, wrap_id]) <;> (try simp only [reduceCtorEq, bD, beq_iff_eq] at hc) <;> (try (exfalso; omega))) | ((with_reducible refine alloc_intro (fun ko hko => ?_)) <;> (try have hne := fresh_ne (by assumption) hko) <;> (try have hnk := fresh_ne hk hko) <;> (try have hnk2 := fresh_ne hk2 hko) <;> (try simp only [AH.put_none] at hko)) | ((with_reducible (first | refine vapp_accL (by assumption) ?_ (fun v2 H2 hacc hlec => ?_) | refine vapp_accL (AccP.mono (by assumption) (AccP.le (by assumption))) ?_ (fun v2 H2 hacc hlec => ?_) | refine vapp_accL (AccP.new (by assumption) (by assumption) _) ?_ (fun v2 H2 hacc hlec => ?_))); · simp only [byteCells_length, List.length_cons, List.length_nil, List.length_map, List.length_append, fldsE_length, List.length_take]; omega) | done) <;> (try simp -implicitDefEqProofs (disch := omega) only [go_sem, wrap_id])))
    rw [show encS l = ([], 3) by rw [encS, if_pos (.inl h64)]]
    (refine drop_end (by (first | exact fun _ _ h => h | (intro s x h; first | exact no_sub _ h | exact nil_no _ h | exact AccP.sub (by assumption) _ _ h | (refine agg_sub rfl ?_ x h; repeat (first | exact .nil | refine .cons (fun _ h => h) ?_ | refine .cons (fun _ h => nil_no _ h) ?_ | refine .cons (fun _ h => no_sub _ h) ?_ | refine .cons (fun _ h => AccP.sub (by assumption) _ _ h) ?_)) | (refine tuple_sub ?_ x h; repeat (first | exact .nil | refine .cons (fun _ h => h) ?_ | refine .cons (fun _ h => nil_no _ h) ?_ | refine .cons (fun _ h => no_sub _ h) ?_ | refine .cons (fun _ h => AccP.sub (by assumption) _ _ h) ?_ | refine .cons (fun _ h => agg_sub rfl (by repeat (first | exact .nil | refine .cons (fun _ h => h) ?_ | refine .cons (fun _ h => nil_no _ h) ?_ | refine .cons (fun _ h => no_sub _ h) ?_ | refine .cons (fun _ h => AccP.sub (by assumption) _ _ h) ?_)) _ h) ?_))))) (by (repeat (first | exact AH.le_refl _ | assumption | exact AccP.le (by assumption) | refine AH.le_put ?_ (by first | assumption | exact none_of_le (by assumption) (by assumption) | exact And.right (by assumption) | exact And.right (And.right (by assumption))) _ | refine AH.le_trans ?_ (AccP.le (by assumption))))))
  · have hall : ∀ i (h : i < l.length), l[i].n < 18446744073709551616 ∧ l[i].b.length < 10000000 := fun i h => ho _ (List.getElem_mem h)
    repeat' (first | with_reducible (first | refine am_seq ?_ | refine am_block ?_) | ((with_reducible apply am_cond); (case hb => rfl); all_goals (intro hc; (try simp only [reduceCtorEq, bD, beq_iff_eq] at hc); (try (exfalso; omega)))) | ((first | with_reducible (first | refine am_reg ?_ | refine am_drw ?_ | refine am_skip ?_ | refine am_exit ?_ | refine am_ret ?_ | refine vc_intro ?_ | refine need_elems (by assumption) ?_ | refine vlen_acc (by assumption) ?_ | refine need_bytes (by assumption) ?_ | refine need_lk ?_) | ((with_reducible (first | apply gd_not | apply gd_of | apply gq_not | apply gq_of | apply pickB_of)) <;> intro hc <;> (try simp -implicitDefEqProofs (disch := omega) only [go_sem, hc, wrap_id]) <;> (try simp only [reduceCtorEq, bD, beq_iff_eq] at hc) <;> (try (exfalso; omega))) | ((with_reducible refine alloc_intro (fun ko hko => ?_)) <;> (try have hne := fresh_ne (by assumption) hko) <;> (try have hnk := fresh_ne hk hko) <;> (try have hnk2 := fresh_ne hk2 hko) <;> (try simp only [AH.put_none] at hko)) | ((with_reducible (first | refine vapp_accL (by assumption) ?_ (fun v2 H2 hacc hlec => ?_) | refine vapp_accL (AccP.mono (by assumption) (AccP.le (by assumption))) ?_ (fun v2 H2 hacc hlec => ?_) | refine vapp_accL (AccP.new (by assumption) (by assumption) _) ?_ (fun v2 H2 hacc hlec => ?_))); · simp only [byteCells_length, List.length_cons, List.length_nil, List.length_map, List.length_append, fldsE_length, List.length_take]; omega) | done) <;> (try simp -implicitDefEqProofs (disch := omega) only [go_sem, wrap_id])))
    refine AM.subC (ds := fldC f0) ?_ (AH.put_same _ _ _) rfl (fun s => by repeat (first | exact .nil | refine .cons (fun _ h => h) ?_ | refine .cons (fun _ h => nil_no _ h) ?_ | refine .cons (fun _ h => no_sub _ h) ?_ | refine .cons (fun _ h => AccP.sub (by assumption) _ _ h) ?_))
    rw [AH.put_put]
    refine am_loop (fun n a H2 => ∃ (j : Nat) (v : V) (acc : List UInt8) (fits : Bool) (last : Fld), j + n = l.length ∧ a = [(0, V.sl 4 (fldsE l) t), (4, .int .i64 (sizeL (l.take j))), (5, v), (6, V.ptr ko 0), (7, V.bool fits), (8, V.int IntKind.i64 j)] ∧
      AccP H 1 (byteCells acc) v H2 ∧ H2 ko = some (.cells (fldC last)) ∧ acc.length ≤ j * 10020000 ∧ sizeL (l.take j) ≤ j * 10000000 ∧ fitsL f0 l = (fits && fitsL last (l.drop j)) ∧ (fits = true → layL l = acc ++ layL (l.drop j))) ?_ l.length ⟨0, .nilSl, [], true, f0, by omega, by simp [sizeL], ⟨AH.le_put (AH.le_refl _) hko _, .inl ⟨rfl, rfl⟩⟩, AH.put_same _ _ _, by simp, by simp [sizeL], by simp, by simp⟩
    rintro n a H2 ⟨j, v, acc, fits, last, hj, rfl, hacc, hlast, hal, hsl, hfit, hlay⟩
    by_cases hlt : j < l.length
    · rw [List.drop_eq_getElem_cons hlt, fitsL] at hfit
      rw [List.drop_eq_getElem_cons hlt] at hlay
      obtain ⟨hnn, hbb⟩ := hall j hlt
      have hst := sizeL_take l j hlt
      have turn : ∀ (v' : V) (H3 : AH) (l' : List UInt8) (p : AObj), AccP H 1 (byteCells l') v' H3 → H3 ko = some (.cells (fldC last)) → AccP H 1 (byteCells l') v' (H3.put ko p) := fun v' H3 l' p h1 h2 => AccP.turn h1 hko h2 p
      cases hw : fits
      · subst hw
        repeat' (first | with_reducible (first | refine am_seq ?_ | refine am_block ?_) | ((with_reducible apply am_cond); (case hb => rfl); all_goals (intro hc; (try simp only [reduceCtorEq, bD, beq_iff_eq] at hc); (try (exfalso; omega)))) | ((first | with_reducible (first | refine am_reg ?_ | refine am_drw ?_ | refine am_skip ?_ | refine am_exit ?_ | refine am_ret ?_ | refine vc_intro ?_ | refine need_elems (by assumption) ?_ | refine vlen_acc (by assumption) ?_ | refine need_bytes (by assumption) ?_ | refine call_of (fits_calls) ?_ | refine qcall_of (fits_calls) ?_ | refine need_lk ?_) | ((with_reducible (first | apply gd_not | apply gd_of | apply gq_not | apply gq_of | apply pickB_of)) <;> intro hc <;> (try simp -implicitDefEqProofs (disch := omega) only [go_sem, hc, wrap_id, get_of_lt hlt]) <;> (try simp only [reduceCtorEq, bD, beq_iff_eq] at hc) <;> (try (exfalso; omega))) | ((with_reducible refine alloc_intro (fun ko hko => ?_)) <;> (try have hne := fresh_ne (by assumption) hko) <;> (try have hnk := fresh_ne hk hko) <;> (try have hnk2 := fresh_ne hk2 hko) <;> (try simp only [AH.put_none] at hko)) | ((with_reducible (first | refine vapp_accL (by assumption) ?_ (fun v2 H2 hacc hlec => ?_) | refine vapp_accL (AccP.mono (by assumption) (AccP.le (by assumption))) ?_ (fun v2 H2 hacc hlec => ?_) | refine vapp_accL (AccP.new (by assumption) (by assumption) _) ?_ (fun v2 H2 hacc hlec => ?_))); · simp only [byteCells_length, List.length_cons, List.length_nil, List.length_map, List.length_append, fldsE_length, List.length_take]; omega) | done) <;> (try simp -implicitDefEqProofs (disch := omega) only [go_sem, wrap_id, get_of_lt hlt])))
        refine ⟨n - 1, by omega, j + 1, _, acc, false, l[j], by omega, ?_, turn _ _ _ _ hacc hlast, by first | exact AH.put_same _ _ _ | rfl, Nat.le_trans hal (Nat.mul_le_mul_right _ (by omega)), by omega, ?_, by simp⟩
        · rw [hst]; simp
        · simp [hfit]
      · subst hw
        cases hf : fitsF l[j] last
        · repeat' (first | with_reducible (first | refine am_seq ?_ | refine am_block ?_) | ((with_reducible apply am_cond); (case hb => rfl); all_goals (intro hc; (try simp only [reduceCtorEq, bD, beq_iff_eq] at hc); (try (exfalso; omega)))) | ((first | with_reducible (first | refine am_reg ?_ | refine am_drw ?_ | refine am_skip ?_ | refine am_exit ?_ | refine am_ret ?_ | refine vc_intro ?_ | refine need_elems (by assumption) ?_ | refine vlen_acc (by assumption) ?_ | refine need_bytes (by assumption) ?_ | refine call_of (fits_calls) ?_ | refine qcall_of (fits_calls) ?_ | refine need_lk ?_) | ((with_reducible (first | apply gd_not | apply gd_of | apply gq_not | apply gq_of | apply pickB_of)) <;> intro hc <;> (try simp -implicitDefEqProofs (disch := omega) only [go_sem, hc, wrap_id, get_of_lt hlt, hf]) <;> (try simp only [reduceCtorEq, bD, beq_iff_eq] at hc) <;> (try (exfalso; omega))) | ((with_reducible refine alloc_intro (fun ko hko => ?_)) <;> (try have hne := fresh_ne (by assumption) hko) <;> (try have hnk := fresh_ne hk hko) <;> (try have hnk2 := fresh_ne hk2 hko) <;> (try simp only [AH.put_none] at hko)) | ((with_reducible (first | refine vapp_accL (by assumption) ?_ (fun v2 H2 hacc hlec => ?_) | refine vapp_accL (AccP.mono (by assumption) (AccP.le (by assumption))) ?_ (fun v2 H2 hacc hlec => ?_) | refine vapp_accL (AccP.new (by assumption) (by assumption) _) ?_ (fun v2 H2 hacc hlec => ?_))); · simp only [byteCells_length, List.length_cons, List.length_nil, List.length_map, List.length_append, fldsE_length, List.length_take]; omega) | done) <;> (try simp -implicitDefEqProofs (disch := omega) only [go_sem, wrap_id, get_of_lt hlt, hf])))
          refine ⟨n - 1, by omega, j + 1, _, acc, false, l[j], by omega, ?_, turn _ _ _ _ hacc hlast, by first | exact AH.put_same _ _ _ | rfl, Nat.le_trans hal (Nat.mul_le_mul_right _ (by omega)), by omega, ?_, by simp⟩
          · rw [hst]; simp
          · simp [hfit, hf]
        · have htag := fits_tag hf
          have hll := layF_len htag hnn (by omega)
          repeat' (first | with_reducible (first | refine am_seq ?_ | refine am_block ?_) | ((with_reducible apply am_cond); (case hb => rfl); all_goals (intro hc; (try simp only [reduceCtorEq, bD, beq_iff_eq] at hc); (try (exfalso; omega)))) | ((first | with_reducible (first | refine am_reg ?_ | refine am_drw ?_ | refine am_skip ?_ | refine am_exit ?_ | refine am_ret ?_ | refine vc_intro ?_ | refine need_elems (by assumption) ?_ | refine vlen_acc (by assumption) ?_ | refine need_bytes (by assumption) ?_ | refine call_of (fits_calls) ?_ | refine qcall_of (fits_calls) ?_ | refine call_of (rlay_calls ⟨hnn, by omega⟩ htag) ?_ | refine qcall_of (rlay_calls ⟨hnn, by omega⟩ htag) ?_ | refine need_lk ?_) | ((with_reducible (first | apply gd_not | apply gd_of | apply gq_not | apply gq_of | apply pickB_of)) <;> intro hc <;> (try simp -implicitDefEqProofs (disch := omega) only [go_sem, hc, wrap_id, get_of_lt hlt, hf]) <;> (try simp only [reduceCtorEq, bD, beq_iff_eq] at hc) <;> (try (exfalso; omega))) | ((with_reducible refine alloc_intro (fun ko hko => ?_)) <;> (try have hne := fresh_ne (by assumption) hko) <;> (try have hnk := fresh_ne hk hko) <;> (try have hnk2 := fresh_ne hk2 hko) <;> (try simp only [AH.put_none] at hko)) | ((with_reducible (first | refine vapp_accL (by assumption) ?_ (fun v2 H2 hacc hlec => ?_) | refine vapp_accL (AccP.mono (by assumption) (AccP.le (by assumption))) ?_ (fun v2 H2 hacc hlec => ?_) | refine vapp_accL (AccP.new (by assumption) (by assumption) _) ?_ (fun v2 H2 hacc hlec => ?_))); · simp only [byteCells_length, List.length_cons, List.length_nil, List.length_map, List.length_append, fldsE_length, List.length_take]; omega) | done) <;> (try simp -implicitDefEqProofs (disch := omega) only [go_sem, wrap_id, get_of_lt hlt, hf])))
          refine vapp_accL (turn _ _ _ _ hacc hlast) (by simp only [byteCells_length]; omega) (fun v2 H3 hacc3 hlec => ?_)
          repeat' (first | with_reducible (first | refine am_seq ?_ | refine am_block ?_) | ((with_reducible apply am_cond); (case hb => rfl); all_goals (intro hc; (try simp only [reduceCtorEq, bD, beq_iff_eq] at hc); (try (exfalso; omega)))) | ((first | with_reducible (first | refine am_reg ?_ | refine am_drw ?_ | refine am_skip ?_ | refine am_exit ?_ | refine am_ret ?_ | refine vc_intro ?_ | refine need_elems (by assumption) ?_ | refine vlen_acc (by assumption) ?_ | refine need_bytes (by assumption) ?_ | refine need_lk ?_) | ((with_reducible (first | apply gd_not | apply gd_of | apply gq_not | apply gq_of | apply pickB_of)) <;> intro hc <;> (try simp -implicitDefEqProofs (disch := omega) only [go_sem, hc, wrap_id]) <;> (try simp only [reduceCtorEq, bD, beq_iff_eq] at hc) <;> (try (exfalso; omega))) | ((with_reducible refine alloc_intro (fun ko hko => ?_)) <;> (try have hne := fresh_ne (by assumption) hko) <;> (try have hnk := fresh_ne hk hko) <;> (try have hnk2 := fresh_ne hk2 hko) <;> (try simp only [AH.put_none] at hko)) | ((with_reducible (first | refine vapp_accL (by assumption) ?_ (fun v2 H2 hacc hlec => ?_) | refine vapp_accL (AccP.mono (by assumption) (AccP.le (by assumption))) ?_ (fun v2 H2 hacc hlec => ?_) | refine vapp_accL (AccP.new (by assumption) (by assumption) _) ?_ (fun v2 H2 hacc hlec => ?_))); · simp only [byteCells_length, List.length_cons, List.length_nil, List.length_map, List.length_append, fldsE_length, List.length_take]; omega) | done) <;> (try simp -implicitDefEqProofs (disch := omega) only [go_sem, wrap_id])))
          refine ⟨n - 1, by omega, j + 1, _, acc ++ layF l[j], true, l[j], by omega, ?_, by rw [byteCells_append]; exact hacc3, look_lec (AH.put_same _ _ _) hlec, ?_, by omega, ?_, ?_⟩
          · rw [hst]; simp
          · simp only [List.length_append]; omega
          · simp [hfit, hf]
          · intro _; rw [hlay rfl]; simp only [layL, List.flatMap_cons, List.append_assoc]
    · rw [List.drop_eq_nil_of_le (by omega)] at hfit hlay
      have hts : sizeL (l.take j) = sizeL l := by rw [List.take_of_length_le (by omega)]
      repeat' (first | with_reducible (first | refine am_seq ?_ | refine am_block ?_) | ((with_reducible apply am_cond); (case hb => rfl); all_goals (intro hc; (try simp only [reduceCtorEq, bD, beq_iff_eq] at hc); (try (exfalso; omega)))) | ((first | with_reducible (first | refine am_reg ?_ | refine am_drw ?_ | refine am_skip ?_ | refine am_exit ?_ | refine am_ret ?_ | refine vc_intro ?_ | refine need_elems (by assumption) ?_ | refine vlen_acc (by assumption) ?_ | refine need_bytes (by assumption) ?_ | refine need_lk ?_) | ((with_reducible (first | apply gd_not | apply gd_of | apply gq_not | apply gq_of | apply pickB_of)) <;> intro hc <;> (try simp -implicitDefEqProofs (disch := omega) only [go_sem, hc, wrap_id]) <;> (try simp only [reduceCtorEq, bD, beq_iff_eq] at hc) <;> (try (exfalso; omega))) | ((with_reducible refine alloc_intro (fun ko hko => ?_)) <;> (try have hne := fresh_ne (by assumption) hko) <;> (try have hnk := fresh_ne hk hko) <;> (try have hnk2 := fresh_ne hk2 hko) <;> (try simp only [AH.put_none] at hko)) | ((with_reducible (first | refine vapp_accL (by assumption) ?_ (fun v2 H2 hacc hlec => ?_) | refine vapp_accL (AccP.mono (by assumption) (AccP.le (by assumption))) ?_ (fun v2 H2 hacc hlec => ?_) | refine vapp_accL (AccP.new (by assumption) (by assumption) _) ?_ (fun v2 H2 hacc hlec => ?_))); · simp only [byteCells_length, List.length_cons, List.length_nil, List.length_map, List.length_append, fldsE_length, List.length_take]; omega) | done) <;> (try simp -implicitDefEqProofs (disch := omega) only [go_sem, wrap_id])))
      · rw [show encS l = ([], 3) by rw [encS, if_pos (.inr (by omega))]]
        (refine drop_end (by (first | exact fun _ _ h => h | (intro s x h; first | exact no_sub _ h | exact nil_no _ h | exact AccP.sub (by assumption) _ _ h | (refine agg_sub rfl ?_ x h; repeat (first | exact .nil | refine .cons (fun _ h => h) ?_ | refine .cons (fun _ h => nil_no _ h) ?_ | refine .cons (fun _ h => no_sub _ h) ?_ | refine .cons (fun _ h => AccP.sub (by assumption) _ _ h) ?_)) | (refine tuple_sub ?_ x h; repeat (first | exact .nil | refine .cons (fun _ h => h) ?_ | refine .cons (fun _ h => nil_no _ h) ?_ | refine .cons (fun _ h => no_sub _ h) ?_ | refine .cons (fun _ h => AccP.sub (by assumption) _ _ h) ?_ | refine .cons (fun _ h => agg_sub rfl (by repeat (first | exact .nil | refine .cons (fun _ h => h) ?_ | refine .cons (fun _ h => nil_no _ h) ?_ | refine .cons (fun _ h => no_sub _ h) ?_ | refine .cons (fun _ h => AccP.sub (by assumption) _ _ h) ?_)) _ h) ?_))))) (by (repeat (first | exact AH.le_refl _ | assumption | exact AccP.le (by assumption) | refine AH.le_put ?_ (by first | assumption | exact none_of_le (by assumption) (by assumption) | exact And.right (by assumption) | exact And.right (And.right (by assumption))) _ | refine AH.le_trans ?_ (AccP.le (by assumption))))))
      · have hsz' : ¬ (64 < l.length ∨ 4096 < sizeL l) := by omega
        rw [show encS l = ([], 1) by rw [encS, if_neg hsz', if_pos (by simp_all)]]
        (refine drop_end (by (first | exact fun _ _ h => h | (intro s x h; first | exact no_sub _ h | exact nil_no _ h | exact AccP.sub (by assumption) _ _ h | (refine agg_sub rfl ?_ x h; repeat (first | exact .nil | refine .cons (fun _ h => h) ?_ | refine .cons (fun _ h => nil_no _ h) ?_ | refine .cons (fun _ h => no_sub _ h) ?_ | refine .cons (fun _ h => AccP.sub (by assumption) _ _ h) ?_)) | (refine tuple_sub ?_ x h; repeat (first | exact .nil | refine .cons (fun _ h => h) ?_ | refine .cons (fun _ h => nil_no _ h) ?_ | refine .cons (fun _ h => no_sub _ h) ?_ | refine .cons (fun _ h => AccP.sub (by assumption) _ _ h) ?_ | refine .cons (fun _ h => agg_sub rfl (by repeat (first | exact .nil | refine .cons (fun _ h => h) ?_ | refine .cons (fun _ h => nil_no _ h) ?_ | refine .cons (fun _ h => no_sub _ h) ?_ | refine .cons (fun _ h => AccP.sub (by assumption) _ _ h) ?_)) _ h) ?_))))) (by (repeat (first | exact AH.le_refl _ | assumption | exact AccP.le (by assumption) | refine AH.le_put ?_ (by first | assumption | exact none_of_le (by assumption) (by assumption) | exact And.right (by assumption) | exact And.right (And.right (by assumption))) _ | refine AH.le_trans ?_ (AccP.le (by assumption))))))
      · have hsz' : ¬ (64 < l.length ∨ 4096 < sizeL l) := by omega
        have e := hlay (by assumption)
        rw [show encS l = ([], 3) by rw [encS, if_neg hsz', if_neg (by simp_all [fitsL]), if_pos (by rw [e]; simp [layL]; omega)]]
        (refine drop_end (by (first | exact fun _ _ h => h | (intro s x h; first | exact no_sub _ h | exact nil_no _ h | exact AccP.sub (by assumption) _ _ h | (refine agg_sub rfl ?_ x h; repeat (first | exact .nil | refine .cons (fun _ h => h) ?_ | refine .cons (fun _ h => nil_no _ h) ?_ | refine .cons (fun _ h => no_sub _ h) ?_ | refine .cons (fun _ h => AccP.sub (by assumption) _ _ h) ?_)) | (refine tuple_sub ?_ x h; repeat (first | exact .nil | refine .cons (fun _ h => h) ?_ | refine .cons (fun _ h => nil_no _ h) ?_ | refine .cons (fun _ h => no_sub _ h) ?_ | refine .cons (fun _ h => AccP.sub (by assumption) _ _ h) ?_ | refine .cons (fun _ h => agg_sub rfl (by repeat (first | exact .nil | refine .cons (fun _ h => h) ?_ | refine .cons (fun _ h => nil_no _ h) ?_ | refine .cons (fun _ h => no_sub _ h) ?_ | refine .cons (fun _ h => AccP.sub (by assumption) _ _ h) ?_)) _ h) ?_))))) (by (repeat (first | exact AH.le_refl _ | assumption | exact AccP.le (by assumption) | refine AH.le_put ?_ (by first | assumption | exact none_of_le (by assumption) (by assumption) | exact And.right (by assumption) | exact And.right (And.right (by assumption))) _ | refine AH.le_trans ?_ (AccP.le (by assumption))))))
      · have hsz' : ¬ (64 < l.length ∨ 4096 < sizeL l) := by omega
        have e := hlay (by assumption)
        have e2 : layL l = acc := by rw [e]; simp [layL]
        rw [show encS l = (acc, 0) by rw [encS, if_neg hsz', if_neg (by simp_all [fitsL]), if_neg (by rw [e2]; omega), e2]]
        (refine drop_end (by (first | exact fun _ _ h => h | (intro s x h; first | exact no_sub _ h | exact nil_no _ h | exact AccP.sub (by assumption) _ _ h | (refine agg_sub rfl ?_ x h; repeat (first | exact .nil | refine .cons (fun _ h => h) ?_ | refine .cons (fun _ h => nil_no _ h) ?_ | refine .cons (fun _ h => no_sub _ h) ?_ | refine .cons (fun _ h => AccP.sub (by assumption) _ _ h) ?_)) | (refine tuple_sub ?_ x h; repeat (first | exact .nil | refine .cons (fun _ h => h) ?_ | refine .cons (fun _ h => nil_no _ h) ?_ | refine .cons (fun _ h => no_sub _ h) ?_ | refine .cons (fun _ h => AccP.sub (by assumption) _ _ h) ?_ | refine .cons (fun _ h => agg_sub rfl (by repeat (first | exact .nil | refine .cons (fun _ h => h) ?_ | refine .cons (fun _ h => nil_no _ h) ?_ | refine .cons (fun _ h => no_sub _ h) ?_ | refine .cons (fun _ h => AccP.sub (by assumption) _ _ h) ?_)) _ h) ?_))))) (by (repeat (first | exact AH.le_refl _ | assumption | exact AccP.le (by assumption) | refine AH.le_put ?_ (by first | assumption | exact none_of_le (by assumption) (by assumption) | exact And.right (by assumption) | exact And.right (And.right (by assumption))) _ | refine AH.le_trans ?_ (AccP.le (by assumption))))))
end Go.Proofs.Ytjlphncecdlmcaa
