/- Of the walks of this seat: contracts of functions of the given program, proved over the abstract values of the texts Vm. Conditions: as each theorem says. -/
import Derived.Test.YtjlphncecdlmcaaND
import Derived.Test.YtjlphncecdlmcaaQB9
import Derived.Test.YtjlphncecdlmcaaD2
import Derived.Test.YtjlphncecdlmcaaVm36
import Derived.Test.YtjlphncecdlmcaaM3
set_option linter.unusedVariables false
set_option linter.unusedSimpArgs false
namespace Go.Proofs.Ytjlphncecdlmcaa
open Go.Vm
attribute [local go_sem] eq_self decide_true decide_false AH.put_ne
attribute [local go_sem_proc] Nat.reduceBEq Nat.reduceAdd Nat.reduceSub Nat.reduceMul Nat.reduceEqDiff Nat.reduceLeDiff Nat.reduceLT Int.reduceLE Int.reduceLT Int.reduceToNat Int.reduceAdd Int.reduceEq Int.reduceNeg
attribute [local go_sem] ntsE_get ntsE_length byteCells_get byteCells_length byteCells_take byteCells_drop bytes_cells fldC fldsE_get fldsE_length List.drop_zero bytesOf_cells toNat_succ Nat.sub_zero Int.toNat_natCast Option.map_some Int.natCast_nonneg decide_eq_true_eq decide_eq_false_iff_not
/- slices.Clone[[]flange/diag.Note,flange/diag.Note] -/
abbrev k84_0 : MC :=
 .cond (.t 4) ((.seq (.reg [
 ⟨some 2, none, .val (.mv (.c .nilSl))⟩] [2]) (.ret))) (.skip)
abbrev k84_1 : MC :=
 (.seq (.reg [
 ⟨some 5, none, .bslice 2 0 [] []⟩,
 ⟨some 6, none, .val (.mv (.t 0))⟩,
 ⟨some 7, none, .app 2 24 (.t 5) (.t 6)⟩,
 ⟨some 2, none, .val (.mv (.t 7))⟩] [2]) (.ret))
abbrev k84_2 : MC :=
 (.seq ((.seq (.reg [
 ⟨some 3, none, .val (.mv (.t 0))⟩,
 ⟨some 4, none, .isnil false (.t 3)⟩] [0, 4]) k84_0)) k84_1)
abbrev k84 : MC :=
 (.seq (.reg [
 ⟨some 2, none, .val (.mv (.c .nilSl))⟩] [0]) k84_2)
theorem c84 : Try.f84.body.bind (mcOf Try.prog (List.contains [] ·) (List.getD [([], [0]), ([], [0, 4]), ([], [2]), ([], [2])] · ([], [])) 8) = some k84 := by kernel_rfl
theorem r84 : rvsOf Try.prog Try.f84.results.toList = some [.tmp 2] := by kernel_rfl
/- flange/diag.Encode -/
abbrev k30_0 : MC :=
 .drw [
 ⟨some 20, none, .val (.load true 2 (.t 6))⟩,
 ⟨some 21, none, .call 87 [(.t 20)]⟩,
 ⟨some 22, none, .val (.faddr 1 (.t 6))⟩,
 ⟨some 23, none, .val (.load false 1 (.t 22))⟩,
 ⟨some 24, none, .s2b (.t 23)⟩,
 ⟨some 25, none, .call 88 [(.t 21), (.t 24)]⟩,
 ⟨some 26, none, .bslice 4 1 [(.int .i64 0), (.bool false), (.int .u64 0), .nilSl] [(0, 4, (.t 25))]⟩] [
 ⟨some 19, none, .val (.mv (.t 4))⟩,
 ⟨some 27, none, .app 4 48 (.t 19) (.t 26)⟩,
 ⟨some 4, none, .val (.mv (.t 27))⟩] [4, 13, 14, 15]
abbrev k30_1 : MC :=
 .reg [
 ⟨some 28, none, .val (.bin .add .num (.t 15) (.c (.int .i64 1)))⟩,
 ⟨some 15, none, .val (.mv (.t 28))⟩] [4, 13, 14, 15]
abbrev k30_2 : MC :=
 (.seq (.block 1 ((.seq (.reg [
 ⟨some 17, none, .val (.iaddr 2 (.t 13) (.t 15))⟩,
 ⟨some 18, none, .val (.load true 2 (.t 17))⟩,
 ⟨some 6, none, .zalloc [(.bool false), (.str [])]⟩,
 ⟨none, none, .store 2 (.t 6) (.t 18)⟩] [4, 6, 13, 14, 15]) k30_0))) k30_1)
abbrev k30_3 : MC :=
 (.seq (.cond (.t 16) (.skip) (.exit 0)) k30_2)
abbrev k30_4 : MC :=
 (.seq (.reg [
 ⟨some 16, none, .val (.bin .lss .num (.t 15) (.t 14))⟩] [4, 13, 14, 15, 16]) k30_3)
abbrev k30_5 : MC :=
 .block 0 (.loop k30_4)
abbrev k30_6 : MC :=
 .cond (.t 35) ((.seq (.reg [
 ⟨some 2, none, .val (.mv (.c .nilSl))⟩,
 ⟨some 3, none, .val (.mv (.c (.int .i64 3)))⟩] [2, 3]) (.ret))) (.skip)
abbrev k30_7 : MC :=
 (.seq (.reg [
 ⟨some 36, none, .val (.mv (.t 7))⟩,
 ⟨some 2, none, .val (.mv (.t 36))⟩,
 ⟨some 3, none, .val (.mv (.c (.int .i64 0)))⟩] [2, 3]) (.ret))
abbrev k30_8 : MC :=
 (.seq ((.seq (.reg [
 ⟨some 34, none, .val (.mv (.t 8))⟩,
 ⟨some 35, none, .val (.bin .neq .num (.t 34) (.c (.int .i64 0)))⟩] [7, 35]) k30_6)) k30_7)
abbrev k30_9 : MC :=
 (.seq (.reg [
 ⟨some 30, none, .val (.mv (.t 4))⟩,
 ⟨some 31, none, .call 89 [(.t 30)]⟩,
 ⟨some 29, none, .val (.mv (.t 31))⟩,
 ⟨some 32, none, .val (.ext (.t 29) 0)⟩,
 ⟨some 33, none, .val (.ext (.t 29) 1)⟩,
 ⟨some 7, none, .val (.mv (.t 32))⟩,
 ⟨some 8, none, .val (.mv (.t 33))⟩] [7, 8]) k30_8)
abbrev k30_10 : MC :=
 (.seq ((.seq (.reg [
 ⟨some 13, none, .val (.mv (.t 0))⟩,
 ⟨some 14, none, .val (.len .sl (.t 13))⟩,
 ⟨some 15, none, .val (.mv (.c (.int .i64 0)))⟩] [4, 13, 14, 15]) k30_5)) k30_9)
abbrev k30_11 : MC :=
 (.seq (.reg [
 ⟨some 4, none, .val (.mv (.c .nilSl))⟩] [0, 4]) k30_10)
abbrev k30_12 : MC :=
 (.seq (.reg [
 ⟨some 11, none, .val (.mv (.t 0))⟩,
 ⟨some 12, none, .call 85 [(.t 11), (.c (.func (.func 86) [] []))]⟩] [0]) k30_11)
abbrev k30_13 : MC :=
 (.seq (.reg [
 ⟨some 9, none, .val (.mv (.t 0))⟩,
 ⟨some 10, none, .call 84 [(.t 9)]⟩,
 ⟨some 0, none, .val (.mv (.t 10))⟩] [0]) k30_12)
abbrev k30 : MC :=
 (.seq (.reg [
 ⟨some 2, none, .val (.mv (.c .nilSl))⟩,
 ⟨some 3, none, .val (.mv (.c (.int .i64 0)))⟩] [0]) k30_13)
theorem c30 : Try.f30.body.bind (mcOf Try.prog (List.contains [] ·) (List.getD [([], [0]), ([], [0]), ([], [0]), ([], [0, 4]), ([], [4, 13, 14, 15]), ([], [4, 13, 14, 15, 16]), ([], [4, 6, 13, 14, 15]), ([2, 0, 0, 0, 0, 0, 0, 0, 2, 2], [4, 13, 14, 15]), ([], [4, 13, 14, 15]), ([], [7, 8]), ([], [7, 35]), ([], [2, 3]), ([], [2, 3])] · ([], [])) 37) = some k30 := by kernel_rfl
theorem r30 : rvsOf Try.prog Try.f30.results.toList = some [.tmp 2, .tmp 3] := by kernel_rfl
abbrev kcl_1 : MC :=
  (.seq (.reg [
    ⟨(some 5), none, .bslice 2 0 [] []⟩,
    ⟨(some 6), none, .val (.mv (.t 0))⟩,
    ⟨(some 7), none, .xo (.appm 2 24) [(.t 5), (.t 6)]⟩,
    ⟨(some 2), none, .val (.mv (.t 7))⟩] [2]) (.ret))
abbrev kcl_2 : MC :=
  (.seq ((.seq (.reg [
    ⟨(some 3), none, .val (.mv (.t 0))⟩,
    ⟨(some 4), none, .isnil false (.t 3)⟩] [0, 4]) k84_0)) kcl_1)
abbrev kcl : MC :=
  (.seq (.reg [
    ⟨(some 2), none, .val (.mv (.c .nilSl))⟩] [0]) kcl_2)
theorem ccl : Try.f84.body.bind (mcOf Try.prog (List.contains [7] ·) (List.getD [([], [0]), ([], [0, 4]), ([], [2]), ([], [2])] · ([], [])) 8) = some kcl := by kernel_rfl
theorem clonem_calls {l : List Nt} {t : Tok} (hl : l.length < 1000000) (hne : l ≠ []) (H : AH) : ACalls Try.prog 84 [.sl 2 (ntsE l) t] H (fun o H' => ∃ v, o = .ret v ∧ ∃ k, H k = none ∧ v = .msl k 2 0 l.length ∧ H' = H.put k (ntO l)) := by
  have hv : ntsE l ≠ [] := by cases l <;> simp_all [ntsE]
  refine acalls Try.func84 ccl r84 (by simp [Try.ntmps84]) ?_
  repeat' (first | with_reducible (first | refine am_seq ?_ | refine am_block ?_) | ((with_reducible apply am_cond); (case hb => rfl); all_goals (intro hc; (try simp only [reduceCtorEq, bD, beq_iff_eq] at hc); (try (exfalso; omega)))) | ((first | with_reducible (first | refine am_reg ?_ | refine am_drw ?_ | refine am_drx ?_ | refine am_drt ?_ | refine both_intro ?_ ?_ | refine am_skip ?_ | refine am_exit ?_ | refine am_ret ?_ | refine vc_intro ?_ | refine isnE_of (fun hc => ?_) (fun hc => ?_) (fun hc => ?_) | refine need_elems (by assumption) ?_ | refine vlen_acc (by assumption) ?_ | refine need_bytes (by assumption) ?_ | refine need_lk ?_) | ((with_reducible (first | apply gd_not | apply gd_of | apply gq_not | apply gq_of | apply pickB_of)) <;> intro hc <;> (try simp -implicitDefEqProofs (disch := omega) only [go_sem, hc, hv, vappm, appmK, elemsH, true_and, ne_eq, not_false_eq_true, true_implies, false_implies, List.length_nil, Nat.zero_add, List.nil_append]) <;> (try simp only [reduceCtorEq, bD, beq_iff_eq] at hc) <;> (try (exfalso; omega))) | ((with_reducible refine alloc_intro (fun ko hko => ?_)) <;> (try have hne := fresh_ne (by assumption) hko) <;> (try have hnk := fresh_ne hk hko) <;> (try have hnk2 := fresh_ne hk2 hko) <;> (try simp only [AH.put_none] at hko)) | ((with_reducible (first | refine vapp_accL (by assumption) ?_ (fun v2 H2 hacc hlec => ?_) | refine vapp_accL (AccP.mono (by assumption) (AccP.le (by assumption))) ?_ (fun v2 H2 hacc hlec => ?_) | refine vapp_accL (AccP.new (by assumption) (by assumption) _) ?_ (fun v2 H2 hacc hlec => ?_))); · simp only [byteCells_length, List.length_cons, List.length_nil, List.length_map, List.length_append, ntsE_length, fldsE_length]; omega) | done) <;> (try simp -implicitDefEqProofs (disch := omega) only [go_sem, hv, vappm, appmK, elemsH, true_and, ne_eq, not_false_eq_true, true_implies, false_implies, List.length_nil, Nat.zero_add, List.nil_append])))
  · exact absurd (by assumption) hv
  all_goals exact ⟨_, rfl, ko, hko, rfl, rfl⟩
theorem clonez_calls {t : Tok} (H : AH) : ACalls Try.prog 84 [.sl 2 [] t] H (fun o H' => o = .ret (.sl 2 [] .no) ∧ H' = H) := by
  refine ACalls.drop ?_
  refine acalls Try.func84 c84 r84 (by simp [Try.ntmps84]) ?_
  repeat' (first | with_reducible (first | refine am_seq ?_ | refine am_block ?_) | ((with_reducible apply am_cond); (case hb => rfl); all_goals (intro hc; (try simp only [reduceCtorEq, bD, beq_iff_eq] at hc); (try (exfalso; omega)))) | ((first | with_reducible (first | refine am_reg ?_ | refine am_skip ?_ | refine am_exit ?_ | refine am_ret ?_ | refine vc_intro ?_ | refine isnE_of (fun hc => ?_) (fun hc => ?_) (fun hc => ?_) | refine need_elems (by assumption) ?_ | refine vlen_acc (by assumption) ?_ | refine need_bytes (by assumption) ?_ | refine need_lk ?_) | ((with_reducible refine alloc_intro (fun ko hko => ?_)) <;> (try have hne := fresh_ne (by assumption) hko) <;> (try have hnk := fresh_ne hk hko) <;> (try have hnk2 := fresh_ne hk2 hko) <;> (try simp only [AH.put_none] at hko)) | ((with_reducible (first | refine vapp_accL (by assumption) ?_ (fun v2 H2 hacc hlec => ?_) | refine vapp_accL (AccP.mono (by assumption) (AccP.le (by assumption))) ?_ (fun v2 H2 hacc hlec => ?_) | refine vapp_accL (AccP.new (by assumption) (by assumption) _) ?_ (fun v2 H2 hacc hlec => ?_))); · simp only [byteCells_length, List.length_cons, List.length_nil, List.length_map, List.length_append, ntsE_length, fldsE_length]; omega) | done) <;> (try simp -implicitDefEqProofs (disch := omega) only [go_sem])))
  · exact drop_end (fun _ => nil_no) (AH.le_refl _)
  · exact drop_end (fun _ _ h => no_sub _ h) (AH.le_put (AH.le_refl _) hko _)
  · exact absurd rfl (by assumption)
theorem ins_nil {v c : V} (H : AH) : ACalls Try.prog 138 [v, .int .i64 0, .int .i64 0, c] H (fun o H' => o = .ret unitV ∧ H' = H) := by
  refine acalls Try.func138 c138 r138 (by simp [Try.ntmps138]) ?_
  repeat' (first | with_reducible (first | refine am_seq ?_ | refine am_block ?_) | ((with_reducible apply am_cond); (case hb => rfl); all_goals (intro hc; (try simp only [reduceCtorEq, bD, beq_iff_eq] at hc); (try (exfalso; omega)))) | ((first | with_reducible (first | refine am_reg ?_ | refine am_drw ?_ | refine am_skip ?_ | refine am_exit ?_ | refine am_ret ?_ | refine vc_intro ?_ | refine need_elems (by assumption) ?_ | refine vlen_acc (by assumption) ?_ | refine need_bytes (by assumption) ?_ | refine need_lk ?_) | ((with_reducible (first | apply gd_not | apply gd_of | apply gq_not | apply gq_of | apply pickB_of)) <;> intro hc <;> (try simp -implicitDefEqProofs (disch := omega) only [go_sem, hc, wrap_id]) <;> (try simp only [reduceCtorEq, bD, beq_iff_eq] at hc) <;> (try (exfalso; omega))) | done) <;> (try simp -implicitDefEqProofs (disch := omega) only [go_sem, wrap_id])))
  refine am_loop (fun _ st H' => st = [(0, v), (1, .int .i64 0), (2, .int .i64 0), (3, c), (8, .int .i64 1)] ∧ H' = H) ?_ 0 ⟨rfl, rfl⟩
  rintro _ st G ⟨rfl, rfl⟩
  repeat' (first | with_reducible (first | refine am_seq ?_ | refine am_block ?_) | ((with_reducible apply am_cond); (case hb => rfl); all_goals (intro hc; (try simp only [reduceCtorEq, bD, beq_iff_eq] at hc); (try (exfalso; omega)))) | ((first | with_reducible (first | refine am_reg ?_ | refine am_drw ?_ | refine am_skip ?_ | refine am_exit ?_ | refine am_ret ?_ | refine vc_intro ?_ | refine need_elems (by assumption) ?_ | refine vlen_acc (by assumption) ?_ | refine need_bytes (by assumption) ?_ | refine need_lk ?_) | ((with_reducible (first | apply gd_not | apply gd_of | apply gq_not | apply gq_of | apply pickB_of)) <;> intro hc <;> (try simp -implicitDefEqProofs (disch := omega) only [go_sem, hc, wrap_id]) <;> (try simp only [reduceCtorEq, bD, beq_iff_eq] at hc) <;> (try (exfalso; omega))) | done) <;> (try simp -implicitDefEqProofs (disch := omega) only [go_sem, wrap_id])))
  all_goals first | rfl | exact ⟨rfl, rfl⟩
theorem stable_nil {v c : V} (H : AH) : ACalls Try.prog 114 [v, .int .i64 0, c] H (fun o H' => o = .ret unitV ∧ H' = H) := by
  refine acalls Try.func114 c114 r114 (by simp [Try.ntmps114]) ?_
  repeat' (first | with_reducible (first | refine am_seq ?_ | refine am_block ?_) | ((with_reducible apply am_cond); (case hb => rfl); all_goals (intro hc; (try simp only [reduceCtorEq, bD, beq_iff_eq] at hc); (try (exfalso; omega)))) | ((first | with_reducible (first | refine am_reg ?_ | refine am_skip ?_ | refine am_exit ?_ | refine am_ret ?_ | refine vc_intro ?_ | refine need_elems (by assumption) ?_ | refine vlen_acc (by assumption) ?_ | refine need_bytes (by assumption) ?_ | refine need_lk ?_) | done) <;> (try simp -implicitDefEqProofs (disch := omega) only [go_sem, wrap_id])))
  refine am_loop (fun _ st H' => st = [(0, v), (1, .int .i64 0), (2, c), (6, .int .i64 20), (7, .int .i64 0), (8, .int .i64 20)] ∧ H' = H) ?_ 0 ⟨rfl, rfl⟩
  rintro _ st G ⟨rfl, rfl⟩
  repeat' (first | with_reducible (first | refine am_seq ?_ | refine am_block ?_) | ((with_reducible apply am_cond); (case hb => rfl); all_goals (intro hc; (try simp only [reduceCtorEq, bD, beq_iff_eq] at hc); (try (exfalso; omega)))) | ((first | with_reducible (first | refine am_reg ?_ | refine am_skip ?_ | refine am_exit ?_ | refine am_ret ?_ | refine vc_intro ?_ | refine need_elems (by assumption) ?_ | refine vlen_acc (by assumption) ?_ | refine need_bytes (by assumption) ?_ | refine call_of (ins_nil) ?_ | refine qcall_of (ins_nil) ?_ | refine need_lk ?_) | done) <;> (try simp -implicitDefEqProofs (disch := omega) only [go_sem, wrap_id])))
  refine am_loop (fun _ st H' => st = [(0, v), (1, .int .i64 0), (2, c), (6, .int .i64 20)] ∧ H' = G) ?_ 0 ⟨rfl, rfl⟩
  rintro _ st H' ⟨rfl, rfl⟩
  repeat' (first | with_reducible (first | refine am_seq ?_ | refine am_block ?_) | ((with_reducible apply am_cond); (case hb => rfl); all_goals (intro hc; (try simp only [reduceCtorEq, bD, beq_iff_eq] at hc); (try (exfalso; omega)))) | ((first | with_reducible (first | refine am_reg ?_ | refine am_skip ?_ | refine am_exit ?_ | refine am_ret ?_ | refine vc_intro ?_ | refine need_elems (by assumption) ?_ | refine vlen_acc (by assumption) ?_ | refine need_bytes (by assumption) ?_ | refine need_lk ?_) | done) <;> (try simp -implicitDefEqProofs (disch := omega) only [go_sem, wrap_id])))
  all_goals first | rfl | exact ⟨rfl, rfl⟩
theorem sortst_nil {c : V} (H : AH) : ACalls Try.prog 85 [.sl 2 [] .no, c] H (fun o H' => o = .ret unitV ∧ H' = H) := by
  refine acalls Try.func85 c85 r85 (by simp [Try.ntmps85]) ?_
  repeat' (first | with_reducible (first | refine am_seq ?_ | refine am_block ?_) | ((with_reducible apply am_cond); (case hb => rfl); all_goals (intro hc; (try simp only [reduceCtorEq, bD, beq_iff_eq] at hc); (try (exfalso; omega)))) | ((first | with_reducible (first | refine am_reg ?_ | refine am_skip ?_ | refine am_exit ?_ | refine am_ret ?_ | refine vc_intro ?_ | refine need_elems (by assumption) ?_ | refine vlen_acc (by assumption) ?_ | refine need_bytes (by assumption) ?_ | refine call_of (stable_nil) ?_ | refine qcall_of (stable_nil) ?_ | refine need_lk ?_) | done) <;> (try simp -implicitDefEqProofs (disch := omega) only [go_sem, wrap_id])))
  all_goals first | rfl | exact ⟨rfl, rfl⟩
def nf (x : Nt) : Fld := ⟨tagI x, true, 0, x.txt⟩
def encD (l : List Nt) : List UInt8 × Int := if (encS ((stb l).map nf)).2 ≠ 0 then ([], 3) else ((encS ((stb l).map nf)).1, 0)
theorem encD_nil : encD [] = ([], 0) := by simp [encD, stb, ers, wns, encS, sizeL, fitsL, layL]
theorem dencode_calls {l : List Nt} {t : Tok} (hl : l.length < 40) (hb : ∀ x ∈ l, x.txt.length < 1000000) (H : AH) :
    ACalls Try.prog 30 [.sl 2 (ntsE l) t] H (fun o H' => o = .ret (.tuple [.sl 1 (byteCells (encD l).1) .no, .int .i64 (encD l).2]) ∧ H' = H) := by
  refine ACalls.drop ?_
  by_cases hne : l = []
  · subst hne
    have hz := fun G => clonez_calls (t := t) G
    have he := fun G => ACalls.sub (fun s => .cons nil_arg .nil) (encode_calls (l := []) (t := .no) (by simp) (by simp) G)
    have e0 : encS [] = ([], 0) := by simp [encS, sizeL, fitsL, layL]
    rw [e0] at he
    rw [encD_nil]
    simp only [ntsE, fldsE, List.map_nil, byteCells] at hz he ⊢
    refine acalls Try.func30 c30 r30 (by simp [Try.ntmps30]) ?_
    repeat' (first | with_reducible (first | refine am_seq ?_ | refine am_block ?_) | ((with_reducible apply am_cond); (case hb => rfl); all_goals (intro hc; (try simp only [reduceCtorEq, bD, beq_iff_eq] at hc); (try (exfalso; omega)))) | ((first | with_reducible (first | refine am_reg ?_ | refine am_drw ?_ | refine am_skip ?_ | refine am_exit ?_ | refine am_ret ?_ | refine vc_intro ?_ | refine need_elems (by assumption) ?_ | refine vlen_acc (by assumption) ?_ | refine need_bytes (by assumption) ?_ | refine call_of (hz) ?_ | refine qcall_of (hz) ?_ | refine call_of (sortst_nil) ?_ | refine qcall_of (sortst_nil) ?_ | refine need_lk ?_) | ((with_reducible refine alloc_intro (fun ko hko => ?_)) <;> (try have hne := fresh_ne (by assumption) hko) <;> (try have hnk := fresh_ne hk hko) <;> (try have hnk2 := fresh_ne hk2 hko) <;> (try simp only [AH.put_none] at hko)) | ((with_reducible (first | refine vapp_accL (by assumption) ?_ (fun v2 H2 hacc hlec => ?_) | refine vapp_accL (AccP.mono (by assumption) (AccP.le (by assumption))) ?_ (fun v2 H2 hacc hlec => ?_) | refine vapp_accL (AccP.new (by assumption) (by assumption) _) ?_ (fun v2 H2 hacc hlec => ?_))); · simp only [byteCells_length, List.length_cons, List.length_nil, List.length_map, List.length_append, ntsE_length, fldsE_length]; omega) | done) <;> (try simp -implicitDefEqProofs (disch := omega) only [go_sem, wrap_id])))
    refine am_loop (fun _ st H' => st = [(4, .nilSl), (13, .sl 2 [] .no), (14, .int .i64 0), (15, .int .i64 0)] ∧ H.le H') ?_ 0 ⟨rfl, AH.le_refl _⟩
    rintro _ st G ⟨rfl, hle⟩
    repeat' (first | with_reducible (first | refine am_seq ?_ | refine am_block ?_) | ((with_reducible apply am_cond); (case hb => rfl); all_goals (intro hc; (try simp only [reduceCtorEq, bD, beq_iff_eq] at hc); (try (exfalso; omega)))) | ((first | with_reducible (first | refine am_reg ?_ | refine am_drw ?_ | refine am_skip ?_ | refine am_exit ?_ | refine am_ret ?_ | refine vc_intro ?_ | refine need_elems (by assumption) ?_ | refine vlen_acc (by assumption) ?_ | refine need_bytes (by assumption) ?_ | refine call_of (he) ?_ | refine qcall_of (he) ?_ | refine need_lk ?_) | ((with_reducible refine alloc_intro (fun ko hko => ?_)) <;> (try have hne := fresh_ne (by assumption) hko) <;> (try have hnk := fresh_ne hk hko) <;> (try have hnk2 := fresh_ne hk2 hko) <;> (try simp only [AH.put_none] at hko)) | ((with_reducible (first | refine vapp_accL (by assumption) ?_ (fun v2 H2 hacc hlec => ?_) | refine vapp_accL (AccP.mono (by assumption) (AccP.le (by assumption))) ?_ (fun v2 H2 hacc hlec => ?_) | refine vapp_accL (AccP.new (by assumption) (by assumption) _) ?_ (fun v2 H2 hacc hlec => ?_))); · simp only [byteCells_length, List.length_cons, List.length_nil, List.length_map, List.length_append, ntsE_length, fldsE_length]; omega) | done) <;> (try simp -implicitDefEqProofs (disch := omega) only [go_sem, wrap_id])))
    all_goals exact drop_end (fun _ _ h => h) hle
  · have hcl := fun G => clonem_calls (t := t) (show l.length < 1000000 by omega) hne G
    refine acalls Try.func30 c30 r30 (by simp [Try.ntmps30]) ?_
    have hse := fun (G : AH) (k : Nat) (hk : G k = some (ntO l)) => sortst_calls (L := l) (N := l.length) (H := G) (k := k) rfl hl hk
    repeat' (first | (((with_reducible refine call_ex (hcl _) (fun v H2 hr => ?_)); obtain ⟨k, hk, rfl, rfl⟩ := hr)) | with_reducible (first | refine am_seq ?_ | refine am_block ?_) | ((with_reducible apply am_cond); (case hb => rfl); all_goals (intro hc; (try simp only [reduceCtorEq, bD, beq_iff_eq] at hc); (try (exfalso; omega)))) | ((first | with_reducible (first | refine am_reg ?_ | refine am_drw ?_ | refine am_skip ?_ | refine am_exit ?_ | refine am_ret ?_ | refine vc_intro ?_ | refine need_elems (by assumption) ?_ | refine vlen_acc (by assumption) ?_ | refine need_bytes (by assumption) ?_ | refine call_turn (hse _ _ (AH.put_same _ _ _)) ?_ | refine need_lk ?_) | ((with_reducible refine alloc_intro (fun ko hko => ?_)) <;> (try have hne := fresh_ne (by assumption) hko) <;> (try have hnk := fresh_ne hk hko) <;> (try have hnk2 := fresh_ne hk2 hko) <;> (try simp only [AH.put_none] at hko)) | ((with_reducible (first | refine vapp_accL (by assumption) ?_ (fun v2 H2 hacc hlec => ?_) | refine vapp_accL (AccP.mono (by assumption) (AccP.le (by assumption))) ?_ (fun v2 H2 hacc hlec => ?_) | refine vapp_accL (AccP.new (by assumption) (by assumption) _) ?_ (fun v2 H2 hacc hlec => ?_))); · simp only [byteCells_length, List.length_cons, List.length_nil, List.length_map, List.length_append, ntsE_length, fldsE_length]; omega) | done) <;> (try simp -implicitDefEqProofs (disch := omega) only [go_sem, wrap_id])))
    have hsl : (stb l).length = l.length := stb_length l
    have hbl : ∀ x ∈ stb l, x.txt.length < 1000000 := fun x hx => by
      rcases List.mem_append.1 hx with hx | hx
      · exact hb x (List.mem_filter.1 hx).1
      · exact hb x (List.mem_filter.1 hx).1
    have hnl : ∀ i, (((stb l).take i).map nf).length ≤ i := fun i => by rw [List.length_map, List.length_take]; omega
    rw [encD]
    generalize hL : stb l = L at *
    refine am_loop (fun n st H' => ∃ (i : Nat) (v : V), i + n = l.length ∧ st = [(4, v), (13, .msl k 2 0 l.length), (14, .int .i64 l.length), (15, .int .i64 i)] ∧ AccP (H.put k (ntO L)) 4 (fldsE ((L.take i).map nf)) v H') ?_ l.length ⟨0, .nilSl, by omega, rfl, by first | exact AccP.nil _ _ | (rw [AH.put_put]; exact AccP.nil _ _)⟩
    rintro n st G ⟨i, v, hi, rfl, hacc⟩
    have hle : H.le G := fun q o ho => hacc.le q o (AH.le_put (AH.le_refl _) hk _ q o ho)
    have hGk : G k = some (ntO L) := hacc.le _ _ (AH.put_same _ _ _)
    by_cases hlt : i < l.length
    · have hi2 : i < L.length := by omega
      have p1 := ntsF_pick (List.getElem?_eq_getElem hi2)
      have hx := hbl _ (List.getElem_mem hi2)
      have e1 : (L.take (i + 1)).map nf = (L.take i).map nf ++ [nf L[i]] := by rw [List.take_succ_eq_append_getElem hi2, List.map_append]; rfl
      have hml := hnl i
      generalize L[i] = x at *
      have ht := tag_calls x
      have hbc := fun G => blob_calls (t := tagI x) (l := x.txt) (k := .no) (by omega) G
      simp only [fldC] at hbc
      repeat' (first | with_reducible (first | refine am_seq ?_ | refine am_block ?_) | ((with_reducible apply am_cond); (case hb => rfl); all_goals (intro hc; (try simp only [reduceCtorEq, bD, beq_iff_eq] at hc); (try (exfalso; omega)))) | ((first | with_reducible (first | refine am_reg ?_ | refine am_drw ?_ | refine am_skip ?_ | refine am_exit ?_ | refine am_ret ?_ | refine vc_intro ?_ | refine need_elems (by assumption) ?_ | refine vlen_acc (by assumption) ?_ | refine need_bytes (by assumption) ?_ | refine call_of (ht) ?_ | refine qcall_of (ht) ?_ | refine call_of (hbc) ?_ | refine qcall_of (hbc) ?_ | refine need_lk ?_) | ((with_reducible refine alloc_intro (fun ko hko => ?_)) <;> (try have hne := fresh_ne (by assumption) hko) <;> (try have hnk := fresh_ne hk hko) <;> (try have hnk2 := fresh_ne hk2 hko) <;> (try simp only [AH.put_none] at hko)) | ((with_reducible (first | refine vapp_accL (by assumption) ?_ (fun v2 H2 hacc hlec => ?_) | refine vapp_accL (AccP.mono (by assumption) (AccP.le (by assumption))) ?_ (fun v2 H2 hacc hlec => ?_) | refine vapp_accL (AccP.new (by assumption) (by assumption) _) ?_ (fun v2 H2 hacc hlec => ?_))); · simp only [byteCells_length, List.length_cons, List.length_nil, List.length_map, List.length_append, ntsE_length, fldsE_length]; omega) | done) <;> (try simp -implicitDefEqProofs (disch := omega) only [go_sem, wrap_id, hGk, p1, ntsF_len, hsl])))
      refine vapp_acc (hacc.new hko _) (by simp only [fldsE_length, List.length_cons, List.length_nil]; omega) (fun v2 H3 hacc3 => ?_)
      repeat' (first | with_reducible (first | refine am_seq ?_ | refine am_block ?_) | ((with_reducible apply am_cond); (case hb => rfl); all_goals (intro hc; (try simp only [reduceCtorEq, bD, beq_iff_eq] at hc); (try (exfalso; omega)))) | ((first | with_reducible (first | refine am_reg ?_ | refine am_drw ?_ | refine am_skip ?_ | refine am_exit ?_ | refine am_ret ?_ | refine vc_intro ?_ | refine need_elems (by assumption) ?_ | refine vlen_acc (by assumption) ?_ | refine need_bytes (by assumption) ?_ | refine need_lk ?_) | ((with_reducible refine alloc_intro (fun ko hko => ?_)) <;> (try have hne := fresh_ne (by assumption) hko) <;> (try have hnk := fresh_ne hk hko) <;> (try have hnk2 := fresh_ne hk2 hko) <;> (try simp only [AH.put_none] at hko)) | ((with_reducible (first | refine vapp_accL (by assumption) ?_ (fun v2 H2 hacc hlec => ?_) | refine vapp_accL (AccP.mono (by assumption) (AccP.le (by assumption))) ?_ (fun v2 H2 hacc hlec => ?_) | refine vapp_accL (AccP.new (by assumption) (by assumption) _) ?_ (fun v2 H2 hacc hlec => ?_))); · simp only [byteCells_length, List.length_cons, List.length_nil, List.length_map, List.length_append, ntsE_length, fldsE_length]; omega) | done) <;> (try simp -implicitDefEqProofs (disch := omega) only [go_sem, wrap_id])))
      all_goals refine ⟨n - 1, by omega, i + 1, v2, by omega, rfl, ?_⟩
      rw [e1, fldsE_append]
      exact hacc3
    · rw [List.take_of_length_le (by omega)] at hacc
      have hob : ∀ f ∈ L.map nf, f.n < 18446744073709551616 ∧ f.b.length < 10000000 := by
        intro f hf
        obtain ⟨x, hx, rfl⟩ := List.mem_map.1 hf
        have := hbl x hx
        exact ⟨by simp [nf], by simp only [nf]; omega⟩
      have he := fun G => ACalls.sub (fun s => .cons (AccP.sub hacc s) .nil) (encode_calls (l := L.map nf) (t := .no) (by rw [List.length_map]; omega) hob G)
      by_cases hz : (encS (L.map nf)).2 = 0
      · rw [if_neg (by rw [hz]; simp)]
        repeat' (first | with_reducible (first | refine am_seq ?_ | refine am_block ?_) | ((with_reducible apply am_cond); (case hb => rfl); all_goals (intro hc; (try simp only [reduceCtorEq, bD, beq_iff_eq] at hc); (try (exfalso; omega)))) | ((first | with_reducible (first | refine am_reg ?_ | refine am_drw ?_ | refine am_skip ?_ | refine am_exit ?_ | refine am_ret ?_ | refine vc_intro ?_ | refine need_elems (by assumption) ?_ | refine vlen_acc (by assumption) ?_ | refine need_bytes (by assumption) ?_ | refine call_of (he) ?_ | refine qcall_of (he) ?_ | refine need_lk ?_) | ((with_reducible refine alloc_intro (fun ko hko => ?_)) <;> (try have hne := fresh_ne (by assumption) hko) <;> (try have hnk := fresh_ne hk hko) <;> (try have hnk2 := fresh_ne hk2 hko) <;> (try simp only [AH.put_none] at hko)) | ((with_reducible (first | refine vapp_accL (by assumption) ?_ (fun v2 H2 hacc hlec => ?_) | refine vapp_accL (AccP.mono (by assumption) (AccP.le (by assumption))) ?_ (fun v2 H2 hacc hlec => ?_) | refine vapp_accL (AccP.new (by assumption) (by assumption) _) ?_ (fun v2 H2 hacc hlec => ?_))); · simp only [byteCells_length, List.length_cons, List.length_nil, List.length_map, List.length_append, ntsE_length, fldsE_length]; omega) | done) <;> (try simp -implicitDefEqProofs (disch := omega) only [go_sem, wrap_id, hz])))
        all_goals exact drop_end (fun _ _ h => h) hle
      · rw [if_pos hz]
        repeat' (first | with_reducible (first | refine am_seq ?_ | refine am_block ?_) | ((with_reducible apply am_cond); (case hb => rfl); all_goals (intro hc; (try simp only [reduceCtorEq, bD, beq_iff_eq] at hc); (try (exfalso; omega)))) | ((first | with_reducible (first | refine am_reg ?_ | refine am_drw ?_ | refine am_skip ?_ | refine am_exit ?_ | refine am_ret ?_ | refine vc_intro ?_ | refine need_elems (by assumption) ?_ | refine vlen_acc (by assumption) ?_ | refine need_bytes (by assumption) ?_ | refine call_of (he) ?_ | refine qcall_of (he) ?_ | refine need_lk ?_) | ((with_reducible refine alloc_intro (fun ko hko => ?_)) <;> (try have hne := fresh_ne (by assumption) hko) <;> (try have hnk := fresh_ne hk hko) <;> (try have hnk2 := fresh_ne hk2 hko) <;> (try simp only [AH.put_none] at hko)) | ((with_reducible (first | refine vapp_accL (by assumption) ?_ (fun v2 H2 hacc hlec => ?_) | refine vapp_accL (AccP.mono (by assumption) (AccP.le (by assumption))) ?_ (fun v2 H2 hacc hlec => ?_) | refine vapp_accL (AccP.new (by assumption) (by assumption) _) ?_ (fun v2 H2 hacc hlec => ?_))); · simp only [byteCells_length, List.length_cons, List.length_nil, List.length_map, List.length_append, ntsE_length, fldsE_length]; omega) | done) <;> (try simp -implicitDefEqProofs (disch := omega) only [go_sem, wrap_id, hz])))
        all_goals exact drop_end (by (first | exact fun _ _ h => h | (intro s x h; first | exact no_sub _ h | exact nil_no _ h | exact AccP.sub (by assumption) _ _ h | (refine agg_sub rfl ?_ x h; repeat (first | exact .nil | refine .cons (fun _ h => h) ?_ | refine .cons (fun _ h => nil_no _ h) ?_ | refine .cons (fun _ h => no_sub _ h) ?_ | refine .cons (fun _ h => AccP.sub (by assumption) _ _ h) ?_)) | (refine tuple_sub ?_ x h; repeat (first | exact .nil | refine .cons (fun _ h => h) ?_ | refine .cons (fun _ h => nil_no _ h) ?_ | refine .cons (fun _ h => no_sub _ h) ?_ | refine .cons (fun _ h => AccP.sub (by assumption) _ _ h) ?_ | refine .cons (fun _ h => agg_sub rfl (by repeat (first | exact .nil | refine .cons (fun _ h => h) ?_ | refine .cons (fun _ h => nil_no _ h) ?_ | refine .cons (fun _ h => no_sub _ h) ?_ | refine .cons (fun _ h => AccP.sub (by assumption) _ _ h) ?_)) _ h) ?_))))) hle
end Go.Proofs.Ytjlphncecdlmcaa
namespace Go.Proofs.Ytjlphncecdlmcaa
open Go.Vm
attribute [local go_sem] eq_self decide_true decide_false AH.put_ne
attribute [local go_sem_proc] Nat.reduceBEq Nat.reduceAdd Nat.reduceSub Nat.reduceMul Nat.reduceEqDiff Nat.reduceLeDiff Nat.reduceLT Int.reduceLE Int.reduceLT Int.reduceToNat Int.reduceAdd Int.reduceEq Int.reduceNeg
attribute [local go_sem] ntsE_get ntsE_length byteCells_get byteCells_length byteCells_take byteCells_drop bytes_cells fldC fldsE_get fldsE_length List.drop_zero bytesOf_cells toNat_succ Nat.sub_zero Int.toNat_natCast Option.map_some Int.natCast_nonneg decide_eq_true_eq decide_eq_false_iff_not
/- flange/diag.Decode -/
abbrev k32_0 : MC :=
 .cond (.t 17) ((.seq (.reg [
 ⟨some 2, none, .val (.mv (.c .nilSl))⟩,
 ⟨some 3, none, .val (.mv (.c (.int .i64 4)))⟩] [2, 3]) (.ret))) (.skip)
abbrev k32_1 : MC :=
 .cond (.t 31) ((.seq (.reg [
 ⟨some 2, none, .val (.mv (.c .nilSl))⟩,
 ⟨some 3, none, .val (.mv (.c (.int .i64 4)))⟩] [2, 3]) (.ret))) (.skip)
abbrev k32_2 : MC :=
 .reg [
 ⟨some 32, none, .val (.mv (.t 7))⟩,
 ⟨some 33, none, .val (.faddr 0 (.t 9))⟩,
 ⟨some 34, none, .val (.load false 1 (.t 33))⟩,
 ⟨some 35, none, .val (.bin .eql .num (.t 34) (.c (.int .i64 1)))⟩,
 ⟨some 36, none, .val (.faddr 3 (.t 9))⟩,
 ⟨some 37, none, .val (.load false 1 (.t 36))⟩,
 ⟨some 38, none, .val (.b2s (.t 37))⟩,
 ⟨some 39, none, .build [(.bool false), (.str [])] [(0, 1, (.t 35)), (1, 1, (.t 38))]⟩,
 ⟨some 40, none, .bslice 2 1 [(.bool false), (.str [])] [(0, 2, (.t 39))]⟩,
 ⟨some 41, none, .app 2 24 (.t 32) (.t 40)⟩,
 ⟨some 7, none, .val (.mv (.t 41))⟩] [7, 18, 19, 20]
abbrev k32_3 : MC :=
 (.seq ((.seq (.reg [
 ⟨some 24, none, .val (.faddr 1 (.t 9))⟩,
 ⟨some 25, none, .val (.load false 1 (.t 24))⟩,
 ⟨some 26, none, .val (.not (.t 25))⟩,
 ⟨some 27, none, .val (.mv (.t 26))⟩,
 ⟨some 28, (some (27, false)), .val (.faddr 0 (.t 9))⟩,
 ⟨some 29, (some (27, false)), .val (.load false 1 (.t 28))⟩,
 ⟨some 30, (some (27, false)), .val (.bin .gtr .num (.t 29) (.c (.int .i64 2)))⟩,
 ⟨some 31, none, .val (.pick (.t 27) (.c (.bool true)) (.t 30))⟩] [7, 9, 18, 19, 20, 31]) k32_1)) k32_2)
abbrev k32_4 : MC :=
 .reg [
 ⟨some 42, none, .val (.bin .add .num (.t 20) (.c (.int .i64 1)))⟩,
 ⟨some 20, none, .val (.mv (.t 42))⟩] [7, 18, 19, 20]
abbrev k32_5 : MC :=
 (.seq (.block 1 ((.seq (.reg [
 ⟨some 22, none, .val (.iaddr 4 (.t 18) (.t 20))⟩,
 ⟨some 23, none, .val (.load true 4 (.t 22))⟩,
 ⟨some 9, none, .zalloc [(.int .i64 0), (.bool false), (.int .u64 0), .nilSl]⟩,
 ⟨none, none, .store 4 (.t 9) (.t 23)⟩] [7, 9, 18, 19, 20]) k32_3))) k32_4)
abbrev k32_6 : MC :=
 (.seq (.cond (.t 21) (.skip) (.exit 0)) k32_5)
abbrev k32_7 : MC :=
 (.seq (.reg [
 ⟨some 21, none, .val (.bin .lss .num (.t 20) (.t 19))⟩] [7, 18, 19, 20, 21]) k32_6)
abbrev k32_8 : MC :=
 .block 0 (.loop k32_7)
abbrev k32_9 : MC :=
 (.seq (.reg [
 ⟨some 43, none, .val (.mv (.t 7))⟩,
 ⟨some 2, none, .val (.mv (.t 43))⟩,
 ⟨some 3, none, .val (.mv (.c (.int .i64 0)))⟩] [2, 3]) (.ret))
abbrev k32_10 : MC :=
 (.seq ((.seq (.reg [
 ⟨some 18, none, .val (.mv (.t 4))⟩,
 ⟨some 19, none, .val (.len .sl (.t 18))⟩,
 ⟨some 20, none, .val (.mv (.c (.int .i64 0)))⟩] [7, 18, 19, 20]) k32_8)) k32_9)
abbrev k32_11 : MC :=
 (.seq (.reg [
 ⟨some 7, none, .val (.mv (.c .nilSl))⟩] [4, 7]) k32_10)
abbrev k32_12 : MC :=
 (.seq ((.seq (.reg [
 ⟨some 16, none, .val (.mv (.t 6))⟩,
 ⟨some 17, none, .val (.bin .neq .num (.t 16) (.c (.int .i64 0)))⟩] [4, 17]) k32_0)) k32_11)
abbrev k32_13 : MC :=
 (.seq (.reg [
 ⟨some 11, none, .val (.mv (.t 0))⟩,
 ⟨some 12, none, .call 92 [(.t 11)]⟩,
 ⟨some 10, none, .val (.mv (.t 12))⟩,
 ⟨some 13, none, .val (.ext (.t 10) 0)⟩,
 ⟨some 14, none, .val (.ext (.t 10) 1)⟩,
 ⟨some 15, none, .val (.ext (.t 10) 2)⟩,
 ⟨some 4, none, .val (.mv (.t 13))⟩,
 ⟨some 5, none, .val (.mv (.t 14))⟩,
 ⟨some 6, none, .val (.mv (.t 15))⟩] [4, 6]) k32_12)
abbrev k32 : MC :=
 (.seq (.reg [
 ⟨some 2, none, .val (.mv (.c .nilSl))⟩,
 ⟨some 3, none, .val (.mv (.c (.int .i64 0)))⟩] [0]) k32_13)
theorem c32 : Try.f32.body.bind (mcOf Try.prog (List.contains [] ·) (List.getD [([], [0]), ([], [4, 6]), ([], [4, 17]), ([], [2, 3]), ([], [4, 7]), ([], [7, 18, 19, 20]), ([], [7, 18, 19, 20, 21]), ([], [7, 9, 18, 19, 20]), ([], [7, 9, 18, 19, 20, 31]), ([], [2, 3]), ([], [7, 18, 19, 20]), ([], [7, 18, 19, 20]), ([], [2, 3])] · ([], [])) 44) = some k32 := by kernel_rfl
theorem r32 : rvsOf Try.prog Try.f32.results.toList = some [.tmp 2, .tmp 3] := by kernel_rfl
theorem rdecode_calls {b : List UInt8} {t : Tok} (hb : b.length < 10000000) (H : AH) :
    ACalls Try.prog 33 [.sl 1 (byteCells b) t] H (fun o H' => o = .ret (.tuple [.sl 4 (fldsE (decS b).1) .no, .int .i64 (decS b).2.1, .int .i64 (decS b).2.2]) ∧ H' = H) :=
  ACalls.sub (fun _ => .cons (fun x h => no_sub x h) .nil) (rdecode_no hb H)
def okN (f : Fld) : Bool := f.by_ && decide (f.tag ≤ 2)
def fn (f : Fld) : Nt := ⟨decide (f.tag = 1), f.b⟩
def decD (b : List UInt8) : List Nt × Int := if (decS b).2.2 ≠ 0 ∨ (decS b).1.all okN = false then ([], 4) else ((decS b).1.map fn, 0)
theorem ddecode_calls {b : List UInt8} {t : Tok} (hb : b.length < 10000) (H : AH) :
    ACalls Try.prog 32 [.sl 1 (byteCells b) t] H (fun o H' => o = .ret (.tuple [.sl 2 (ntsE (decD b).1) .no, .int .i64 (decD b).2]) ∧ H' = H) := by
  refine ACalls.drop ?_
  have dc := fun H => decode_calls (b := b) (t := t) (by omega) H
  have h64 := dec_le b
  refine acalls Try.func32 c32 r32 (by simp [Try.ntmps32]) ?_
  by_cases hz : (decS b).2.2 = 0
  · have hbl : ∀ f ∈ (decS b).1, f.b.length ≤ b.length := fun f hf => ((enc_dec hz).2.2.2 f hf).2
    rw [decD]
    generalize (decS b).1 = L at *
    repeat' (first | with_reducible (first | refine am_seq ?_ | refine am_block ?_) | ((with_reducible apply am_cond); (case hb => rfl); all_goals (intro hc; (try simp only [reduceCtorEq, bD, beq_iff_eq] at hc); (try (exfalso; omega)))) | ((first | with_reducible (first | refine am_reg ?_ | refine am_skip ?_ | refine am_exit ?_ | refine am_ret ?_ | refine vc_intro ?_ | refine need_elems (by assumption) ?_ | refine vlen_acc (by assumption) ?_ | refine need_bytes (by assumption) ?_ | refine call_of (dc) ?_ | refine qcall_of (dc) ?_ | refine need_lk ?_) | ((with_reducible (first | apply gd_not | apply gd_of | apply gq_not | apply gq_of | apply pickB_of)) <;> intro hc <;> (try simp -implicitDefEqProofs (disch := omega) only [go_sem, hc, wrap_id, hz]) <;> (try simp only [reduceCtorEq, bD, beq_iff_eq] at hc) <;> (try (exfalso; omega))) | ((with_reducible refine alloc_intro (fun ko hko => ?_)) <;> (try have hne := fresh_ne (by assumption) hko) <;> (try have hnk := fresh_ne hk hko) <;> (try have hnk2 := fresh_ne hk2 hko) <;> (try simp only [AH.put_none] at hko)) | ((with_reducible (first | refine vapp_accL (by assumption) ?_ (fun v2 H2 hacc hlec => ?_) | refine vapp_accL (AccP.mono (by assumption) (AccP.le (by assumption))) ?_ (fun v2 H2 hacc hlec => ?_) | refine vapp_accL (AccP.new (by assumption) (by assumption) _) ?_ (fun v2 H2 hacc hlec => ?_))); · simp only [byteCells_length, List.length_cons, List.length_nil, List.length_map, List.length_append, ntsE_length, fldsE_length]; omega) | done) <;> (try simp -implicitDefEqProofs (disch := omega) only [go_sem, wrap_id, hz])))
    refine am_loop (fun n st H' => ∃ (i : Nat) (v : V), i + n = L.length ∧ st = [(7, v), (18, .sl 4 (fldsE L) .no), (19, .int .i64 L.length), (20, .int .i64 i)] ∧ (L.take i).all okN = true ∧ AccP H 2 (ntsE ((L.take i).map fn)) v H') ?_ L.length ⟨0, .nilSl, by omega, rfl, rfl, AccP.nil _ _⟩
    rintro n st G ⟨i, v, hi, rfl, hok, hacc⟩
    by_cases hlt : i < L.length
    · have e0 : L.take (i + 1) = L.take i ++ [L[i]] := List.take_succ_eq_append_getElem hlt
      have e1 : (L.take (i + 1)).map fn = (L.take i).map fn ++ [fn L[i]] := by rw [e0, List.map_append]; rfl
      have hx := hbl _ (List.getElem_mem hlt)
      have hml : ((L.take i).map fn).length ≤ i := by rw [List.length_map, List.length_take]; omega
      have hall : okN L[i] = false → L.all okN = false := fun h => List.all_eq_false.2 ⟨_, List.getElem_mem hlt, by rw [h]; simp⟩
      have hget : (fldsE L)[i]? = some (fldC L[i]) := by rw [fldsE_get, get_of_lt hlt]; rfl
      generalize L[i] = x at *
      cases hby : x.by_
      · have h9 := hall (by simp [okN, hby])
        rw [if_pos (.inr h9)]
        repeat' (first | with_reducible (first | refine am_seq ?_ | refine am_block ?_) | ((with_reducible apply am_cond); (case hb => rfl); all_goals (intro hc; (try simp only [reduceCtorEq, bD, beq_iff_eq] at hc); (try (exfalso; omega)))) | ((first | with_reducible (first | refine am_reg ?_ | refine am_skip ?_ | refine am_exit ?_ | refine am_ret ?_ | refine vc_intro ?_ | refine need_elems (by assumption) ?_ | refine vlen_acc (by assumption) ?_ | refine need_bytes (by assumption) ?_ | refine need_lk ?_) | ((with_reducible (first | apply gd_not | apply gd_of | apply gq_not | apply gq_of | apply pickB_of)) <;> intro hc <;> (try simp -implicitDefEqProofs (disch := omega) only [go_sem, hc, wrap_id, hget, hby]) <;> (try simp only [reduceCtorEq, bD, beq_iff_eq] at hc) <;> (try (exfalso; omega))) | ((with_reducible refine alloc_intro (fun ko hko => ?_)) <;> (try have hne := fresh_ne (by assumption) hko) <;> (try have hnk := fresh_ne hk hko) <;> (try have hnk2 := fresh_ne hk2 hko) <;> (try simp only [AH.put_none] at hko)) | ((with_reducible (first | refine vapp_accL (by assumption) ?_ (fun v2 H2 hacc hlec => ?_) | refine vapp_accL (AccP.mono (by assumption) (AccP.le (by assumption))) ?_ (fun v2 H2 hacc hlec => ?_) | refine vapp_accL (AccP.new (by assumption) (by assumption) _) ?_ (fun v2 H2 hacc hlec => ?_))); · simp only [byteCells_length, List.length_cons, List.length_nil, List.length_map, List.length_append, ntsE_length, fldsE_length]; omega) | done) <;> (try simp -implicitDefEqProofs (disch := omega) only [go_sem, wrap_id, hget, hby])))
        all_goals exact drop_end (by (first | exact fun _ _ h => h | (intro s x h; first | exact no_sub _ h | exact nil_no _ h | exact AccP.sub (by assumption) _ _ h | (refine agg_sub rfl ?_ x h; repeat (first | exact .nil | refine .cons (fun _ h => h) ?_ | refine .cons (fun _ h => nil_no _ h) ?_ | refine .cons (fun _ h => no_sub _ h) ?_ | refine .cons (fun _ h => AccP.sub (by assumption) _ _ h) ?_)) | (refine tuple_sub ?_ x h; repeat (first | exact .nil | refine .cons (fun _ h => h) ?_ | refine .cons (fun _ h => nil_no _ h) ?_ | refine .cons (fun _ h => no_sub _ h) ?_ | refine .cons (fun _ h => AccP.sub (by assumption) _ _ h) ?_ | refine .cons (fun _ h => agg_sub rfl (by repeat (first | exact .nil | refine .cons (fun _ h => h) ?_ | refine .cons (fun _ h => nil_no _ h) ?_ | refine .cons (fun _ h => no_sub _ h) ?_ | refine .cons (fun _ h => AccP.sub (by assumption) _ _ h) ?_)) _ h) ?_))))) (AH.le_put hacc.le (none_of_le hacc.le hko) _)
      · by_cases ht : x.tag ≤ 2
        · repeat' (first | with_reducible (first | refine am_seq ?_ | refine am_block ?_) | ((with_reducible apply am_cond); (case hb => rfl); all_goals (intro hc; (try simp only [reduceCtorEq, bD, beq_iff_eq] at hc); (try (exfalso; omega)))) | ((first | with_reducible (first | refine am_reg ?_ | refine am_skip ?_ | refine am_exit ?_ | refine am_ret ?_ | refine vc_intro ?_ | refine need_elems (by assumption) ?_ | refine vlen_acc (by assumption) ?_ | refine need_bytes (by assumption) ?_ | refine need_lk ?_) | ((with_reducible (first | apply gd_not | apply gd_of | apply gq_not | apply gq_of | apply pickB_of)) <;> intro hc <;> (try simp -implicitDefEqProofs (disch := omega) only [go_sem, hc, wrap_id, hget, hby]) <;> (try simp only [reduceCtorEq, bD, beq_iff_eq] at hc) <;> (try (exfalso; omega))) | ((with_reducible refine alloc_intro (fun ko hko => ?_)) <;> (try have hne := fresh_ne (by assumption) hko) <;> (try have hnk := fresh_ne hk hko) <;> (try have hnk2 := fresh_ne hk2 hko) <;> (try simp only [AH.put_none] at hko)) | ((with_reducible (first | refine vapp_accL (by assumption) ?_ (fun v2 H2 hacc hlec => ?_) | refine vapp_accL (AccP.mono (by assumption) (AccP.le (by assumption))) ?_ (fun v2 H2 hacc hlec => ?_) | refine vapp_accL (AccP.new (by assumption) (by assumption) _) ?_ (fun v2 H2 hacc hlec => ?_))); · simp only [byteCells_length, List.length_cons, List.length_nil, List.length_map, List.length_append, ntsE_length, fldsE_length]; omega) | done) <;> (try simp -implicitDefEqProofs (disch := omega) only [go_sem, wrap_id, hget, hby])))
          refine vapp_acc (hacc.new hko _) (by simp only [ntsE_length, List.length_cons, List.length_nil]; omega) (fun v2 H3 hacc3 => ?_)
          repeat' (first | with_reducible (first | refine am_seq ?_ | refine am_block ?_) | ((with_reducible apply am_cond); (case hb => rfl); all_goals (intro hc; (try simp only [reduceCtorEq, bD, beq_iff_eq] at hc); (try (exfalso; omega)))) | ((first | with_reducible (first | refine am_reg ?_ | refine am_skip ?_ | refine am_exit ?_ | refine am_ret ?_ | refine vc_intro ?_ | refine need_elems (by assumption) ?_ | refine vlen_acc (by assumption) ?_ | refine need_bytes (by assumption) ?_ | refine need_lk ?_) | ((with_reducible (first | apply gd_not | apply gd_of | apply gq_not | apply gq_of | apply pickB_of)) <;> intro hc <;> (try simp -implicitDefEqProofs (disch := omega) only [go_sem, hc, wrap_id]) <;> (try simp only [reduceCtorEq, bD, beq_iff_eq] at hc) <;> (try (exfalso; omega))) | ((with_reducible refine alloc_intro (fun ko hko => ?_)) <;> (try have hne := fresh_ne (by assumption) hko) <;> (try have hnk := fresh_ne hk hko) <;> (try have hnk2 := fresh_ne hk2 hko) <;> (try simp only [AH.put_none] at hko)) | ((with_reducible (first | refine vapp_accL (by assumption) ?_ (fun v2 H2 hacc hlec => ?_) | refine vapp_accL (AccP.mono (by assumption) (AccP.le (by assumption))) ?_ (fun v2 H2 hacc hlec => ?_) | refine vapp_accL (AccP.new (by assumption) (by assumption) _) ?_ (fun v2 H2 hacc hlec => ?_))); · simp only [byteCells_length, List.length_cons, List.length_nil, List.length_map, List.length_append, ntsE_length, fldsE_length]; omega) | done) <;> (try simp -implicitDefEqProofs (disch := omega) only [go_sem, wrap_id])))
          all_goals refine ⟨n - 1, by omega, i + 1, v2, by omega, rfl, ?_, ?_⟩
          · rw [e0, List.all_append, hok]; simp [okN, hby, ht]
          · rw [e1, ntsE_append]; exact hacc3
        · have h9 := hall (by simp [okN, ht])
          rw [if_pos (.inr h9)]
          repeat' (first | with_reducible (first | refine am_seq ?_ | refine am_block ?_) | ((with_reducible apply am_cond); (case hb => rfl); all_goals (intro hc; (try simp only [reduceCtorEq, bD, beq_iff_eq] at hc); (try (exfalso; omega)))) | ((first | with_reducible (first | refine am_reg ?_ | refine am_skip ?_ | refine am_exit ?_ | refine am_ret ?_ | refine vc_intro ?_ | refine need_elems (by assumption) ?_ | refine vlen_acc (by assumption) ?_ | refine need_bytes (by assumption) ?_ | refine need_lk ?_) | ((with_reducible (first | apply gd_not | apply gd_of | apply gq_not | apply gq_of | apply pickB_of)) <;> intro hc <;> (try simp -implicitDefEqProofs (disch := omega) only [go_sem, hc, wrap_id, hget, hby]) <;> (try simp only [reduceCtorEq, bD, beq_iff_eq] at hc) <;> (try (exfalso; omega))) | ((with_reducible refine alloc_intro (fun ko hko => ?_)) <;> (try have hne := fresh_ne (by assumption) hko) <;> (try have hnk := fresh_ne hk hko) <;> (try have hnk2 := fresh_ne hk2 hko) <;> (try simp only [AH.put_none] at hko)) | ((with_reducible (first | refine vapp_accL (by assumption) ?_ (fun v2 H2 hacc hlec => ?_) | refine vapp_accL (AccP.mono (by assumption) (AccP.le (by assumption))) ?_ (fun v2 H2 hacc hlec => ?_) | refine vapp_accL (AccP.new (by assumption) (by assumption) _) ?_ (fun v2 H2 hacc hlec => ?_))); · simp only [byteCells_length, List.length_cons, List.length_nil, List.length_map, List.length_append, ntsE_length, fldsE_length]; omega) | done) <;> (try simp -implicitDefEqProofs (disch := omega) only [go_sem, wrap_id, hget, hby])))
          all_goals exact drop_end (by (first | exact fun _ _ h => h | (intro s x h; first | exact no_sub _ h | exact nil_no _ h | exact AccP.sub (by assumption) _ _ h | (refine agg_sub rfl ?_ x h; repeat (first | exact .nil | refine .cons (fun _ h => h) ?_ | refine .cons (fun _ h => nil_no _ h) ?_ | refine .cons (fun _ h => no_sub _ h) ?_ | refine .cons (fun _ h => AccP.sub (by assumption) _ _ h) ?_)) | (refine tuple_sub ?_ x h; repeat (first | exact .nil | refine .cons (fun _ h => h) ?_ | refine .cons (fun _ h => nil_no _ h) ?_ | refine .cons (fun _ h => no_sub _ h) ?_ | refine .cons (fun _ h => AccP.sub (by assumption) _ _ h) ?_ | refine .cons (fun _ h => agg_sub rfl (by repeat (first | exact .nil | refine .cons (fun _ h => h) ?_ | refine .cons (fun _ h => nil_no _ h) ?_ | refine .cons (fun _ h => no_sub _ h) ?_ | refine .cons (fun _ h => AccP.sub (by assumption) _ _ h) ?_)) _ h) ?_))))) (AH.le_put hacc.le (none_of_le hacc.le hko) _)
    · rw [List.take_of_length_le (by omega)] at hacc hok
      rw [if_neg (by rw [hok]; simp)]
      repeat' (first | with_reducible (first | refine am_seq ?_ | refine am_block ?_) | ((with_reducible apply am_cond); (case hb => rfl); all_goals (intro hc; (try simp only [reduceCtorEq, bD, beq_iff_eq] at hc); (try (exfalso; omega)))) | ((first | with_reducible (first | refine am_reg ?_ | refine am_skip ?_ | refine am_exit ?_ | refine am_ret ?_ | refine vc_intro ?_ | refine need_elems (by assumption) ?_ | refine vlen_acc (by assumption) ?_ | refine need_bytes (by assumption) ?_ | refine need_lk ?_) | ((with_reducible (first | apply gd_not | apply gd_of | apply gq_not | apply gq_of | apply pickB_of)) <;> intro hc <;> (try simp -implicitDefEqProofs (disch := omega) only [go_sem, hc, wrap_id]) <;> (try simp only [reduceCtorEq, bD, beq_iff_eq] at hc) <;> (try (exfalso; omega))) | ((with_reducible refine alloc_intro (fun ko hko => ?_)) <;> (try have hne := fresh_ne (by assumption) hko) <;> (try have hnk := fresh_ne hk hko) <;> (try have hnk2 := fresh_ne hk2 hko) <;> (try simp only [AH.put_none] at hko)) | ((with_reducible (first | refine vapp_accL (by assumption) ?_ (fun v2 H2 hacc hlec => ?_) | refine vapp_accL (AccP.mono (by assumption) (AccP.le (by assumption))) ?_ (fun v2 H2 hacc hlec => ?_) | refine vapp_accL (AccP.new (by assumption) (by assumption) _) ?_ (fun v2 H2 hacc hlec => ?_))); · simp only [byteCells_length, List.length_cons, List.length_nil, List.length_map, List.length_append, ntsE_length, fldsE_length]; omega) | done) <;> (try simp -implicitDefEqProofs (disch := omega) only [go_sem, wrap_id])))
      all_goals exact drop_end (by (first | exact fun _ _ h => h | (intro s x h; first | exact no_sub _ h | exact nil_no _ h | exact AccP.sub (by assumption) _ _ h | (refine agg_sub rfl ?_ x h; repeat (first | exact .nil | refine .cons (fun _ h => h) ?_ | refine .cons (fun _ h => nil_no _ h) ?_ | refine .cons (fun _ h => no_sub _ h) ?_ | refine .cons (fun _ h => AccP.sub (by assumption) _ _ h) ?_)) | (refine tuple_sub ?_ x h; repeat (first | exact .nil | refine .cons (fun _ h => h) ?_ | refine .cons (fun _ h => nil_no _ h) ?_ | refine .cons (fun _ h => no_sub _ h) ?_ | refine .cons (fun _ h => AccP.sub (by assumption) _ _ h) ?_ | refine .cons (fun _ h => agg_sub rfl (by repeat (first | exact .nil | refine .cons (fun _ h => h) ?_ | refine .cons (fun _ h => nil_no _ h) ?_ | refine .cons (fun _ h => no_sub _ h) ?_ | refine .cons (fun _ h => AccP.sub (by assumption) _ _ h) ?_)) _ h) ?_))))) hacc.le
  · rw [decD, if_pos (.inl hz)]
    repeat' (first | with_reducible (first | refine am_seq ?_ | refine am_block ?_) | ((with_reducible apply am_cond); (case hb => rfl); all_goals (intro hc; (try simp only [reduceCtorEq, bD, beq_iff_eq] at hc); (try (exfalso; omega)))) | ((first | with_reducible (first | refine am_reg ?_ | refine am_skip ?_ | refine am_exit ?_ | refine am_ret ?_ | refine vc_intro ?_ | refine need_elems (by assumption) ?_ | refine vlen_acc (by assumption) ?_ | refine need_bytes (by assumption) ?_ | refine call_of (dc) ?_ | refine qcall_of (dc) ?_ | refine need_lk ?_) | ((with_reducible (first | apply gd_not | apply gd_of | apply gq_not | apply gq_of | apply pickB_of)) <;> intro hc <;> (try simp -implicitDefEqProofs (disch := omega) only [go_sem, hc, wrap_id, hz]) <;> (try simp only [reduceCtorEq, bD, beq_iff_eq] at hc) <;> (try (exfalso; omega))) | ((with_reducible refine alloc_intro (fun ko hko => ?_)) <;> (try have hne := fresh_ne (by assumption) hko) <;> (try have hnk := fresh_ne hk hko) <;> (try have hnk2 := fresh_ne hk2 hko) <;> (try simp only [AH.put_none] at hko)) | ((with_reducible (first | refine vapp_accL (by assumption) ?_ (fun v2 H2 hacc hlec => ?_) | refine vapp_accL (AccP.mono (by assumption) (AccP.le (by assumption))) ?_ (fun v2 H2 hacc hlec => ?_) | refine vapp_accL (AccP.new (by assumption) (by assumption) _) ?_ (fun v2 H2 hacc hlec => ?_))); · simp only [byteCells_length, List.length_cons, List.length_nil, List.length_map, List.length_append, ntsE_length, fldsE_length]; omega) | done) <;> (try simp -implicitDefEqProofs (disch := omega) only [go_sem, wrap_id, hz])))
    all_goals exact drop_end (by (first | exact fun _ _ h => h | (intro s x h; first | exact no_sub _ h | exact nil_no _ h | exact AccP.sub (by assumption) _ _ h | (refine agg_sub rfl ?_ x h; repeat (first | exact .nil | refine .cons (fun _ h => h) ?_ | refine .cons (fun _ h => nil_no _ h) ?_ | refine .cons (fun _ h => no_sub _ h) ?_ | refine .cons (fun _ h => AccP.sub (by assumption) _ _ h) ?_)) | (refine tuple_sub ?_ x h; repeat (first | exact .nil | refine .cons (fun _ h => h) ?_ | refine .cons (fun _ h => nil_no _ h) ?_ | refine .cons (fun _ h => no_sub _ h) ?_ | refine .cons (fun _ h => AccP.sub (by assumption) _ _ h) ?_ | refine .cons (fun _ h => agg_sub rfl (by repeat (first | exact .nil | refine .cons (fun _ h => h) ?_ | refine .cons (fun _ h => nil_no _ h) ?_ | refine .cons (fun _ h => no_sub _ h) ?_ | refine .cons (fun _ h => AccP.sub (by assumption) _ _ h) ?_)) _ h) ?_))))) (AH.le_refl _)
end Go.Proofs.Ytjlphncecdlmcaa
