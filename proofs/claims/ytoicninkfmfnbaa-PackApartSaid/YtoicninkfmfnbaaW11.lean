/- Of the walks of this seat: contracts of functions of the given program, proved over the abstract values of the texts Vm. Conditions: as each theorem says. -/
import Derived.Test.YtoicninkfmfnbaaW9
import Derived.Test.YtoicninkfmfnbaaJ8
import Derived.Test.YtoicninkfmfnbaaKGB
import Derived.Test.YtoicninkfmfnbaaKV21
import Derived.Test.YtoicninkfmfnbaaVm36
set_option linter.unusedVariables false
set_option linter.unusedSimpArgs false
namespace Go.Proofs.Ytoicninkfmfnbaa
open Go.Vm Go.Sort
attribute [local go_sem] eq_self decide_true decide_false AH.put_ne
attribute [local go_sem_proc] Nat.reduceBEq Nat.reduceAdd Nat.reduceSub Nat.reduceMul Nat.reduceEqDiff Nat.reduceLeDiff Nat.reduceLT Int.reduceLE Int.reduceLT Int.reduceToNat Int.reduceAdd Int.reduceEq Int.reduceNeg
attribute [local go_sem] vE_length byteCells_get byteCells_length byteCells_take byteCells_drop bytes_cells bytesOf_cells List.drop_zero toNat_succ Nat.sub_zero Int.toNat_natCast Option.map_some Int.natCast_nonneg decide_eq_true_eq decide_eq_false_iff_not
/- flange/flangelaw06.PackApart -/
abbrev k4_0 : MC :=
 .cond (.t 22) ((.seq (.reg [
 ⟨some 23, none, .call 5 []⟩,
 ⟨some 4, none, .val (.mv (.t 23))⟩] [4]) (.ret))) (.skip)
abbrev k4_1 : MC :=
 .cond (.t 45) ((.seq (.reg [
 ⟨some 4, none, .val (.mv (.c (.bool true)))⟩] [4]) (.ret))) (.skip)
abbrev k4_2 : MC :=
 (.seq (.drw [
 ⟨some 46, none, .val (.mv (.t 7))⟩,
 ⟨some 47, none, .val (.b2s (.t 46))⟩,
 ⟨some 48, none, .val (.mv (.t 9))⟩,
 ⟨some 49, none, .val (.b2s (.t 48))⟩,
 ⟨some 50, none, .val (.bin .eql .num (.t 47) (.t 49))⟩,
 ⟨some 51, none, .val (.load true 1 (.t 5))⟩,
 ⟨some 52, none, .val (.load true 1 (.t 6))⟩,
 ⟨some 53, none, .call 13 [(.t 51), (.t 52)]⟩,
 ⟨some 54, none, .val (.bin .eql .bool (.t 50) (.t 53))⟩,
 ⟨some 4, none, .val (.mv (.t 54))⟩] [] [4]) (.ret))
abbrev k4_3 : MC :=
 (.seq ((.seq (.reg [
 ⟨some 40, none, .val (.mv (.t 8))⟩,
 ⟨some 41, none, .val (.bin .neq .num (.t 40) (.c (.int .i64 0)))⟩,
 ⟨some 42, none, .val (.mv (.t 41))⟩,
 ⟨some 43, (some (42, false)), .val (.mv (.t 10))⟩,
 ⟨some 44, (some (42, false)), .val (.bin .neq .num (.t 43) (.c (.int .i64 0)))⟩,
 ⟨some 45, none, .val (.pick (.t 42) (.c (.bool true)) (.t 44))⟩] [5, 6, 7, 9, 45]) k4_1)) k4_2)
abbrev k4_4 : MC :=
 (.seq (.reg [
 ⟨some 36, none, .val (.load true 1 (.t 6))⟩,
 ⟨some 37, none, .call 8 [(.t 36)]⟩,
 ⟨some 35, none, .val (.mv (.t 37))⟩,
 ⟨some 38, none, .val (.ext (.t 35) 0)⟩,
 ⟨some 39, none, .val (.ext (.t 35) 1)⟩,
 ⟨some 9, none, .val (.mv (.t 38))⟩,
 ⟨some 10, none, .val (.mv (.t 39))⟩] [5, 6, 7, 8, 9, 10]) k4_3)
abbrev k4_5 : MC :=
 (.seq (.reg [
 ⟨some 31, none, .val (.load true 1 (.t 5))⟩,
 ⟨some 32, none, .call 8 [(.t 31)]⟩,
 ⟨some 30, none, .val (.mv (.t 32))⟩,
 ⟨some 33, none, .val (.ext (.t 30) 0)⟩,
 ⟨some 34, none, .val (.ext (.t 30) 1)⟩,
 ⟨some 7, none, .val (.mv (.t 33))⟩,
 ⟨some 8, none, .val (.mv (.t 34))⟩] [5, 6, 7, 8]) k4_4)
abbrev k4_6 : MC :=
 (.seq (.drw [
 ⟨some 24, none, .val (.load true 7 (.t 2))⟩,
 ⟨some 25, none, .call 12 [(.t 24)]⟩,
 ⟨some 26, none, .call 11 [(.t 25)]⟩,
 ⟨some 27, none, .val (.load true 7 (.t 3))⟩,
 ⟨some 28, none, .call 12 [(.t 27)]⟩,
 ⟨some 29, none, .call 11 [(.t 28)]⟩] [
 ⟨some 5, none, .zalloc [.nilIface]⟩,
 ⟨some 6, none, .zalloc [.nilIface]⟩,
 ⟨none, none, .store 1 (.t 5) (.t 26)⟩,
 ⟨none, none, .store 1 (.t 6) (.t 29)⟩] [5, 6]) k4_5)
abbrev k4_7 : MC :=
 (.seq ((.seq (.reg [
 ⟨some 11, none, .val (.load true 7 (.t 2))⟩,
 ⟨some 12, none, .call 10 [(.t 11)]⟩,
 ⟨some 13, none, .val (.bin .gtr .num (.t 12) (.c (.int .i64 0)))⟩,
 ⟨some 14, none, .val (.mv (.t 13))⟩,
 ⟨some 15, (some (14, false)), .val (.load true 7 (.t 3))⟩,
 ⟨some 16, (some (14, false)), .call 10 [(.t 15)]⟩,
 ⟨some 17, (some (14, false)), .val (.bin .gtr .num (.t 16) (.c (.int .i64 0)))⟩,
 ⟨some 18, none, .val (.pick (.t 14) (.c (.bool true)) (.t 17))⟩,
 ⟨some 19, none, .val (.mv (.t 18))⟩,
 ⟨some 20, (some (19, false)), .call 5 []⟩,
 ⟨some 21, (some (19, false)), .val (.not (.t 20))⟩,
 ⟨some 22, none, .val (.pick (.t 19) (.c (.bool true)) (.t 21))⟩] [2, 3, 22]) k4_0)) k4_6)
abbrev k4 : MC :=
 (.seq (.reg [
 ⟨some 2, none, .boxi (.t 0)⟩,
 ⟨some 3, none, .boxi (.t 1)⟩,
 ⟨some 4, none, .val (.mv (.c (.bool false)))⟩] [2, 3]) k4_7)
theorem c4 : Try.f4.body.bind (mcOf Try.prog (List.contains [2, 3] ·) (List.getD [([], [2, 3]), ([], [2, 3, 22]), ([], [4]), ([0, 0, 0, 0, 0, 0, 1, 1, 2, 2], [5, 6]), ([], [5, 6, 7, 8]), ([], [5, 6, 7, 8, 9, 10]), ([], [5, 6, 7, 9, 45]), ([], [4]), ([0, 0, 0, 0, 0, 0, 0, 0, 0, 0], [4])] · ([], [])) 55) = some k4 := by kernel_rfl
theorem r4 : rvsOf Try.prog Try.f4.results.toList = some [.tmp 4] := by kernel_rfl
theorem ne_of_look {H : AH} {g k : Nat} {o : AObj} (h : H g = some o) (h2 : H k = none) : g ≠ k := fun e => by subst e; rw [h] at h2; cases h2
theorem papart_calls {r u : Rv} (hr : r.Fit) (hu : u.Fit) (gr : Rg r) (gu : Rg u) {g : Nat} {H : AH} (hg : H g = some .nodr) : ACalls Try.prog 4 [.agg [.int .i64 r.K, .bool r.B, .int .i64 r.N, .int .i64 r.M, .str r.S, .sl 7 (rvE r.L) .no, .sl 1 (strE r.Keys) .no], .agg [.int .i64 u.K, .bool u.B, .int .i64 u.N, .int .i64 u.M, .str u.S, .sl 7 (rvE u.L) .no, .sl 1 (strE u.Keys) .no]] H (fun o H' => o = .ret (.bool true) ∧ H' = H) := by
  refine ACalls.drop ?_
  have ac := fun (G : AH) (h : G g = some .nodr) => awake_calls h
  have c1 := clean_calls r hr
  have c2 := clean_calls u hu
  have t1 := to_calls (cleanR r) (fit_clean r hr)
  have t2 := to_calls (cleanR u) (fit_clean u hu)
  have oa := ok_clean r hr
  have ob := ok_clean u hu
  have sa := sm_clean r
  have sb := sm_clean u
  have ra := rg_clean r gr
  have rb := rg_clean u gu
  have k1 := great_calls r hr
  have k2 := great_calls u hu
  have e1 := fun (G : AH) (h : G g = some .nodr) => enc_ok _ ra _ sa oa g G h
  have e2 := fun (G : AH) (h : G g = some .nodr) => enc_ok _ rb _ sb ob g G h
  have sc := fun (G : AH) (h : G g = some .nodr) => same_calls _ oa _ ob g G h
  have ap := fun h1 h2 => apart sa sb oa ob ra rb h1 h2
  simp only [rvC_eq] at c1 c2
  generalize greatI r = n1 at *
  generalize greatI u = n2 at *
  generalize encM (cleanR r) = x at *
  generalize encM (cleanR u) = y at *
  generalize toV (cleanR r) = a at *
  generalize toV (cleanR u) = b at *
  generalize cleanR r = p at *
  generalize cleanR u = q at *
  unfold SameOk at sc
  refine acalls Try.func4 c4 r4 (by simp [Try.ntmps4]) ?_
  repeat' (first | with_reducible (first | refine am_seq ?_ | refine am_block ?_) | ((with_reducible apply am_cond); (case hb => rfl); all_goals (intro hc; (try simp only [reduceCtorEq, bD, beq_iff_eq] at hc); (try (exfalso; omega)))) | ((first | with_reducible (first | refine am_reg ?_ | refine am_drw ?_ | refine am_skip ?_ | refine am_exit ?_ | refine am_ret ?_ | refine vc_intro ?_ | refine need_elems (by assumption) ?_ | refine vlen_acc (by assumption) ?_ | refine need_bytes (by assumption) ?_ | refine call_of (k1) ?_ | refine qcall_of (k1) ?_ | refine call_of (k2) ?_ | refine qcall_of (k2) ?_ | refine call_of (c1) ?_ | refine qcall_of (c1) ?_ | refine call_of (c2) ?_ | refine qcall_of (c2) ?_ | refine call_of (t1) ?_ | refine qcall_of (t1) ?_ | refine call_of (t2) ?_ | refine qcall_of (t2) ?_ | refine call_turn (ac _ (by assumption)) ?_ | refine call_turn (e1 _ (by repeat (first | assumption | refine look_ne (by first | assumption | exact ne_of_look hg (by first | assumption | exact And.right (by assumption))) ?_))) ?_ | refine call_turn (e2 _ (by repeat (first | assumption | refine look_ne (by first | assumption | exact ne_of_look hg (by first | assumption | exact And.right (by assumption))) ?_))) ?_ | refine call_at (fun G hl => sc _ (nodr_lec (by repeat (first | assumption | refine look_ne (by first | assumption | exact ne_of_look hg (by first | assumption | exact And.right (by assumption))) ?_)) hl)) ?_ | refine qcall_at (fun G hl => sc _ (nodr_lec (by repeat (first | assumption | refine look_ne (by first | assumption | exact ne_of_look hg (by first | assumption | exact And.right (by assumption))) ?_)) hl)) ?_ | refine need_lk ?_) | ((with_reducible (first | apply gd_not | apply gd_of | apply gq_not | apply gq_of | apply pickB_of)) <;> intro hc <;> (try simp -implicitDefEqProofs (disch := omega) only [go_sem, hc]) <;> (try simp only [reduceCtorEq, bD, beq_iff_eq] at hc) <;> (try (exfalso; omega))) | ((with_reducible refine alloc_intro (fun ko hko => ?_)) <;> (try have hne := fresh_ne (by assumption) hko) <;> (try have hnk := fresh_ne hk hko) <;> (try have hnk2 := fresh_ne hk2 hko) <;> (try simp only [AH.put_none] at hko)) | done) <;> (try simp -implicitDefEqProofs (disch := omega) only [go_sem])))
  all_goals try rw [ap (by assumption) (by assumption), beq_self_eq_true]
  all_goals exact drop_end (fun _ _ h => h) (fun i p hp => by repeat (first | assumption | refine look_ne (ne_of_look hp (by first | assumption | exact And.right (by assumption))) ?_))
end Go.Proofs.Ytoicninkfmfnbaa
