/- Of the walks of this seat: contracts of functions of the given program, proved over the abstract values of the texts Vm. Conditions: as each theorem says. -/
import Derived.Test.YtoicninkfmfnbaaWD
import Derived.Test.YtoicninkfmfnbaaJ7
import Derived.Test.YtoicninkfmfnbaaVm36
set_option linter.unusedVariables false
set_option linter.unusedSimpArgs false
namespace Go.Proofs.Ytoicninkfmfnbaa
open Go.Vm
attribute [local go_sem] eq_self decide_true decide_false AH.put_ne
attribute [local go_sem_proc] Nat.reduceBEq Nat.reduceAdd Nat.reduceSub Nat.reduceMul Nat.reduceEqDiff Nat.reduceLeDiff Nat.reduceLT Int.reduceLE Int.reduceLT Int.reduceToNat Int.reduceAdd Int.reduceEq Int.reduceNeg
attribute [local go_sem] vE_length byteCells_get byteCells_length byteCells_take byteCells_drop bytes_cells bytesOf_cells fldC fldsE_get fldsE_length List.drop_zero toNat_succ Nat.sub_zero Int.toNat_natCast Option.map_some Int.natCast_nonneg decide_eq_true_eq decide_eq_false_iff_not
/- flange/flangelaw06.awake -/
abbrev k5_0 : MC :=
 (.seq (.reg [
 ⟨some 22, none, .val (.mv (.t 1))⟩,
 ⟨some 23, none, .val (.b2s (.t 22))⟩,
 ⟨some 24, none, .val (.bin .eql .num (.t 23) (.c (.str [2, 3, 4, 2])))⟩,
 ⟨some 25, none, .val (.mv (.t 24))⟩,
 ⟨some 26, (some (25, true)), .val (.mv (.t 2))⟩,
 ⟨some 27, (some (25, true)), .val (.bin .eql .num (.t 26) (.c (.int .i64 0)))⟩,
 ⟨some 28, none, .val (.pick (.t 25) (.t 27) (.c (.bool false)))⟩,
 ⟨some 29, none, .val (.mv (.t 28))⟩,
 ⟨some 30, (some (29, true)), .val (.mv (.t 4))⟩,
 ⟨some 31, (some (29, true)), .val (.bin .eql .num (.t 30) (.c (.int .i64 0)))⟩,
 ⟨some 32, none, .val (.pick (.t 29) (.t 31) (.c (.bool false)))⟩,
 ⟨some 33, none, .val (.mv (.t 32))⟩,
 ⟨some 34, (some (33, true)), .val (.mv (.t 5))⟩,
 ⟨some 35, (some (33, true)), .val (.bin .eql .num (.t 34) (.c (.int .i64 1)))⟩,
 ⟨some 36, none, .val (.pick (.t 33) (.t 35) (.c (.bool false)))⟩,
 ⟨some 37, none, .val (.mv (.t 36))⟩,
 ⟨some 38, (some (37, true)), .val (.mv (.t 6))⟩,
 ⟨some 39, none, .val (.pick (.t 37) (.t 38) (.c (.bool false)))⟩,
 ⟨some 0, none, .val (.mv (.t 39))⟩] [0]) (.ret))
abbrev k5_1 : MC :=
 (.seq (.reg [
 ⟨some 18, none, .val (.load true 1 (.t 3))⟩,
 ⟨some 19, none, .call 15 [(.t 18)]⟩,
 ⟨some 17, none, .val (.mv (.t 19))⟩,
 ⟨some 20, none, .val (.ext (.t 17) 0)⟩,
 ⟨some 21, none, .val (.ext (.t 17) 1)⟩,
 ⟨some 5, none, .val (.mv (.t 20))⟩,
 ⟨some 6, none, .val (.mv (.t 21))⟩] [1, 2, 4, 5, 6]) k5_0)
abbrev k5_2 : MC :=
 (.seq (.reg [
 ⟨some 13, none, .val (.mv (.t 1))⟩,
 ⟨some 14, none, .call 6 [(.t 13)]⟩,
 ⟨some 12, none, .val (.mv (.t 14))⟩,
 ⟨some 15, none, .val (.ext (.t 12) 0)⟩,
 ⟨some 16, none, .val (.ext (.t 12) 1)⟩,
 ⟨some 3, none, .zalloc [.nilIface]⟩,
 ⟨none, none, .store 1 (.t 3) (.t 15)⟩,
 ⟨some 4, none, .val (.mv (.t 16))⟩] [1, 2, 3, 4]) k5_1)
abbrev k5_3 : MC :=
 (.seq (.reg [
 ⟨some 8, none, .call 14 [(.c (.int .i64 1))]⟩,
 ⟨some 9, none, .call 8 [(.t 8)]⟩,
 ⟨some 7, none, .val (.mv (.t 9))⟩,
 ⟨some 10, none, .val (.ext (.t 7) 0)⟩,
 ⟨some 11, none, .val (.ext (.t 7) 1)⟩,
 ⟨some 1, none, .val (.mv (.t 10))⟩,
 ⟨some 2, none, .val (.mv (.t 11))⟩] [1, 2]) k5_2)
abbrev k5 : MC :=
 (.seq (.reg [
 ⟨some 0, none, .val (.mv (.c (.bool false)))⟩] []) k5_3)
theorem c5 : Try.f5.body.bind (mcOf Try.prog (List.contains [] ·) (List.getD [([], []), ([], [1, 2]), ([], [1, 2, 3, 4]), ([], [1, 2, 4, 5, 6]), ([], [0])] · ([], [])) 40) = some k5 := by kernel_rfl
theorem r5 : rvsOf Try.prog Try.f5.results.toList = some [.tmp 0] := by kernel_rfl
/- flange/flangelaw06.PackDecodes -/
abbrev k3_0 : MC :=
 .cond (.t 13) ((.seq (.reg [
 ⟨some 14, none, .call 5 []⟩,
 ⟨some 2, none, .val (.mv (.t 14))⟩] [2]) (.ret))) (.skip)
abbrev k3_1 : MC :=
 .cond (.t 21) ((.seq (.reg [
 ⟨some 22, none, .val (.load true 1 (.t 3))⟩,
 ⟨some 23, none, .call 7 [(.t 22)]⟩,
 ⟨some 24, none, .val (.bin .eql .num (.t 23) (.c (.int .i64 0)))⟩,
 ⟨some 25, none, .val (.mv (.t 24))⟩,
 ⟨some 26, (some (25, true)), .val (.mv (.t 4))⟩,
 ⟨some 27, (some (25, true)), .val (.bin .eql .num (.t 26) (.c (.int .i64 4)))⟩,
 ⟨some 28, none, .val (.pick (.t 25) (.t 27) (.c (.bool false)))⟩,
 ⟨some 2, none, .val (.mv (.t 28))⟩] [2]) (.ret))) (.skip)
abbrev k3_2 : MC :=
 (.seq (.reg [
 ⟨some 34, none, .val (.mv (.t 6))⟩,
 ⟨some 35, none, .val (.bin .eql .num (.t 34) (.c (.int .i64 0)))⟩,
 ⟨some 36, none, .val (.mv (.t 35))⟩,
 ⟨some 37, (some (36, true)), .val (.mv (.t 5))⟩,
 ⟨some 38, (some (36, true)), .val (.b2s (.t 37))⟩,
 ⟨some 39, (some (36, true)), .val (.mv (.t 0))⟩,
 ⟨some 40, (some (36, true)), .val (.b2s (.t 39))⟩,
 ⟨some 41, (some (36, true)), .val (.bin .eql .num (.t 38) (.t 40))⟩,
 ⟨some 42, none, .val (.pick (.t 36) (.t 41) (.c (.bool false)))⟩,
 ⟨some 43, none, .val (.mv (.t 42))⟩,
 ⟨some 44, (some (43, true)), .val (.load true 1 (.t 3))⟩,
 ⟨some 45, (some (43, true)), .call 9 [(.t 44)]⟩,
 ⟨some 46, none, .val (.pick (.t 43) (.t 45) (.c (.bool false)))⟩,
 ⟨some 2, none, .val (.mv (.t 46))⟩] [2]) (.ret))
abbrev k3_3 : MC :=
 (.seq (.reg [
 ⟨some 30, none, .val (.load true 1 (.t 3))⟩,
 ⟨some 31, none, .call 8 [(.t 30)]⟩,
 ⟨some 29, none, .val (.mv (.t 31))⟩,
 ⟨some 32, none, .val (.ext (.t 29) 0)⟩,
 ⟨some 33, none, .val (.ext (.t 29) 1)⟩,
 ⟨some 5, none, .val (.mv (.t 32))⟩,
 ⟨some 6, none, .val (.mv (.t 33))⟩] [0, 3, 5, 6]) k3_2)
abbrev k3_4 : MC :=
 (.seq ((.seq (.reg [
 ⟨some 20, none, .val (.mv (.t 4))⟩,
 ⟨some 21, none, .val (.bin .neq .num (.t 20) (.c (.int .i64 0)))⟩] [0, 3, 4, 21]) k3_1)) k3_3)
abbrev k3_5 : MC :=
 (.seq (.reg [
 ⟨some 16, none, .val (.mv (.t 0))⟩,
 ⟨some 17, none, .call 6 [(.t 16)]⟩,
 ⟨some 15, none, .val (.mv (.t 17))⟩,
 ⟨some 18, none, .val (.ext (.t 15) 0)⟩,
 ⟨some 19, none, .val (.ext (.t 15) 1)⟩,
 ⟨some 3, none, .zalloc [.nilIface]⟩,
 ⟨none, none, .store 1 (.t 3) (.t 18)⟩,
 ⟨some 4, none, .val (.mv (.t 19))⟩] [0, 3, 4]) k3_4)
abbrev k3_6 : MC :=
 (.seq ((.seq (.reg [
 ⟨some 7, none, .val (.mv (.t 0))⟩,
 ⟨some 8, none, .val (.len .sl (.t 7))⟩,
 ⟨some 9, none, .val (.bin .gtr .num (.t 8) (.c (.int .i64 500)))⟩,
 ⟨some 10, none, .val (.mv (.t 9))⟩,
 ⟨some 11, (some (10, false)), .call 5 []⟩,
 ⟨some 12, (some (10, false)), .val (.not (.t 11))⟩,
 ⟨some 13, none, .val (.pick (.t 10) (.c (.bool true)) (.t 12))⟩] [0, 13]) k3_0)) k3_5)
abbrev k3 : MC :=
 (.seq (.reg [
 ⟨some 2, none, .val (.mv (.c (.bool false)))⟩] [0]) k3_6)
theorem c3 : Try.f3.body.bind (mcOf Try.prog (List.contains [] ·) (List.getD [([], [0]), ([], [0, 13]), ([], [2]), ([], [0, 3, 4]), ([], [0, 3, 4, 21]), ([], [2]), ([], [0, 3, 5, 6]), ([], [2])] · ([], [])) 47) = some k3 := by kernel_rfl
theorem r3 : rvsOf Try.prog Try.f3.results.toList = some [.tmp 2] := by kernel_rfl
def m1 : Rv := .mk 3 false 1 0 [] [] []
theorem enc_m1 : encM m1 = ([2, 3, 4, 2], 0) := by
  have hr : rightM m1 = true := by
    rw [rightM, deepI_eq, allM_eq]
    have : deepL m1.L = 0 := rfl
    rw [this]
    decide
  have he : Vm.encS (fldM m1 ((m1.L.map encM).map Prod.fst)) = ([2, 3, 4, 2], 0) := by
    have : fldM m1 ((m1.L.map encM).map Prod.fst) = [⟨1, false, 3, []⟩, ⟨2, false, 2, []⟩] := rfl
    rw [this, Vm.encS]
    have h2 : layL [⟨1, false, 3, []⟩, ⟨2, false, 2, []⟩] = [2, 3, 4, 2] := by
      simp only [layL, layF, List.flatMap_cons, List.flatMap_nil, keyN]
      simp [vb]
    rw [h2]
    decide
  rw [encM_eq, he, if_neg]
  rw [hr]
  have : badL (m1.L.map encM) = false := rfl
  rw [this]; simp
theorem rg_m1 : Rg m1 := .mk _ (fun _ => by decide) (by intro x hx; cases hx)
theorem awake_calls {g : Nat} {H : AH} (hg : H g = some .nodr) : ACalls Try.prog 5 [] H (fun o H' => o = .ret (.bool true) ∧ H' = H) := by
  refine ACalls.drop ?_
  have hm : mOf (.int 1) = m1 := by rw [mOf]; rfl
  have hs : Sm (.int 1) m1 := by rw [← hm]; exact sm_mOf _ (.int 1)
  have ec := enc_ok m1 rg_m1 (.int 1) hs (.int 1) g H hg
  rw [enc_m1] at ec
  obtain ⟨v', hv, hs'⟩ := dec_encM m1 (.int 1) hs (.int 1) rg_m1 _ enc_m1
  have dc := dec_ok _ [2, 3, 4, 2] (Nat.le_refl _) (by simp) g H hg
  rw [hv] at dc
  simp only [Option.getD_some, Option.isSome_some, if_true] at dc ec
  have hi : v'.isI = (1, true) := by
    have h1 : v'.isI.2 = true := by rw [isI_kind, sm_of_kind hs']; rfl
    have h2 : v'.isI.1 = 1 := by
      cases hs' with
      | mk _ _ hK hB hS hl hk hN hP hi => exact hN rfl
    exact Prod.ext h2 h1
  refine acalls Try.func5 c5 r5 (by simp [Try.ntmps5]) ?_
  repeat' (first | with_reducible (first | refine am_seq ?_ | refine am_block ?_) | ((with_reducible apply am_cond); (case hb => rfl); all_goals (intro hc; (try simp only [reduceCtorEq, bD, beq_iff_eq] at hc); (try (exfalso; omega)))) | ((first | with_reducible (first | refine am_reg ?_ | refine am_skip ?_ | refine am_exit ?_ | refine am_ret ?_ | refine vc_intro ?_ | refine need_elems (by assumption) ?_ | refine vlen_acc (by assumption) ?_ | refine need_bytes (by assumption) ?_ | refine call_of (mint_calls 1) ?_ | refine qcall_of (mint_calls 1) ?_ | refine call_turn (ec) ?_ | refine call_turn (dc) ?_ | refine call_of (int_calls v') ?_ | refine qcall_of (int_calls v') ?_ | refine need_lk ?_) | ((with_reducible (first | apply gd_not | apply gd_of | apply gq_not | apply gq_of | apply pickB_of)) <;> intro hc <;> (try simp -implicitDefEqProofs (disch := omega) only [go_sem, hc, hi]) <;> (try simp only [reduceCtorEq, bD, beq_iff_eq] at hc) <;> (try (exfalso; omega))) | ((with_reducible refine alloc_intro (fun ko hko => ?_)) <;> (try have hne := fresh_ne (by assumption) hko) <;> (try have hnk := fresh_ne hk hko) <;> (try have hnk2 := fresh_ne hk2 hko) <;> (try simp only [AH.put_none] at hko)) | done) <;> (try simp -implicitDefEqProofs (disch := omega) only [go_sem, hi])))
  all_goals exact drop_end (fun _ _ h => h) (AH.le_put (AH.le_refl _) hko _)
end Go.Proofs.Ytoicninkfmfnbaa
