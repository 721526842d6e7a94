/- Of the walks of this seat: contracts of functions of the given program, proved over the abstract values of the texts Vm. Conditions: as each theorem says. -/
import Derived.Test.YtoicninkfmfnbaaGreatZWD
import Derived.Test.YtoicninkfmfnbaaGreatZJC
import Derived.Test.YtoicninkfmfnbaaGreatVm37
set_option linter.unusedVariables false
set_option linter.unusedSimpArgs false
namespace Go.Proofs.YtoicninkfmfnbaaGreat
open Go.Vm
attribute [local go_sem] eq_self decide_true decide_false AH.put_ne
attribute [local go_sem_proc] Nat.reduceBEq Nat.reduceAdd Nat.reduceSub Nat.reduceMul Nat.reduceEqDiff Nat.reduceLeDiff Nat.reduceLT Int.reduceLE Int.reduceLT Int.reduceToNat Int.reduceAdd Int.reduceEq Int.reduceNeg
attribute [local go_sem] vE_length byteCells_get byteCells_length byteCells_take byteCells_drop bytes_cells bytesOf_cells fldC fldsE_get fldsE_length List.drop_zero toNat_succ Nat.sub_zero Int.toNat_natCast Option.map_some Int.natCast_nonneg decide_eq_true_eq decide_eq_false_iff_not
/- flange/flangelaw06.awake -/
abbrev k6_0 : MC :=
 (.seq (.reg [
 mv 22 1,
 vl 23 (.b2s (.t 22)),
 vl 24 (.bin .eql .num (.t 23) (.c (.str [2, 3, 4, 2]))),
 mv 25 24,
 ⟨some 26, (some (25, true)), .val (.mv (.t 2))⟩,
 ⟨some 27, (some (25, true)), .val (.bin .eql .num (.t 26) (.c (.int .i64 0)))⟩,
 vl 28 (.pick (.t 25) (.t 27) (.c (.bool false))),
 mv 29 28,
 ⟨some 30, (some (29, true)), .val (.mv (.t 4))⟩,
 ⟨some 31, (some (29, true)), .val (.bin .eql .num (.t 30) (.c (.int .i64 0)))⟩,
 vl 32 (.pick (.t 29) (.t 31) (.c (.bool false))),
 mv 33 32,
 ⟨some 34, (some (33, true)), .val (.mv (.t 5))⟩,
 ⟨some 35, (some (33, true)), .val (.bin .eql .num (.t 34) (.c (.int .i64 1)))⟩,
 vl 36 (.pick (.t 33) (.t 35) (.c (.bool false))),
 mv 37 36,
 ⟨some 38, (some (37, true)), .val (.mv (.t 6))⟩,
 vl 39 (.pick (.t 37) (.t 38) (.c (.bool false))),
 mv 0 39] [0]) (.ret))
abbrev k6_1 : MC :=
 (.seq (.reg [
 vl 18 (.load true 1 (.t 3)),
 ⟨some 19, none, .call 20 [(.t 18)]⟩,
 mv 17 19,
 vl 20 (.ext (.t 17) 0),
 vl 21 (.ext (.t 17) 1),
 mv 5 20,
 mv 6 21] [1, 2, 4, 5, 6]) k6_0)
abbrev k6_2 : MC :=
 (.seq (.reg [
 mv 13 1,
 ⟨some 14, none, .call 12 [(.t 13)]⟩,
 mv 12 14,
 vl 15 (.ext (.t 12) 0),
 vl 16 (.ext (.t 12) 1),
 ⟨some 3, none, .zalloc [.nilIface]⟩,
 ⟨none, none, .store 1 (.t 3) (.t 15)⟩,
 mv 4 16] [1, 2, 3, 4]) k6_1)
abbrev k6_3 : MC :=
 (.seq (.reg [
 ⟨some 8, none, .call 19 [(.c (.int .i64 1))]⟩,
 ⟨some 9, none, .call 8 [(.t 8)]⟩,
 mv 7 9,
 vl 10 (.ext (.t 7) 0),
 vl 11 (.ext (.t 7) 1),
 mv 1 10,
 mv 2 11] [1, 2]) k6_2)
abbrev k6 : MC :=
 (.seq (.reg [
 vl 0 (.mv (.c (.bool false)))] []) k6_3)
theorem c6 : Tryz.f6.body.bind (mcOf Tryz.prog (List.contains [] ·) (List.getD [([], []), ([], [1, 2]), ([], [1, 2, 3, 4]), ([], [1, 2, 4, 5, 6]), ([], [0])] · ([], [])) 40) = some k6 := by kernel_rfl
theorem r6 : rvsOf Tryz.prog Tryz.f6.results.toList = some [.tmp 0] := by kernel_rfl
def m1 : Rv := .mk 3 false 1 0 [] [] []
theorem enc_m1 : encM m1 = ([2, 3, 4, 2], 0) := by
  have hr : rightM m1 = true := by
    rw [rightM, deepI_eq, allM_eq]
    have : deepL m1.L = 0 := rfl
    rw [this]
    decide
  have he : Vm.encS (fldM m1 ((m1.L.map encM).map Prod.fst)) = ([2, 3, 4, 2], 0) := by
    have : fldM m1 ((m1.L.map encM).map Prod.fst) = [⟨1, false, 3, []⟩, ⟨2, false, 2, []⟩] := rfl
    rw [this, Vm.encS]
    have h2 : layL [⟨1, false, 3, []⟩, ⟨2, false, 2, []⟩] = [2, 3, 4, 2] := by
      simp only [layL, layF, List.flatMap_cons, List.flatMap_nil, keyN]
      simp [vb]
    rw [h2]
    decide
  rw [encM_eq, he, if_neg]
  rw [hr]
  have : badL (m1.L.map encM) = false := rfl
  rw [this]; simp
theorem rg_m1 : Rg m1 := .mk _ (fun _ => by decide) (by intro x hx; cases hx)
theorem awake_calls {g : Nat} {H : AH} (hg : H g = some .nodr) : ACalls Tryz.prog 6 [] H (fun o H' => o = .ret (.bool true) ∧ H' = H) := by
  refine ACalls.drop ?_
  have hm : mOf (.int 1) = m1 := by rw [mOf]; rfl
  have hs : Sm (.int 1) m1 := by rw [← hm]; exact sm_mOf _ (.int 1)
  have ec := enc_ok m1 rg_m1 (.int 1) hs (.int 1) g H hg
  rw [enc_m1] at ec
  obtain ⟨v', hv, hs'⟩ := dec_encM m1 (.int 1) hs (.int 1) rg_m1 _ enc_m1
  have dc := dec_ok _ [2, 3, 4, 2] (Nat.le_refl _) (by simp) g H hg
  rw [hv] at dc
  simp only [Option.getD_some, Option.isSome_some, if_true] at dc ec
  have hi : v'.isI = (1, true) := by
    have h1 : v'.isI.2 = true := by rw [isI_kind, sm_of_kind hs']; rfl
    have h2 : v'.isI.1 = 1 := by
      cases hs' with
      | mk _ _ hK hB hS hl hk hN hP hi => exact hN rfl
    exact Prod.ext h2 h1
  refine acalls Tryz.func6 c6 r6 (by simp [Tryz.ntmps6]) ?_
  repeat' (first | with_reducible refine go0 ?_ | (with_reducible refine am_cnd ?_ ?_ <;> intro hc <;> try (exfalso; omega)) | ((first | with_reducible (first | refine go1 ?_ | refine vc_intro ?_ | refine need_el ?_ | refine vlen_a ?_ | refine need_by ?_ | refine call_of (mint_calls 1) ?_ | refine qcall_of (mint_calls 1) ?_ | refine call_turn (ec) ?_ | refine call_turn (dc) ?_ | refine call_of (int_calls v') ?_ | refine qcall_of (int_calls v') ?_ | refine need_lk ?_) | ((with_reducible (first | apply gd_not | apply gd_of | apply gq_not | apply gq_of | apply pickB_of)) <;> intro hc <;> (try simp -implicitDefEqProofs (disch := omega) only [go_sem, hc, hi]) <;> (try simp only [reduceCtorEq, bD, beq_iff_eq] at hc) <;> (try (exfalso; omega))) | ((with_reducible refine alloc_intro (fun ko hko => ?_)) <;> (try have hne := fresh_ne (by assumption) hko) <;> (try have hnk := fresh_ne hk hko) <;> (try simp only [AH.put_none] at hko)) | done) <;> (try simp -implicitDefEqProofs (disch := omega) only [go_sem, hi])))
  all_goals exact drop_end (fun _ _ h => h) (AH.le_put (AH.le_refl _) hko _)
end Go.Proofs.YtoicninkfmfnbaaGreat
