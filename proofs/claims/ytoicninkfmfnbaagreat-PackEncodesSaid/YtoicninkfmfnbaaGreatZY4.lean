/- PackEncodes. -/
import Derived.Test.YtoicninkfmfnbaaGreatZW9
import Derived.Test.YtoicninkfmfnbaaGreatZY3
import Derived.Test.YtoicninkfmfnbaaGreatZV32
import Derived.Test.YtoicninkfmfnbaaGreatVm37
set_option linter.unusedVariables false
set_option linter.unusedSimpArgs false
namespace Go.Proofs.YtoicninkfmfnbaaGreat
open Go.Vm
attribute [local go_sem] eq_self decide_true decide_false AH.put_ne
attribute [local go_sem_proc] Nat.reduceBEq Nat.reduceAdd Nat.reduceSub Nat.reduceMul Nat.reduceEqDiff Nat.reduceLeDiff Nat.reduceLT Int.reduceLE Int.reduceLT Int.reduceToNat Int.reduceAdd Int.reduceEq Int.reduceNeg
attribute [local go_sem] vE_length byteCells_get byteCells_length byteCells_take byteCells_drop bytes_cells bytesOf_cells fldC fldsE_get fldsE_length List.drop_zero toNat_succ Nat.sub_zero Int.toNat_natCast Option.map_some Int.natCast_nonneg decide_eq_true_eq decide_eq_false_iff_not
/- flange/pack.Size -/
abbrev k11_0 : MC :=
 (.seq (.reg [
 mv 10 3,
 vl 11 (.len .sl (.t 10)),
 mv 2 11] [2]) (.ret))
abbrev k11_1 : MC :=
 (.seq (.reg [
 vl 6 (.load true 1 (.t 1)),
 ⟨some 7, none, .call 8 [(.t 6)]⟩,
 mv 5 7,
 vl 8 (.ext (.t 5) 0),
 vl 9 (.ext (.t 5) 1),
 mv 3 8,
 mv 4 9] [3]) k11_0)
abbrev k11 : MC :=
 (.seq (.reg [
 ⟨some 1, none, .boxi (.t 0)⟩,
 vl 2 (.mv (.c (.int .i64 0)))] [1]) k11_1)
theorem c11 : Tryz.f11.body.bind (mcOf Tryz.prog (List.contains [1] ·) (List.getD [([], [1]), ([], [3]), ([], [2])] · ([], [])) 12) = some k11 := by kernel_rfl
theorem r11 : rvsOf Tryz.prog Tryz.f11.results.toList = some [.tmp 2] := by kernel_rfl
/- flange/flangelaw06.PackEncodes -/
abbrev k3_0 : MC :=
 .cond (.t 16) ((.seq (.reg [
 ⟨some 17, none, .call 6 []⟩,
 mv 2 17] [2]) (.ret))) (.skip)
abbrev k3_1 : MC :=
 .cond (.t 32) ((.seq (.reg [
 mv 33 4,
 vl 34 (.len .sl (.t 33)),
 vl 35 (.bin .eql .num (.t 34) (.c (.int .i64 0))),
 mv 36 35,
 ⟨some 37, (some (36, true)), .val (.mv (.t 5))⟩,
 ⟨some 38, (some (36, true)), .val (.bin .eql .num (.t 37) (.c (.int .i64 3)))⟩,
 vl 39 (.pick (.t 36) (.t 38) (.c (.bool false))),
 mv 40 39,
 ⟨some 41, (some (40, true)), .val (.load true 7 (.t 3))⟩,
 ⟨some 42, (some (40, true)), .call 9 [(.t 41)]⟩,
 ⟨some 43, (some (40, true)), .call 11 [(.t 42)]⟩,
 ⟨some 44, (some (40, true)), .val (.bin .eql .num (.t 43) (.c (.int .i64 0)))⟩,
 vl 45 (.pick (.t 40) (.t 44) (.c (.bool false))),
 mv 2 45] [2]) (.ret))) (.skip)
abbrev k3_2 : MC :=
 (.seq (.reg [
 mv 51 4,
 vl 52 (.b2s (.t 51)),
 mv 53 6,
 vl 54 (.b2s (.t 53)),
 vl 55 (.bin .eql .num (.t 52) (.t 54)),
 mv 56 55,
 ⟨some 57, (some (56, true)), .val (.mv (.t 5))⟩,
 ⟨some 58, (some (56, true)), .val (.bin .eql .num (.t 57) (.c (.int .i64 0)))⟩,
 vl 59 (.pick (.t 56) (.t 58) (.c (.bool false))),
 mv 60 59,
 ⟨some 61, (some (60, true)), .val (.mv (.t 9))⟩,
 ⟨some 62, (some (60, true)), .val (.bin .eql .num (.t 61) (.c (.int .i64 0)))⟩,
 vl 63 (.pick (.t 60) (.t 62) (.c (.bool false))),
 mv 64 63,
 ⟨some 65, (some (64, true)), .val (.load true 1 (.t 8))⟩,
 ⟨some 66, (some (64, true)), .val (.load true 7 (.t 3))⟩,
 ⟨some 67, (some (64, true)), .call 13 [(.t 65), (.t 66)]⟩,
 ⟨some 68, (some (64, true)), .val (.bin .eql .num (.t 67) (.c (.int .i64 0)))⟩,
 vl 69 (.pick (.t 64) (.t 68) (.c (.bool false))),
 mv 70 69,
 ⟨some 71, (some (70, true)), .val (.load true 1 (.t 8))⟩,
 ⟨some 72, (some (70, true)), .call 11 [(.t 71)]⟩,
 ⟨some 73, (some (70, true)), .val (.mv (.t 4))⟩,
 ⟨some 74, (some (70, true)), .val (.len .sl (.t 73))⟩,
 ⟨some 75, (some (70, true)), .val (.bin .eql .num (.t 72) (.t 74))⟩,
 vl 76 (.pick (.t 70) (.t 75) (.c (.bool false))),
 mv 2 76] [2]) (.ret))
abbrev k3_3 : MC :=
 (.seq (.reg [
 mv 47 4,
 ⟨some 48, none, .call 12 [(.t 47)]⟩,
 mv 46 48,
 vl 49 (.ext (.t 46) 0),
 vl 50 (.ext (.t 46) 1),
 ⟨some 8, none, .zalloc [.nilIface]⟩,
 ⟨none, none, .store 1 (.t 8) (.t 49)⟩,
 mv 9 50] [3, 4, 5, 6, 8, 9]) k3_2)
abbrev k3_4 : MC :=
 (.seq ((.seq (.reg [
 mv 31 7,
 vl 32 (.not (.t 31))] [3, 4, 5, 6, 32]) k3_1)) k3_3)
abbrev k3_5 : MC :=
 (.seq (.reg [
 vl 27 (.load true 7 (.t 3)),
 ⟨some 28, none, .call 10 [(.t 27)]⟩,
 mv 26 28,
 vl 29 (.ext (.t 26) 0),
 vl 30 (.ext (.t 26) 1),
 mv 6 29,
 mv 7 30] [3, 4, 5, 6, 7]) k3_4)
abbrev k3_6 : MC :=
 (.seq (.reg [
 vl 21 (.load true 7 (.t 3)),
 ⟨some 22, none, .call 9 [(.t 21)]⟩,
 ⟨some 23, none, .call 8 [(.t 22)]⟩,
 mv 20 23,
 vl 24 (.ext (.t 20) 0),
 vl 25 (.ext (.t 20) 1),
 mv 4 24,
 mv 5 25] [3, 4, 5]) k3_5)
abbrev k3_7 : MC :=
 (.seq (.reg [
 vl 18 (.load true 7 (.t 1)),
 ⟨some 19, none, .call 7 [(.t 18)]⟩,
 ⟨some 3, none, .zalloc [(.int .i64 0), (.bool false), (.int .i64 0), (.int .i64 0), (.str []), .nilSl, .nilSl]⟩,
 ⟨none, none, .store 7 (.t 3) (.t 19)⟩] [3]) k3_6)
abbrev k3_8 : MC :=
 (.seq ((.seq (.reg [
 vl 10 (.load true 7 (.t 1)),
 ⟨some 11, none, .call 5 [(.t 10)]⟩,
 vl 12 (.bin .gtr .num (.t 11) (.c (.int .i64 0))),
 mv 13 12,
 ⟨some 14, (some (13, false)), .call 6 []⟩,
 ⟨some 15, (some (13, false)), .val (.not (.t 14))⟩,
 vl 16 (.pick (.t 13) (.c (.bool true)) (.t 15))] [1, 16]) k3_0)) k3_7)
abbrev k3 : MC :=
 (.seq (.reg [
 ⟨some 1, none, .boxi (.t 0)⟩,
 vl 2 (.mv (.c (.bool false)))] [1]) k3_8)
theorem c3 : Tryz.f3.body.bind (mcOf Tryz.prog (List.contains [1] ·) (List.getD [([], [1]), ([], [1, 16]), ([], [2]), ([], [3]), ([], [3, 4, 5]), ([], [3, 4, 5, 6, 7]), ([], [3, 4, 5, 6, 32]), ([], [2]), ([], [3, 4, 5, 6, 8, 9]), ([], [2])] · ([], [])) 77) = some k3 := by kernel_rfl
theorem r3 : rvsOf Tryz.prog Tryz.f3.results.toList = some [.tmp 2] := by kernel_rfl
theorem ne_of_look {H : AH} {g k : Nat} {o : AObj} (h : H g = some o) (h2 : H k = none) : g ≠ k := fun e => by subst e; rw [h] at h2; cases h2
theorem size_calls {v : Vl} {m : Rv} (hs : Sm v m) (ho : v.Ok) (hrg : Rg m) {g : Nat} {H : AH} (hg : H g = some .nodr) : ACalls Tryz.prog 11 [.agg [vV v]] H (fun o H' => o = .ret (.int .i64 (encM m).1.length) ∧ H' = H) := by
  refine ACalls.drop ?_
  have ec := enc_ok m hrg v hs ho g H hg
  refine acalls Tryz.func11 c11 r11 (by simp [Tryz.ntmps11]) ?_
  repeat' (first | with_reducible refine go0 ?_ | (with_reducible refine am_cnd ?_ ?_ <;> intro hc <;> try (exfalso; omega)) | ((first | with_reducible (first | refine go1 ?_ | refine vc_intro ?_ | refine need_el ?_ | refine vlen_a ?_ | refine need_by ?_ | refine call_turn (ec) ?_ | refine need_lk ?_) | ((with_reducible refine alloc_intro (fun ko hko => ?_)) <;> (try have hne := fresh_ne (by assumption) hko) <;> (try simp only [AH.put_none] at hko)) | done) <;> (try simp -implicitDefEqProofs (disch := omega) only [go_sem])))
  all_goals (refine drop_end (by (first | exact fun _ _ h => h | (intro s x h; first | exact no_sub _ h | exact nil_no _ h | exact AccP.sub (by assumption) _ _ h | (refine agg_sub rfl ?_ x h; repeat (first | exact .nil | refine .cons (fun _ h => h) ?_ | refine .cons (fun _ h => nil_no _ h) ?_ | refine .cons (fun _ h => no_sub _ h) ?_ | refine .cons (fun _ h => AccP.sub (by assumption) _ _ h) ?_)) | (refine tuple_sub ?_ x h; repeat (first | exact .nil | refine .cons (fun _ h => h) ?_ | refine .cons (fun _ h => nil_no _ h) ?_ | refine .cons (fun _ h => no_sub _ h) ?_ | refine .cons (fun _ h => AccP.sub (by assumption) _ _ h) ?_ | refine .cons (fun _ h => agg_sub rfl (by repeat (first | exact .nil | refine .cons (fun _ h => h) ?_ | refine .cons (fun _ h => nil_no _ h) ?_ | refine .cons (fun _ h => no_sub _ h) ?_ | refine .cons (fun _ h => AccP.sub (by assumption) _ _ h) ?_)) _ h) ?_))))) (by (repeat (first | exact AH.le_refl _ | assumption | exact AccP.le (by assumption) | refine AH.le_put ?_ (by first | assumption | exact none_of_le (by assumption) (by assumption) | exact And.right (by assumption) | exact And.right (And.right (by assumption))) _ | refine AH.le_trans ?_ (AccP.le (by assumption))))))
theorem pencodes_calls {r : Rv} (hr : r.FitB 140737488351232) (gr : Rg r) {g : Nat} {H : AH} (hg : H g = some .nodr) : ACalls Tryz.prog 3 [.agg [.int .i64 r.K, .bool r.B, .int .i64 r.N, .int .i64 r.M, .str r.S, .sl 7 (rvE r.L) .no, .sl 1 (strE r.Keys) .no]] H (fun o H' => o = .ret (.bool true) ∧ H' = H) := by
  refine ACalls.drop ?_
  have hr2 : r.Fit := hr.mono (by decide)
  have ac := awake_calls hg
  have c1 := clean_calls r hr2
  have t1 := to_calls (cleanR r) (fit_clean r hr2)
  have oa := ok_clean r hr2
  have sa := sm_clean r
  have ra := rg_clean r gr
  have k1 := great_calls r hr2
  have bc := rb6_calls (cleanR r) _ sa oa (fit_cleanB r hr) ra
  have ec := fun (G : AH) (h : G g = some .nodr) => enc_ok _ ra _ sa oa g G h
  have sc := fun (G : AH) (h : G g = some .nodr) => size_calls sa oa ra h
  have dc := fun c (h : encM (cleanR r) = (c, 0)) => dec_encM _ _ sa oa ra c h
  have dk := fun (G : AH) (h : G g = some .nodr) => dec_ok _ (encM (cleanR r)).1 (Nat.le_refl _) (by have := encM_len (cleanR r); omega) g G h
  have un := fun v (h : Sm v (cleanR r)) (h2 : v.Ok) => unlike_calls _ _ h h2 g
  have fm := fit_clean r hr2
  have s2 := fun v (h : Sm v (cleanR r)) (h2 : v.Ok) (G : AH) (h3 : G g = some .nodr) => size_calls h h2 ra h3
  simp only [rvC_eq] at c1
  rcases encM_code (cleanR r) with hz | hz
  · obtain ⟨v', hv, hs'⟩ := dc (encM (cleanR r)).1 (Prod.ext rfl hz)
    have hfine := decV_fine _ (encM (cleanR r)).1 (Nat.le_refl _) v' hv
    replace un := un v' hs' hfine.1
    replace s2 := s2 v' hs' hfine.1
    rw [hv] at dk
    simp only [Option.getD_some, Option.isSome_some, if_true] at dk
    rw [hz] at ec
    rw [hz, decide_eq_true rfl] at bc
    generalize greatI r = n1 at *
    generalize (encM (cleanR r)).1 = x at *
    generalize toV (cleanR r) = a at *
    generalize cleanR r = p at *
    refine acalls Tryz.func3 c3 r3 (by simp [Tryz.ntmps3]) ?_
    repeat' (first | with_reducible refine go0 ?_ | (with_reducible refine am_cnd ?_ ?_ <;> intro hc <;> try (exfalso; omega)) | ((first | with_reducible (first | refine go1 ?_ | refine vc_intro ?_ | refine need_el ?_ | refine vlen_a ?_ | refine need_by ?_ | refine call_of (k1) ?_ | refine qcall_of (k1) ?_ | refine call_of (c1) ?_ | refine qcall_of (c1) ?_ | refine call_of (t1) ?_ | refine qcall_of (t1) ?_ | refine call_turn (ac) ?_ | refine call_turn (ec _ (by repeat (first | assumption | refine look_ne (by first | assumption | exact ne_of_look hg (by first | assumption | exact And.right (by assumption))) ?_))) ?_ | refine call_of (bc) ?_ | refine qcall_of (bc) ?_ | refine call_turn (dk _ (by repeat (first | assumption | refine look_ne (by first | assumption | exact ne_of_look hg (by first | assumption | exact And.right (by assumption))) ?_))) ?_ | refine call_turn (un _ (by repeat (first | assumption | refine look_ne (by first | assumption | exact ne_of_look hg (by first | assumption | exact And.right (by assumption))) ?_))) ?_ | refine call_turn (s2 _ (by repeat (first | assumption | refine look_ne (by first | assumption | exact ne_of_look hg (by first | assumption | exact And.right (by assumption))) ?_))) ?_ | refine need_lk ?_) | ((with_reducible (first | apply gd_not | apply gd_of | apply gq_not | apply gq_of | apply pickB_of)) <;> intro hc <;> (try simp -implicitDefEqProofs (disch := omega) only [go_sem, hc, beq_self_eq_true, bne_self_eq_false, Bool.not_true, Bool.not_false]) <;> (try simp only [reduceCtorEq, bD, beq_iff_eq] at hc) <;> (try (exfalso; omega))) | ((with_reducible refine alloc_intro (fun ko hko => ?_)) <;> (try have hne := fresh_ne (by assumption) hko) <;> (try simp only [AH.put_none] at hko)) | done) <;> (try simp -implicitDefEqProofs (disch := omega) only [go_sem, beq_self_eq_true, bne_self_eq_false, Bool.not_true, Bool.not_false])))
    all_goals exact drop_end (fun _ _ h => h) (fun i p hp => by repeat (first | assumption | refine look_ne (ne_of_look hp (by first | assumption | exact And.right (by assumption))) ?_))
  · rw [hz] at ec sc bc
    rw [decide_eq_false (by decide)] at bc
    clear dc dk un s2
    simp only [List.length_nil] at sc
    generalize greatI r = n1 at *
    generalize toV (cleanR r) = a at *
    generalize cleanR r = p at *
    refine acalls Tryz.func3 c3 r3 (by simp [Tryz.ntmps3]) ?_
    repeat' (first | with_reducible refine go0 ?_ | (with_reducible refine am_cnd ?_ ?_ <;> intro hc <;> try (exfalso; omega)) | ((first | with_reducible (first | refine go1 ?_ | refine vc_intro ?_ | refine need_el ?_ | refine vlen_a ?_ | refine need_by ?_ | refine call_of (k1) ?_ | refine qcall_of (k1) ?_ | refine call_of (c1) ?_ | refine qcall_of (c1) ?_ | refine call_of (t1) ?_ | refine qcall_of (t1) ?_ | refine call_turn (ac) ?_ | refine call_turn (ec _ (by repeat (first | assumption | refine look_ne (by first | assumption | exact ne_of_look hg (by first | assumption | exact And.right (by assumption))) ?_))) ?_ | refine call_of (bc) ?_ | refine qcall_of (bc) ?_ | refine call_turn (sc _ (by repeat (first | assumption | refine look_ne (by first | assumption | exact ne_of_look hg (by first | assumption | exact And.right (by assumption))) ?_))) ?_ | refine call_at (fun G hl => sc _ (nodr_lec (by repeat (first | assumption | refine look_ne (by first | assumption | exact ne_of_look hg (by first | assumption | exact And.right (by assumption))) ?_)) hl)) ?_ | refine qcall_at (fun G hl => sc _ (nodr_lec (by repeat (first | assumption | refine look_ne (by first | assumption | exact ne_of_look hg (by first | assumption | exact And.right (by assumption))) ?_)) hl)) ?_ | refine need_lk ?_) | ((with_reducible (first | apply gd_not | apply gd_of | apply gq_not | apply gq_of | apply pickB_of)) <;> intro hc <;> (try simp -implicitDefEqProofs (disch := omega) only [go_sem, hc, beq_self_eq_true, bne_self_eq_false, Bool.not_true, Bool.not_false]) <;> (try simp only [reduceCtorEq, bD, beq_iff_eq] at hc) <;> (try (exfalso; omega))) | ((with_reducible refine alloc_intro (fun ko hko => ?_)) <;> (try have hne := fresh_ne (by assumption) hko) <;> (try simp only [AH.put_none] at hko)) | done) <;> (try simp -implicitDefEqProofs (disch := omega) only [go_sem, beq_self_eq_true, bne_self_eq_false, Bool.not_true, Bool.not_false])))
    all_goals exact drop_end (fun _ _ h => h) (fun i p hp => by repeat (first | assumption | refine look_ne (ne_of_look hp (by first | assumption | exact And.right (by assumption))) ?_))
end Go.Proofs.YtoicninkfmfnbaaGreat
