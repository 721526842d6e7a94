/- Of the walks of this seat: contracts of functions of the given program, proved over the abstract values of the texts Vm. Conditions: as each theorem says. -/
import Derived.Test.YtjlphncecdlmcaaV15
import Derived.Test.YtjlphncecdlmcaaVG
import Derived.Test.YtjlphncecdlmcaaVm33
set_option linter.unusedVariables false
set_option linter.unusedSimpArgs false
namespace Go.Proofs.Ytjlphncecdlmcaa
open Go.Vm Go.Sort
attribute [local go_sem] List.drop_zero toNat_succ Nat.sub_zero Int.toNat_natCast Option.map_some Int.natCast_nonneg decide_eq_true_eq decide_eq_false_iff_not
/- (flange/value.Value).into -/
abbrev k113_0 : MC :=
  .cond (.t 24) ((.seq (.reg [
     ⟨(some 25), none, .build [.nilIface] []⟩,
     ⟨none, none, .store 1 (.t 4) (.t 25)⟩,
     ⟨(some 5), none, .val (.mv (.c (.int .i64 2)))⟩] [4, 5]) (.ret))) (.skip)
abbrev k113_1 : MC :=
  (.seq (.reg [
    ⟨(some 26), none, .val (.mv (.t 6))⟩,
    ⟨(some 27), none, .val (.faddr 1 (.t 3))⟩,
    ⟨(some 28), none, .val (.load false 1 (.t 27))⟩,
    ⟨(some 29), none, .val (.iaddr 1 (.t 26) (.t 28))⟩,
    ⟨(some 30), none, .val (.load true 1 (.t 29))⟩,
    ⟨none, none, .store 1 (.t 4) (.t 30)⟩,
    ⟨(some 5), none, .val (.mv (.c (.int .i64 0)))⟩] [4, 5]) (.ret))
abbrev k113_2 : MC :=
  (.seq ((.seq (.reg [
    ⟨(some 20), none, .val (.faddr 1 (.t 3))⟩,
    ⟨(some 21), none, .val (.load false 1 (.t 20))⟩,
    ⟨(some 22), none, .val (.mv (.t 6))⟩,
    ⟨(some 23), none, .val (.len .sl (.t 22))⟩,
    ⟨(some 24), none, .val (.bin .geq .num (.t 21) (.t 23))⟩] [3, 4, 6, 24]) k113_0)) k113_1)
abbrev k113_3 : MC :=
  .cond (.t 16) ((.seq (.reg [
     ⟨(some 17), none, .val (.faddr 0 (.t 2))⟩,
     ⟨(some 18), none, .val (.load false 1 (.t 17))⟩,
     ⟨(some 19), none, .tap 129 (.t 18)⟩,
     ⟨(some 6), none, .val (.mv (.t 19))⟩] [3, 4, 6]) k113_2)) (.skip)
abbrev k113_4 : MC :=
  .cond (.t 41) ((.seq (.reg [
     ⟨(some 42), none, .build [.nilIface] []⟩,
     ⟨none, none, .store 1 (.t 4) (.t 42)⟩,
     ⟨(some 5), none, .val (.mv (.c (.int .i64 8)))⟩] [4, 5]) (.ret))) (.skip)
abbrev k113_5 : MC :=
  (.seq (.reg [
    ⟨(some 43), none, .val (.load true 1 (.t 7))⟩,
    ⟨none, none, .store 1 (.t 4) (.t 43)⟩,
    ⟨(some 5), none, .val (.mv (.c (.int .i64 0)))⟩] [4, 5]) (.ret))
abbrev k113_6 : MC :=
  (.seq ((.seq (.reg [
    ⟨(some 40), none, .val (.mv (.t 8))⟩,
    ⟨(some 41), none, .val (.not (.t 40))⟩] [4, 7, 41]) k113_4)) k113_5)
abbrev k113_7 : MC :=
  (.seq (.drx [
    ⟨(some 32), none, .val (.faddr 0 (.t 2))⟩,
    ⟨(some 33), none, .val (.load false 1 (.t 32))⟩,
    ⟨(some 34), none, .tap 131 (.t 33)⟩,
    ⟨(some 35), none, .val (.faddr 0 (.t 3))⟩,
    ⟨(some 36), none, .val (.load false 1 (.t 35))⟩,
    ⟨(some 37), none, .val (.yo (.look .str (.agg [.nilIface]) true) [(.t 34), (.t 36)])⟩,
    ⟨(some 31), none, .val (.mv (.t 37))⟩,
    ⟨(some 38), none, .val (.ext (.t 31) 0)⟩,
    ⟨(some 39), none, .val (.ext (.t 31) 1)⟩,
    ⟨(some 8), none, .val (.mv (.t 39))⟩] [
    ⟨(some 7), none, .zalloc [.nilIface]⟩,
    ⟨none, none, .store 1 (.t 7) (.t 38)⟩] [4, 7, 8]) k113_6)
abbrev k113_8 : MC :=
  (.seq ((.seq (.reg [
    ⟨(some 9), none, .val (.faddr 1 (.t 3))⟩,
    ⟨(some 10), none, .val (.load false 1 (.t 9))⟩,
    ⟨(some 11), none, .val (.bin .geq .num (.t 10) (.c (.int .i64 0)))⟩,
    ⟨(some 12), none, .val (.mv (.t 11))⟩,
    ⟨(some 13), (some (12, true)), .val (.faddr 0 (.t 3))⟩,
    ⟨(some 14), (some (12, true)), .val (.load false 1 (.t 13))⟩,
    ⟨(some 15), (some (12, true)), .val (.bin .eql .num (.t 14) (.c (.str [])))⟩,
    ⟨(some 16), none, .val (.pick (.t 12) (.t 15) (.c (.bool false)))⟩] [2, 3, 4, 16]) k113_3)) k113_7)
abbrev k113 : MC :=
  (.seq (.reg [
    ⟨(some 2), none, .boxi (.t 0)⟩,
    ⟨(some 3), none, .boxi (.t 1)⟩,
    ⟨(some 4), none, .zalloc [.nilIface]⟩,
    ⟨(some 5), none, .val (.mv (.c (.int .i64 0)))⟩] [2, 3, 4]) k113_8)
theorem c113 : Try.f113.body.bind (mcOf Try.prog (List.contains [2, 3] ·) (List.getD [([], [2, 3, 4]), ([], [2, 3, 4, 16]), ([], [3, 4, 6]), ([], [3, 4, 6, 24]), ([], [4, 5]), ([], [4, 5]), ([0, 0, 0, 0, 0, 0, 0, 0, 0, 1, 4, 0], [4, 7, 8]), ([], [4, 7, 41]), ([], [4, 5]), ([], [4, 5])] · ([], [])) 44) = some k113 := by kernel_rfl
theorem r113 : rvsOf Try.prog Try.f113.results.toList = some [.cell 4 true 1, .tmp 5] := by kernel_rfl
def Vl.into (v : Vl) (k : List UInt8) (n : Int) : Option (Vl × Int) :=
  if 0 ≤ n ∧ k = [] then match v with
    | .list l => if h : n.toNat < l.length then some (l[n.toNat], 0) else some (.nul, 2)
    | _ => none
  else match v with
    | .map es => match fnd k es with
      | none => some (.nul, 8)
      | some x => some (x, 0)
    | _ => none
theorem acalls_dropP {f : Nat} {vs : List V} {H : AH} (h : ACalls Try.prog f vs H (fun o H' => o = .pan ∧ H.le H')) : ACalls Try.prog f vs H (fun o H' => o = .pan ∧ H' = H) :=
  fun s xs hr hv => (h s xs hr hv).mono fun e w p => by
    obtain ⟨s', H', o, h1, h2, h3, h4, rfl, h6⟩ := p
    exact ⟨s', H, .pan, h1, h2, h3.weaken h6, h4, rfl, rfl⟩
theorem into_ret {v : Vl} {k : List UInt8} {n : Int} {x : Vl} {e : Int} (h : v.into k n = some (x, e)) (H : AH) : ACalls Try.prog 113 [.agg [vV v], .agg [.str k, .int .i64 n]] H (fun o H' => o = .ret (.tuple [.agg [vV x], .int .i64 e]) ∧ H' = H) := by
  refine ACalls.drop ?_
  refine acalls Try.func113 c113 r113 (by simp [Try.ntmps113]) ?_
  unfold Vl.into at h
  by_cases hs : 0 ≤ n ∧ k = []
  · rw [if_pos hs] at h
    obtain ⟨h0, rfl⟩ := hs
    cases v with
    | list l =>
      simp only at h
      rw [vV_list]
      by_cases hlt : n.toNat < l.length
      · rw [dif_pos hlt] at h; cases h
        have hg : (vE l)[n.toNat]? = some [vV l[n.toNat]] := vE_get hlt
        repeat' (first | with_reducible (first | refine am_seq ?_ | refine am_block ?_) | ((with_reducible apply am_cond); (case hb => rfl); all_goals (intro hc; (try simp only [reduceCtorEq, decide_eq_true_eq, decide_eq_false_iff_not, Bool.or_eq_true, Bool.and_eq_true, Bool.or_eq_false_iff, Bool.not_eq_true', Bool.not_eq_false', beq_iff_eq] at hc); (try (exfalso; omega)))) | ((first | with_reducible (first | refine am_reg ?_ | refine am_drw ?_ | refine am_drx ?_ | refine am_skip ?_ | refine am_exit ?_ | refine am_ret ?_ | refine And.intro (by first | exact AH.lec_refl _ | assumption | exact AccP.lec (by assumption) | omega) ?_ | refine isnE_of (fun hc => ?_) (fun hc => ?_) (fun hc => ?_) | refine need_elems (by assumption) ?_ | refine vlen_acc (by assumption) ?_ | refine need_bytes (by assumption) ?_ | refine need_look (by repeat (first | assumption | exact AH.put_same _ _ _ | refine look_put ?_ (by assumption) | refine look_lec ?_ (by assumption))) ?_) | ((with_reducible (first | refine gd_not (fun hc => ?_) (fun hc => ?_) | refine gd_of (fun hc => ?_) (fun hc => ?_) | refine gq_not (fun hc => ?_) (fun hc => ?_) | refine gq_of (fun hc => ?_) (fun hc => ?_) | refine pickB_of (fun hc => ?_) (fun hc => ?_))) <;> (try simp -implicitDefEqProofs (disch := omega) only [go_sem, eq_self, decide_true, decide_false, Nat.reduceBEq, Nat.reduceAdd, Nat.reduceSub, Nat.reduceMul, Nat.reduceEqDiff, Nat.reduceLeDiff, Nat.reduceLT, Int.reduceLE, Int.reduceLT, Int.reduceToNat, Int.reduceAdd, Int.reduceEq, Int.reduceNeg, AH.put_ne, hc, vE_length, h0, hg, if_true]) <;> (try simp only [reduceCtorEq, decide_eq_true_eq, decide_eq_false_iff_not, Bool.or_eq_true, Bool.and_eq_true, Bool.or_eq_false_iff, Bool.not_eq_true', Bool.not_eq_false', beq_iff_eq] at hc) <;> (try (exfalso; omega))) | ((with_reducible refine alloc_intro (fun ko hko => ?_)) <;> (try have hne := fresh_ne (by assumption) hko) <;> (try have hnk := fresh_ne hk hko) <;> (try have hnk2 := fresh_ne hk2 hko) <;> (try simp only [AH.put_none] at hko)) | ((with_reducible (first | refine vapp_accL (by assumption) ?_ (fun v2 H2 hacc hlec => ?_) | refine vapp_accL (AccP.mono (by assumption) (AccP.le (by assumption))) ?_ (fun v2 H2 hacc hlec => ?_) | refine vapp_accL (AccP.new (by assumption) (by assumption) _) ?_ (fun v2 H2 hacc hlec => ?_))); · simp only [byteCells_length, List.length_cons, List.length_nil, List.length_map, List.length_append, vE_length, mE_length, strE_len, List.length_take, rvE_length]; omega)) <;> (try simp -implicitDefEqProofs (disch := omega) only [go_sem, eq_self, decide_true, decide_false, Nat.reduceBEq, Nat.reduceAdd, Nat.reduceSub, Nat.reduceMul, Nat.reduceEqDiff, Nat.reduceLeDiff, Nat.reduceLT, Int.reduceLE, Int.reduceLT, Int.reduceToNat, Int.reduceAdd, Int.reduceEq, Int.reduceNeg, AH.put_ne, vE_length, h0, hg, if_true])))
        all_goals (refine drop_end (by (first | exact fun _ _ h => h | (intro s x h; first | exact no_sub _ h | exact nil_no _ h | exact AccP.sub (by assumption) _ _ h | (refine agg_sub rfl ?_ x h; repeat (first | exact .nil | refine .cons (fun _ h => h) ?_ | refine .cons (fun _ h => nil_no _ h) ?_ | refine .cons (fun _ h => no_sub _ h) ?_ | refine .cons (fun _ h => AccP.sub (by assumption) _ _ h) ?_)) | (refine tuple_sub ?_ x h; repeat (first | exact .nil | refine .cons (fun _ h => h) ?_ | refine .cons (fun _ h => nil_no _ h) ?_ | refine .cons (fun _ h => no_sub _ h) ?_ | refine .cons (fun _ h => AccP.sub (by assumption) _ _ h) ?_ | refine .cons (fun _ h => agg_sub rfl (by repeat (first | exact .nil | refine .cons (fun _ h => h) ?_ | refine .cons (fun _ h => nil_no _ h) ?_ | refine .cons (fun _ h => no_sub _ h) ?_ | refine .cons (fun _ h => AccP.sub (by assumption) _ _ h) ?_)) _ h) ?_))))) (by (repeat (first | exact AH.le_refl _ | assumption | exact AccP.le (by assumption) | refine AH.le_put ?_ (by first | assumption | exact none_of_le (by assumption) (by assumption) | exact And.right (by assumption) | exact And.right (And.right (by assumption))) _ | refine AH.le_trans ?_ (AccP.le (by assumption))))))
      · rw [dif_neg hlt] at h; cases h
        rw [vV_nul]
        repeat' (first | with_reducible (first | refine am_seq ?_ | refine am_block ?_) | ((with_reducible apply am_cond); (case hb => rfl); all_goals (intro hc; (try simp only [reduceCtorEq, decide_eq_true_eq, decide_eq_false_iff_not, Bool.or_eq_true, Bool.and_eq_true, Bool.or_eq_false_iff, Bool.not_eq_true', Bool.not_eq_false', beq_iff_eq] at hc); (try (exfalso; omega)))) | ((first | with_reducible (first | refine am_reg ?_ | refine am_drw ?_ | refine am_drx ?_ | refine am_skip ?_ | refine am_exit ?_ | refine am_ret ?_ | refine And.intro (by first | exact AH.lec_refl _ | assumption | exact AccP.lec (by assumption) | omega) ?_ | refine isnE_of (fun hc => ?_) (fun hc => ?_) (fun hc => ?_) | refine need_elems (by assumption) ?_ | refine vlen_acc (by assumption) ?_ | refine need_bytes (by assumption) ?_ | refine need_look (by repeat (first | assumption | exact AH.put_same _ _ _ | refine look_put ?_ (by assumption) | refine look_lec ?_ (by assumption))) ?_) | ((with_reducible (first | refine gd_not (fun hc => ?_) (fun hc => ?_) | refine gd_of (fun hc => ?_) (fun hc => ?_) | refine gq_not (fun hc => ?_) (fun hc => ?_) | refine gq_of (fun hc => ?_) (fun hc => ?_) | refine pickB_of (fun hc => ?_) (fun hc => ?_))) <;> (try simp -implicitDefEqProofs (disch := omega) only [go_sem, eq_self, decide_true, decide_false, Nat.reduceBEq, Nat.reduceAdd, Nat.reduceSub, Nat.reduceMul, Nat.reduceEqDiff, Nat.reduceLeDiff, Nat.reduceLT, Int.reduceLE, Int.reduceLT, Int.reduceToNat, Int.reduceAdd, Int.reduceEq, Int.reduceNeg, AH.put_ne, hc, vE_length, h0, if_true]) <;> (try simp only [reduceCtorEq, decide_eq_true_eq, decide_eq_false_iff_not, Bool.or_eq_true, Bool.and_eq_true, Bool.or_eq_false_iff, Bool.not_eq_true', Bool.not_eq_false', beq_iff_eq] at hc) <;> (try (exfalso; omega))) | ((with_reducible refine alloc_intro (fun ko hko => ?_)) <;> (try have hne := fresh_ne (by assumption) hko) <;> (try have hnk := fresh_ne hk hko) <;> (try have hnk2 := fresh_ne hk2 hko) <;> (try simp only [AH.put_none] at hko)) | ((with_reducible (first | refine vapp_accL (by assumption) ?_ (fun v2 H2 hacc hlec => ?_) | refine vapp_accL (AccP.mono (by assumption) (AccP.le (by assumption))) ?_ (fun v2 H2 hacc hlec => ?_) | refine vapp_accL (AccP.new (by assumption) (by assumption) _) ?_ (fun v2 H2 hacc hlec => ?_))); · simp only [byteCells_length, List.length_cons, List.length_nil, List.length_map, List.length_append, vE_length, mE_length, strE_len, List.length_take, rvE_length]; omega)) <;> (try simp -implicitDefEqProofs (disch := omega) only [go_sem, eq_self, decide_true, decide_false, Nat.reduceBEq, Nat.reduceAdd, Nat.reduceSub, Nat.reduceMul, Nat.reduceEqDiff, Nat.reduceLeDiff, Nat.reduceLT, Int.reduceLE, Int.reduceLT, Int.reduceToNat, Int.reduceAdd, Int.reduceEq, Int.reduceNeg, AH.put_ne, vE_length, h0, if_true])))
        all_goals (refine drop_end (by (first | exact fun _ _ h => h | (intro s x h; first | exact no_sub _ h | exact nil_no _ h | exact AccP.sub (by assumption) _ _ h | (refine agg_sub rfl ?_ x h; repeat (first | exact .nil | refine .cons (fun _ h => h) ?_ | refine .cons (fun _ h => nil_no _ h) ?_ | refine .cons (fun _ h => no_sub _ h) ?_ | refine .cons (fun _ h => AccP.sub (by assumption) _ _ h) ?_)) | (refine tuple_sub ?_ x h; repeat (first | exact .nil | refine .cons (fun _ h => h) ?_ | refine .cons (fun _ h => nil_no _ h) ?_ | refine .cons (fun _ h => no_sub _ h) ?_ | refine .cons (fun _ h => AccP.sub (by assumption) _ _ h) ?_ | refine .cons (fun _ h => agg_sub rfl (by repeat (first | exact .nil | refine .cons (fun _ h => h) ?_ | refine .cons (fun _ h => nil_no _ h) ?_ | refine .cons (fun _ h => no_sub _ h) ?_ | refine .cons (fun _ h => AccP.sub (by assumption) _ _ h) ?_)) _ h) ?_))))) (by (repeat (first | exact AH.le_refl _ | assumption | exact AccP.le (by assumption) | refine AH.le_put ?_ (by first | assumption | exact none_of_le (by assumption) (by assumption) | exact And.right (by assumption) | exact And.right (And.right (by assumption))) _ | refine AH.le_trans ?_ (AccP.le (by assumption))))))
    | _ => cases h
  · rw [if_neg hs] at h
    cases v with
    | map es =>
      simp only at h
      rw [vV_map]
      cases hf : fnd k es with
      | none =>
        rw [hf] at h; cases h
        rw [vV_nul]
        repeat' (first | with_reducible (first | refine am_seq ?_ | refine am_block ?_) | ((with_reducible apply am_cond); (case hb => rfl); all_goals (intro hc; (try simp only [reduceCtorEq, decide_eq_true_eq, decide_eq_false_iff_not, Bool.or_eq_true, Bool.and_eq_true, Bool.or_eq_false_iff, Bool.not_eq_true', Bool.not_eq_false', beq_iff_eq] at hc); (try (exfalso; omega)))) | ((first | with_reducible (first | refine am_reg ?_ | refine am_drw ?_ | refine am_drx ?_ | refine am_skip ?_ | refine am_exit ?_ | refine am_ret ?_ | refine And.intro (by first | exact AH.lec_refl _ | assumption | exact AccP.lec (by assumption) | omega) ?_ | refine isnE_of (fun hc => ?_) (fun hc => ?_) (fun hc => ?_) | refine need_elems (by assumption) ?_ | refine vlen_acc (by assumption) ?_ | refine need_bytes (by assumption) ?_ | refine need_look (by repeat (first | assumption | exact AH.put_same _ _ _ | refine look_put ?_ (by assumption) | refine look_lec ?_ (by assumption))) ?_) | ((with_reducible (first | refine gd_not (fun hc => ?_) (fun hc => ?_) | refine gd_of (fun hc => ?_) (fun hc => ?_) | refine gq_not (fun hc => ?_) (fun hc => ?_) | refine gq_of (fun hc => ?_) (fun hc => ?_) | refine pickB_of (fun hc => ?_) (fun hc => ?_))) <;> (try simp -implicitDefEqProofs (disch := omega) only [go_sem, eq_self, decide_true, decide_false, Nat.reduceBEq, Nat.reduceAdd, Nat.reduceSub, Nat.reduceMul, Nat.reduceEqDiff, Nat.reduceLeDiff, Nat.reduceLT, Int.reduceLE, Int.reduceLT, Int.reduceToNat, Int.reduceAdd, Int.reduceEq, Int.reduceNeg, AH.put_ne, hc, mE_find, hf, hs, if_true, Option.map_none]) <;> (try simp only [reduceCtorEq, decide_eq_true_eq, decide_eq_false_iff_not, Bool.or_eq_true, Bool.and_eq_true, Bool.or_eq_false_iff, Bool.not_eq_true', Bool.not_eq_false', beq_iff_eq] at hc) <;> (try (exfalso; omega))) | ((with_reducible refine alloc_intro (fun ko hko => ?_)) <;> (try have hne := fresh_ne (by assumption) hko) <;> (try have hnk := fresh_ne hk hko) <;> (try have hnk2 := fresh_ne hk2 hko) <;> (try simp only [AH.put_none] at hko)) | ((with_reducible (first | refine vapp_accL (by assumption) ?_ (fun v2 H2 hacc hlec => ?_) | refine vapp_accL (AccP.mono (by assumption) (AccP.le (by assumption))) ?_ (fun v2 H2 hacc hlec => ?_) | refine vapp_accL (AccP.new (by assumption) (by assumption) _) ?_ (fun v2 H2 hacc hlec => ?_))); · simp only [byteCells_length, List.length_cons, List.length_nil, List.length_map, List.length_append, vE_length, mE_length, strE_len, List.length_take, rvE_length]; omega)) <;> (try simp -implicitDefEqProofs (disch := omega) only [go_sem, eq_self, decide_true, decide_false, Nat.reduceBEq, Nat.reduceAdd, Nat.reduceSub, Nat.reduceMul, Nat.reduceEqDiff, Nat.reduceLeDiff, Nat.reduceLT, Int.reduceLE, Int.reduceLT, Int.reduceToNat, Int.reduceAdd, Int.reduceEq, Int.reduceNeg, AH.put_ne, mE_find, hf, hs, if_true, Option.map_none])))
        all_goals first | exact absurd ⟨by assumption, by assumption⟩ hs | (refine ⟨fun h => h.elim, fun _ => AH.lec_of_le (AH.le_put (AH.le_refl _) (by rw [AH.put_none]; exact hko) _), ?_⟩)
        all_goals rename_i kz hkz _
        all_goals have q1 := Ne.symm hko.1
        all_goals have q2 : kz ≠ ko := q1
        all_goals repeat' (first | with_reducible (first | refine am_seq ?_ | refine am_block ?_) | ((with_reducible apply am_cond); (case hb => rfl); all_goals (intro hc; (try simp only [reduceCtorEq, decide_eq_true_eq, decide_eq_false_iff_not, Bool.or_eq_true, Bool.and_eq_true, Bool.or_eq_false_iff, Bool.not_eq_true', Bool.not_eq_false', beq_iff_eq] at hc); (try (exfalso; omega)))) | ((first | with_reducible (first | refine am_reg ?_ | refine am_drw ?_ | refine am_drx ?_ | refine am_skip ?_ | refine am_exit ?_ | refine am_ret ?_ | refine And.intro (by first | exact AH.lec_refl _ | assumption | exact AccP.lec (by assumption) | omega) ?_ | refine isnE_of (fun hc => ?_) (fun hc => ?_) (fun hc => ?_) | refine need_elems (by assumption) ?_ | refine vlen_acc (by assumption) ?_ | refine need_bytes (by assumption) ?_ | refine need_look (by repeat (first | assumption | exact AH.put_same _ _ _ | refine look_put ?_ (by assumption) | refine look_lec ?_ (by assumption))) ?_) | ((with_reducible (first | refine gd_not (fun hc => ?_) (fun hc => ?_) | refine gd_of (fun hc => ?_) (fun hc => ?_) | refine gq_not (fun hc => ?_) (fun hc => ?_) | refine gq_of (fun hc => ?_) (fun hc => ?_) | refine pickB_of (fun hc => ?_) (fun hc => ?_))) <;> (try simp -implicitDefEqProofs (disch := omega) only [go_sem, eq_self, decide_true, decide_false, Nat.reduceBEq, Nat.reduceAdd, Nat.reduceSub, Nat.reduceMul, Nat.reduceEqDiff, Nat.reduceLeDiff, Nat.reduceLT, Int.reduceLE, Int.reduceLT, Int.reduceToNat, Int.reduceAdd, Int.reduceEq, Int.reduceNeg, AH.put_ne, hc, AH.put_same, AH.put_ne _ _ q1, Bool.not_true, Bool.not_false]) <;> (try simp only [reduceCtorEq, decide_eq_true_eq, decide_eq_false_iff_not, Bool.or_eq_true, Bool.and_eq_true, Bool.or_eq_false_iff, Bool.not_eq_true', Bool.not_eq_false', beq_iff_eq] at hc) <;> (try (exfalso; omega))) | ((with_reducible refine alloc_intro (fun ko hko => ?_)) <;> (try have hne := fresh_ne (by assumption) hko) <;> (try have hnk := fresh_ne hk hko) <;> (try have hnk2 := fresh_ne hk2 hko) <;> (try simp only [AH.put_none] at hko)) | ((with_reducible (first | refine vapp_accL (by assumption) ?_ (fun v2 H2 hacc hlec => ?_) | refine vapp_accL (AccP.mono (by assumption) (AccP.le (by assumption))) ?_ (fun v2 H2 hacc hlec => ?_) | refine vapp_accL (AccP.new (by assumption) (by assumption) _) ?_ (fun v2 H2 hacc hlec => ?_))); · simp only [byteCells_length, List.length_cons, List.length_nil, List.length_map, List.length_append, vE_length, mE_length, strE_len, List.length_take, rvE_length]; omega)) <;> (try simp -implicitDefEqProofs (disch := omega) only [go_sem, eq_self, decide_true, decide_false, Nat.reduceBEq, Nat.reduceAdd, Nat.reduceSub, Nat.reduceMul, Nat.reduceEqDiff, Nat.reduceLeDiff, Nat.reduceLT, Int.reduceLE, Int.reduceLT, Int.reduceToNat, Int.reduceAdd, Int.reduceEq, Int.reduceNeg, AH.put_ne, AH.put_same, AH.put_ne _ _ q1, Bool.not_true, Bool.not_false])))
        all_goals first | (refine drop_end (by (first | exact fun _ _ h => h | (intro s x h; first | exact no_sub _ h | exact nil_no _ h | exact AccP.sub (by assumption) _ _ h | (refine agg_sub rfl ?_ x h; repeat (first | exact .nil | refine .cons (fun _ h => h) ?_ | refine .cons (fun _ h => nil_no _ h) ?_ | refine .cons (fun _ h => no_sub _ h) ?_ | refine .cons (fun _ h => AccP.sub (by assumption) _ _ h) ?_)) | (refine tuple_sub ?_ x h; repeat (first | exact .nil | refine .cons (fun _ h => h) ?_ | refine .cons (fun _ h => nil_no _ h) ?_ | refine .cons (fun _ h => no_sub _ h) ?_ | refine .cons (fun _ h => AccP.sub (by assumption) _ _ h) ?_ | refine .cons (fun _ h => agg_sub rfl (by repeat (first | exact .nil | refine .cons (fun _ h => h) ?_ | refine .cons (fun _ h => nil_no _ h) ?_ | refine .cons (fun _ h => no_sub _ h) ?_ | refine .cons (fun _ h => AccP.sub (by assumption) _ _ h) ?_)) _ h) ?_))))) (by (repeat (first | exact AH.le_refl _ | assumption | exact AccP.le (by assumption) | refine AH.le_put ?_ (by first | assumption | exact none_of_le (by assumption) (by assumption) | exact And.right (by assumption) | exact And.right (And.right (by assumption))) _ | refine AH.le_trans ?_ (AccP.le (by assumption)))))) | exact drop_end (fun _ _ h => h) (AH.le_put (AH.le_put (AH.le_put (AH.le_refl _) hkz _) hko.2 _) hkz _)
      | some y =>
        rw [hf] at h; cases h
        repeat' (first | with_reducible (first | refine am_seq ?_ | refine am_block ?_) | ((with_reducible apply am_cond); (case hb => rfl); all_goals (intro hc; (try simp only [reduceCtorEq, decide_eq_true_eq, decide_eq_false_iff_not, Bool.or_eq_true, Bool.and_eq_true, Bool.or_eq_false_iff, Bool.not_eq_true', Bool.not_eq_false', beq_iff_eq] at hc); (try (exfalso; omega)))) | ((first | with_reducible (first | refine am_reg ?_ | refine am_drw ?_ | refine am_drx ?_ | refine am_skip ?_ | refine am_exit ?_ | refine am_ret ?_ | refine And.intro (by first | exact AH.lec_refl _ | assumption | exact AccP.lec (by assumption) | omega) ?_ | refine isnE_of (fun hc => ?_) (fun hc => ?_) (fun hc => ?_) | refine need_elems (by assumption) ?_ | refine vlen_acc (by assumption) ?_ | refine need_bytes (by assumption) ?_ | refine need_look (by repeat (first | assumption | exact AH.put_same _ _ _ | refine look_put ?_ (by assumption) | refine look_lec ?_ (by assumption))) ?_) | ((with_reducible (first | refine gd_not (fun hc => ?_) (fun hc => ?_) | refine gd_of (fun hc => ?_) (fun hc => ?_) | refine gq_not (fun hc => ?_) (fun hc => ?_) | refine gq_of (fun hc => ?_) (fun hc => ?_) | refine pickB_of (fun hc => ?_) (fun hc => ?_))) <;> (try simp -implicitDefEqProofs (disch := omega) only [go_sem, eq_self, decide_true, decide_false, Nat.reduceBEq, Nat.reduceAdd, Nat.reduceSub, Nat.reduceMul, Nat.reduceEqDiff, Nat.reduceLeDiff, Nat.reduceLT, Int.reduceLE, Int.reduceLT, Int.reduceToNat, Int.reduceAdd, Int.reduceEq, Int.reduceNeg, AH.put_ne, hc, mE_find, hf, hs, if_true, Option.map_none]) <;> (try simp only [reduceCtorEq, decide_eq_true_eq, decide_eq_false_iff_not, Bool.or_eq_true, Bool.and_eq_true, Bool.or_eq_false_iff, Bool.not_eq_true', Bool.not_eq_false', beq_iff_eq] at hc) <;> (try (exfalso; omega))) | ((with_reducible refine alloc_intro (fun ko hko => ?_)) <;> (try have hne := fresh_ne (by assumption) hko) <;> (try have hnk := fresh_ne hk hko) <;> (try have hnk2 := fresh_ne hk2 hko) <;> (try simp only [AH.put_none] at hko)) | ((with_reducible (first | refine vapp_accL (by assumption) ?_ (fun v2 H2 hacc hlec => ?_) | refine vapp_accL (AccP.mono (by assumption) (AccP.le (by assumption))) ?_ (fun v2 H2 hacc hlec => ?_) | refine vapp_accL (AccP.new (by assumption) (by assumption) _) ?_ (fun v2 H2 hacc hlec => ?_))); · simp only [byteCells_length, List.length_cons, List.length_nil, List.length_map, List.length_append, vE_length, mE_length, strE_len, List.length_take, rvE_length]; omega)) <;> (try simp -implicitDefEqProofs (disch := omega) only [go_sem, eq_self, decide_true, decide_false, Nat.reduceBEq, Nat.reduceAdd, Nat.reduceSub, Nat.reduceMul, Nat.reduceEqDiff, Nat.reduceLeDiff, Nat.reduceLT, Int.reduceLE, Int.reduceLT, Int.reduceToNat, Int.reduceAdd, Int.reduceEq, Int.reduceNeg, AH.put_ne, mE_find, hf, hs, if_true, Option.map_none])))
        all_goals first | exact absurd ⟨by assumption, by assumption⟩ hs | (refine ⟨fun h => h.elim, fun _ => AH.lec_of_le (AH.le_put (AH.le_refl _) (by rw [AH.put_none]; exact hko) _), ?_⟩)
        all_goals rename_i kz hkz _
        all_goals have q1 := Ne.symm hko.1
        all_goals have q2 : kz ≠ ko := q1
        all_goals repeat' (first | with_reducible (first | refine am_seq ?_ | refine am_block ?_) | ((with_reducible apply am_cond); (case hb => rfl); all_goals (intro hc; (try simp only [reduceCtorEq, decide_eq_true_eq, decide_eq_false_iff_not, Bool.or_eq_true, Bool.and_eq_true, Bool.or_eq_false_iff, Bool.not_eq_true', Bool.not_eq_false', beq_iff_eq] at hc); (try (exfalso; omega)))) | ((first | with_reducible (first | refine am_reg ?_ | refine am_drw ?_ | refine am_drx ?_ | refine am_skip ?_ | refine am_exit ?_ | refine am_ret ?_ | refine And.intro (by first | exact AH.lec_refl _ | assumption | exact AccP.lec (by assumption) | omega) ?_ | refine isnE_of (fun hc => ?_) (fun hc => ?_) (fun hc => ?_) | refine need_elems (by assumption) ?_ | refine vlen_acc (by assumption) ?_ | refine need_bytes (by assumption) ?_ | refine need_look (by repeat (first | assumption | exact AH.put_same _ _ _ | refine look_put ?_ (by assumption) | refine look_lec ?_ (by assumption))) ?_) | ((with_reducible (first | refine gd_not (fun hc => ?_) (fun hc => ?_) | refine gd_of (fun hc => ?_) (fun hc => ?_) | refine gq_not (fun hc => ?_) (fun hc => ?_) | refine gq_of (fun hc => ?_) (fun hc => ?_) | refine pickB_of (fun hc => ?_) (fun hc => ?_))) <;> (try simp -implicitDefEqProofs (disch := omega) only [go_sem, eq_self, decide_true, decide_false, Nat.reduceBEq, Nat.reduceAdd, Nat.reduceSub, Nat.reduceMul, Nat.reduceEqDiff, Nat.reduceLeDiff, Nat.reduceLT, Int.reduceLE, Int.reduceLT, Int.reduceToNat, Int.reduceAdd, Int.reduceEq, Int.reduceNeg, AH.put_ne, hc, AH.put_same, AH.put_ne _ _ q1, Bool.not_true, Bool.not_false]) <;> (try simp only [reduceCtorEq, decide_eq_true_eq, decide_eq_false_iff_not, Bool.or_eq_true, Bool.and_eq_true, Bool.or_eq_false_iff, Bool.not_eq_true', Bool.not_eq_false', beq_iff_eq] at hc) <;> (try (exfalso; omega))) | ((with_reducible refine alloc_intro (fun ko hko => ?_)) <;> (try have hne := fresh_ne (by assumption) hko) <;> (try have hnk := fresh_ne hk hko) <;> (try have hnk2 := fresh_ne hk2 hko) <;> (try simp only [AH.put_none] at hko)) | ((with_reducible (first | refine vapp_accL (by assumption) ?_ (fun v2 H2 hacc hlec => ?_) | refine vapp_accL (AccP.mono (by assumption) (AccP.le (by assumption))) ?_ (fun v2 H2 hacc hlec => ?_) | refine vapp_accL (AccP.new (by assumption) (by assumption) _) ?_ (fun v2 H2 hacc hlec => ?_))); · simp only [byteCells_length, List.length_cons, List.length_nil, List.length_map, List.length_append, vE_length, mE_length, strE_len, List.length_take, rvE_length]; omega)) <;> (try simp -implicitDefEqProofs (disch := omega) only [go_sem, eq_self, decide_true, decide_false, Nat.reduceBEq, Nat.reduceAdd, Nat.reduceSub, Nat.reduceMul, Nat.reduceEqDiff, Nat.reduceLeDiff, Nat.reduceLT, Int.reduceLE, Int.reduceLT, Int.reduceToNat, Int.reduceAdd, Int.reduceEq, Int.reduceNeg, AH.put_ne, AH.put_same, AH.put_ne _ _ q1, Bool.not_true, Bool.not_false])))
        all_goals first | (refine drop_end (by (first | exact fun _ _ h => h | (intro s x h; first | exact no_sub _ h | exact nil_no _ h | exact AccP.sub (by assumption) _ _ h | (refine agg_sub rfl ?_ x h; repeat (first | exact .nil | refine .cons (fun _ h => h) ?_ | refine .cons (fun _ h => nil_no _ h) ?_ | refine .cons (fun _ h => no_sub _ h) ?_ | refine .cons (fun _ h => AccP.sub (by assumption) _ _ h) ?_)) | (refine tuple_sub ?_ x h; repeat (first | exact .nil | refine .cons (fun _ h => h) ?_ | refine .cons (fun _ h => nil_no _ h) ?_ | refine .cons (fun _ h => no_sub _ h) ?_ | refine .cons (fun _ h => AccP.sub (by assumption) _ _ h) ?_ | refine .cons (fun _ h => agg_sub rfl (by repeat (first | exact .nil | refine .cons (fun _ h => h) ?_ | refine .cons (fun _ h => nil_no _ h) ?_ | refine .cons (fun _ h => no_sub _ h) ?_ | refine .cons (fun _ h => AccP.sub (by assumption) _ _ h) ?_)) _ h) ?_))))) (by (repeat (first | exact AH.le_refl _ | assumption | exact AccP.le (by assumption) | refine AH.le_put ?_ (by first | assumption | exact none_of_le (by assumption) (by assumption) | exact And.right (by assumption) | exact And.right (And.right (by assumption))) _ | refine AH.le_trans ?_ (AccP.le (by assumption)))))) | exact drop_end (fun _ _ h => h) (AH.le_put (AH.le_put (AH.le_put (AH.le_refl _) hkz _) hko.2 _) hkz _)
    | _ => cases h
theorem into_pan {v : Vl} {k : List UInt8} {n : Int} (h : v.into k n = none) (H : AH) : ACalls Try.prog 113 [.agg [vV v], .agg [.str k, .int .i64 n]] H (fun o H' => o = .pan ∧ H' = H) := by
  refine acalls_dropP ?_
  refine acalls Try.func113 c113 r113 (by simp [Try.ntmps113]) ?_
  unfold Vl.into at h
  by_cases hs : 0 ≤ n ∧ k = []
  · rw [if_pos hs] at h
    obtain ⟨h0, rfl⟩ := hs
    obtain ⟨V0, hv, hne⟩ : ∃ V0, vV v = V0 ∧ panK 129 V0 := by
      cases v with
      | list l => simp only at h; split at h <;> cases h
      | nul => exact ⟨_, vV_nul, trivial⟩
      | unk => exact ⟨_, vV_unk, by simp [panK]⟩
      | bool b => exact ⟨_, vV_bool b, by simp [panK]⟩
      | int b => exact ⟨_, vV_int b, by simp [panK]⟩
      | pt a b => exact ⟨_, vV_pt a b, by simp [panK]⟩
      | text b => exact ⟨_, vV_text b, by simp [panK]⟩
      | map b => exact ⟨_, vV_map b, by simp [panK]⟩
    rw [hv]
    cases V0 <;> simp only [panK] at hne <;> try exact hne.elim
    · repeat' (first | with_reducible (first | refine am_seq ?_ | refine am_block ?_) | ((with_reducible apply am_cond); (case hb => rfl); all_goals (intro hc; (try simp only [reduceCtorEq, decide_eq_true_eq, decide_eq_false_iff_not, Bool.or_eq_true, Bool.and_eq_true, Bool.or_eq_false_iff, Bool.not_eq_true', Bool.not_eq_false', beq_iff_eq] at hc); (try (exfalso; omega)))) | ((first | with_reducible (first | refine am_reg ?_ | refine am_drw ?_ | refine am_drx ?_ | refine am_skip ?_ | refine am_exit ?_ | refine am_ret ?_ | refine And.intro (by first | exact AH.lec_refl _ | assumption | exact AccP.lec (by assumption) | omega) ?_ | refine isnE_of (fun hc => ?_) (fun hc => ?_) (fun hc => ?_) | refine need_elems (by assumption) ?_ | refine vlen_acc (by assumption) ?_ | refine need_bytes (by assumption) ?_ | refine need_look (by repeat (first | assumption | exact AH.put_same _ _ _ | refine look_put ?_ (by assumption) | refine look_lec ?_ (by assumption))) ?_) | ((with_reducible (first | refine gd_not (fun hc => ?_) (fun hc => ?_) | refine gd_of (fun hc => ?_) (fun hc => ?_) | refine gq_not (fun hc => ?_) (fun hc => ?_) | refine gq_of (fun hc => ?_) (fun hc => ?_) | refine pickB_of (fun hc => ?_) (fun hc => ?_))) <;> (try simp -implicitDefEqProofs (disch := omega) only [go_sem, eq_self, decide_true, decide_false, Nat.reduceBEq, Nat.reduceAdd, Nat.reduceSub, Nat.reduceMul, Nat.reduceEqDiff, Nat.reduceLeDiff, Nat.reduceLT, Int.reduceLE, Int.reduceLT, Int.reduceToNat, Int.reduceAdd, Int.reduceEq, Int.reduceNeg, AH.put_ne, hc, h0, hne, if_true]) <;> (try simp only [reduceCtorEq, decide_eq_true_eq, decide_eq_false_iff_not, Bool.or_eq_true, Bool.and_eq_true, Bool.or_eq_false_iff, Bool.not_eq_true', Bool.not_eq_false', beq_iff_eq] at hc) <;> (try (exfalso; omega))) | ((with_reducible refine alloc_intro (fun ko hko => ?_)) <;> (try have hne := fresh_ne (by assumption) hko) <;> (try have hnk := fresh_ne hk hko) <;> (try have hnk2 := fresh_ne hk2 hko) <;> (try simp only [AH.put_none] at hko)) | ((with_reducible (first | refine vapp_accL (by assumption) ?_ (fun v2 H2 hacc hlec => ?_) | refine vapp_accL (AccP.mono (by assumption) (AccP.le (by assumption))) ?_ (fun v2 H2 hacc hlec => ?_) | refine vapp_accL (AccP.new (by assumption) (by assumption) _) ?_ (fun v2 H2 hacc hlec => ?_))); · simp only [byteCells_length, List.length_cons, List.length_nil, List.length_map, List.length_append, vE_length, mE_length, strE_len, List.length_take, rvE_length]; omega)) <;> (try simp -implicitDefEqProofs (disch := omega) only [go_sem, eq_self, decide_true, decide_false, Nat.reduceBEq, Nat.reduceAdd, Nat.reduceSub, Nat.reduceMul, Nat.reduceEqDiff, Nat.reduceLeDiff, Nat.reduceLT, Int.reduceLE, Int.reduceLT, Int.reduceToNat, Int.reduceAdd, Int.reduceEq, Int.reduceNeg, AH.put_ne, h0, hne, if_true])))
      all_goals exact AH.le_put (AH.le_refl _) hko _
    · repeat' (first | with_reducible (first | refine am_seq ?_ | refine am_block ?_) | ((with_reducible apply am_cond); (case hb => rfl); all_goals (intro hc; (try simp only [reduceCtorEq, decide_eq_true_eq, decide_eq_false_iff_not, Bool.or_eq_true, Bool.and_eq_true, Bool.or_eq_false_iff, Bool.not_eq_true', Bool.not_eq_false', beq_iff_eq] at hc); (try (exfalso; omega)))) | ((first | with_reducible (first | refine am_reg ?_ | refine am_drw ?_ | refine am_drx ?_ | refine am_skip ?_ | refine am_exit ?_ | refine am_ret ?_ | refine And.intro (by first | exact AH.lec_refl _ | assumption | exact AccP.lec (by assumption) | omega) ?_ | refine isnE_of (fun hc => ?_) (fun hc => ?_) (fun hc => ?_) | refine need_elems (by assumption) ?_ | refine vlen_acc (by assumption) ?_ | refine need_bytes (by assumption) ?_ | refine need_look (by repeat (first | assumption | exact AH.put_same _ _ _ | refine look_put ?_ (by assumption) | refine look_lec ?_ (by assumption))) ?_) | ((with_reducible (first | refine gd_not (fun hc => ?_) (fun hc => ?_) | refine gd_of (fun hc => ?_) (fun hc => ?_) | refine gq_not (fun hc => ?_) (fun hc => ?_) | refine gq_of (fun hc => ?_) (fun hc => ?_) | refine pickB_of (fun hc => ?_) (fun hc => ?_))) <;> (try simp -implicitDefEqProofs (disch := omega) only [go_sem, eq_self, decide_true, decide_false, Nat.reduceBEq, Nat.reduceAdd, Nat.reduceSub, Nat.reduceMul, Nat.reduceEqDiff, Nat.reduceLeDiff, Nat.reduceLT, Int.reduceLE, Int.reduceLT, Int.reduceToNat, Int.reduceAdd, Int.reduceEq, Int.reduceNeg, AH.put_ne, hc, h0, hne, if_true]) <;> (try simp only [reduceCtorEq, decide_eq_true_eq, decide_eq_false_iff_not, Bool.or_eq_true, Bool.and_eq_true, Bool.or_eq_false_iff, Bool.not_eq_true', Bool.not_eq_false', beq_iff_eq] at hc) <;> (try (exfalso; omega))) | ((with_reducible refine alloc_intro (fun ko hko => ?_)) <;> (try have hne := fresh_ne (by assumption) hko) <;> (try have hnk := fresh_ne hk hko) <;> (try have hnk2 := fresh_ne hk2 hko) <;> (try simp only [AH.put_none] at hko)) | ((with_reducible (first | refine vapp_accL (by assumption) ?_ (fun v2 H2 hacc hlec => ?_) | refine vapp_accL (AccP.mono (by assumption) (AccP.le (by assumption))) ?_ (fun v2 H2 hacc hlec => ?_) | refine vapp_accL (AccP.new (by assumption) (by assumption) _) ?_ (fun v2 H2 hacc hlec => ?_))); · simp only [byteCells_length, List.length_cons, List.length_nil, List.length_map, List.length_append, vE_length, mE_length, strE_len, List.length_take, rvE_length]; omega)) <;> (try simp -implicitDefEqProofs (disch := omega) only [go_sem, eq_self, decide_true, decide_false, Nat.reduceBEq, Nat.reduceAdd, Nat.reduceSub, Nat.reduceMul, Nat.reduceEqDiff, Nat.reduceLeDiff, Nat.reduceLT, Int.reduceLE, Int.reduceLT, Int.reduceToNat, Int.reduceAdd, Int.reduceEq, Int.reduceNeg, AH.put_ne, h0, hne, if_true])))
      all_goals exact AH.le_put (AH.le_refl _) hko _
  · rw [if_neg hs] at h
    obtain ⟨V0, hv, hne⟩ : ∃ V0, vV v = V0 ∧ panK 131 V0 := by
      cases v with
      | map l => simp only at h; split at h <;> cases h
      | nul => exact ⟨_, vV_nul, trivial⟩
      | unk => exact ⟨_, vV_unk, by simp [panK]⟩
      | bool b => exact ⟨_, vV_bool b, by simp [panK]⟩
      | int b => exact ⟨_, vV_int b, by simp [panK]⟩
      | pt a b => exact ⟨_, vV_pt a b, by simp [panK]⟩
      | text b => exact ⟨_, vV_text b, by simp [panK]⟩
      | list b => exact ⟨_, vV_list b, by simp [panK]⟩
    rw [hv]
    cases V0 <;> simp only [panK] at hne <;> try exact hne.elim
    · repeat' (first | (((with_reducible refine am_pan [.ok, .ok, .pan, .ok, .ok, .bad, .bad, .bad, .bad, .bad] ?_); (simp -implicitDefEqProofs (disch := omega) only [go_sem, eq_self, decide_true, decide_false, Nat.reduceBEq, Nat.reduceAdd, Nat.reduceSub, Nat.reduceMul, Nat.reduceEqDiff, Nat.reduceLeDiff, Nat.reduceLT, Int.reduceLE, Int.reduceLT, Int.reduceToNat, Int.reduceAdd, Int.reduceEq, Int.reduceNeg, AH.put_ne, hne]))) | with_reducible (first | refine am_seq ?_ | refine am_block ?_) | ((with_reducible apply am_cond); (case hb => rfl); all_goals (intro hc; (try simp only [reduceCtorEq, decide_eq_true_eq, decide_eq_false_iff_not, Bool.or_eq_true, Bool.and_eq_true, Bool.or_eq_false_iff, Bool.not_eq_true', Bool.not_eq_false', beq_iff_eq] at hc); (try (exfalso; omega)))) | ((first | with_reducible (first | refine am_reg ?_ | refine am_drw ?_ | refine am_drx ?_ | refine am_skip ?_ | refine am_exit ?_ | refine am_ret ?_ | refine And.intro (by first | exact AH.lec_refl _ | assumption | exact AccP.lec (by assumption) | omega) ?_ | refine isnE_of (fun hc => ?_) (fun hc => ?_) (fun hc => ?_) | refine need_elems (by assumption) ?_ | refine vlen_acc (by assumption) ?_ | refine need_bytes (by assumption) ?_ | refine need_look (by repeat (first | assumption | exact AH.put_same _ _ _ | refine look_put ?_ (by assumption) | refine look_lec ?_ (by assumption))) ?_) | ((with_reducible (first | refine gd_not (fun hc => ?_) (fun hc => ?_) | refine gd_of (fun hc => ?_) (fun hc => ?_) | refine gq_not (fun hc => ?_) (fun hc => ?_) | refine gq_of (fun hc => ?_) (fun hc => ?_) | refine pickB_of (fun hc => ?_) (fun hc => ?_))) <;> (try simp -implicitDefEqProofs (disch := omega) only [go_sem, eq_self, decide_true, decide_false, Nat.reduceBEq, Nat.reduceAdd, Nat.reduceSub, Nat.reduceMul, Nat.reduceEqDiff, Nat.reduceLeDiff, Nat.reduceLT, Int.reduceLE, Int.reduceLT, Int.reduceToNat, Int.reduceAdd, Int.reduceEq, Int.reduceNeg, AH.put_ne, hc, hs, hne, if_true]) <;> (try simp only [reduceCtorEq, decide_eq_true_eq, decide_eq_false_iff_not, Bool.or_eq_true, Bool.and_eq_true, Bool.or_eq_false_iff, Bool.not_eq_true', Bool.not_eq_false', beq_iff_eq] at hc) <;> (try (exfalso; omega))) | ((with_reducible refine alloc_intro (fun ko hko => ?_)) <;> (try have hne := fresh_ne (by assumption) hko) <;> (try have hnk := fresh_ne hk hko) <;> (try have hnk2 := fresh_ne hk2 hko) <;> (try simp only [AH.put_none] at hko)) | ((with_reducible (first | refine vapp_accL (by assumption) ?_ (fun v2 H2 hacc hlec => ?_) | refine vapp_accL (AccP.mono (by assumption) (AccP.le (by assumption))) ?_ (fun v2 H2 hacc hlec => ?_) | refine vapp_accL (AccP.new (by assumption) (by assumption) _) ?_ (fun v2 H2 hacc hlec => ?_))); · simp only [byteCells_length, List.length_cons, List.length_nil, List.length_map, List.length_append, vE_length, mE_length, strE_len, List.length_take, rvE_length]; omega)) <;> (try simp -implicitDefEqProofs (disch := omega) only [go_sem, eq_self, decide_true, decide_false, Nat.reduceBEq, Nat.reduceAdd, Nat.reduceSub, Nat.reduceMul, Nat.reduceEqDiff, Nat.reduceLeDiff, Nat.reduceLT, Int.reduceLE, Int.reduceLT, Int.reduceToNat, Int.reduceAdd, Int.reduceEq, Int.reduceNeg, AH.put_ne, hs, hne, if_true])))
      all_goals first | exact absurd ⟨by assumption, by assumption⟩ hs | exact ⟨fun G hG => AH.le_trans (AH.le_put (AH.le_refl _) hko _) hG, rfl, rfl, rfl, rfl, rfl, rfl⟩
    · repeat' (first | (((with_reducible refine am_pan [.ok, .ok, .pan, .ok, .ok, .bad, .bad, .bad, .bad, .bad] ?_); (simp -implicitDefEqProofs (disch := omega) only [go_sem, eq_self, decide_true, decide_false, Nat.reduceBEq, Nat.reduceAdd, Nat.reduceSub, Nat.reduceMul, Nat.reduceEqDiff, Nat.reduceLeDiff, Nat.reduceLT, Int.reduceLE, Int.reduceLT, Int.reduceToNat, Int.reduceAdd, Int.reduceEq, Int.reduceNeg, AH.put_ne, hne]))) | with_reducible (first | refine am_seq ?_ | refine am_block ?_) | ((with_reducible apply am_cond); (case hb => rfl); all_goals (intro hc; (try simp only [reduceCtorEq, decide_eq_true_eq, decide_eq_false_iff_not, Bool.or_eq_true, Bool.and_eq_true, Bool.or_eq_false_iff, Bool.not_eq_true', Bool.not_eq_false', beq_iff_eq] at hc); (try (exfalso; omega)))) | ((first | with_reducible (first | refine am_reg ?_ | refine am_drw ?_ | refine am_drx ?_ | refine am_skip ?_ | refine am_exit ?_ | refine am_ret ?_ | refine And.intro (by first | exact AH.lec_refl _ | assumption | exact AccP.lec (by assumption) | omega) ?_ | refine isnE_of (fun hc => ?_) (fun hc => ?_) (fun hc => ?_) | refine need_elems (by assumption) ?_ | refine vlen_acc (by assumption) ?_ | refine need_bytes (by assumption) ?_ | refine need_look (by repeat (first | assumption | exact AH.put_same _ _ _ | refine look_put ?_ (by assumption) | refine look_lec ?_ (by assumption))) ?_) | ((with_reducible (first | refine gd_not (fun hc => ?_) (fun hc => ?_) | refine gd_of (fun hc => ?_) (fun hc => ?_) | refine gq_not (fun hc => ?_) (fun hc => ?_) | refine gq_of (fun hc => ?_) (fun hc => ?_) | refine pickB_of (fun hc => ?_) (fun hc => ?_))) <;> (try simp -implicitDefEqProofs (disch := omega) only [go_sem, eq_self, decide_true, decide_false, Nat.reduceBEq, Nat.reduceAdd, Nat.reduceSub, Nat.reduceMul, Nat.reduceEqDiff, Nat.reduceLeDiff, Nat.reduceLT, Int.reduceLE, Int.reduceLT, Int.reduceToNat, Int.reduceAdd, Int.reduceEq, Int.reduceNeg, AH.put_ne, hc, hs, hne, if_true]) <;> (try simp only [reduceCtorEq, decide_eq_true_eq, decide_eq_false_iff_not, Bool.or_eq_true, Bool.and_eq_true, Bool.or_eq_false_iff, Bool.not_eq_true', Bool.not_eq_false', beq_iff_eq] at hc) <;> (try (exfalso; omega))) | ((with_reducible refine alloc_intro (fun ko hko => ?_)) <;> (try have hne := fresh_ne (by assumption) hko) <;> (try have hnk := fresh_ne hk hko) <;> (try have hnk2 := fresh_ne hk2 hko) <;> (try simp only [AH.put_none] at hko)) | ((with_reducible (first | refine vapp_accL (by assumption) ?_ (fun v2 H2 hacc hlec => ?_) | refine vapp_accL (AccP.mono (by assumption) (AccP.le (by assumption))) ?_ (fun v2 H2 hacc hlec => ?_) | refine vapp_accL (AccP.new (by assumption) (by assumption) _) ?_ (fun v2 H2 hacc hlec => ?_))); · simp only [byteCells_length, List.length_cons, List.length_nil, List.length_map, List.length_append, vE_length, mE_length, strE_len, List.length_take, rvE_length]; omega)) <;> (try simp -implicitDefEqProofs (disch := omega) only [go_sem, eq_self, decide_true, decide_false, Nat.reduceBEq, Nat.reduceAdd, Nat.reduceSub, Nat.reduceMul, Nat.reduceEqDiff, Nat.reduceLeDiff, Nat.reduceLT, Int.reduceLE, Int.reduceLT, Int.reduceToNat, Int.reduceAdd, Int.reduceEq, Int.reduceNeg, AH.put_ne, hs, hne, if_true])))
      all_goals first | exact absurd ⟨by assumption, by assumption⟩ hs | exact ⟨fun G hG => AH.le_trans (AH.le_put (AH.le_refl _) hko _) hG, rfl, rfl, rfl, rfl, rfl, rfl⟩
end Go.Proofs.Ytjlphncecdlmcaa
namespace Go.Proofs.Ytjlphncecdlmcaa
open Go.Vm Go.Sort
attribute [local go_sem] List.drop_zero toNat_succ Nat.sub_zero Int.toNat_natCast Option.map_some Int.natCast_nonneg decide_eq_true_eq decide_eq_false_iff_not
/- (flange/value.Value).goes -/
abbrev k81_0 : MC :=
  .cond (.t 23) ((.seq (.drx [
     ⟨(some 24), none, .build [.nilIface] []⟩,
     ⟨(some 25), none, .val (.load false 1 (.t 5))⟩] [
     ⟨none, none, .store 1 (.t 4) (.t 24)⟩,
     ⟨none, none, .store 1 (.t 5) (.t 25)⟩] [4, 5]) (.ret))) (.skip)
abbrev k81_1 : MC :=
  (.seq (.reg [
    ⟨(some 22), none, .val (.load false 1 (.t 5))⟩,
    ⟨(some 23), none, .val (.bin .neq .num (.t 22) (.c (.int .i64 0)))⟩] [4, 5, 6, 10, 11, 12, 23]) k81_0)
abbrev k81_2 : MC :=
  (.seq (.reg [
    ⟨(some 17), none, .val (.load true 1 (.t 6))⟩,
    ⟨(some 18), none, .val (.load true 2 (.t 8))⟩,
    ⟨(some 19), none, .call 113 [(.t 17), (.t 18)]⟩,
    ⟨(some 16), none, .val (.mv (.t 19))⟩,
    ⟨(some 20), none, .val (.ext (.t 16) 0)⟩,
    ⟨(some 21), none, .val (.ext (.t 16) 1)⟩,
    ⟨none, none, .store 1 (.t 6) (.t 20)⟩,
    ⟨none, none, .store 1 (.t 5) (.t 21)⟩] [4, 5, 6, 10, 11, 12]) k81_1)
abbrev k81_3 : MC :=
  .reg [
    ⟨(some 26), none, .val (.bin .add .num (.t 12) (.c (.int .i64 1)))⟩,
    ⟨(some 12), none, .val (.mv (.t 26))⟩] [4, 5, 6, 10, 11, 12]
abbrev k81_4 : MC :=
  (.seq (.block 1 ((.seq (.reg [
     ⟨(some 14), none, .val (.iaddr 2 (.t 10) (.t 12))⟩,
     ⟨(some 15), none, .val (.load true 2 (.t 14))⟩,
     ⟨(some 8), none, .zalloc [(.str []), (.int .i64 0)]⟩,
     ⟨none, none, .store 2 (.t 8) (.t 15)⟩] [4, 5, 6, 8, 10, 11, 12]) k81_2))) k81_3)
abbrev k81_5 : MC :=
  (.seq (.cond (.t 13) (.skip) (.exit 0)) k81_4)
abbrev k81_6 : MC :=
  (.seq (.reg [
    ⟨(some 13), none, .val (.bin .lss .num (.t 12) (.t 11))⟩] [4, 5, 6, 10, 11, 12, 13]) k81_5)
abbrev k81_7 : MC :=
  .block 0 (.loop k81_6)
abbrev k81_8 : MC :=
  (.seq (.reg [
    ⟨(some 27), none, .val (.load true 1 (.t 6))⟩,
    ⟨none, none, .store 1 (.t 4) (.t 27)⟩,
    ⟨none, none, .store 1 (.t 5) (.c (.int .i64 0))⟩] [4, 5]) (.ret))
abbrev k81_9 : MC :=
  (.seq ((.seq (.reg [
    ⟨(some 10), none, .val (.mv (.t 1))⟩,
    ⟨(some 11), none, .val (.len .sl (.t 10))⟩,
    ⟨(some 12), none, .val (.mv (.c (.int .i64 0)))⟩] [4, 5, 6, 10, 11, 12]) k81_7)) k81_8)
abbrev k81_10 : MC :=
  (.seq (.reg [
    ⟨(some 9), none, .val (.load true 1 (.t 2))⟩,
    ⟨(some 6), none, .zalloc [.nilIface]⟩,
    ⟨none, none, .store 1 (.t 6) (.t 9)⟩] [1, 4, 5, 6]) k81_9)
theorem r81 : rvsOf Try.prog Try.f81.results.toList = some [.cell 4 true 1, .cell 5 false 1] := by kernel_rfl
/- (flange/value.Value).Go -/
abbrev k28_0 : MC :=
  (.seq (.reg [
    ⟨(some 6), none, .val (.load true 1 (.t 2))⟩,
    ⟨(some 7), none, .val (.mv (.t 1))⟩,
    ⟨(some 8), none, .call 81 [(.t 6), (.t 7)]⟩,
    ⟨(some 9), none, .val (.ext (.t 8) 0)⟩,
    ⟨(some 10), none, .val (.ext (.t 8) 1)⟩,
    ⟨none, none, .store 1 (.t 4) (.t 9)⟩,
    ⟨(some 5), none, .val (.mv (.t 10))⟩] [4, 5]) (.ret))
abbrev k28 : MC :=
  (.seq (.reg [
    ⟨(some 2), none, .boxi (.t 0)⟩,
    ⟨(some 4), none, .zalloc [.nilIface]⟩,
    ⟨(some 5), none, .val (.mv (.c (.int .i64 0)))⟩] [1, 2, 4]) k28_0)
theorem c28 : Try.f28.body.bind (mcOf Try.prog (List.contains [2] ·) (List.getD [([], [1, 2, 4]), ([], [4, 5])] · ([], [])) 11) = some k28 := by kernel_rfl
theorem r28 : rvsOf Try.prog Try.f28.results.toList = some [.cell 4 true 1, .tmp 5] := by kernel_rfl
abbrev St2 := List UInt8 × Int
def stE (l : List St2) : List (List V) := l.map fun s => [.str s.1, .int .i64 s.2]
theorem stE_length (l : List St2) : (stE l).length = l.length := by simp [stE]
theorem stE_get {l : List St2} {i : Nat} (h : i < l.length) : (stE l)[i]? = some [.str l[i].1, .int .i64 l[i].2] := by simp [stE, h]
def goR : Vl → List St2 → Vl × Int
  | v, [] => (v, 0)
  | v, s :: r => match v.into s.1 s.2 with
    | none => (.nul, 6)
    | some (x, e) => if e = 0 then goR x r else (.nul, e)
theorem get_pre (a b : A) {t : Nat} {v : V} (h : A.get a t = some v) : A.get (a ++ b) t = some v := get_more a b h
theorem call_pan {P : Program} {f : Nat} {vs : List V} {H : AH} {kk : V → AH → Prop} {kp : AH → Prop} (h : ∀ H, ACalls P f vs H (fun o H' => o = .pan ∧ H' = H)) (hk : kp H) : ACalls P f vs H (outK kk kp) :=
  (h H).mono (by rintro o H' ⟨rfl, rfl⟩; exact hk)
theorem bodyG_ret {rs : List RV} {ko : Nat} {e : Int} {Q : Out → AH → Prop} {a : A} {H : AH} : BodyG rs ko e Q .ret a H = need (rvsGet a H rs) fun vs => Q (.ret (resOne vs)) H := rfl
theorem bodyG_pan {rs : List RV} {ko : Nat} {e : Int} {Q : Out → AH → Prop} {a : A} {H : AH} : BodyG rs ko e Q .panic a H = ∃ x : Int, H ko = some (.cells [.int .i64 x]) ∧ need (rvsGet a (H.put ko (.cells [.int .i64 e])) rs) fun vs => Q (.ret (resOne vs)) (H.put ko (.cells [.int .i64 e])) := rfl
attribute [local go_sem] bodyG_ret bodyG_pan
theorem put_self' {H : AH} {k : Nat} {o : AObj} (h : H k = some o) : H.put k o = H := by
  funext i; simp only [AH.put]; split
  · rename_i e; rw [e, h]
  · rfl
theorem goes_calls {v : Vl} {l : List St2} {t : Tok} (hl : l.length ≤ 1000) (H : AH) : ACalls Try.prog 81 [.agg [vV v], .sl 2 (stE l) t] H (fun o H' => o = .ret (.tuple [.agg [vV (goR v l).1], .int .i64 (goR v l).2]) ∧ H' = H) := by
  refine ACalls.drop ?_
  refine acalls_guard (f := 81) (g := 111) (fn := Try.f81) (imm := (List.contains [2] ·)) (lv := (List.getD [([], [1, 2, 4, 5]), ([], [1, 2, 4, 5]), ([], [1, 4, 5, 6]), ([], [4, 5, 6, 10, 11, 12]), ([], [4, 5, 6, 10, 11, 12, 13]), ([], [4, 5, 6, 8, 10, 11, 12]), ([], [4, 5, 6, 10, 11, 12]), ([], [4, 5, 6, 10, 11, 12, 23]), ([0, 0, 4, 4], [4, 5]), ([], [4, 5, 6, 10, 11, 12]), ([], [4, 5])] · ([], []))) (m0 := (.reg [
    ⟨(some 2), none, .boxi (.t 0)⟩,
    ⟨(some 4), none, .zalloc [.nilIface]⟩,
    ⟨(some 5), none, .zalloc [(.int .i64 0)]⟩] [1, 2, 4, 5])) (m1 := k81_10) (rs := [.cell 4 true 1, .cell 5 false 1]) (p := 5) (e := 6) Try.func81 rfl (by kernel_rfl) (by kernel_rfl) r81 (by simp [Try.ntmps81]) guard_ok (fun x w => ?_) ?_
  · simp [invoke]
  repeat' (first | with_reducible (first | refine am_seq ?_ | refine am_block ?_) | ((with_reducible apply am_cond); (case hb => rfl); all_goals (intro hc; (try simp only [reduceCtorEq, decide_eq_true_eq, decide_eq_false_iff_not, Bool.or_eq_true, Bool.and_eq_true, Bool.or_eq_false_iff, Bool.not_eq_true', Bool.not_eq_false', beq_iff_eq] at hc); (try (exfalso; omega)))) | ((first | with_reducible (first | refine am_reg ?_ | refine am_drw ?_ | refine am_drx ?_ | refine am_skip ?_ | refine am_exit ?_ | refine am_ret ?_ | refine And.intro (by first | exact AH.lec_refl _ | assumption | exact AccP.lec (by assumption) | omega) ?_ | refine isnE_of (fun hc => ?_) (fun hc => ?_) (fun hc => ?_) | refine need_elems (by assumption) ?_ | refine vlen_acc (by assumption) ?_ | refine need_bytes (by assumption) ?_ | refine need_look (by repeat (first | assumption | exact AH.put_same _ _ _ | refine look_put ?_ (by assumption) | refine look_lec ?_ (by assumption))) ?_) | ((with_reducible (first | refine gd_not (fun hc => ?_) (fun hc => ?_) | refine gd_of (fun hc => ?_) (fun hc => ?_) | refine gq_not (fun hc => ?_) (fun hc => ?_) | refine gq_of (fun hc => ?_) (fun hc => ?_) | refine pickB_of (fun hc => ?_) (fun hc => ?_))) <;> (try simp -implicitDefEqProofs (disch := omega) only [go_sem, eq_self, decide_true, decide_false, Nat.reduceBEq, Nat.reduceAdd, Nat.reduceSub, Nat.reduceMul, Nat.reduceEqDiff, Nat.reduceLeDiff, Nat.reduceLT, Int.reduceLE, Int.reduceLT, Int.reduceToNat, Int.reduceAdd, Int.reduceEq, Int.reduceNeg, AH.put_ne, hc]) <;> (try simp only [reduceCtorEq, decide_eq_true_eq, decide_eq_false_iff_not, Bool.or_eq_true, Bool.and_eq_true, Bool.or_eq_false_iff, Bool.not_eq_true', Bool.not_eq_false', beq_iff_eq] at hc) <;> (try (exfalso; omega))) | ((with_reducible refine alloc_intro (fun ko hko => ?_)) <;> (try have hne := fresh_ne (by assumption) hko) <;> (try have hnk := fresh_ne hk hko) <;> (try have hnk2 := fresh_ne hk2 hko) <;> (try simp only [AH.put_none] at hko)) | ((with_reducible (first | refine vapp_accL (by assumption) ?_ (fun v2 H2 hacc hlec => ?_) | refine vapp_accL (AccP.mono (by assumption) (AccP.le (by assumption))) ?_ (fun v2 H2 hacc hlec => ?_) | refine vapp_accL (AccP.new (by assumption) (by assumption) _) ?_ (fun v2 H2 hacc hlec => ?_))); · simp only [byteCells_length, List.length_cons, List.length_nil, List.length_map, List.length_append, vE_length, mE_length, strE_len, List.length_take, rvE_length]; omega)) <;> (try simp -implicitDefEqProofs (disch := omega) only [go_sem, eq_self, decide_true, decide_false, Nat.reduceBEq, Nat.reduceAdd, Nat.reduceSub, Nat.reduceMul, Nat.reduceEqDiff, Nat.reduceLeDiff, Nat.reduceLT, Int.reduceLE, Int.reduceLT, Int.reduceToNat, Int.reduceAdd, Int.reduceEq, Int.reduceNeg, AH.put_ne])))
  rename_i kz hkz
  refine ⟨ko, rfl, ?_⟩
  generalize ko = ke at *
  have hzx : kz ≠ ke := Ne.symm hko.1
  have hke := hko.2
  repeat' (first | with_reducible (first | refine am_seq ?_ | refine am_block ?_) | ((with_reducible apply am_cond); (case hb => rfl); all_goals (intro hc; (try simp only [reduceCtorEq, decide_eq_true_eq, decide_eq_false_iff_not, Bool.or_eq_true, Bool.and_eq_true, Bool.or_eq_false_iff, Bool.not_eq_true', Bool.not_eq_false', beq_iff_eq] at hc); (try (exfalso; omega)))) | ((first | with_reducible (first | refine am_reg ?_ | refine am_drw ?_ | refine am_drx ?_ | refine am_skip ?_ | refine am_exit ?_ | refine am_ret ?_ | refine And.intro (by first | exact AH.lec_refl _ | assumption | exact AccP.lec (by assumption) | omega) ?_ | refine isnE_of (fun hc => ?_) (fun hc => ?_) (fun hc => ?_) | refine need_elems (by assumption) ?_ | refine vlen_acc (by assumption) ?_ | refine need_bytes (by assumption) ?_ | refine need_look (by repeat (first | assumption | exact AH.put_same _ _ _ | refine look_put ?_ (by assumption) | refine look_lec ?_ (by assumption))) ?_) | ((with_reducible (first | refine gd_not (fun hc => ?_) (fun hc => ?_) | refine gd_of (fun hc => ?_) (fun hc => ?_) | refine gq_not (fun hc => ?_) (fun hc => ?_) | refine gq_of (fun hc => ?_) (fun hc => ?_) | refine pickB_of (fun hc => ?_) (fun hc => ?_))) <;> (try simp -implicitDefEqProofs (disch := omega) only [go_sem, eq_self, decide_true, decide_false, Nat.reduceBEq, Nat.reduceAdd, Nat.reduceSub, Nat.reduceMul, Nat.reduceEqDiff, Nat.reduceLeDiff, Nat.reduceLT, Int.reduceLE, Int.reduceLT, Int.reduceToNat, Int.reduceAdd, Int.reduceEq, Int.reduceNeg, AH.put_ne, hc]) <;> (try simp only [reduceCtorEq, decide_eq_true_eq, decide_eq_false_iff_not, Bool.or_eq_true, Bool.and_eq_true, Bool.or_eq_false_iff, Bool.not_eq_true', Bool.not_eq_false', beq_iff_eq] at hc) <;> (try (exfalso; omega))) | ((with_reducible refine alloc_intro (fun ko hko => ?_)) <;> (try have hne := fresh_ne (by assumption) hko) <;> (try have hnk := fresh_ne hk hko) <;> (try have hnk2 := fresh_ne hk2 hko) <;> (try simp only [AH.put_none] at hko)) | ((with_reducible (first | refine vapp_accL (by assumption) ?_ (fun v2 H2 hacc hlec => ?_) | refine vapp_accL (AccP.mono (by assumption) (AccP.le (by assumption))) ?_ (fun v2 H2 hacc hlec => ?_) | refine vapp_accL (AccP.new (by assumption) (by assumption) _) ?_ (fun v2 H2 hacc hlec => ?_))); · simp only [byteCells_length, List.length_cons, List.length_nil, List.length_map, List.length_append, vE_length, mE_length, strE_len, List.length_take, rvE_length]; omega)) <;> (try simp -implicitDefEqProofs (disch := omega) only [go_sem, eq_self, decide_true, decide_false, Nat.reduceBEq, Nat.reduceAdd, Nat.reduceSub, Nat.reduceMul, Nat.reduceEqDiff, Nat.reduceLeDiff, Nat.reduceLT, Int.reduceLE, Int.reduceLT, Int.reduceToNat, Int.reduceAdd, Int.reduceEq, Int.reduceNeg, AH.put_ne])))
  generalize ko = ka at *
  have hak := hko
  clear hko
  have hzl : kz ≠ ka := fun e => hak.2.1 e.symm
  have hel : ke ≠ ka := fun e => hak.1 e.symm
  rw [stE_length]
  refine am_loop (fun n a H' => ∃ (i : Nat) (cur : Vl), i + n = l.length ∧ a = [(4, .ptr kz 0), (5, .ptr ke 0), (6, .ptr ka 0), (10, .sl 2 (stE l) t), (11, .int .i64 l.length), (12, .int .i64 i)] ∧ H' kz = some (.cells [.nilIface]) ∧ H' ke = some (.cells [.int .i64 0]) ∧ H' ka = some (.cells [vV cur]) ∧ H.le H' ∧ goR v l = goR cur (l.drop i)) ?_ l.length ⟨0, v, by omega, rfl, ?_, ?_, AH.put_same _ _ _, AH.le_put (AH.le_put (AH.le_put (AH.le_refl _) hkz _) hke _) hak.2.2 _, rfl⟩
  rotate_left
  · rw [AH.put_ne _ _ hzl, AH.put_ne _ _ hzx, AH.put_same]
  · rw [AH.put_ne _ _ hel, AH.put_same]
  rintro n a H' ⟨i, cur, hi, rfl, hk, hk2, hk3, hle, hr⟩
  by_cases hlt : i < l.length
  · rw [List.drop_eq_getElem_cons hlt, goR] at hr
    cases hin : cur.into l[i].1 l[i].2 with
    | none =>
      rw [hin] at hr
      repeat' (first | (((guard_target =~ AM _ _ k81_2 _ _ _); (refine am_seq (am_regA [(4, .ptr kz 0), (5, .ptr ke 0)] rfl (fun t v h => get_pre [(4, .ptr kz 0), (5, .ptr ke 0)] _ h) ?_)); (simp -implicitDefEqProofs (disch := omega) only [go_sem, eq_self, decide_true, decide_false, Nat.reduceBEq, Nat.reduceAdd, Nat.reduceSub, Nat.reduceMul, Nat.reduceEqDiff, Nat.reduceLeDiff, Nat.reduceLT, Int.reduceLE, Int.reduceLT, Int.reduceToNat, Int.reduceAdd, Int.reduceEq, Int.reduceNeg, AH.put_ne, hk, hk2, hk3]))) | ((with_reducible refine call_pan (into_pan hin) ?_)) | with_reducible (first | refine am_seq ?_ | refine am_block ?_) | ((with_reducible apply am_cond); (case hb => rfl); all_goals (intro hc; (try simp only [reduceCtorEq, decide_eq_true_eq, decide_eq_false_iff_not, Bool.or_eq_true, Bool.and_eq_true, Bool.or_eq_false_iff, Bool.not_eq_true', Bool.not_eq_false', beq_iff_eq] at hc); (try (exfalso; omega)))) | ((first | with_reducible (first | refine am_reg ?_ | refine am_drw ?_ | refine am_drx ?_ | refine am_skip ?_ | refine am_exit ?_ | refine am_ret ?_ | refine And.intro (by first | exact AH.lec_refl _ | assumption | exact AccP.lec (by assumption) | omega) ?_ | refine isnE_of (fun hc => ?_) (fun hc => ?_) (fun hc => ?_) | refine need_elems (by assumption) ?_ | refine vlen_acc (by assumption) ?_ | refine need_bytes (by assumption) ?_ | refine need_look (by repeat (first | assumption | exact AH.put_same _ _ _ | refine look_put ?_ (by assumption) | refine look_lec ?_ (by assumption))) ?_) | ((with_reducible (first | refine gd_not (fun hc => ?_) (fun hc => ?_) | refine gd_of (fun hc => ?_) (fun hc => ?_) | refine gq_not (fun hc => ?_) (fun hc => ?_) | refine gq_of (fun hc => ?_) (fun hc => ?_) | refine pickB_of (fun hc => ?_) (fun hc => ?_))) <;> (try simp -implicitDefEqProofs (disch := omega) only [go_sem, eq_self, decide_true, decide_false, Nat.reduceBEq, Nat.reduceAdd, Nat.reduceSub, Nat.reduceMul, Nat.reduceEqDiff, Nat.reduceLeDiff, Nat.reduceLT, Int.reduceLE, Int.reduceLT, Int.reduceToNat, Int.reduceAdd, Int.reduceEq, Int.reduceNeg, AH.put_ne, hc, wrap_id, stE_length, stE_get hlt, hk, hk2, hk3]) <;> (try simp only [reduceCtorEq, decide_eq_true_eq, decide_eq_false_iff_not, Bool.or_eq_true, Bool.and_eq_true, Bool.or_eq_false_iff, Bool.not_eq_true', Bool.not_eq_false', beq_iff_eq] at hc) <;> (try (exfalso; omega))) | ((with_reducible refine alloc_intro (fun ko hko => ?_)) <;> (try have hne := fresh_ne (by assumption) hko) <;> (try have hnk := fresh_ne hk hko) <;> (try have hnk2 := fresh_ne hk2 hko) <;> (try simp only [AH.put_none] at hko)) | ((with_reducible (first | refine vapp_accL (by assumption) ?_ (fun v2 H2 hacc hlec => ?_) | refine vapp_accL (AccP.mono (by assumption) (AccP.le (by assumption))) ?_ (fun v2 H2 hacc hlec => ?_) | refine vapp_accL (AccP.new (by assumption) (by assumption) _) ?_ (fun v2 H2 hacc hlec => ?_))); · simp only [byteCells_length, List.length_cons, List.length_nil, List.length_map, List.length_append, vE_length, mE_length, strE_len, List.length_take, rvE_length]; omega)) <;> (try simp -implicitDefEqProofs (disch := omega) only [go_sem, eq_self, decide_true, decide_false, Nat.reduceBEq, Nat.reduceAdd, Nat.reduceSub, Nat.reduceMul, Nat.reduceEqDiff, Nat.reduceLeDiff, Nat.reduceLT, Int.reduceLE, Int.reduceLT, Int.reduceToNat, Int.reduceAdd, Int.reduceEq, Int.reduceNeg, AH.put_ne, wrap_id, stE_length, stE_get hlt, hk, hk2, hk3])))
      refine ⟨0, by rw [AH.put_ne _ _ hnk2]; exact hk2, ?_⟩
      simp only [AH.put_ne _ _ hnk, hk]
      simp -implicitDefEqProofs (disch := omega) only [go_sem, eq_self, decide_true, decide_false, Nat.reduceBEq, Nat.reduceAdd, Nat.reduceSub, Nat.reduceMul, Nat.reduceEqDiff, Nat.reduceLeDiff, Nat.reduceLT, Int.reduceLE, Int.reduceLT, Int.reduceToNat, Int.reduceAdd, Int.reduceEq, Int.reduceNeg, AH.put_ne]
      rw [hr, vV_nul]
      exact drop_end (fun _ _ h => h) (AH.le_put (AH.le_put hle (none_of_le hle hko) _) hke _)
    | some p =>
      obtain ⟨x, e⟩ := p
      rw [hin] at hr
      by_cases he : e = 0
      · subst he
        repeat' (first | with_reducible (first | refine am_seq ?_ | refine am_block ?_) | ((with_reducible apply am_cond); (case hb => rfl); all_goals (intro hc; (try simp only [reduceCtorEq, decide_eq_true_eq, decide_eq_false_iff_not, Bool.or_eq_true, Bool.and_eq_true, Bool.or_eq_false_iff, Bool.not_eq_true', Bool.not_eq_false', beq_iff_eq] at hc); (try (exfalso; omega)))) | ((first | with_reducible (first | refine am_reg ?_ | refine am_drw ?_ | refine am_drx ?_ | refine am_skip ?_ | refine am_exit ?_ | refine am_ret ?_ | refine And.intro (by first | exact AH.lec_refl _ | assumption | exact AccP.lec (by assumption) | omega) ?_ | refine isnE_of (fun hc => ?_) (fun hc => ?_) (fun hc => ?_) | refine need_elems (by assumption) ?_ | refine vlen_acc (by assumption) ?_ | refine need_bytes (by assumption) ?_ | refine call_of (into_ret hin) ?_ | refine qcall_of (into_ret hin) ?_ | refine need_look (by repeat (first | assumption | exact AH.put_same _ _ _ | refine look_put ?_ (by assumption) | refine look_lec ?_ (by assumption))) ?_) | ((with_reducible (first | refine gd_not (fun hc => ?_) (fun hc => ?_) | refine gd_of (fun hc => ?_) (fun hc => ?_) | refine gq_not (fun hc => ?_) (fun hc => ?_) | refine gq_of (fun hc => ?_) (fun hc => ?_) | refine pickB_of (fun hc => ?_) (fun hc => ?_))) <;> (try simp -implicitDefEqProofs (disch := omega) only [go_sem, eq_self, decide_true, decide_false, Nat.reduceBEq, Nat.reduceAdd, Nat.reduceSub, Nat.reduceMul, Nat.reduceEqDiff, Nat.reduceLeDiff, Nat.reduceLT, Int.reduceLE, Int.reduceLT, Int.reduceToNat, Int.reduceAdd, Int.reduceEq, Int.reduceNeg, AH.put_ne, hc, wrap_id, stE_length, stE_get hlt, hk, hk2, hk3, hzx, hzl, hel]) <;> (try simp only [reduceCtorEq, decide_eq_true_eq, decide_eq_false_iff_not, Bool.or_eq_true, Bool.and_eq_true, Bool.or_eq_false_iff, Bool.not_eq_true', Bool.not_eq_false', beq_iff_eq] at hc) <;> (try (exfalso; omega))) | ((with_reducible refine alloc_intro (fun ko hko => ?_)) <;> (try have hne := fresh_ne (by assumption) hko) <;> (try have hnk := fresh_ne hk hko) <;> (try have hnk2 := fresh_ne hk2 hko) <;> (try simp only [AH.put_none] at hko)) | ((with_reducible (first | refine vapp_accL (by assumption) ?_ (fun v2 H2 hacc hlec => ?_) | refine vapp_accL (AccP.mono (by assumption) (AccP.le (by assumption))) ?_ (fun v2 H2 hacc hlec => ?_) | refine vapp_accL (AccP.new (by assumption) (by assumption) _) ?_ (fun v2 H2 hacc hlec => ?_))); · simp only [byteCells_length, List.length_cons, List.length_nil, List.length_map, List.length_append, vE_length, mE_length, strE_len, List.length_take, rvE_length]; omega)) <;> (try simp -implicitDefEqProofs (disch := omega) only [go_sem, eq_self, decide_true, decide_false, Nat.reduceBEq, Nat.reduceAdd, Nat.reduceSub, Nat.reduceMul, Nat.reduceEqDiff, Nat.reduceLeDiff, Nat.reduceLT, Int.reduceLE, Int.reduceLT, Int.reduceToNat, Int.reduceAdd, Int.reduceEq, Int.reduceNeg, AH.put_ne, wrap_id, stE_length, stE_get hlt, hk, hk2, hk3, hzx, hzl, hel])))
        all_goals exact ⟨n - 1, by omega, i + 1, x, by omega, rfl, rfl, AH.le_put (AH.le_put (AH.le_put hle (none_of_le hle hko) _) hak.2.2 _) hke _, by rw [hr]; simp⟩
      · repeat' (first | with_reducible (first | refine am_seq ?_ | refine am_block ?_) | ((with_reducible apply am_cond); (case hb => rfl); all_goals (intro hc; (try simp only [reduceCtorEq, decide_eq_true_eq, decide_eq_false_iff_not, Bool.or_eq_true, Bool.and_eq_true, Bool.or_eq_false_iff, Bool.not_eq_true', Bool.not_eq_false', beq_iff_eq] at hc); (try (exfalso; omega)))) | ((first | with_reducible (first | refine am_reg ?_ | refine am_drw ?_ | refine am_drx ?_ | refine am_skip ?_ | refine am_exit ?_ | refine am_ret ?_ | refine And.intro (by first | exact AH.lec_refl _ | assumption | exact AccP.lec (by assumption) | omega) ?_ | refine isnE_of (fun hc => ?_) (fun hc => ?_) (fun hc => ?_) | refine need_elems (by assumption) ?_ | refine vlen_acc (by assumption) ?_ | refine need_bytes (by assumption) ?_ | refine call_of (into_ret hin) ?_ | refine qcall_of (into_ret hin) ?_ | refine need_look (by repeat (first | assumption | exact AH.put_same _ _ _ | refine look_put ?_ (by assumption) | refine look_lec ?_ (by assumption))) ?_) | ((with_reducible (first | refine gd_not (fun hc => ?_) (fun hc => ?_) | refine gd_of (fun hc => ?_) (fun hc => ?_) | refine gq_not (fun hc => ?_) (fun hc => ?_) | refine gq_of (fun hc => ?_) (fun hc => ?_) | refine pickB_of (fun hc => ?_) (fun hc => ?_))) <;> (try simp -implicitDefEqProofs (disch := omega) only [go_sem, eq_self, decide_true, decide_false, Nat.reduceBEq, Nat.reduceAdd, Nat.reduceSub, Nat.reduceMul, Nat.reduceEqDiff, Nat.reduceLeDiff, Nat.reduceLT, Int.reduceLE, Int.reduceLT, Int.reduceToNat, Int.reduceAdd, Int.reduceEq, Int.reduceNeg, AH.put_ne, hc, wrap_id, stE_length, stE_get hlt, hk, hk2, hk3, hzx, hzl, hel, he]) <;> (try simp only [reduceCtorEq, decide_eq_true_eq, decide_eq_false_iff_not, Bool.or_eq_true, Bool.and_eq_true, Bool.or_eq_false_iff, Bool.not_eq_true', Bool.not_eq_false', beq_iff_eq] at hc) <;> (try (exfalso; omega))) | ((with_reducible refine alloc_intro (fun ko hko => ?_)) <;> (try have hne := fresh_ne (by assumption) hko) <;> (try have hnk := fresh_ne hk hko) <;> (try have hnk2 := fresh_ne hk2 hko) <;> (try simp only [AH.put_none] at hko)) | ((with_reducible (first | refine vapp_accL (by assumption) ?_ (fun v2 H2 hacc hlec => ?_) | refine vapp_accL (AccP.mono (by assumption) (AccP.le (by assumption))) ?_ (fun v2 H2 hacc hlec => ?_) | refine vapp_accL (AccP.new (by assumption) (by assumption) _) ?_ (fun v2 H2 hacc hlec => ?_))); · simp only [byteCells_length, List.length_cons, List.length_nil, List.length_map, List.length_append, vE_length, mE_length, strE_len, List.length_take, rvE_length]; omega)) <;> (try simp -implicitDefEqProofs (disch := omega) only [go_sem, eq_self, decide_true, decide_false, Nat.reduceBEq, Nat.reduceAdd, Nat.reduceSub, Nat.reduceMul, Nat.reduceEqDiff, Nat.reduceLeDiff, Nat.reduceLT, Int.reduceLE, Int.reduceLT, Int.reduceToNat, Int.reduceAdd, Int.reduceEq, Int.reduceNeg, AH.put_ne, wrap_id, stE_length, stE_get hlt, hk, hk2, hk3, hzx, hzl, hel, he])))
        have hgz : (((H'.put ko (.cells [.str l[i].1, .int .i64 l[i].2])).put ka (.cells [vV x])).put ke (.cells [.int .i64 e])) kz = some (.cells [.nilIface]) := by
          rw [AH.put_ne _ _ hzx, AH.put_ne _ _ hzl, AH.put_ne _ _ hnk]; exact hk
        have hge : (((H'.put ko (.cells [.str l[i].1, .int .i64 l[i].2])).put ka (.cells [vV x])).put ke (.cells [.int .i64 e])) ke = some (.cells [.int .i64 e]) := AH.put_same _ _ _
        rw [put_self' hgz, put_self' hge]
        refine ⟨fun _ => AH.lec_refl _, fun _ => AH.lec_refl _, ?_⟩
        repeat' (first | with_reducible (first | refine am_seq ?_ | refine am_block ?_) | ((with_reducible apply am_cond); (case hb => rfl); all_goals (intro hc; (try simp only [reduceCtorEq, decide_eq_true_eq, decide_eq_false_iff_not, Bool.or_eq_true, Bool.and_eq_true, Bool.or_eq_false_iff, Bool.not_eq_true', Bool.not_eq_false', beq_iff_eq] at hc); (try (exfalso; omega)))) | ((first | with_reducible (first | refine am_reg ?_ | refine am_drw ?_ | refine am_drx ?_ | refine am_skip ?_ | refine am_exit ?_ | refine am_ret ?_ | refine And.intro (by first | exact AH.lec_refl _ | assumption | exact AccP.lec (by assumption) | omega) ?_ | refine isnE_of (fun hc => ?_) (fun hc => ?_) (fun hc => ?_) | refine need_elems (by assumption) ?_ | refine vlen_acc (by assumption) ?_ | refine need_bytes (by assumption) ?_ | refine need_look (by repeat (first | assumption | exact AH.put_same _ _ _ | refine look_put ?_ (by assumption) | refine look_lec ?_ (by assumption))) ?_) | ((with_reducible (first | refine gd_not (fun hc => ?_) (fun hc => ?_) | refine gd_of (fun hc => ?_) (fun hc => ?_) | refine gq_not (fun hc => ?_) (fun hc => ?_) | refine gq_of (fun hc => ?_) (fun hc => ?_) | refine pickB_of (fun hc => ?_) (fun hc => ?_))) <;> (try simp -implicitDefEqProofs (disch := omega) only [go_sem, eq_self, decide_true, decide_false, Nat.reduceBEq, Nat.reduceAdd, Nat.reduceSub, Nat.reduceMul, Nat.reduceEqDiff, Nat.reduceLeDiff, Nat.reduceLT, Int.reduceLE, Int.reduceLT, Int.reduceToNat, Int.reduceAdd, Int.reduceEq, Int.reduceNeg, AH.put_ne, hc, hgz, hge, hk]) <;> (try simp only [reduceCtorEq, decide_eq_true_eq, decide_eq_false_iff_not, Bool.or_eq_true, Bool.and_eq_true, Bool.or_eq_false_iff, Bool.not_eq_true', Bool.not_eq_false', beq_iff_eq] at hc) <;> (try (exfalso; omega))) | ((with_reducible refine alloc_intro (fun ko hko => ?_)) <;> (try have hne := fresh_ne (by assumption) hko) <;> (try have hnk := fresh_ne hk hko) <;> (try have hnk2 := fresh_ne hk2 hko) <;> (try simp only [AH.put_none] at hko)) | ((with_reducible (first | refine vapp_accL (by assumption) ?_ (fun v2 H2 hacc hlec => ?_) | refine vapp_accL (AccP.mono (by assumption) (AccP.le (by assumption))) ?_ (fun v2 H2 hacc hlec => ?_) | refine vapp_accL (AccP.new (by assumption) (by assumption) _) ?_ (fun v2 H2 hacc hlec => ?_))); · simp only [byteCells_length, List.length_cons, List.length_nil, List.length_map, List.length_append, vE_length, mE_length, strE_len, List.length_take, rvE_length]; omega)) <;> (try simp -implicitDefEqProofs (disch := omega) only [go_sem, eq_self, decide_true, decide_false, Nat.reduceBEq, Nat.reduceAdd, Nat.reduceSub, Nat.reduceMul, Nat.reduceEqDiff, Nat.reduceLeDiff, Nat.reduceLT, Int.reduceLE, Int.reduceLT, Int.reduceToNat, Int.reduceAdd, Int.reduceEq, Int.reduceNeg, AH.put_ne, hgz, hge, hk])))
        simp only [he, if_false] at hr
        rw [hr, vV_nul]
        exact drop_end (fun _ _ h => h) (AH.le_put (AH.le_put (AH.le_put hle (none_of_le hle hko) _) hak.2.2 _) hke _)
  · rw [List.drop_eq_nil_of_le (by omega), goR] at hr
    repeat' (first | with_reducible (first | refine am_seq ?_ | refine am_block ?_) | ((with_reducible apply am_cond); (case hb => rfl); all_goals (intro hc; (try simp only [reduceCtorEq, decide_eq_true_eq, decide_eq_false_iff_not, Bool.or_eq_true, Bool.and_eq_true, Bool.or_eq_false_iff, Bool.not_eq_true', Bool.not_eq_false', beq_iff_eq] at hc); (try (exfalso; omega)))) | ((first | with_reducible (first | refine am_reg ?_ | refine am_drw ?_ | refine am_drx ?_ | refine am_skip ?_ | refine am_exit ?_ | refine am_ret ?_ | refine And.intro (by first | exact AH.lec_refl _ | assumption | exact AccP.lec (by assumption) | omega) ?_ | refine isnE_of (fun hc => ?_) (fun hc => ?_) (fun hc => ?_) | refine need_elems (by assumption) ?_ | refine vlen_acc (by assumption) ?_ | refine need_bytes (by assumption) ?_ | refine need_look (by repeat (first | assumption | exact AH.put_same _ _ _ | refine look_put ?_ (by assumption) | refine look_lec ?_ (by assumption))) ?_) | ((with_reducible (first | refine gd_not (fun hc => ?_) (fun hc => ?_) | refine gd_of (fun hc => ?_) (fun hc => ?_) | refine gq_not (fun hc => ?_) (fun hc => ?_) | refine gq_of (fun hc => ?_) (fun hc => ?_) | refine pickB_of (fun hc => ?_) (fun hc => ?_))) <;> (try simp -implicitDefEqProofs (disch := omega) only [go_sem, eq_self, decide_true, decide_false, Nat.reduceBEq, Nat.reduceAdd, Nat.reduceSub, Nat.reduceMul, Nat.reduceEqDiff, Nat.reduceLeDiff, Nat.reduceLT, Int.reduceLE, Int.reduceLT, Int.reduceToNat, Int.reduceAdd, Int.reduceEq, Int.reduceNeg, AH.put_ne, hc, wrap_id, stE_length, hk, hk2, hk3, hzx, hzl, hel]) <;> (try simp only [reduceCtorEq, decide_eq_true_eq, decide_eq_false_iff_not, Bool.or_eq_true, Bool.and_eq_true, Bool.or_eq_false_iff, Bool.not_eq_true', Bool.not_eq_false', beq_iff_eq] at hc) <;> (try (exfalso; omega))) | ((with_reducible refine alloc_intro (fun ko hko => ?_)) <;> (try have hne := fresh_ne (by assumption) hko) <;> (try have hnk := fresh_ne hk hko) <;> (try have hnk2 := fresh_ne hk2 hko) <;> (try simp only [AH.put_none] at hko)) | ((with_reducible (first | refine vapp_accL (by assumption) ?_ (fun v2 H2 hacc hlec => ?_) | refine vapp_accL (AccP.mono (by assumption) (AccP.le (by assumption))) ?_ (fun v2 H2 hacc hlec => ?_) | refine vapp_accL (AccP.new (by assumption) (by assumption) _) ?_ (fun v2 H2 hacc hlec => ?_))); · simp only [byteCells_length, List.length_cons, List.length_nil, List.length_map, List.length_append, vE_length, mE_length, strE_len, List.length_take, rvE_length]; omega)) <;> (try simp -implicitDefEqProofs (disch := omega) only [go_sem, eq_self, decide_true, decide_false, Nat.reduceBEq, Nat.reduceAdd, Nat.reduceSub, Nat.reduceMul, Nat.reduceEqDiff, Nat.reduceLeDiff, Nat.reduceLT, Int.reduceLE, Int.reduceLT, Int.reduceToNat, Int.reduceAdd, Int.reduceEq, Int.reduceNeg, AH.put_ne, wrap_id, stE_length, hk, hk2, hk3, hzx, hzl, hel])))
    rw [hr]
    exact drop_end (fun _ _ h => h) (AH.le_put (AH.le_put hle hkz _) hke _)
theorem go_calls {v : Vl} {l : List St2} {t : Tok} (hl : l.length ≤ 1000) (H : AH) : ACalls Try.prog 28 [.agg [vV v], .sl 2 (stE l) t] H (fun o H' => o = .ret (.tuple [.agg [vV (goR v l).1], .int .i64 (goR v l).2]) ∧ H' = H) := by
  refine ACalls.drop ?_
  refine acalls Try.func28 c28 r28 (by simp [Try.ntmps28]) ?_
  repeat' (first | with_reducible (first | refine am_seq ?_ | refine am_block ?_) | ((with_reducible apply am_cond); (case hb => rfl); all_goals (intro hc; (try simp only [reduceCtorEq, decide_eq_true_eq, decide_eq_false_iff_not, Bool.or_eq_true, Bool.and_eq_true, Bool.or_eq_false_iff, Bool.not_eq_true', Bool.not_eq_false', beq_iff_eq] at hc); (try (exfalso; omega)))) | ((first | with_reducible (first | refine am_reg ?_ | refine am_drw ?_ | refine am_drx ?_ | refine am_skip ?_ | refine am_exit ?_ | refine am_ret ?_ | refine And.intro (by first | exact AH.lec_refl _ | assumption | exact AccP.lec (by assumption) | omega) ?_ | refine isnE_of (fun hc => ?_) (fun hc => ?_) (fun hc => ?_) | refine need_elems (by assumption) ?_ | refine vlen_acc (by assumption) ?_ | refine need_bytes (by assumption) ?_ | refine call_of (goes_calls hl) ?_ | refine qcall_of (goes_calls hl) ?_ | refine need_look (by repeat (first | assumption | exact AH.put_same _ _ _ | refine look_put ?_ (by assumption) | refine look_lec ?_ (by assumption))) ?_) | ((with_reducible (first | refine gd_not (fun hc => ?_) (fun hc => ?_) | refine gd_of (fun hc => ?_) (fun hc => ?_) | refine gq_not (fun hc => ?_) (fun hc => ?_) | refine gq_of (fun hc => ?_) (fun hc => ?_) | refine pickB_of (fun hc => ?_) (fun hc => ?_))) <;> (try simp -implicitDefEqProofs (disch := omega) only [go_sem, eq_self, decide_true, decide_false, Nat.reduceBEq, Nat.reduceAdd, Nat.reduceSub, Nat.reduceMul, Nat.reduceEqDiff, Nat.reduceLeDiff, Nat.reduceLT, Int.reduceLE, Int.reduceLT, Int.reduceToNat, Int.reduceAdd, Int.reduceEq, Int.reduceNeg, AH.put_ne, hc]) <;> (try simp only [reduceCtorEq, decide_eq_true_eq, decide_eq_false_iff_not, Bool.or_eq_true, Bool.and_eq_true, Bool.or_eq_false_iff, Bool.not_eq_true', Bool.not_eq_false', beq_iff_eq] at hc) <;> (try (exfalso; omega))) | ((with_reducible refine alloc_intro (fun ko hko => ?_)) <;> (try have hne := fresh_ne (by assumption) hko) <;> (try have hnk := fresh_ne hk hko) <;> (try have hnk2 := fresh_ne hk2 hko) <;> (try simp only [AH.put_none] at hko)) | ((with_reducible (first | refine vapp_accL (by assumption) ?_ (fun v2 H2 hacc hlec => ?_) | refine vapp_accL (AccP.mono (by assumption) (AccP.le (by assumption))) ?_ (fun v2 H2 hacc hlec => ?_) | refine vapp_accL (AccP.new (by assumption) (by assumption) _) ?_ (fun v2 H2 hacc hlec => ?_))); · simp only [byteCells_length, List.length_cons, List.length_nil, List.length_map, List.length_append, vE_length, mE_length, strE_len, List.length_take, rvE_length]; omega)) <;> (try simp -implicitDefEqProofs (disch := omega) only [go_sem, eq_self, decide_true, decide_false, Nat.reduceBEq, Nat.reduceAdd, Nat.reduceSub, Nat.reduceMul, Nat.reduceEqDiff, Nat.reduceLeDiff, Nat.reduceLT, Int.reduceLE, Int.reduceLT, Int.reduceToNat, Int.reduceAdd, Int.reduceEq, Int.reduceNeg, AH.put_ne])))
  all_goals (refine drop_end (by (first | exact fun _ _ h => h | (intro s x h; first | exact no_sub _ h | exact nil_no _ h | exact AccP.sub (by assumption) _ _ h | (refine agg_sub rfl ?_ x h; repeat (first | exact .nil | refine .cons (fun _ h => h) ?_ | refine .cons (fun _ h => nil_no _ h) ?_ | refine .cons (fun _ h => no_sub _ h) ?_ | refine .cons (fun _ h => AccP.sub (by assumption) _ _ h) ?_)) | (refine tuple_sub ?_ x h; repeat (first | exact .nil | refine .cons (fun _ h => h) ?_ | refine .cons (fun _ h => nil_no _ h) ?_ | refine .cons (fun _ h => no_sub _ h) ?_ | refine .cons (fun _ h => AccP.sub (by assumption) _ _ h) ?_ | refine .cons (fun _ h => agg_sub rfl (by repeat (first | exact .nil | refine .cons (fun _ h => h) ?_ | refine .cons (fun _ h => nil_no _ h) ?_ | refine .cons (fun _ h => no_sub _ h) ?_ | refine .cons (fun _ h => AccP.sub (by assumption) _ _ h) ?_)) _ h) ?_))))) (by (repeat (first | exact AH.le_refl _ | assumption | exact AccP.le (by assumption) | refine AH.le_put ?_ (by first | assumption | exact none_of_le (by assumption) (by assumption) | exact And.right (by assumption) | exact And.right (And.right (by assumption))) _ | refine AH.le_trans ?_ (AccP.le (by assumption))))))
end Go.Proofs.Ytjlphncecdlmcaa
namespace Go.Proofs.Ytjlphncecdlmcaa
open Go.Vm Go.Sort
attribute [local go_sem] List.drop_zero toNat_succ Nat.sub_zero Int.toNat_natCast Option.map_some Int.natCast_nonneg decide_eq_true_eq decide_eq_false_iff_not
/- flange/flangelaw04.awake -/
abbrev k23_0 : MC :=
  (.seq (.reg [
    ⟨(some 38), none, .val (.mv (.t 2))⟩,
    ⟨(some 39), none, .val (.bin .eql .num (.t 38) (.c (.int .i64 0)))⟩,
    ⟨(some 40), none, .val (.mv (.t 39))⟩,
    ⟨(some 41), (some (40, true)), .val (.mv (.t 4))⟩,
    ⟨(some 42), (some (40, true)), .val (.bin .eql .num (.t 41) (.c (.int .i64 0)))⟩,
    ⟨(some 43), none, .val (.pick (.t 40) (.t 42) (.c (.bool false)))⟩,
    ⟨(some 44), none, .val (.mv (.t 43))⟩,
    ⟨(some 45), (some (44, true)), .val (.mv (.t 5))⟩,
    ⟨(some 46), (some (44, true)), .val (.bin .eql .num (.t 45) (.c (.int .i64 1)))⟩,
    ⟨(some 47), none, .val (.pick (.t 44) (.t 46) (.c (.bool false)))⟩,
    ⟨(some 48), none, .val (.mv (.t 47))⟩,
    ⟨(some 49), (some (48, true)), .val (.mv (.t 6))⟩,
    ⟨(some 50), none, .val (.pick (.t 48) (.t 49) (.c (.bool false)))⟩,
    ⟨(some 51), none, .val (.mv (.t 50))⟩,
    ⟨(some 52), (some (51, true)), .val (.mv (.t 8))⟩,
    ⟨(some 53), (some (51, true)), .val (.bin .eql .num (.t 52) (.c (.int .i64 6)))⟩,
    ⟨(some 54), none, .val (.pick (.t 51) (.t 53) (.c (.bool false)))⟩,
    ⟨(some 0), none, .val (.mv (.t 54))⟩] [0]) (.ret))
abbrev k23_1 : MC :=
  (.seq (.reg [
    ⟨(some 32), none, .val (.load true 1 (.t 1))⟩,
    ⟨(some 33), none, .build [(.str []), (.int .i64 0)] []⟩,
    ⟨(some 34), none, .bslice 2 1 [(.str []), (.int .i64 0)] [(0, 2, (.t 33))]⟩,
    ⟨(some 35), none, .call 28 [(.t 32), (.t 34)]⟩,
    ⟨(some 31), none, .val (.mv (.t 35))⟩,
    ⟨(some 36), none, .val (.ext (.t 31) 0)⟩,
    ⟨(some 37), none, .val (.ext (.t 31) 1)⟩,
    ⟨(some 7), none, .zalloc [.nilIface]⟩,
    ⟨none, none, .store 1 (.t 7) (.t 36)⟩,
    ⟨(some 8), none, .val (.mv (.t 37))⟩] [2, 4, 5, 6, 8]) k23_0)
abbrev k23_2 : MC :=
  (.seq (.reg [
    ⟨(some 27), none, .val (.load true 1 (.t 3))⟩,
    ⟨(some 28), none, .call 75 [(.t 27)]⟩,
    ⟨(some 26), none, .val (.mv (.t 28))⟩,
    ⟨(some 29), none, .val (.ext (.t 26) 0)⟩,
    ⟨(some 30), none, .val (.ext (.t 26) 1)⟩,
    ⟨(some 5), none, .val (.mv (.t 29))⟩,
    ⟨(some 6), none, .val (.mv (.t 30))⟩] [1, 2, 4, 5, 6]) k23_1)
abbrev k23_3 : MC :=
  (.seq (.reg [
    ⟨(some 19), none, .val (.load true 1 (.t 1))⟩,
    ⟨(some 20), none, .build [(.str []), (.int .i64 0)] [(0, 1, (.c (.str [97]))), (1, 1, (.c (.int .i64 (-1))))]⟩,
    ⟨(some 21), none, .build [(.str []), (.int .i64 0)] []⟩,
    ⟨(some 22), none, .bslice 2 2 [(.str []), (.int .i64 0), (.str []), (.int .i64 0)] [(0, 2, (.t 20)), (2, 2, (.t 21))]⟩,
    ⟨(some 23), none, .call 28 [(.t 19), (.t 22)]⟩,
    ⟨(some 18), none, .val (.mv (.t 23))⟩,
    ⟨(some 24), none, .val (.ext (.t 18) 0)⟩,
    ⟨(some 25), none, .val (.ext (.t 18) 1)⟩,
    ⟨(some 3), none, .zalloc [.nilIface]⟩,
    ⟨none, none, .store 1 (.t 3) (.t 24)⟩,
    ⟨(some 4), none, .val (.mv (.t 25))⟩] [1, 2, 3, 4]) k23_2)
abbrev k23_4 : MC :=
  (.seq (.reg [
    ⟨(some 10), none, .bslice 1 1 [(.str [])] [(0, 1, (.c (.str [97])))]⟩,
    ⟨(some 11), none, .call 74 [(.c (.int .i64 1))]⟩,
    ⟨(some 12), none, .bslice 1 1 [.nilIface] [(0, 1, (.t 11))]⟩,
    ⟨(some 13), none, .call 73 [(.t 12)]⟩,
    ⟨(some 14), none, .bslice 1 1 [.nilIface] [(0, 1, (.t 13))]⟩,
    ⟨(some 15), none, .call 49 [(.t 10), (.t 14)]⟩,
    ⟨(some 9), none, .val (.mv (.t 15))⟩,
    ⟨(some 16), none, .val (.ext (.t 9) 0)⟩,
    ⟨(some 17), none, .val (.ext (.t 9) 1)⟩,
    ⟨(some 1), none, .zalloc [.nilIface]⟩,
    ⟨none, none, .store 1 (.t 1) (.t 16)⟩,
    ⟨(some 2), none, .val (.mv (.t 17))⟩] [1, 2]) k23_3)
abbrev k23 : MC :=
  (.seq (.reg [
    ⟨(some 0), none, .val (.mv (.c (.bool false)))⟩] []) k23_4)
theorem c23 : Try.f23.body.bind (mcOf Try.prog (List.contains [] ·) (List.getD [([], []), ([], [1, 2]), ([], [1, 2, 3, 4]), ([], [1, 2, 4, 5, 6]), ([], [2, 4, 5, 6, 8]), ([], [0])] · ([], [])) 55) = some k23 := by kernel_rfl
theorem r23 : rvsOf Try.prog Try.f23.results.toList = some [.tmp 0] := by kernel_rfl
def awM : Vl := .map [([97], .list [.int 1])]
theorem awake_calls (H : AH) : ACalls Try.prog 23 [] H (fun o H' => o = .ret (.bool true) ∧ H' = H) := by
  refine ACalls.drop ?_
  have h1 := mint_calls 1
  have h2 := list_calls (l := [.int 1]) (t := .tight) (by decide)
  have h3 := map_calls (ks := [[97]]) (l := [.list [.int 1]]) (t := .tight) (t2 := .tight) (by decide)
  have e3 : mapR [[97]] [.list [.int 1]] = (awM, 0) := by rfl
  have h4 := go_calls (v := awM) (l := [([97], -1), ([], 0)]) (t := .tight) (by decide)
  have e4 : goR awM [([97], -1), ([], 0)] = (.int 1, 0) := by rfl
  have h5 := go_calls (v := awM) (l := [([], 0)]) (t := .tight) (by decide)
  have e5 : goR awM [([], 0)] = (.nul, 6) := by rfl
  have h6 := int_calls (.int 1)
  simp only [vE, strE, stE, List.map_cons, List.map_nil, e3, e4, e5, Vl.isI] at h1 h2 h3 h4 h5 h6
  refine acalls Try.func23 c23 r23 (by simp [Try.ntmps23]) ?_
  repeat' (first | with_reducible (first | refine am_seq ?_ | refine am_block ?_) | ((with_reducible apply am_cond); (case hb => rfl); all_goals (intro hc; (try simp only [reduceCtorEq, decide_eq_true_eq, decide_eq_false_iff_not, Bool.or_eq_true, Bool.and_eq_true, Bool.or_eq_false_iff, Bool.not_eq_true', Bool.not_eq_false', beq_iff_eq] at hc); (try (exfalso; omega)))) | ((first | with_reducible (first | refine am_reg ?_ | refine am_drw ?_ | refine am_drx ?_ | refine am_skip ?_ | refine am_exit ?_ | refine am_ret ?_ | refine And.intro (by first | exact AH.lec_refl _ | assumption | exact AccP.lec (by assumption) | omega) ?_ | refine isnE_of (fun hc => ?_) (fun hc => ?_) (fun hc => ?_) | refine need_elems (by assumption) ?_ | refine vlen_acc (by assumption) ?_ | refine need_bytes (by assumption) ?_ | refine call_of (h1) ?_ | refine qcall_of (h1) ?_ | refine call_of (h2) ?_ | refine qcall_of (h2) ?_ | refine call_of (h3) ?_ | refine qcall_of (h3) ?_ | refine call_of (h4) ?_ | refine qcall_of (h4) ?_ | refine call_of (h5) ?_ | refine qcall_of (h5) ?_ | refine call_of (h6) ?_ | refine qcall_of (h6) ?_ | refine need_look (by repeat (first | assumption | exact AH.put_same _ _ _ | refine look_put ?_ (by assumption) | refine look_lec ?_ (by assumption))) ?_) | ((with_reducible (first | refine gd_not (fun hc => ?_) (fun hc => ?_) | refine gd_of (fun hc => ?_) (fun hc => ?_) | refine gq_not (fun hc => ?_) (fun hc => ?_) | refine gq_of (fun hc => ?_) (fun hc => ?_) | refine pickB_of (fun hc => ?_) (fun hc => ?_))) <;> (try simp -implicitDefEqProofs (disch := omega) only [go_sem, eq_self, decide_true, decide_false, Nat.reduceBEq, Nat.reduceAdd, Nat.reduceSub, Nat.reduceMul, Nat.reduceEqDiff, Nat.reduceLeDiff, Nat.reduceLT, Int.reduceLE, Int.reduceLT, Int.reduceToNat, Int.reduceAdd, Int.reduceEq, Int.reduceNeg, AH.put_ne, hc]) <;> (try simp only [reduceCtorEq, decide_eq_true_eq, decide_eq_false_iff_not, Bool.or_eq_true, Bool.and_eq_true, Bool.or_eq_false_iff, Bool.not_eq_true', Bool.not_eq_false', beq_iff_eq] at hc) <;> (try (exfalso; omega))) | ((with_reducible refine alloc_intro (fun ko hko => ?_)) <;> (try have hne := fresh_ne (by assumption) hko) <;> (try have hnk := fresh_ne hk hko) <;> (try have hnk2 := fresh_ne hk2 hko) <;> (try simp only [AH.put_none] at hko)) | ((with_reducible (first | refine vapp_accL (by assumption) ?_ (fun v2 H2 hacc hlec => ?_) | refine vapp_accL (AccP.mono (by assumption) (AccP.le (by assumption))) ?_ (fun v2 H2 hacc hlec => ?_) | refine vapp_accL (AccP.new (by assumption) (by assumption) _) ?_ (fun v2 H2 hacc hlec => ?_))); · simp only [byteCells_length, List.length_cons, List.length_nil, List.length_map, List.length_append, vE_length, mE_length, strE_len, List.length_take, rvE_length]; omega)) <;> (try simp -implicitDefEqProofs (disch := omega) only [go_sem, eq_self, decide_true, decide_false, Nat.reduceBEq, Nat.reduceAdd, Nat.reduceSub, Nat.reduceMul, Nat.reduceEqDiff, Nat.reduceLeDiff, Nat.reduceLT, Int.reduceLE, Int.reduceLT, Int.reduceToNat, Int.reduceAdd, Int.reduceEq, Int.reduceNeg, AH.put_ne])))
  all_goals (refine drop_end (by (first | exact fun _ _ h => h | (intro s x h; first | exact no_sub _ h | exact nil_no _ h | exact AccP.sub (by assumption) _ _ h | (refine agg_sub rfl ?_ x h; repeat (first | exact .nil | refine .cons (fun _ h => h) ?_ | refine .cons (fun _ h => nil_no _ h) ?_ | refine .cons (fun _ h => no_sub _ h) ?_ | refine .cons (fun _ h => AccP.sub (by assumption) _ _ h) ?_)) | (refine tuple_sub ?_ x h; repeat (first | exact .nil | refine .cons (fun _ h => h) ?_ | refine .cons (fun _ h => nil_no _ h) ?_ | refine .cons (fun _ h => no_sub _ h) ?_ | refine .cons (fun _ h => AccP.sub (by assumption) _ _ h) ?_ | refine .cons (fun _ h => agg_sub rfl (by repeat (first | exact .nil | refine .cons (fun _ h => h) ?_ | refine .cons (fun _ h => nil_no _ h) ?_ | refine .cons (fun _ h => no_sub _ h) ?_ | refine .cons (fun _ h => AccP.sub (by assumption) _ _ h) ?_)) _ h) ?_))))) (by (repeat (first | exact AH.le_refl _ | assumption | exact AccP.le (by assumption) | refine AH.le_put ?_ (by first | assumption | exact none_of_le (by assumption) (by assumption) | exact And.right (by assumption) | exact And.right (And.right (by assumption))) _ | refine AH.le_trans ?_ (AccP.le (by assumption))))))
end Go.Proofs.Ytjlphncecdlmcaa
