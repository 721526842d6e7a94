/- Of the walks of this seat: contracts of functions of the given program, proved over the abstract values of the texts Vm. Conditions: as each theorem says. -/
import Derived.Test.YtjlphncecdlmcaaVD
import Derived.Test.YtjlphncecdlmcaaVC1
set_option linter.unusedVariables false
set_option linter.unusedSimpArgs false
namespace Go.Proofs.Ytjlphncecdlmcaa
open Go.Vm Go.Sort
attribute [local go_sem] List.drop_zero toNat_succ Nat.sub_zero Int.toNat_natCast Option.map_some Int.natCast_nonneg decide_eq_true_eq decide_eq_false_iff_not
/- (flange/value.Value).fresh -/
abbrev k136_0 : MC :=
  .cond (.t 10) ((.seq (.reg [
     ⟨(some 6), none, .val (.mv (.c (.bool true)))⟩] [6]) (.ret))) (.skip)
abbrev k136_1 : MC :=
  (.seq (.reg [
    ⟨(some 17), none, .val (.mv (.t 2))⟩,
    ⟨(some 18), none, .val (.bin .eql .num (.t 17) (.c (.int .i64 2)))⟩,
    ⟨(some 19), none, .val (.mv (.t 18))⟩,
    ⟨(some 20), (some (19, true)), .val (.faddr 1 (.t 4))⟩,
    ⟨(some 21), (some (19, true)), .val (.load false 1 (.t 20))⟩,
    ⟨(some 22), (some (19, true)), .val (.mv (.t 7))⟩,
    ⟨(some 23), (some (19, true)), .val (.len .sl (.t 22))⟩,
    ⟨(some 24), (some (19, true)), .val (.bin .eql .num (.t 21) (.t 23))⟩,
    ⟨(some 25), none, .val (.pick (.t 19) (.t 24) (.c (.bool false)))⟩,
    ⟨(some 6), none, .val (.mv (.t 25))⟩] [6]) (.ret))
abbrev k136_2 : MC :=
  (.seq (.reg [
    ⟨(some 12), none, .val (.faddr 0 (.t 3))⟩,
    ⟨(some 13), none, .val (.load false 1 (.t 12))⟩,
    ⟨(some 14), none, .val (.tya 129 true .nilSl (.t 13))⟩,
    ⟨(some 11), none, .val (.mv (.t 14))⟩,
    ⟨(some 15), none, .val (.ext (.t 11) 0)⟩,
    ⟨(some 16), none, .val (.ext (.t 11) 1)⟩,
    ⟨(some 7), none, .val (.mv (.t 15))⟩,
    ⟨(some 8), none, .val (.mv (.t 16))⟩] [2, 4, 7]) k136_1)
abbrev k136_3 : MC :=
  (.seq ((.seq (.reg [
    ⟨(some 9), none, .val (.mv (.t 2))⟩,
    ⟨(some 10), none, .val (.bin .eql .num (.t 9) (.c (.int .i64 8)))⟩] [2, 3, 4, 10]) k136_0)) k136_2)
abbrev k136 : MC :=
  (.seq (.reg [
    ⟨(some 3), none, .boxi (.t 0)⟩,
    ⟨(some 4), none, .boxi (.t 1)⟩,
    ⟨(some 6), none, .val (.mv (.c (.bool false)))⟩] [2, 3, 4]) k136_3)
theorem c136 : Try.f136.body.bind (mcOf Try.prog (List.contains [3, 4] ·) (List.getD [([], [2, 3, 4]), ([], [2, 3, 4, 10]), ([], [6]), ([], [2, 4, 7]), ([], [6])] · ([], [])) 26) = some k136 := by kernel_rfl
theorem r136 : rvsOf Try.prog Try.f136.results.toList = some [.tmp 6] := by kernel_rfl
/- (flange/value.Value).put -/
abbrev k137_0 : MC :=
  .cond (.t 25) ((.seq (.reg [
     ⟨(some 26), none, .val (.mv (.t 7))⟩,
     ⟨(some 27), none, .val (.load true 1 (.t 4))⟩,
     ⟨(some 28), none, .bslice 1 1 [.nilIface] [(0, 1, (.t 27))]⟩,
     ⟨(some 29), none, .app 1 16 (.t 26) (.t 28)⟩,
     ⟨(some 30), none, .val (.mkif 129 (.t 29))⟩,
     ⟨(some 31), none, .build [.nilIface] [(0, 1, (.t 30))]⟩,
     ⟨none, none, .store 1 (.t 6) (.t 31)⟩] [6]) (.ret))) (.skip)
abbrev k137_1 : MC :=
  (.seq (.reg [
    ⟨(some 37), none, .val (.mv (.t 7))⟩,
    ⟨(some 38), none, .val (.mkif 129 (.t 37))⟩,
    ⟨(some 39), none, .build [.nilIface] [(0, 1, (.t 38))]⟩,
    ⟨none, none, .store 1 (.t 6) (.t 39)⟩] [6]) (.ret))
abbrev k137_2 : MC :=
  (.seq (.reg [
    ⟨(some 32), none, .val (.mv (.t 7))⟩,
    ⟨(some 33), none, .val (.faddr 1 (.t 5))⟩,
    ⟨(some 34), none, .val (.load false 1 (.t 33))⟩,
    ⟨(some 35), none, .val (.load true 1 (.t 4))⟩,
    ⟨(some 36), none, .val (.iaddr 1 (.t 32) (.t 34))⟩,
    ⟨none, none, .store 1 (.t 36) (.t 35)⟩] [6, 7]) k137_1)
abbrev k137_3 : MC :=
  (.seq ((.seq (.reg [
    ⟨(some 21), none, .val (.faddr 1 (.t 5))⟩,
    ⟨(some 22), none, .val (.load false 1 (.t 21))⟩,
    ⟨(some 23), none, .val (.mv (.t 7))⟩,
    ⟨(some 24), none, .val (.len .sl (.t 23))⟩,
    ⟨(some 25), none, .val (.bin .eql .num (.t 22) (.t 24))⟩] [4, 5, 6, 7, 25]) k137_0)) k137_2)
abbrev k137_4 : MC :=
  .cond (.t 16) ((.seq (.reg [
     ⟨(some 17), none, .val (.faddr 0 (.t 3))⟩,
     ⟨(some 18), none, .val (.load false 1 (.t 17))⟩,
     ⟨(some 19), none, .tap 129 (.t 18)⟩,
     ⟨(some 20), none, .call 126 [(.t 19)]⟩,
     ⟨(some 7), none, .val (.mv (.t 20))⟩] [4, 5, 6, 7]) k137_3)) (.skip)
abbrev k137_5 : MC :=
  (.seq (.reg [
    ⟨(some 48), none, .val (.mv (.t 8))⟩,
    ⟨(some 49), none, .val (.mkif 131 (.t 48))⟩,
    ⟨(some 50), none, .build [.nilIface] [(0, 1, (.t 49))]⟩,
    ⟨none, none, .store 1 (.t 6) (.t 50)⟩] [6]) (.ret))
abbrev k137_6 : MC :=
  (.seq (.reg [
    ⟨(some 44), none, .val (.mv (.t 8))⟩,
    ⟨(some 45), none, .val (.faddr 0 (.t 5))⟩,
    ⟨(some 46), none, .val (.load false 1 (.t 45))⟩,
    ⟨(some 47), none, .val (.load true 1 (.t 4))⟩,
    ⟨none, none, .xo (.mset .str) [(.t 44), (.t 46), (.t 47)]⟩] [6, 8]) k137_5)
abbrev k137_7 : MC :=
  (.seq (.reg [
    ⟨(some 40), none, .val (.faddr 0 (.t 3))⟩,
    ⟨(some 41), none, .val (.load false 1 (.t 40))⟩,
    ⟨(some 42), none, .tap 131 (.t 41)⟩,
    ⟨(some 43), none, .call 153 [(.t 42)]⟩,
    ⟨(some 8), none, .val (.mv (.t 43))⟩] [4, 5, 6, 8]) k137_6)
abbrev k137_8 : MC :=
  (.seq ((.seq (.reg [
    ⟨(some 9), none, .val (.faddr 1 (.t 5))⟩,
    ⟨(some 10), none, .val (.load false 1 (.t 9))⟩,
    ⟨(some 11), none, .val (.bin .geq .num (.t 10) (.c (.int .i64 0)))⟩,
    ⟨(some 12), none, .val (.mv (.t 11))⟩,
    ⟨(some 13), (some (12, true)), .val (.faddr 0 (.t 5))⟩,
    ⟨(some 14), (some (12, true)), .val (.load false 1 (.t 13))⟩,
    ⟨(some 15), (some (12, true)), .val (.bin .eql .num (.t 14) (.c (.str [])))⟩,
    ⟨(some 16), none, .val (.pick (.t 12) (.t 15) (.c (.bool false)))⟩] [3, 4, 5, 6, 16]) k137_4)) k137_7)
abbrev k137 : MC :=
  (.seq (.reg [
    ⟨(some 3), none, .boxi (.t 0)⟩,
    ⟨(some 4), none, .boxi (.t 1)⟩,
    ⟨(some 5), none, .boxi (.t 2)⟩,
    ⟨(some 6), none, .zalloc [.nilIface]⟩] [3, 4, 5, 6]) k137_8)
theorem c137 : Try.f137.body.bind (mcOf Try.prog (List.contains [3, 4, 5, 20] ·) (List.getD [([], [3, 4, 5, 6]), ([], [3, 4, 5, 6, 16]), ([], [4, 5, 6, 7]), ([], [4, 5, 6, 7, 25]), ([], [6]), ([], [6, 7]), ([], [6]), ([], [4, 5, 6, 8]), ([], [6, 8]), ([], [6])] · ([], [])) 51) = some k137 := by kernel_rfl
theorem r137 : rvsOf Try.prog Try.f137.results.toList = some [.cell 6 true 1] := by kernel_rfl
abbrev kcl_1 : MC :=
  (.seq (.reg [
    ⟨(some 5), none, .bslice 1 0 [] []⟩,
    ⟨(some 6), none, .val (.mv (.t 0))⟩,
    ⟨(some 7), none, .xo (.appm 1 16) [(.t 5), (.t 6)]⟩,
    ⟨(some 2), none, .val (.mv (.t 7))⟩] [2]) (.ret))
abbrev kcl_2 : MC :=
  (.seq ((.seq (.reg [
    ⟨(some 3), none, .val (.mv (.t 0))⟩,
    ⟨(some 4), none, .isnil false (.t 3)⟩] [0, 4]) k126_0)) kcl_1)
abbrev kcl : MC :=
  (.seq (.reg [
    ⟨(some 2), none, .val (.mv (.c .nilSl))⟩] [0]) kcl_2)
theorem ccl : Try.f126.body.bind (mcOf Try.prog (List.contains [7] ·) (List.getD [([], [0]), ([], [0, 4]), ([], [2]), ([], [2])] · ([], [])) 8) = some kcl := by kernel_rfl
theorem vE_flat (l : List Vl) : (vE l).flatten = l.map vV := by
  induction l with
  | nil => rfl
  | cons x l ih => simp only [vE, List.map_cons, List.flatten_cons] at ih ⊢; rw [ih]; rfl
theorem clonem_calls {l : List Vl} {t : Tok} (hl : l.length * 16 ≤ 140000000000000) (hne : l ≠ []) (H : AH) : ACalls Try.prog 126 [.sl 1 (vE l) t] H (fun o H' => ∃ v, o = .ret v ∧ ∃ k, H k = none ∧ v = .msl k 1 0 l.length ∧ H' = H.put k (.cells (l.map vV))) := by
  have hv : vE l ≠ [] := by cases l <;> simp_all [vE]
  refine acalls Try.func126 ccl r126 (by simp [Try.ntmps126]) ?_
  repeat' (first | with_reducible (first | refine am_seq ?_ | refine am_block ?_) | ((with_reducible apply am_cond); (case hb => rfl); all_goals (intro hc; (try simp only [reduceCtorEq, decide_eq_true_eq, decide_eq_false_iff_not, Bool.or_eq_true, Bool.and_eq_true, Bool.or_eq_false_iff, Bool.not_eq_true', Bool.not_eq_false', beq_iff_eq] at hc); (try (exfalso; omega)))) | ((first | with_reducible (first | refine am_reg ?_ | refine am_drw ?_ | refine am_drx ?_ | refine am_skip ?_ | refine am_exit ?_ | refine am_ret ?_ | refine And.intro (by first | exact AH.lec_refl _ | assumption | exact AccP.lec (by assumption) | omega) ?_ | refine isnE_of (fun hc => ?_) (fun hc => ?_) (fun hc => ?_) | refine need_elems (by assumption) ?_ | refine vlen_acc (by assumption) ?_ | refine need_bytes (by assumption) ?_ | refine need_look (by repeat (first | assumption | exact AH.put_same _ _ _ | refine look_put ?_ (by assumption) | refine look_lec ?_ (by assumption))) ?_) | ((with_reducible (first | refine gd_not (fun hc => ?_) (fun hc => ?_) | refine gd_of (fun hc => ?_) (fun hc => ?_) | refine gq_not (fun hc => ?_) (fun hc => ?_) | refine gq_of (fun hc => ?_) (fun hc => ?_) | refine pickB_of (fun hc => ?_) (fun hc => ?_))) <;> (try simp -implicitDefEqProofs (disch := omega) only [go_sem, eq_self, decide_true, decide_false, Nat.reduceBEq, Nat.reduceAdd, Nat.reduceSub, Nat.reduceMul, Nat.reduceEqDiff, Nat.reduceLeDiff, Nat.reduceLT, Int.reduceLE, Int.reduceLT, Int.reduceToNat, Int.reduceAdd, Int.reduceEq, Int.reduceNeg, AH.put_ne, hc, vE_length, hv, vappm, appmK, elemsH, true_and, ne_eq, not_false_eq_true, true_implies, false_implies, List.length_nil, Nat.zero_add, List.nil_append]) <;> (try simp only [reduceCtorEq, decide_eq_true_eq, decide_eq_false_iff_not, Bool.or_eq_true, Bool.and_eq_true, Bool.or_eq_false_iff, Bool.not_eq_true', Bool.not_eq_false', beq_iff_eq] at hc) <;> (try (exfalso; omega))) | ((with_reducible refine alloc_intro (fun ko hko => ?_)) <;> (try have hne := fresh_ne (by assumption) hko) <;> (try have hnk := fresh_ne hk hko) <;> (try have hnk2 := fresh_ne hk2 hko) <;> (try simp only [AH.put_none] at hko)) | ((with_reducible (first | refine vapp_accL (by assumption) ?_ (fun v2 H2 hacc hlec => ?_) | refine vapp_accL (AccP.mono (by assumption) (AccP.le (by assumption))) ?_ (fun v2 H2 hacc hlec => ?_) | refine vapp_accL (AccP.new (by assumption) (by assumption) _) ?_ (fun v2 H2 hacc hlec => ?_))); · simp only [byteCells_length, List.length_cons, List.length_nil, List.length_map, List.length_append, vE_length, mE_length, strE_len, List.length_take, rvE_length]; omega)) <;> (try simp -implicitDefEqProofs (disch := omega) only [go_sem, eq_self, decide_true, decide_false, Nat.reduceBEq, Nat.reduceAdd, Nat.reduceSub, Nat.reduceMul, Nat.reduceEqDiff, Nat.reduceLeDiff, Nat.reduceLT, Int.reduceLE, Int.reduceLT, Int.reduceToNat, Int.reduceAdd, Int.reduceEq, Int.reduceNeg, AH.put_ne, vE_length, hv, vappm, appmK, elemsH, true_and, ne_eq, not_false_eq_true, true_implies, false_implies, List.length_nil, Nat.zero_add, List.nil_append])))
  · exact absurd (by assumption) hv
  all_goals (rw [vE_flat]; exact ⟨_, rfl, ko, hko, rfl, rfl⟩)
theorem clonet_calls {l : List Vl} {t : Tok} (hl : l.length * 16 ≤ 140000000000000) (H : AH) : ACalls Try.prog 126 [.sl 1 (vE l) t] H (fun o H' => ∃ v, o = .ret v ∧ AccP H 1 (vE l) v H') := by
  refine acalls Try.func126 c126 r126 (by simp [Try.ntmps126]) ?_
  repeat' (first | with_reducible (first | refine am_seq ?_ | refine am_block ?_) | ((with_reducible apply am_cond); (case hb => rfl); all_goals (intro hc; (try simp only [reduceCtorEq, decide_eq_true_eq, decide_eq_false_iff_not, Bool.or_eq_true, Bool.and_eq_true, Bool.or_eq_false_iff, Bool.not_eq_true', Bool.not_eq_false', beq_iff_eq] at hc); (try (exfalso; omega)))) | ((first | with_reducible (first | refine am_reg ?_ | refine am_drw ?_ | refine am_drx ?_ | refine am_skip ?_ | refine am_exit ?_ | refine am_ret ?_ | refine And.intro (by first | exact AH.lec_refl _ | assumption | exact AccP.lec (by assumption) | omega) ?_ | refine isnE_of (fun hc => ?_) (fun hc => ?_) (fun hc => ?_) | refine need_elems (by assumption) ?_ | refine vlen_acc (by assumption) ?_ | refine need_bytes (by assumption) ?_ | refine need_look (by repeat (first | assumption | exact AH.put_same _ _ _ | refine look_put ?_ (by assumption) | refine look_lec ?_ (by assumption))) ?_) | ((with_reducible (first | refine gd_not (fun hc => ?_) (fun hc => ?_) | refine gd_of (fun hc => ?_) (fun hc => ?_) | refine gq_not (fun hc => ?_) (fun hc => ?_) | refine gq_of (fun hc => ?_) (fun hc => ?_) | refine pickB_of (fun hc => ?_) (fun hc => ?_))) <;> (try simp -implicitDefEqProofs (disch := omega) only [go_sem, eq_self, decide_true, decide_false, Nat.reduceBEq, Nat.reduceAdd, Nat.reduceSub, Nat.reduceMul, Nat.reduceEqDiff, Nat.reduceLeDiff, Nat.reduceLT, Int.reduceLE, Int.reduceLT, Int.reduceToNat, Int.reduceAdd, Int.reduceEq, Int.reduceNeg, AH.put_ne, hc, vE_length]) <;> (try simp only [reduceCtorEq, decide_eq_true_eq, decide_eq_false_iff_not, Bool.or_eq_true, Bool.and_eq_true, Bool.or_eq_false_iff, Bool.not_eq_true', Bool.not_eq_false', beq_iff_eq] at hc) <;> (try (exfalso; omega))) | ((with_reducible refine alloc_intro (fun ko hko => ?_)) <;> (try have hne := fresh_ne (by assumption) hko) <;> (try have hnk := fresh_ne hk hko) <;> (try have hnk2 := fresh_ne hk2 hko) <;> (try simp only [AH.put_none] at hko)) | ((with_reducible (first | refine vapp_accL (by assumption) ?_ (fun v2 H2 hacc hlec => ?_) | refine vapp_accL (AccP.mono (by assumption) (AccP.le (by assumption))) ?_ (fun v2 H2 hacc hlec => ?_) | refine vapp_accL (AccP.new (by assumption) (by assumption) _) ?_ (fun v2 H2 hacc hlec => ?_))); · simp only [byteCells_length, List.length_cons, List.length_nil, List.length_map, List.length_append, vE_length, mE_length, strE_len, List.length_take, rvE_length]; omega)) <;> (try simp -implicitDefEqProofs (disch := omega) only [go_sem, eq_self, decide_true, decide_false, Nat.reduceBEq, Nat.reduceAdd, Nat.reduceSub, Nat.reduceMul, Nat.reduceEqDiff, Nat.reduceLeDiff, Nat.reduceLT, Int.reduceLE, Int.reduceLT, Int.reduceToNat, Int.reduceAdd, Int.reduceEq, Int.reduceNeg, AH.put_ne, vE_length])))
  · rename_i he; exact ⟨_, rfl, AH.le_refl _, .inl ⟨he, rfl⟩⟩
  all_goals exact ⟨_, rfl, AH.le_put (AH.le_refl _) hko _, .inr ⟨ko, hko, by rw [List.nil_append], by rw [vE_length, AH.put_same]⟩⟩
def freshB (v : Vl) (n e : Int) : Bool := decide (e = 8) || (decide (e = 2) && match v with
  | .list l => decide (n = l.length)
  | _ => decide (n = 0))
theorem fresh_calls (v : Vl) (k : List UInt8) (n e : Int) (H : AH) : ACalls Try.prog 136 [.agg [vV v], .agg [.str k, .int .i64 n], .int .i64 e] H (fun o H' => o = .ret (.bool (freshB v n e)) ∧ H' = H) := by
  refine ACalls.drop ?_
  unfold freshB
  refine acalls Try.func136 c136 r136 (by simp [Try.ntmps136]) ?_
  cases v
  all_goals simp only [vV_nul, vV_unk, vV_bool, vV_int, vV_pt, vV_text, vV_list, vV_map]
  repeat' (first | with_reducible (first | refine am_seq ?_ | refine am_block ?_) | ((with_reducible apply am_cond); (case hb => rfl); all_goals (intro hc; (try simp only [reduceCtorEq, decide_eq_true_eq, decide_eq_false_iff_not, Bool.or_eq_true, Bool.and_eq_true, Bool.or_eq_false_iff, Bool.not_eq_true', Bool.not_eq_false', beq_iff_eq] at hc); (try (exfalso; omega)))) | ((first | with_reducible (first | refine am_reg ?_ | refine am_drw ?_ | refine am_drx ?_ | refine am_skip ?_ | refine am_exit ?_ | refine am_ret ?_ | refine And.intro (by first | exact AH.lec_refl _ | assumption | exact AccP.lec (by assumption) | omega) ?_ | refine isnE_of (fun hc => ?_) (fun hc => ?_) (fun hc => ?_) | refine need_elems (by assumption) ?_ | refine vlen_acc (by assumption) ?_ | refine need_bytes (by assumption) ?_ | refine need_look (by repeat (first | assumption | exact AH.put_same _ _ _ | refine look_put ?_ (by assumption) | refine look_lec ?_ (by assumption))) ?_) | ((with_reducible (first | refine gd_not (fun hc => ?_) (fun hc => ?_) | refine gd_of (fun hc => ?_) (fun hc => ?_) | refine gq_not (fun hc => ?_) (fun hc => ?_) | refine gq_of (fun hc => ?_) (fun hc => ?_) | refine pickB_of (fun hc => ?_) (fun hc => ?_))) <;> (try simp -implicitDefEqProofs (disch := omega) only [go_sem, eq_self, decide_true, decide_false, Nat.reduceBEq, Nat.reduceAdd, Nat.reduceSub, Nat.reduceMul, Nat.reduceEqDiff, Nat.reduceLeDiff, Nat.reduceLT, Int.reduceLE, Int.reduceLT, Int.reduceToNat, Int.reduceAdd, Int.reduceEq, Int.reduceNeg, AH.put_ne, hc, vE_length, true_or, or_true, true_and]) <;> (try simp only [reduceCtorEq, decide_eq_true_eq, decide_eq_false_iff_not, Bool.or_eq_true, Bool.and_eq_true, Bool.or_eq_false_iff, Bool.not_eq_true', Bool.not_eq_false', beq_iff_eq] at hc) <;> (try (exfalso; omega))) | ((with_reducible refine alloc_intro (fun ko hko => ?_)) <;> (try have hne := fresh_ne (by assumption) hko) <;> (try have hnk := fresh_ne hk hko) <;> (try have hnk2 := fresh_ne hk2 hko) <;> (try simp only [AH.put_none] at hko)) | ((with_reducible (first | refine vapp_accL (by assumption) ?_ (fun v2 H2 hacc hlec => ?_) | refine vapp_accL (AccP.mono (by assumption) (AccP.le (by assumption))) ?_ (fun v2 H2 hacc hlec => ?_) | refine vapp_accL (AccP.new (by assumption) (by assumption) _) ?_ (fun v2 H2 hacc hlec => ?_))); · simp only [byteCells_length, List.length_cons, List.length_nil, List.length_map, List.length_append, vE_length, mE_length, strE_len, List.length_take, rvE_length]; omega)) <;> (try simp -implicitDefEqProofs (disch := omega) only [go_sem, eq_self, decide_true, decide_false, Nat.reduceBEq, Nat.reduceAdd, Nat.reduceSub, Nat.reduceMul, Nat.reduceEqDiff, Nat.reduceLeDiff, Nat.reduceLT, Int.reduceLE, Int.reduceLT, Int.reduceToNat, Int.reduceAdd, Int.reduceEq, Int.reduceNeg, AH.put_ne, vE_length, true_or, or_true, true_and])))
  all_goals refine end_eq (congrArg V.bool ?_) (AH.le_refl _)
  all_goals simp [*]
def putE (k : List UInt8) (x : Vl) : List (List UInt8 × Vl) → List (List UInt8 × Vl)
  | [] => [(k, x)]
  | p :: es => if p.1 = k then (k, x) :: es else p :: putE k x es
def Vl.put (v x : Vl) (k : List UInt8) (n : Int) : Option Vl :=
  if 0 ≤ n ∧ k = [] then match v with
    | .list l => if n = l.length then some (.list (l ++ [x])) else if n < l.length then some (.list (l.set n.toNat x)) else none
    | _ => none
  else match v with
    | .map es => some (.map (putE k x es))
    | _ => none
theorem mE_putE (k : List UInt8) (x : Vl) : ∀ es, mput .str (.str k) (.agg [vV x]) (mE es) = mE (putE k x es)
  | [] => rfl
  | p :: es => by
    have := mE_putE k x es
    simp only [mE, List.map_cons, mput, BK.eq, putE] at this ⊢
    by_cases h : p.1 = k
    · subst h; simp
    · have h' : ¬ k = p.1 := fun e => h e.symm
      simp only [h, h', decide_false, if_false, List.map_cons]
      rw [if_neg (by decide), this]
theorem put_a {l : List Vl} {x : Vl} (hl : l.length * 16 ≤ 100000000000000) (H : AH) : ACalls Try.prog 137 [.agg [vV (.list l)], .agg [vV x], .agg [.str [], .int .i64 l.length]] H (fun o H' => o = .ret (.agg [vV (.list (l ++ [x]))]) ∧ H' = H) := by
  refine ACalls.drop ?_
  rw [vV_list, vV_list]
  have hz : (0 : Int) ≤ l.length := Int.natCast_nonneg _
  refine acalls Try.func137 c137 r137 (by simp [Try.ntmps137]) ?_
  repeat' (first | with_reducible (first | refine am_seq ?_ | refine am_block ?_) | ((with_reducible apply am_cond); (case hb => rfl); all_goals (intro hc; (try simp only [reduceCtorEq, decide_eq_true_eq, decide_eq_false_iff_not, Bool.or_eq_true, Bool.and_eq_true, Bool.or_eq_false_iff, Bool.not_eq_true', Bool.not_eq_false', beq_iff_eq] at hc); (try (exfalso; omega)))) | ((first | with_reducible (first | refine am_reg ?_ | refine am_drw ?_ | refine am_drx ?_ | refine am_skip ?_ | refine am_exit ?_ | refine am_ret ?_ | refine And.intro (by first | exact AH.lec_refl _ | assumption | exact AccP.lec (by assumption) | omega) ?_ | refine isnE_of (fun hc => ?_) (fun hc => ?_) (fun hc => ?_) | refine need_elems (by assumption) ?_ | refine vlen_acc (by assumption) ?_ | refine need_bytes (by assumption) ?_ | refine call_ex (clonet_calls (by omega) _) (fun v H2 hr => ?_) | refine need_look (by repeat (first | assumption | exact AH.put_same _ _ _ | refine look_put ?_ (by assumption) | refine look_lec ?_ (by assumption))) ?_) | ((with_reducible (first | refine gd_not (fun hc => ?_) (fun hc => ?_) | refine gd_of (fun hc => ?_) (fun hc => ?_) | refine gq_not (fun hc => ?_) (fun hc => ?_) | refine gq_of (fun hc => ?_) (fun hc => ?_) | refine pickB_of (fun hc => ?_) (fun hc => ?_))) <;> (try simp -implicitDefEqProofs (disch := omega) only [go_sem, eq_self, decide_true, decide_false, Nat.reduceBEq, Nat.reduceAdd, Nat.reduceSub, Nat.reduceMul, Nat.reduceEqDiff, Nat.reduceLeDiff, Nat.reduceLT, Int.reduceLE, Int.reduceLT, Int.reduceToNat, Int.reduceAdd, Int.reduceEq, Int.reduceNeg, AH.put_ne, hc, hz, true_or, or_true, true_and]) <;> (try simp only [reduceCtorEq, decide_eq_true_eq, decide_eq_false_iff_not, Bool.or_eq_true, Bool.and_eq_true, Bool.or_eq_false_iff, Bool.not_eq_true', Bool.not_eq_false', beq_iff_eq] at hc) <;> (try (exfalso; omega))) | ((with_reducible refine alloc_intro (fun ko hko => ?_)) <;> (try have hne := fresh_ne (by assumption) hko) <;> (try have hnk := fresh_ne hk hko) <;> (try have hnk2 := fresh_ne hk2 hko) <;> (try simp only [AH.put_none] at hko)) | ((with_reducible (first | refine vapp_accL (by assumption) ?_ (fun v2 H2 hacc hlec => ?_) | refine vapp_accL (AccP.mono (by assumption) (AccP.le (by assumption))) ?_ (fun v2 H2 hacc hlec => ?_) | refine vapp_accL (AccP.new (by assumption) (by assumption) _) ?_ (fun v2 H2 hacc hlec => ?_))); · simp only [byteCells_length, List.length_cons, List.length_nil, List.length_map, List.length_append, vE_length, mE_length, strE_len, List.length_take, rvE_length]; omega)) <;> (try simp -implicitDefEqProofs (disch := omega) only [go_sem, eq_self, decide_true, decide_false, Nat.reduceBEq, Nat.reduceAdd, Nat.reduceSub, Nat.reduceMul, Nat.reduceEqDiff, Nat.reduceLeDiff, Nat.reduceLT, Int.reduceLE, Int.reduceLT, Int.reduceToNat, Int.reduceAdd, Int.reduceEq, Int.reduceNeg, AH.put_ne, hz, true_or, or_true, true_and])))
  · have hk1 : H2 ko = some (.cells [.nilIface]) := hacc.le _ _ (AH.put_same _ _ _)
    have hle : H.le H2 := AH.le_trans (AH.le_put (AH.le_refl _) hko _) hacc.le
    obtain ⟨kk, rfl⟩ := accp_sl hacc
    repeat' (first | with_reducible (first | refine am_seq ?_ | refine am_block ?_) | ((with_reducible apply am_cond); (case hb => rfl); all_goals (intro hc; (try simp only [reduceCtorEq, decide_eq_true_eq, decide_eq_false_iff_not, Bool.or_eq_true, Bool.and_eq_true, Bool.or_eq_false_iff, Bool.not_eq_true', Bool.not_eq_false', beq_iff_eq] at hc); (try (exfalso; omega)))) | ((first | with_reducible (first | refine am_reg ?_ | refine am_drw ?_ | refine am_drx ?_ | refine am_skip ?_ | refine am_exit ?_ | refine am_ret ?_ | refine And.intro (by first | exact AH.lec_refl _ | assumption | exact AccP.lec (by assumption) | omega) ?_ | refine isnE_of (fun hc => ?_) (fun hc => ?_) (fun hc => ?_) | refine need_elems (by assumption) ?_ | refine vlen_acc (by assumption) ?_ | refine need_bytes (by assumption) ?_ | refine need_look (by repeat (first | assumption | exact AH.put_same _ _ _ | refine look_put ?_ (by assumption) | refine look_lec ?_ (by assumption))) ?_) | ((with_reducible (first | refine gd_not (fun hc => ?_) (fun hc => ?_) | refine gd_of (fun hc => ?_) (fun hc => ?_) | refine gq_not (fun hc => ?_) (fun hc => ?_) | refine gq_of (fun hc => ?_) (fun hc => ?_) | refine pickB_of (fun hc => ?_) (fun hc => ?_))) <;> (try simp -implicitDefEqProofs (disch := omega) only [go_sem, eq_self, decide_true, decide_false, Nat.reduceBEq, Nat.reduceAdd, Nat.reduceSub, Nat.reduceMul, Nat.reduceEqDiff, Nat.reduceLeDiff, Nat.reduceLT, Int.reduceLE, Int.reduceLT, Int.reduceToNat, Int.reduceAdd, Int.reduceEq, Int.reduceNeg, AH.put_ne, hc, hk1]) <;> (try simp only [reduceCtorEq, decide_eq_true_eq, decide_eq_false_iff_not, Bool.or_eq_true, Bool.and_eq_true, Bool.or_eq_false_iff, Bool.not_eq_true', Bool.not_eq_false', beq_iff_eq] at hc) <;> (try (exfalso; omega))) | ((with_reducible refine alloc_intro (fun ko hko => ?_)) <;> (try have hne := fresh_ne (by assumption) hko) <;> (try have hnk := fresh_ne hk hko) <;> (try have hnk2 := fresh_ne hk2 hko) <;> (try simp only [AH.put_none] at hko)) | ((with_reducible (first | refine vapp_accL (by assumption) ?_ (fun v2 H2 hacc hlec => ?_) | refine vapp_accL (AccP.mono (by assumption) (AccP.le (by assumption))) ?_ (fun v2 H2 hacc hlec => ?_) | refine vapp_accL (AccP.new (by assumption) (by assumption) _) ?_ (fun v2 H2 hacc hlec => ?_))); · simp only [byteCells_length, List.length_cons, List.length_nil, List.length_map, List.length_append, vE_length, mE_length, strE_len, List.length_take, rvE_length]; omega)) <;> (try simp -implicitDefEqProofs (disch := omega) only [go_sem, eq_self, decide_true, decide_false, Nat.reduceBEq, Nat.reduceAdd, Nat.reduceSub, Nat.reduceMul, Nat.reduceEqDiff, Nat.reduceLeDiff, Nat.reduceLT, Int.reduceLE, Int.reduceLT, Int.reduceToNat, Int.reduceAdd, Int.reduceEq, Int.reduceNeg, AH.put_ne, hk1])))
    all_goals (refine drop_end (fun s y h => ?_) (AH.le_put hle hko _); rw [← vE_app]; exact agg_sub rfl (.cons (fun y h => iface_sub (fun y h => no_sub _ h) y h) .nil) y h)
  · exact absurd (by rw [vE_length]) hc
theorem chop_vE : ∀ l : List Vl, chop 1 l.length (l.map vV) = vE l
  | [] => rfl
  | x :: l => by
    rw [List.length_cons, chop, List.map_cons]
    have := chop_vE l
    simp only [List.take_succ_cons, List.take_zero, List.drop_succ_cons, List.drop_zero, vE, List.map_cons] at this ⊢
    rw [this]
theorem put_b {l : List Vl} {x : Vl} {n : Int} (hl : l.length * 16 ≤ 100000000000000) (h0 : 0 ≤ n) (hn : n < l.length) (H : AH) : ACalls Try.prog 137 [.agg [vV (.list l)], .agg [vV x], .agg [.str [], .int .i64 n]] H (fun o H' => o = .ret (.agg [vV (.list (l.set n.toNat x))]) ∧ H' = H) := by
  have hne : l ≠ [] := by rintro rfl; simp at hn; omega
  refine ACalls.drop (ACalls.mono (ACalls.freeze (R := fun v H' => (∀ (s : St) y, s.val v y → s.val (.agg [vV (.list (l.set n.toNat x))]) y) ∧ H.le H') (Q := fun o H' => ∃ k, o = .ret (.agg [.iface 129 (.msl k 1 0 l.length)]) ∧ H' k = some (.cells ((l.set n.toNat x).map vV)) ∧ H.le (H'.del k)) ?_ ?_) ?_)
  · rw [vV_list]
    have hnl : ¬ n = (l.length : Int) := by omega
    have hnt : n.toNat + 1 ≤ l.length := by omega
    refine acalls Try.func137 c137 r137 (by simp [Try.ntmps137]) ?_
    repeat' (first | (((with_reducible refine call_ex (clonem_calls (by omega) hne _) (fun v H2 hr => ?_)); obtain ⟨k, hk, rfl, rfl⟩ := hr)) | with_reducible (first | refine am_seq ?_ | refine am_block ?_) | ((with_reducible apply am_cond); (case hb => rfl); all_goals (intro hc; (try simp only [reduceCtorEq, decide_eq_true_eq, decide_eq_false_iff_not, Bool.or_eq_true, Bool.and_eq_true, Bool.or_eq_false_iff, Bool.not_eq_true', Bool.not_eq_false', beq_iff_eq] at hc); (try (exfalso; omega)))) | ((first | with_reducible (first | refine am_reg ?_ | refine am_drw ?_ | refine am_drx ?_ | refine am_skip ?_ | refine am_exit ?_ | refine am_ret ?_ | refine And.intro (by first | exact AH.lec_refl _ | assumption | exact AccP.lec (by assumption) | omega) ?_ | refine isnE_of (fun hc => ?_) (fun hc => ?_) (fun hc => ?_) | refine need_elems (by assumption) ?_ | refine vlen_acc (by assumption) ?_ | refine need_bytes (by assumption) ?_ | refine need_look (by repeat (first | assumption | exact AH.put_same _ _ _ | refine look_put ?_ (by assumption) | refine look_lec ?_ (by assumption))) ?_) | ((with_reducible (first | refine gd_not (fun hc => ?_) (fun hc => ?_) | refine gd_of (fun hc => ?_) (fun hc => ?_) | refine gq_not (fun hc => ?_) (fun hc => ?_) | refine gq_of (fun hc => ?_) (fun hc => ?_) | refine pickB_of (fun hc => ?_) (fun hc => ?_))) <;> (try simp -implicitDefEqProofs (disch := omega) only [go_sem, eq_self, decide_true, decide_false, Nat.reduceBEq, Nat.reduceAdd, Nat.reduceSub, Nat.reduceMul, Nat.reduceEqDiff, Nat.reduceLeDiff, Nat.reduceLT, Int.reduceLE, Int.reduceLT, Int.reduceToNat, Int.reduceAdd, Int.reduceEq, Int.reduceNeg, AH.put_ne, hc, h0, hnl, hn, true_or, or_true, true_and]) <;> (try simp only [reduceCtorEq, decide_eq_true_eq, decide_eq_false_iff_not, Bool.or_eq_true, Bool.and_eq_true, Bool.or_eq_false_iff, Bool.not_eq_true', Bool.not_eq_false', beq_iff_eq] at hc) <;> (try (exfalso; omega))) | ((with_reducible refine alloc_intro (fun ko hko => ?_)) <;> (try have hne := fresh_ne (by assumption) hko) <;> (try have hnk := fresh_ne hk hko) <;> (try have hnk2 := fresh_ne hk2 hko) <;> (try simp only [AH.put_none] at hko)) | ((with_reducible (first | refine vapp_accL (by assumption) ?_ (fun v2 H2 hacc hlec => ?_) | refine vapp_accL (AccP.mono (by assumption) (AccP.le (by assumption))) ?_ (fun v2 H2 hacc hlec => ?_) | refine vapp_accL (AccP.new (by assumption) (by assumption) _) ?_ (fun v2 H2 hacc hlec => ?_))); · simp only [byteCells_length, List.length_cons, List.length_nil, List.length_map, List.length_append, vE_length, mE_length, strE_len, List.length_take, rvE_length]; omega)) <;> (try simp -implicitDefEqProofs (disch := omega) only [go_sem, eq_self, decide_true, decide_false, Nat.reduceBEq, Nat.reduceAdd, Nat.reduceSub, Nat.reduceMul, Nat.reduceEqDiff, Nat.reduceLeDiff, Nat.reduceLT, Int.reduceLE, Int.reduceLT, Int.reduceToNat, Int.reduceAdd, Int.reduceEq, Int.reduceNeg, AH.put_ne, h0, hnl, hn, true_or, or_true, true_and])))
    refine ⟨by rw [List.length_map]; omega, ?_⟩
    rw [Nat.mul_one, ← List.map_set]
    have hk1 : ((H.put ko (.cells [.nilIface])).put k (.cells ((l.set n.toNat x).map vV))) ko = some (.cells [.nilIface]) := look_put (AH.put_same _ _ _) hk
    rw [AH.put_none] at hk
    repeat' (first | with_reducible (first | refine am_seq ?_ | refine am_block ?_) | ((with_reducible apply am_cond); (case hb => rfl); all_goals (intro hc; (try simp only [reduceCtorEq, decide_eq_true_eq, decide_eq_false_iff_not, Bool.or_eq_true, Bool.and_eq_true, Bool.or_eq_false_iff, Bool.not_eq_true', Bool.not_eq_false', beq_iff_eq] at hc); (try (exfalso; omega)))) | ((first | with_reducible (first | refine am_reg ?_ | refine am_drw ?_ | refine am_drx ?_ | refine am_skip ?_ | refine am_exit ?_ | refine am_ret ?_ | refine And.intro (by first | exact AH.lec_refl _ | assumption | exact AccP.lec (by assumption) | omega) ?_ | refine isnE_of (fun hc => ?_) (fun hc => ?_) (fun hc => ?_) | refine need_elems (by assumption) ?_ | refine vlen_acc (by assumption) ?_ | refine need_bytes (by assumption) ?_ | refine need_look (by repeat (first | assumption | exact AH.put_same _ _ _ | refine look_put ?_ (by assumption) | refine look_lec ?_ (by assumption))) ?_) | ((with_reducible (first | refine gd_not (fun hc => ?_) (fun hc => ?_) | refine gd_of (fun hc => ?_) (fun hc => ?_) | refine gq_not (fun hc => ?_) (fun hc => ?_) | refine gq_of (fun hc => ?_) (fun hc => ?_) | refine pickB_of (fun hc => ?_) (fun hc => ?_))) <;> (try simp -implicitDefEqProofs (disch := omega) only [go_sem, eq_self, decide_true, decide_false, Nat.reduceBEq, Nat.reduceAdd, Nat.reduceSub, Nat.reduceMul, Nat.reduceEqDiff, Nat.reduceLeDiff, Nat.reduceLT, Int.reduceLE, Int.reduceLT, Int.reduceToNat, Int.reduceAdd, Int.reduceEq, Int.reduceNeg, AH.put_ne, hc, hk1]) <;> (try simp only [reduceCtorEq, decide_eq_true_eq, decide_eq_false_iff_not, Bool.or_eq_true, Bool.and_eq_true, Bool.or_eq_false_iff, Bool.not_eq_true', Bool.not_eq_false', beq_iff_eq] at hc) <;> (try (exfalso; omega))) | ((with_reducible refine alloc_intro (fun ko hko => ?_)) <;> (try have hne := fresh_ne (by assumption) hko) <;> (try have hnk := fresh_ne hk hko) <;> (try have hnk2 := fresh_ne hk2 hko) <;> (try simp only [AH.put_none] at hko)) | ((with_reducible (first | refine vapp_accL (by assumption) ?_ (fun v2 H2 hacc hlec => ?_) | refine vapp_accL (AccP.mono (by assumption) (AccP.le (by assumption))) ?_ (fun v2 H2 hacc hlec => ?_) | refine vapp_accL (AccP.new (by assumption) (by assumption) _) ?_ (fun v2 H2 hacc hlec => ?_))); · simp only [byteCells_length, List.length_cons, List.length_nil, List.length_map, List.length_append, vE_length, mE_length, strE_len, List.length_take, rvE_length]; omega)) <;> (try simp -implicitDefEqProofs (disch := omega) only [go_sem, eq_self, decide_true, decide_false, Nat.reduceBEq, Nat.reduceAdd, Nat.reduceSub, Nat.reduceMul, Nat.reduceEqDiff, Nat.reduceLeDiff, Nat.reduceLT, Int.reduceLE, Int.reduceLT, Int.reduceToNat, Int.reduceAdd, Int.reduceEq, Int.reduceNeg, AH.put_ne, hk1])))
    all_goals exact ⟨k, rfl, by rw [AH.put_ne _ _ hk.1, AH.put_same], AH.le_del (AH.le_put (AH.le_put (AH.le_put (AH.le_refl _) hko _) hk.2 _) hko _) hk.2⟩
  · rintro o H' ⟨k, rfl, h1, h2⟩
    refine ⟨_, rfl, .inr ⟨k, _, .agg [vV (.list (l.set n.toNat x))], h1, fun s hs y h => ?_, fun s y h => h, h2⟩⟩
    rw [vV_list]
    refine agg_sub rfl (.cons (fun y h => iface_sub (fun y h => ?_) y h) .nil) y h
    have := hs 1 0 l.length (by simp) y h
    rwa [List.drop_zero, show l.length = (l.set n.toNat x).length by simp, chop_vE] at this
  · rintro o H' ⟨v, rfl, h1, h2⟩
    exact drop_end h1 h2
theorem put_c {es : List (List UInt8 × Vl)} {x : Vl} {k : List UInt8} {n : Int} (hs : ¬ (0 ≤ n ∧ k = [])) (H : AH) : ACalls Try.prog 137 [.agg [vV (.map es)], .agg [vV x], .agg [.str k, .int .i64 n]] H (fun o H' => o = .ret (.agg [vV (.map (putE k x es))]) ∧ H' = H) := by
  refine ACalls.drop (ACalls.mono (ACalls.freezeM (R := fun v H' => (∀ (s : St) y, s.val v y → s.val (.agg [vV (.map (putE k x es))]) y) ∧ H.le H') (Q := fun o H' => ∃ km, o = .ret (.agg [.iface 131 (.map km)]) ∧ H' km = some (.map (mE (putE k x es))) ∧ H.le (H'.del km)) ?_ ?_) ?_)
  · rw [vV_map]
    refine acalls Try.func137 c137 r137 (by simp [Try.ntmps137]) ?_
    repeat' (first | (((with_reducible refine call_ex (mclone_calls _) (fun v H2 hr => ?_)); obtain ⟨km, hkm, rfl, rfl⟩ := hr)) | with_reducible (first | refine am_seq ?_ | refine am_block ?_) | ((with_reducible apply am_cond); (case hb => rfl); all_goals (intro hc; (try simp only [reduceCtorEq, decide_eq_true_eq, decide_eq_false_iff_not, Bool.or_eq_true, Bool.and_eq_true, Bool.or_eq_false_iff, Bool.not_eq_true', Bool.not_eq_false', beq_iff_eq] at hc); (try (exfalso; omega)))) | ((first | with_reducible (first | refine am_reg ?_ | refine am_drw ?_ | refine am_drx ?_ | refine am_skip ?_ | refine am_exit ?_ | refine am_ret ?_ | refine And.intro (by first | exact AH.lec_refl _ | assumption | exact AccP.lec (by assumption) | omega) ?_ | refine isnE_of (fun hc => ?_) (fun hc => ?_) (fun hc => ?_) | refine need_elems (by assumption) ?_ | refine vlen_acc (by assumption) ?_ | refine need_bytes (by assumption) ?_ | refine need_look (by repeat (first | assumption | exact AH.put_same _ _ _ | refine look_put ?_ (by assumption) | refine look_lec ?_ (by assumption))) ?_) | ((with_reducible (first | refine gd_not (fun hc => ?_) (fun hc => ?_) | refine gd_of (fun hc => ?_) (fun hc => ?_) | refine gq_not (fun hc => ?_) (fun hc => ?_) | refine gq_of (fun hc => ?_) (fun hc => ?_) | refine pickB_of (fun hc => ?_) (fun hc => ?_))) <;> (try simp -implicitDefEqProofs (disch := omega) only [go_sem, eq_self, decide_true, decide_false, Nat.reduceBEq, Nat.reduceAdd, Nat.reduceSub, Nat.reduceMul, Nat.reduceEqDiff, Nat.reduceLeDiff, Nat.reduceLT, Int.reduceLE, Int.reduceLT, Int.reduceToNat, Int.reduceAdd, Int.reduceEq, Int.reduceNeg, AH.put_ne, hc, true_or, or_true, true_and, mE_find, mE_putE]) <;> (try simp only [reduceCtorEq, decide_eq_true_eq, decide_eq_false_iff_not, Bool.or_eq_true, Bool.and_eq_true, Bool.or_eq_false_iff, Bool.not_eq_true', Bool.not_eq_false', beq_iff_eq] at hc) <;> (try (exfalso; omega))) | ((with_reducible refine alloc_intro (fun ko hko => ?_)) <;> (try have hne := fresh_ne (by assumption) hko) <;> (try have hnk := fresh_ne hk hko) <;> (try have hnk2 := fresh_ne hk2 hko) <;> (try simp only [AH.put_none] at hko)) | ((with_reducible (first | refine vapp_accL (by assumption) ?_ (fun v2 H2 hacc hlec => ?_) | refine vapp_accL (AccP.mono (by assumption) (AccP.le (by assumption))) ?_ (fun v2 H2 hacc hlec => ?_) | refine vapp_accL (AccP.new (by assumption) (by assumption) _) ?_ (fun v2 H2 hacc hlec => ?_))); · simp only [byteCells_length, List.length_cons, List.length_nil, List.length_map, List.length_append, vE_length, mE_length, strE_len, List.length_take, rvE_length]; omega)) <;> (try simp -implicitDefEqProofs (disch := omega) only [go_sem, eq_self, decide_true, decide_false, Nat.reduceBEq, Nat.reduceAdd, Nat.reduceSub, Nat.reduceMul, Nat.reduceEqDiff, Nat.reduceLeDiff, Nat.reduceLT, Int.reduceLE, Int.reduceLT, Int.reduceToNat, Int.reduceAdd, Int.reduceEq, Int.reduceNeg, AH.put_ne, true_or, or_true, true_and, mE_find, mE_putE])))
    · exact absurd ⟨by assumption, by assumption⟩ hs
    all_goals
      have hk1 : ((H.put ko (.cells [.nilIface])).put km (.map (mE (putE k x es)))) ko = some (.cells [.nilIface]) := look_put (AH.put_same _ _ _) hkm
      rw [AH.put_none] at hkm
      repeat' (first | with_reducible (first | refine am_seq ?_ | refine am_block ?_) | ((with_reducible apply am_cond); (case hb => rfl); all_goals (intro hc; (try simp only [reduceCtorEq, decide_eq_true_eq, decide_eq_false_iff_not, Bool.or_eq_true, Bool.and_eq_true, Bool.or_eq_false_iff, Bool.not_eq_true', Bool.not_eq_false', beq_iff_eq] at hc); (try (exfalso; omega)))) | ((first | with_reducible (first | refine am_reg ?_ | refine am_drw ?_ | refine am_drx ?_ | refine am_skip ?_ | refine am_exit ?_ | refine am_ret ?_ | refine And.intro (by first | exact AH.lec_refl _ | assumption | exact AccP.lec (by assumption) | omega) ?_ | refine isnE_of (fun hc => ?_) (fun hc => ?_) (fun hc => ?_) | refine need_elems (by assumption) ?_ | refine vlen_acc (by assumption) ?_ | refine need_bytes (by assumption) ?_ | refine need_look (by repeat (first | assumption | exact AH.put_same _ _ _ | refine look_put ?_ (by assumption) | refine look_lec ?_ (by assumption))) ?_) | ((with_reducible (first | refine gd_not (fun hc => ?_) (fun hc => ?_) | refine gd_of (fun hc => ?_) (fun hc => ?_) | refine gq_not (fun hc => ?_) (fun hc => ?_) | refine gq_of (fun hc => ?_) (fun hc => ?_) | refine pickB_of (fun hc => ?_) (fun hc => ?_))) <;> (try simp -implicitDefEqProofs (disch := omega) only [go_sem, eq_self, decide_true, decide_false, Nat.reduceBEq, Nat.reduceAdd, Nat.reduceSub, Nat.reduceMul, Nat.reduceEqDiff, Nat.reduceLeDiff, Nat.reduceLT, Int.reduceLE, Int.reduceLT, Int.reduceToNat, Int.reduceAdd, Int.reduceEq, Int.reduceNeg, AH.put_ne, hc, hk1]) <;> (try simp only [reduceCtorEq, decide_eq_true_eq, decide_eq_false_iff_not, Bool.or_eq_true, Bool.and_eq_true, Bool.or_eq_false_iff, Bool.not_eq_true', Bool.not_eq_false', beq_iff_eq] at hc) <;> (try (exfalso; omega))) | ((with_reducible refine alloc_intro (fun ko hko => ?_)) <;> (try have hne := fresh_ne (by assumption) hko) <;> (try have hnk := fresh_ne hk hko) <;> (try have hnk2 := fresh_ne hk2 hko) <;> (try simp only [AH.put_none] at hko)) | ((with_reducible (first | refine vapp_accL (by assumption) ?_ (fun v2 H2 hacc hlec => ?_) | refine vapp_accL (AccP.mono (by assumption) (AccP.le (by assumption))) ?_ (fun v2 H2 hacc hlec => ?_) | refine vapp_accL (AccP.new (by assumption) (by assumption) _) ?_ (fun v2 H2 hacc hlec => ?_))); · simp only [byteCells_length, List.length_cons, List.length_nil, List.length_map, List.length_append, vE_length, mE_length, strE_len, List.length_take, rvE_length]; omega)) <;> (try simp -implicitDefEqProofs (disch := omega) only [go_sem, eq_self, decide_true, decide_false, Nat.reduceBEq, Nat.reduceAdd, Nat.reduceSub, Nat.reduceMul, Nat.reduceEqDiff, Nat.reduceLeDiff, Nat.reduceLT, Int.reduceLE, Int.reduceLT, Int.reduceToNat, Int.reduceAdd, Int.reduceEq, Int.reduceNeg, AH.put_ne, hk1])))
      exact ⟨km, rfl, by rw [AH.put_ne _ _ hkm.1, AH.put_same], AH.le_del (AH.le_put (AH.le_put (AH.le_put (AH.le_refl _) hko _) hkm.2 _) hko _) hkm.2⟩
  · rintro o H' ⟨km, rfl, h1, h2⟩
    refine ⟨_, rfl, .inr ⟨km, _, .agg [vV (.map (putE k x es))], h1, fun s hs y h => ?_, fun s y h => h, h2⟩⟩
    rw [vV_map]
    exact agg_sub rfl (.cons (fun y h => iface_sub hs y h) .nil) y h
  · rintro o H' ⟨v, rfl, h1, h2⟩
    exact drop_end h1 h2
theorem put_calls {v x y : Vl} {k : List UInt8} {n : Int} (h : v.put x k n = some y) (ho : v.Ok) (H : AH) : ACalls Try.prog 137 [.agg [vV v], .agg [vV x], .agg [.str k, .int .i64 n]] H (fun o H' => o = .ret (.agg [vV y]) ∧ H' = H) := by
  unfold Vl.put at h
  by_cases hs : 0 ≤ n ∧ k = []
  · rw [if_pos hs] at h
    obtain ⟨h0, rfl⟩ := hs
    cases v with
    | list l =>
      simp only at h
      have hl : l.length * 16 ≤ 100000000000000 := by cases ho; assumption
      split at h
      · rename_i e; cases h; rw [e]; exact put_a hl H
      · split at h
        · rename_i e; cases h; exact put_b hl h0 e H
        · cases h
    | _ => cases h
  · rw [if_neg hs] at h
    cases v with
    | map es => cases h; exact put_c hs H
    | _ => cases h
end Go.Proofs.Ytjlphncecdlmcaa
namespace Go.Proofs.Ytjlphncecdlmcaa
open Go.Vm Go.Sort
attribute [local go_sem] List.drop_zero toNat_succ Nat.sub_zero Int.toNat_natCast Option.map_some Int.natCast_nonneg decide_eq_true_eq decide_eq_false_iff_not
/- (flange/value.Value).with -/
abbrev k112_0 : MC :=
  .cond (.t 13) ((.seq (.reg [
     ⟨(some 14), none, .val (.load true 1 (.t 4))⟩,
     ⟨none, none, .store 1 (.t 6) (.t 14)⟩,
     ⟨(some 7), none, .val (.mv (.c (.int .i64 0)))⟩] [6, 7]) (.ret))) (.skip)
abbrev k112_1 : MC :=
  .cond (.t 38) ((.seq (.reg [
     ⟨(some 39), none, .build [.nilIface] []⟩,
     ⟨(some 40), none, .val (.mv (.t 9))⟩,
     ⟨none, none, .store 1 (.t 6) (.t 39)⟩,
     ⟨(some 7), none, .val (.mv (.t 40))⟩] [6, 7]) (.ret))) (.skip)
abbrev k112_2 : MC :=
  .cond (.t 50) ((.seq (.reg [
     ⟨(some 51), none, .build [.nilIface] []⟩,
     ⟨(some 52), none, .val (.mv (.t 9))⟩,
     ⟨none, none, .store 1 (.t 6) (.t 51)⟩,
     ⟨(some 7), none, .val (.mv (.t 52))⟩] [6, 7]) (.ret))) (.skip)
abbrev k112_3 : MC :=
  (.seq (.drw [
    ⟨(some 53), none, .val (.load true 1 (.t 3))⟩,
    ⟨(some 54), none, .val (.load true 1 (.t 10))⟩,
    ⟨(some 55), none, .val (.mv (.t 2))⟩,
    ⟨(some 56), none, .val (.iaddr 2 (.t 55) (.c (.int .i64 0)))⟩,
    ⟨(some 57), none, .val (.load true 2 (.t 56))⟩,
    ⟨(some 58), none, .call 137 [(.t 53), (.t 54), (.t 57)]⟩] [
    ⟨none, none, .store 1 (.t 6) (.t 58)⟩,
    ⟨(some 7), none, .val (.mv (.c (.int .i64 0)))⟩] [6, 7]) (.ret))
abbrev k112_4 : MC :=
  (.seq ((.seq (.reg [
    ⟨(some 49), none, .val (.mv (.t 9))⟩,
    ⟨(some 50), none, .val (.bin .neq .num (.t 49) (.c (.int .i64 0)))⟩] [2, 3, 6, 9, 10, 50]) k112_2)) k112_3)
abbrev k112_5 : MC :=
  (.seq (.drx [
    ⟨(some 42), none, .val (.load true 1 (.t 8))⟩,
    ⟨(some 43), none, .val (.load true 1 (.t 4))⟩,
    ⟨(some 44), none, .val (.mv (.t 2))⟩,
    ⟨(some 45), none, .val (.slc (some 2) (.t 44) (some (.c (.int .i64 1))) none none)⟩,
    ⟨(some 46), none, .call 112 [(.t 42), (.t 43), (.t 45)]⟩,
    ⟨(some 41), none, .val (.mv (.t 46))⟩,
    ⟨(some 47), none, .val (.ext (.t 41) 0)⟩,
    ⟨(some 48), none, .val (.ext (.t 41) 1)⟩,
    ⟨(some 9), none, .val (.mv (.t 48))⟩] [
    ⟨(some 10), none, .zalloc [.nilIface]⟩,
    ⟨none, none, .store 1 (.t 10) (.t 47)⟩] [2, 3, 6, 9, 10]) k112_4)
abbrev k112_6 : MC :=
  (.seq ((.seq (.drw [
    ⟨(some 23), none, .val (.mv (.t 9))⟩,
    ⟨(some 24), none, .val (.bin .neq .num (.t 23) (.c (.int .i64 0)))⟩,
    ⟨(some 25), none, .val (.mv (.t 24))⟩,
    ⟨(some 26), (some (25, true)), .val (.mv (.t 2))⟩,
    ⟨(some 27), (some (25, true)), .val (.len .sl (.t 26))⟩,
    ⟨(some 28), (some (25, true)), .val (.bin .gtr .num (.t 27) (.c (.int .i64 1)))⟩,
    ⟨(some 29), (some (25, true)), .val (.mv (.t 28))⟩,
    ⟨(some 30), (some (29, false)), .val (.load true 1 (.t 3))⟩,
    ⟨(some 31), (some (29, false)), .val (.mv (.t 2))⟩,
    ⟨(some 32), (some (29, false)), .val (.iaddr 2 (.t 31) (.c (.int .i64 0)))⟩,
    ⟨(some 33), (some (29, false)), .val (.load true 2 (.t 32))⟩,
    ⟨(some 34), (some (29, false)), .val (.mv (.t 9))⟩,
    ⟨(some 35), (some (29, false)), .call 136 [(.t 30), (.t 33), (.t 34)]⟩,
    ⟨(some 36), (some (29, false)), .val (.not (.t 35))⟩,
    ⟨(some 37), (some (25, true)), .val (.pick (.t 29) (.c (.bool true)) (.t 36))⟩,
    ⟨(some 38), none, .val (.pick (.t 25) (.t 37) (.c (.bool false)))⟩] [
] [2, 3, 4, 6, 8, 9, 38]) k112_1)) k112_5)
abbrev k112_7 : MC :=
  (.seq (.drx [
    ⟨(some 16), none, .val (.load true 1 (.t 3))⟩,
    ⟨(some 17), none, .val (.mv (.t 2))⟩,
    ⟨(some 18), none, .val (.iaddr 2 (.t 17) (.c (.int .i64 0)))⟩,
    ⟨(some 19), none, .val (.load true 2 (.t 18))⟩,
    ⟨(some 20), none, .call 113 [(.t 16), (.t 19)]⟩,
    ⟨(some 15), none, .val (.mv (.t 20))⟩,
    ⟨(some 21), none, .val (.ext (.t 15) 0)⟩,
    ⟨(some 22), none, .val (.ext (.t 15) 1)⟩,
    ⟨(some 9), none, .val (.mv (.t 22))⟩] [
    ⟨(some 8), none, .zalloc [.nilIface]⟩,
    ⟨none, none, .store 1 (.t 8) (.t 21)⟩] [2, 3, 4, 6, 8, 9]) k112_6)
abbrev k112_8 : MC :=
  (.seq ((.seq (.reg [
    ⟨(some 11), none, .val (.mv (.t 2))⟩,
    ⟨(some 12), none, .val (.len .sl (.t 11))⟩,
    ⟨(some 13), none, .val (.bin .eql .num (.t 12) (.c (.int .i64 0)))⟩] [2, 3, 4, 6, 13]) k112_0)) k112_7)
abbrev k112 : MC :=
  (.seq (.reg [
    ⟨(some 3), none, .boxi (.t 0)⟩,
    ⟨(some 4), none, .boxi (.t 1)⟩,
    ⟨(some 6), none, .zalloc [.nilIface]⟩,
    ⟨(some 7), none, .val (.mv (.c (.int .i64 0)))⟩] [2, 3, 4, 6]) k112_8)
theorem c112 : Try.f112.body.bind (mcOf Try.prog (List.contains [3, 4] ·) (List.getD [([], [2, 3, 4, 6]), ([], [2, 3, 4, 6, 13]), ([], [6, 7]), ([0, 0, 0, 0, 0, 0, 0, 0, 1, 4, 0], [2, 3, 4, 6, 8, 9]), ([0, 0, 0, 0, 0, 0, 0, 0, 0, 0, 0, 0, 0, 0, 0, 0], [2, 3, 4, 6, 8, 9, 38]), ([], [6, 7]), ([0, 0, 0, 0, 0, 0, 0, 0, 1, 4, 0], [2, 3, 6, 9, 10]), ([], [2, 3, 6, 9, 10, 50]), ([], [6, 7]), ([0, 0, 0, 0, 0, 0, 2, 2], [6, 7])] · ([], [])) 59) = some k112 := by kernel_rfl
theorem r112 : rvsOf Try.prog Try.f112.results.toList = some [.cell 6 true 1, .tmp 7] := by kernel_rfl
/- (flange/value.Value).changed -/
abbrev k80_0 : MC :=
  (.seq (.reg [
    ⟨(some 8), none, .val (.load true 1 (.t 3))⟩,
    ⟨(some 9), none, .val (.load true 1 (.t 4))⟩,
    ⟨(some 10), none, .val (.mv (.t 2))⟩,
    ⟨(some 11), none, .call 112 [(.t 8), (.t 9), (.t 10)]⟩,
    ⟨(some 12), none, .val (.ext (.t 11) 0)⟩,
    ⟨(some 13), none, .val (.ext (.t 11) 1)⟩,
    ⟨none, none, .store 1 (.t 6) (.t 12)⟩,
    ⟨none, none, .store 1 (.t 7) (.t 13)⟩] [6, 7]) (.ret))
theorem r80 : rvsOf Try.prog Try.f80.results.toList = some [.cell 6 true 1, .cell 7 false 1] := by kernel_rfl
/- (flange/value.Value).With -/
abbrev k26_0 : MC :=
  (.seq (.reg [
    ⟨(some 8), none, .val (.load true 1 (.t 3))⟩,
    ⟨(some 9), none, .val (.load true 1 (.t 4))⟩,
    ⟨(some 10), none, .val (.mv (.t 2))⟩,
    ⟨(some 11), none, .call 80 [(.t 8), (.t 9), (.t 10)]⟩,
    ⟨(some 12), none, .val (.ext (.t 11) 0)⟩,
    ⟨(some 13), none, .val (.ext (.t 11) 1)⟩,
    ⟨none, none, .store 1 (.t 6) (.t 12)⟩,
    ⟨(some 7), none, .val (.mv (.t 13))⟩] [6, 7]) (.ret))
abbrev k26 : MC :=
  (.seq (.reg [
    ⟨(some 3), none, .boxi (.t 0)⟩,
    ⟨(some 4), none, .boxi (.t 1)⟩,
    ⟨(some 6), none, .zalloc [.nilIface]⟩,
    ⟨(some 7), none, .val (.mv (.c (.int .i64 0)))⟩] [2, 3, 4, 6]) k26_0)
theorem c26 : Try.f26.body.bind (mcOf Try.prog (List.contains [3, 4] ·) (List.getD [([], [2, 3, 4, 6]), ([], [6, 7])] · ([], [])) 14) = some k26 := by kernel_rfl
theorem r26 : rvsOf Try.prog Try.f26.results.toList = some [.cell 6 true 1, .tmp 7] := by kernel_rfl
def withR (v x : Vl) : List St2 → Option (Vl × Int)
  | [] => some (x, 0)
  | s :: r => match v.into s.1 s.2 with
    | none => none
    | some (i, e) => if e ≠ 0 ∧ (r ≠ [] ∨ freshB v s.2 e = false) then some (.nul, e) else match withR i x r with
      | none => none
      | some (y, e') => if e' ≠ 0 then some (.nul, e') else some ((v.put y s.1 s.2).getD .nul, 0)
theorem into_ok {v i : Vl} {k : List UInt8} {n e : Int} (ho : v.Ok) (h : v.into k n = some (i, e)) : i.Ok := by
  unfold Vl.into at h
  split at h
  · cases v <;> simp only at h <;> try (cases h; done)
    split at h
    · cases h; exact Ok.items ho _ (List.getElem_mem _)
    · cases h; exact .nul
  · cases v <;> simp only at h <;> try (cases h; done)
    rename_i es
    split at h
    · cases h; exact .nul
    · rename_i y hy
      cases h
      cases ho with
      | map _ h1 h2 h3 h4 =>
        have : ∀ (es : List (List UInt8 × Vl)), (∀ p ∈ es, p.2.Ok) → fnd k es = some i → i.Ok := by
          intro es
          induction es with
          | nil => intro _ h; cases h
          | cons p es ih =>
            intro ho h
            rw [fnd] at h
            split at h
            · cases h; exact ho p List.mem_cons_self
            · exact ih (fun q hq => ho q (List.mem_cons_of_mem _ hq)) h
        exact this es h4 hy
theorem put_some {v i y : Vl} {k : List UInt8} {n e : Int} (h : v.into k n = some (i, e)) (hf : e = 0 ∨ freshB v n e = true) : ∃ z, v.put y k n = some z := by
  unfold Vl.into at h
  unfold Vl.put
  split at h
  · rename_i hs
    rw [if_pos hs]
    cases v <;> simp only at h <;> try (cases h; done)
    rename_i l
    split at h
    · rename_i hlt
      simp only
      rw [if_neg (by omega), if_pos (by omega)]
      exact ⟨_, rfl⟩
    · cases h
      simp only [freshB, Int.reduceEq, decide_false, decide_true, Bool.false_or, Bool.true_and, decide_eq_true_eq, false_or] at hf
      simp only
      rw [if_pos hf]; exact ⟨_, rfl⟩
  · rename_i hs
    rw [if_neg hs]
    cases v <;> simp only at h <;> try (cases h; done)
    exact ⟨_, rfl⟩
theorem stE_drop (l : List St2) (s : St2) : (stE (s :: l)).drop 1 = stE l := rfl
abbrev WithOk (l : List St2) : Prop := ∀ (v x : Vl), v.Ok → (∀ y e, withR v x l = some (y, e) → ∀ H, ACalls Try.prog 112 [.agg [vV v], .agg [vV x], .sl 2 (stE l) .no] H (fun o H' => o = .ret (.tuple [.agg [vV y], .int .i64 e]) ∧ H' = H)) ∧ (withR v x l = none → ∀ H, ACalls Try.prog 112 [.agg [vV v], .agg [vV x], .sl 2 (stE l) .no] H (fun o H' => o = .pan ∧ H' = H))
theorem drx_vc {G : AH} {k : Nat} {o o2 : AObj} {Q : Prop} (h : G k = none) (hq : Q) : (False → G.lec (G.put k o)) ∧ (True → G.lec (G.put k o2)) ∧ Q := ⟨fun h => h.elim, fun _ => AH.lec_of_le (AH.le_put (AH.le_refl _) h _), hq⟩
theorem with_nil : WithOk [] := by
  refine fun v x ho => ⟨fun y e h H => ?_, fun h => by cases h⟩
  cases h
  refine ACalls.drop ?_
  refine acalls Try.func112 c112 r112 (by simp [Try.ntmps112]) ?_
  repeat' (first | with_reducible (first | refine am_seq ?_ | refine am_block ?_) | ((with_reducible apply am_cond); (case hb => rfl); all_goals (intro hc; (try simp only [reduceCtorEq, decide_eq_true_eq, decide_eq_false_iff_not, Bool.or_eq_true, Bool.and_eq_true, Bool.or_eq_false_iff, Bool.not_eq_true', Bool.not_eq_false', beq_iff_eq] at hc); (try (exfalso; omega)))) | ((first | with_reducible (first | refine am_reg ?_ | refine am_drw ?_ | refine am_drx ?_ | refine am_skip ?_ | refine am_exit ?_ | refine am_ret ?_ | refine And.intro (by first | exact AH.lec_refl _ | assumption | exact AccP.lec (by assumption) | omega) ?_ | refine isnE_of (fun hc => ?_) (fun hc => ?_) (fun hc => ?_) | refine need_elems (by assumption) ?_ | refine vlen_acc (by assumption) ?_ | refine need_bytes (by assumption) ?_ | refine need_look (by repeat (first | assumption | exact AH.put_same _ _ _ | refine look_put ?_ (by assumption) | refine look_lec ?_ (by assumption))) ?_) | ((with_reducible (first | refine gd_not (fun hc => ?_) (fun hc => ?_) | refine gd_of (fun hc => ?_) (fun hc => ?_) | refine gq_not (fun hc => ?_) (fun hc => ?_) | refine gq_of (fun hc => ?_) (fun hc => ?_) | refine pickB_of (fun hc => ?_) (fun hc => ?_))) <;> (try simp -implicitDefEqProofs (disch := omega) only [go_sem, eq_self, decide_true, decide_false, Nat.reduceBEq, Nat.reduceAdd, Nat.reduceSub, Nat.reduceMul, Nat.reduceEqDiff, Nat.reduceLeDiff, Nat.reduceLT, Int.reduceLE, Int.reduceLT, Int.reduceToNat, Int.reduceAdd, Int.reduceEq, Int.reduceNeg, AH.put_ne, hc, stE_length]) <;> (try simp only [reduceCtorEq, decide_eq_true_eq, decide_eq_false_iff_not, Bool.or_eq_true, Bool.and_eq_true, Bool.or_eq_false_iff, Bool.not_eq_true', Bool.not_eq_false', beq_iff_eq] at hc) <;> (try (exfalso; omega))) | ((with_reducible refine alloc_intro (fun ko hko => ?_)) <;> (try have hne := fresh_ne (by assumption) hko) <;> (try have hnk := fresh_ne hk hko) <;> (try have hnk2 := fresh_ne hk2 hko) <;> (try simp only [AH.put_none] at hko)) | ((with_reducible (first | refine vapp_accL (by assumption) ?_ (fun v2 H2 hacc hlec => ?_) | refine vapp_accL (AccP.mono (by assumption) (AccP.le (by assumption))) ?_ (fun v2 H2 hacc hlec => ?_) | refine vapp_accL (AccP.new (by assumption) (by assumption) _) ?_ (fun v2 H2 hacc hlec => ?_))); · simp only [byteCells_length, List.length_cons, List.length_nil, List.length_map, List.length_append, vE_length, mE_length, strE_len, List.length_take, rvE_length]; omega)) <;> (try simp -implicitDefEqProofs (disch := omega) only [go_sem, eq_self, decide_true, decide_false, Nat.reduceBEq, Nat.reduceAdd, Nat.reduceSub, Nat.reduceMul, Nat.reduceEqDiff, Nat.reduceLeDiff, Nat.reduceLT, Int.reduceLE, Int.reduceLT, Int.reduceToNat, Int.reduceAdd, Int.reduceEq, Int.reduceNeg, AH.put_ne, stE_length])))
  all_goals (refine drop_end (by (first | exact fun _ _ h => h | (intro s x h; first | exact no_sub _ h | exact nil_no _ h | exact AccP.sub (by assumption) _ _ h | (refine agg_sub rfl ?_ x h; repeat (first | exact .nil | refine .cons (fun _ h => h) ?_ | refine .cons (fun _ h => nil_no _ h) ?_ | refine .cons (fun _ h => no_sub _ h) ?_ | refine .cons (fun _ h => AccP.sub (by assumption) _ _ h) ?_)) | (refine tuple_sub ?_ x h; repeat (first | exact .nil | refine .cons (fun _ h => h) ?_ | refine .cons (fun _ h => nil_no _ h) ?_ | refine .cons (fun _ h => no_sub _ h) ?_ | refine .cons (fun _ h => AccP.sub (by assumption) _ _ h) ?_ | refine .cons (fun _ h => agg_sub rfl (by repeat (first | exact .nil | refine .cons (fun _ h => h) ?_ | refine .cons (fun _ h => nil_no _ h) ?_ | refine .cons (fun _ h => no_sub _ h) ?_ | refine .cons (fun _ h => AccP.sub (by assumption) _ _ h) ?_)) _ h) ?_))))) (by (repeat (first | exact AH.le_refl _ | assumption | exact AccP.le (by assumption) | refine AH.le_put ?_ (by first | assumption | exact none_of_le (by assumption) (by assumption) | exact And.right (by assumption) | exact And.right (And.right (by assumption))) _ | refine AH.le_trans ?_ (AccP.le (by assumption))))))
theorem w_none {s : St2} {l : List St2} {v x : Vl} (hl : l.length ≤ 1000) (hin : v.into s.1 s.2 = none) (H : AH) : ACalls Try.prog 112 [.agg [vV v], .agg [vV x], .sl 2 (stE (s :: l)) .no] H (fun o H' => o = .pan ∧ H' = H) := by
  have hlen : (stE (s :: l)).length = l.length + 1 := by rw [stE_length, List.length_cons]
  have hg0 : (stE (s :: l))[0]? = some [.str s.1, .int .i64 s.2] := rfl
  have hz : ¬ (((l.length + 1 : Nat) : Int) = 0) := by omega
  have hlr : (1 : Int) ≤ (l.length + 1 : Nat) := by omega
  have hdr : (stE (s :: l)).drop 1 = stE l := rfl
  have htk : (stE l).take (l.length + 1 - 1) = stE l := List.take_of_length_le (by rw [stE_length]; omega)
  refine acalls_dropP ?_
  refine acalls Try.func112 c112 r112 (by simp [Try.ntmps112]) ?_
  repeat' (first | (((with_reducible refine am_pan [.ok, .ok, .ok, .ok, .pan, .bad, .bad, .bad, .bad] ?_); (simp -implicitDefEqProofs (disch := omega) only [go_sem, eq_self, decide_true, decide_false, Nat.reduceBEq, Nat.reduceAdd, Nat.reduceSub, Nat.reduceMul, Nat.reduceEqDiff, Nat.reduceLeDiff, Nat.reduceLT, Int.reduceLE, Int.reduceLT, Int.reduceToNat, Int.reduceAdd, Int.reduceEq, Int.reduceNeg, AH.put_ne, hg0]))) | with_reducible (first | refine am_seq ?_ | refine am_block ?_) | ((with_reducible apply am_cond); (case hb => rfl); all_goals (intro hc; (try simp only [reduceCtorEq, decide_eq_true_eq, decide_eq_false_iff_not, Bool.or_eq_true, Bool.and_eq_true, Bool.or_eq_false_iff, Bool.not_eq_true', Bool.not_eq_false', beq_iff_eq] at hc); (try (exfalso; omega)))) | ((first | with_reducible (first | refine am_reg ?_ | refine am_drw ?_ | refine am_drx ?_ | refine am_skip ?_ | refine am_exit ?_ | refine am_ret ?_ | refine And.intro (by first | exact AH.lec_refl _ | assumption | exact AccP.lec (by assumption) | omega) ?_ | refine isnE_of (fun hc => ?_) (fun hc => ?_) (fun hc => ?_) | refine need_elems (by assumption) ?_ | refine vlen_acc (by assumption) ?_ | refine need_bytes (by assumption) ?_ | refine need_look (by repeat (first | assumption | exact AH.put_same _ _ _ | refine look_put ?_ (by assumption) | refine look_lec ?_ (by assumption))) ?_) | ((with_reducible (first | refine gd_not (fun hc => ?_) (fun hc => ?_) | refine gd_of (fun hc => ?_) (fun hc => ?_) | refine gq_not (fun hc => ?_) (fun hc => ?_) | refine gq_of (fun hc => ?_) (fun hc => ?_) | refine pickB_of (fun hc => ?_) (fun hc => ?_))) <;> (try simp -implicitDefEqProofs (disch := omega) only [go_sem, eq_self, decide_true, decide_false, Nat.reduceBEq, Nat.reduceAdd, Nat.reduceSub, Nat.reduceMul, Nat.reduceEqDiff, Nat.reduceLeDiff, Nat.reduceLT, Int.reduceLE, Int.reduceLT, Int.reduceToNat, Int.reduceAdd, Int.reduceEq, Int.reduceNeg, AH.put_ne, hc, hlen, hg0, hz]) <;> (try simp only [reduceCtorEq, decide_eq_true_eq, decide_eq_false_iff_not, Bool.or_eq_true, Bool.and_eq_true, Bool.or_eq_false_iff, Bool.not_eq_true', Bool.not_eq_false', beq_iff_eq] at hc) <;> (try (exfalso; omega))) | ((with_reducible refine alloc_intro (fun ko hko => ?_)) <;> (try have hne := fresh_ne (by assumption) hko) <;> (try have hnk := fresh_ne hk hko) <;> (try have hnk2 := fresh_ne hk2 hko) <;> (try simp only [AH.put_none] at hko)) | ((with_reducible (first | refine vapp_accL (by assumption) ?_ (fun v2 H2 hacc hlec => ?_) | refine vapp_accL (AccP.mono (by assumption) (AccP.le (by assumption))) ?_ (fun v2 H2 hacc hlec => ?_) | refine vapp_accL (AccP.new (by assumption) (by assumption) _) ?_ (fun v2 H2 hacc hlec => ?_))); · simp only [byteCells_length, List.length_cons, List.length_nil, List.length_map, List.length_append, vE_length, mE_length, strE_len, List.length_take, rvE_length]; omega)) <;> (try simp -implicitDefEqProofs (disch := omega) only [go_sem, eq_self, decide_true, decide_false, Nat.reduceBEq, Nat.reduceAdd, Nat.reduceSub, Nat.reduceMul, Nat.reduceEqDiff, Nat.reduceLeDiff, Nat.reduceLT, Int.reduceLE, Int.reduceLT, Int.reduceToNat, Int.reduceAdd, Int.reduceEq, Int.reduceNeg, AH.put_ne, hlen, hg0, hz])))
  all_goals exact ⟨fun G hG => (into_pan hin G).mono (by rintro o H'' ⟨rfl, rfl⟩; exact ⟨rfl, AH.le_trans (AH.le_put (AH.le_refl _) hko _) hG⟩), rfl, rfl, rfl, rfl, rfl⟩
theorem w_A {s : St2} {l : List St2} {v x : Vl} (hl : l.length ≤ 1000) {i : Vl} {e : Int} (hin : v.into s.1 s.2 = some (i, e)) (he : ¬ e = 0) (hB : l ≠ [] ∨ freshB v s.2 e = false) (H : AH) : ACalls Try.prog 112 [.agg [vV v], .agg [vV x], .sl 2 (stE (s :: l)) .no] H (fun o H' => o = .ret (.tuple [.agg [vV .nul], .int .i64 e]) ∧ H' = H) := by
  have hlen : (stE (s :: l)).length = l.length + 1 := by rw [stE_length, List.length_cons]
  have hg0 : (stE (s :: l))[0]? = some [.str s.1, .int .i64 s.2] := rfl
  have hz : ¬ (((l.length + 1 : Nat) : Int) = 0) := by omega
  have hlr : (1 : Int) ≤ (l.length + 1 : Nat) := by omega
  have hdr : (stE (s :: l)).drop 1 = stE l := rfl
  have htk : (stE l).take (l.length + 1 - 1) = stE l := List.take_of_length_le (by rw [stE_length]; omega)
  have hfr := fresh_calls v s.1 s.2 e
  refine ACalls.drop ?_
  rw [vV_nul]
  rcases Nat.eq_zero_or_pos l.length with h0 | h0
  · have hf : freshB v s.2 e = false := hB.resolve_left fun h => h (List.eq_nil_of_length_eq_zero h0)
    rw [hf] at hfr
    have hlt : ¬ (1 : Int) < (l.length + 1 : Nat) := by omega
    refine acalls Try.func112 c112 r112 (by simp [Try.ntmps112]) ?_
    repeat' (first | ((with_reducible refine drx_vc (by simp only [AH.put_none]; exact hko) ?_)) | with_reducible (first | refine am_seq ?_ | refine am_block ?_) | ((with_reducible apply am_cond); (case hb => rfl); all_goals (intro hc; (try simp only [reduceCtorEq, decide_eq_true_eq, decide_eq_false_iff_not, Bool.or_eq_true, Bool.and_eq_true, Bool.or_eq_false_iff, Bool.not_eq_true', Bool.not_eq_false', beq_iff_eq] at hc); (try (exfalso; omega)))) | ((first | with_reducible (first | refine am_reg ?_ | refine am_drw ?_ | refine am_drx ?_ | refine am_skip ?_ | refine am_exit ?_ | refine am_ret ?_ | refine And.intro (by first | exact AH.lec_refl _ | assumption | exact AccP.lec (by assumption) | omega) ?_ | refine isnE_of (fun hc => ?_) (fun hc => ?_) (fun hc => ?_) | refine need_elems (by assumption) ?_ | refine vlen_acc (by assumption) ?_ | refine need_bytes (by assumption) ?_ | refine call_of (into_ret hin) ?_ | refine qcall_of (into_ret hin) ?_ | refine call_of (hfr) ?_ | refine qcall_of (hfr) ?_ | refine need_look (by repeat (first | assumption | exact AH.put_same _ _ _ | refine look_put ?_ (by assumption) | refine look_lec ?_ (by assumption))) ?_) | ((with_reducible (first | refine gd_not (fun hc => ?_) (fun hc => ?_) | refine gd_of (fun hc => ?_) (fun hc => ?_) | refine gq_not (fun hc => ?_) (fun hc => ?_) | refine gq_of (fun hc => ?_) (fun hc => ?_) | refine pickB_of (fun hc => ?_) (fun hc => ?_))) <;> (try simp -implicitDefEqProofs (disch := omega) only [go_sem, eq_self, decide_true, decide_false, Nat.reduceBEq, Nat.reduceAdd, Nat.reduceSub, Nat.reduceMul, Nat.reduceEqDiff, Nat.reduceLeDiff, Nat.reduceLT, Int.reduceLE, Int.reduceLT, Int.reduceToNat, Int.reduceAdd, Int.reduceEq, Int.reduceNeg, AH.put_ne, hc, hlen, hg0, hz, hlr, hdr, htk, Bool.not_true, Bool.not_false, he, hlt]) <;> (try simp only [reduceCtorEq, decide_eq_true_eq, decide_eq_false_iff_not, Bool.or_eq_true, Bool.and_eq_true, Bool.or_eq_false_iff, Bool.not_eq_true', Bool.not_eq_false', beq_iff_eq] at hc) <;> (try (exfalso; omega))) | ((with_reducible refine alloc_intro (fun ko hko => ?_)) <;> (try have hne := fresh_ne (by assumption) hko) <;> (try have hnk := fresh_ne hk hko) <;> (try have hnk2 := fresh_ne hk2 hko) <;> (try simp only [AH.put_none] at hko)) | ((with_reducible (first | refine vapp_accL (by assumption) ?_ (fun v2 H2 hacc hlec => ?_) | refine vapp_accL (AccP.mono (by assumption) (AccP.le (by assumption))) ?_ (fun v2 H2 hacc hlec => ?_) | refine vapp_accL (AccP.new (by assumption) (by assumption) _) ?_ (fun v2 H2 hacc hlec => ?_))); · simp only [byteCells_length, List.length_cons, List.length_nil, List.length_map, List.length_append, vE_length, mE_length, strE_len, List.length_take, rvE_length]; omega)) <;> (try simp -implicitDefEqProofs (disch := omega) only [go_sem, eq_self, decide_true, decide_false, Nat.reduceBEq, Nat.reduceAdd, Nat.reduceSub, Nat.reduceMul, Nat.reduceEqDiff, Nat.reduceLeDiff, Nat.reduceLT, Int.reduceLE, Int.reduceLT, Int.reduceToNat, Int.reduceAdd, Int.reduceEq, Int.reduceNeg, AH.put_ne, hlen, hg0, hz, hlr, hdr, htk, Bool.not_true, Bool.not_false, he, hlt])))
    all_goals exact drop_end (fun _ _ h => h) (AH.le_put (AH.le_put (AH.le_put (AH.le_refl _) (by assumption) _) hko.2 _) (by assumption) _)
  · have hlt : (1 : Int) < (l.length + 1 : Nat) := by omega
    refine acalls Try.func112 c112 r112 (by simp [Try.ntmps112]) ?_
    repeat' (first | ((with_reducible refine drx_vc (by simp only [AH.put_none]; exact hko) ?_)) | with_reducible (first | refine am_seq ?_ | refine am_block ?_) | ((with_reducible apply am_cond); (case hb => rfl); all_goals (intro hc; (try simp only [reduceCtorEq, decide_eq_true_eq, decide_eq_false_iff_not, Bool.or_eq_true, Bool.and_eq_true, Bool.or_eq_false_iff, Bool.not_eq_true', Bool.not_eq_false', beq_iff_eq] at hc); (try (exfalso; omega)))) | ((first | with_reducible (first | refine am_reg ?_ | refine am_drw ?_ | refine am_drx ?_ | refine am_skip ?_ | refine am_exit ?_ | refine am_ret ?_ | refine And.intro (by first | exact AH.lec_refl _ | assumption | exact AccP.lec (by assumption) | omega) ?_ | refine isnE_of (fun hc => ?_) (fun hc => ?_) (fun hc => ?_) | refine need_elems (by assumption) ?_ | refine vlen_acc (by assumption) ?_ | refine need_bytes (by assumption) ?_ | refine call_of (into_ret hin) ?_ | refine qcall_of (into_ret hin) ?_ | refine call_of (hfr) ?_ | refine qcall_of (hfr) ?_ | refine need_look (by repeat (first | assumption | exact AH.put_same _ _ _ | refine look_put ?_ (by assumption) | refine look_lec ?_ (by assumption))) ?_) | ((with_reducible (first | refine gd_not (fun hc => ?_) (fun hc => ?_) | refine gd_of (fun hc => ?_) (fun hc => ?_) | refine gq_not (fun hc => ?_) (fun hc => ?_) | refine gq_of (fun hc => ?_) (fun hc => ?_) | refine pickB_of (fun hc => ?_) (fun hc => ?_))) <;> (try simp -implicitDefEqProofs (disch := omega) only [go_sem, eq_self, decide_true, decide_false, Nat.reduceBEq, Nat.reduceAdd, Nat.reduceSub, Nat.reduceMul, Nat.reduceEqDiff, Nat.reduceLeDiff, Nat.reduceLT, Int.reduceLE, Int.reduceLT, Int.reduceToNat, Int.reduceAdd, Int.reduceEq, Int.reduceNeg, AH.put_ne, hc, hlen, hg0, hz, hlr, hdr, htk, Bool.not_true, Bool.not_false, he, hlt]) <;> (try simp only [reduceCtorEq, decide_eq_true_eq, decide_eq_false_iff_not, Bool.or_eq_true, Bool.and_eq_true, Bool.or_eq_false_iff, Bool.not_eq_true', Bool.not_eq_false', beq_iff_eq] at hc) <;> (try (exfalso; omega))) | ((with_reducible refine alloc_intro (fun ko hko => ?_)) <;> (try have hne := fresh_ne (by assumption) hko) <;> (try have hnk := fresh_ne hk hko) <;> (try have hnk2 := fresh_ne hk2 hko) <;> (try simp only [AH.put_none] at hko)) | ((with_reducible (first | refine vapp_accL (by assumption) ?_ (fun v2 H2 hacc hlec => ?_) | refine vapp_accL (AccP.mono (by assumption) (AccP.le (by assumption))) ?_ (fun v2 H2 hacc hlec => ?_) | refine vapp_accL (AccP.new (by assumption) (by assumption) _) ?_ (fun v2 H2 hacc hlec => ?_))); · simp only [byteCells_length, List.length_cons, List.length_nil, List.length_map, List.length_append, vE_length, mE_length, strE_len, List.length_take, rvE_length]; omega)) <;> (try simp -implicitDefEqProofs (disch := omega) only [go_sem, eq_self, decide_true, decide_false, Nat.reduceBEq, Nat.reduceAdd, Nat.reduceSub, Nat.reduceMul, Nat.reduceEqDiff, Nat.reduceLeDiff, Nat.reduceLT, Int.reduceLE, Int.reduceLT, Int.reduceToNat, Int.reduceAdd, Int.reduceEq, Int.reduceNeg, AH.put_ne, hlen, hg0, hz, hlr, hdr, htk, Bool.not_true, Bool.not_false, he, hlt])))
    all_goals exact drop_end (fun _ _ h => h) (AH.le_put (AH.le_put (AH.le_put (AH.le_refl _) (by assumption) _) hko.2 _) (by assumption) _)
theorem w_pan {s : St2} {l : List St2} {v x : Vl} (hl : l.length ≤ 1000) {i : Vl} (hin : v.into s.1 s.2 = some (i, 0)) (hic : ∀ H : AH, ACalls Try.prog 112 [.agg [vV i], .agg [vV x], .sl 2 (stE l) .no] H (fun o H' => o = .pan ∧ H' = H)) (H : AH) : ACalls Try.prog 112 [.agg [vV v], .agg [vV x], .sl 2 (stE (s :: l)) .no] H (fun o H' => o = .pan ∧ H' = H) := by
  have hlen : (stE (s :: l)).length = l.length + 1 := by rw [stE_length, List.length_cons]
  have hg0 : (stE (s :: l))[0]? = some [.str s.1, .int .i64 s.2] := rfl
  have hz : ¬ (((l.length + 1 : Nat) : Int) = 0) := by omega
  have hlr : (1 : Int) ≤ (l.length + 1 : Nat) := by omega
  have hdr : (stE (s :: l)).drop 1 = stE l := rfl
  have htk : (stE l).take (l.length + 1 - 1) = stE l := List.take_of_length_le (by rw [stE_length]; omega)
  refine acalls_dropP ?_
  refine acalls Try.func112 c112 r112 (by simp [Try.ntmps112]) ?_
  repeat' (first | (((with_reducible refine am_pan [.ok, .ok, .ok, .ok, .pan, .bad, .bad, .bad, .bad] ?_); (guard_target =~ drawES _ _ _ (⟨some 42, _, _⟩ :: _) _ _ _); (simp -implicitDefEqProofs (disch := omega) only [go_sem, eq_self, decide_true, decide_false, Nat.reduceBEq, Nat.reduceAdd, Nat.reduceSub, Nat.reduceMul, Nat.reduceEqDiff, Nat.reduceLeDiff, Nat.reduceLT, Int.reduceLE, Int.reduceLT, Int.reduceToNat, Int.reduceAdd, Int.reduceEq, Int.reduceNeg, AH.put_ne, hlen, hdr, htk]))) | ((with_reducible refine drx_vc (by simp only [AH.put_none]; exact hko) ?_)) | with_reducible (first | refine am_seq ?_ | refine am_block ?_) | ((with_reducible apply am_cond); (case hb => rfl); all_goals (intro hc; (try simp only [reduceCtorEq, decide_eq_true_eq, decide_eq_false_iff_not, Bool.or_eq_true, Bool.and_eq_true, Bool.or_eq_false_iff, Bool.not_eq_true', Bool.not_eq_false', beq_iff_eq] at hc); (try (exfalso; omega)))) | ((first | with_reducible (first | refine am_reg ?_ | refine am_drw ?_ | refine am_drx ?_ | refine am_skip ?_ | refine am_exit ?_ | refine am_ret ?_ | refine And.intro (by first | exact AH.lec_refl _ | assumption | exact AccP.lec (by assumption) | omega) ?_ | refine isnE_of (fun hc => ?_) (fun hc => ?_) (fun hc => ?_) | refine need_elems (by assumption) ?_ | refine vlen_acc (by assumption) ?_ | refine need_bytes (by assumption) ?_ | refine call_of (into_ret hin) ?_ | refine qcall_of (into_ret hin) ?_ | refine need_look (by repeat (first | assumption | exact AH.put_same _ _ _ | refine look_put ?_ (by assumption) | refine look_lec ?_ (by assumption))) ?_) | ((with_reducible (first | refine gd_not (fun hc => ?_) (fun hc => ?_) | refine gd_of (fun hc => ?_) (fun hc => ?_) | refine gq_not (fun hc => ?_) (fun hc => ?_) | refine gq_of (fun hc => ?_) (fun hc => ?_) | refine pickB_of (fun hc => ?_) (fun hc => ?_))) <;> (try simp -implicitDefEqProofs (disch := omega) only [go_sem, eq_self, decide_true, decide_false, Nat.reduceBEq, Nat.reduceAdd, Nat.reduceSub, Nat.reduceMul, Nat.reduceEqDiff, Nat.reduceLeDiff, Nat.reduceLT, Int.reduceLE, Int.reduceLT, Int.reduceToNat, Int.reduceAdd, Int.reduceEq, Int.reduceNeg, AH.put_ne, hc, hlen, hg0, hz, hlr, hdr, htk, Bool.not_true, Bool.not_false]) <;> (try simp only [reduceCtorEq, decide_eq_true_eq, decide_eq_false_iff_not, Bool.or_eq_true, Bool.and_eq_true, Bool.or_eq_false_iff, Bool.not_eq_true', Bool.not_eq_false', beq_iff_eq] at hc) <;> (try (exfalso; omega))) | ((with_reducible refine alloc_intro (fun ko hko => ?_)) <;> (try have hne := fresh_ne (by assumption) hko) <;> (try have hnk := fresh_ne hk hko) <;> (try have hnk2 := fresh_ne hk2 hko) <;> (try simp only [AH.put_none] at hko)) | ((with_reducible (first | refine vapp_accL (by assumption) ?_ (fun v2 H2 hacc hlec => ?_) | refine vapp_accL (AccP.mono (by assumption) (AccP.le (by assumption))) ?_ (fun v2 H2 hacc hlec => ?_) | refine vapp_accL (AccP.new (by assumption) (by assumption) _) ?_ (fun v2 H2 hacc hlec => ?_))); · simp only [byteCells_length, List.length_cons, List.length_nil, List.length_map, List.length_append, vE_length, mE_length, strE_len, List.length_take, rvE_length]; omega)) <;> (try simp -implicitDefEqProofs (disch := omega) only [go_sem, eq_self, decide_true, decide_false, Nat.reduceBEq, Nat.reduceAdd, Nat.reduceSub, Nat.reduceMul, Nat.reduceEqDiff, Nat.reduceLeDiff, Nat.reduceLT, Int.reduceLE, Int.reduceLT, Int.reduceToNat, Int.reduceAdd, Int.reduceEq, Int.reduceNeg, AH.put_ne, hlen, hg0, hz, hlr, hdr, htk, Bool.not_true, Bool.not_false])))
  rename_i kz hkz _
  all_goals exact ⟨fun G hG => (hic G).mono (by rintro o H'' ⟨rfl, rfl⟩; exact ⟨rfl, AH.le_trans (AH.le_put (AH.le_put (AH.le_refl _) hkz _) hko.2 _) hG⟩), rfl, rfl, rfl, rfl, rfl⟩
theorem w_C {s : St2} {l : List St2} {v x : Vl} (hl : l.length ≤ 1000) {i y : Vl} {e : Int} (hin : v.into s.1 s.2 = some (i, 0)) (he : ¬ e = 0) (hic : ∀ H : AH, ACalls Try.prog 112 [.agg [vV i], .agg [vV x], .sl 2 (stE l) .no] H (fun o H' => o = .ret (.tuple [.agg [vV y], .int .i64 e]) ∧ H' = H)) (H : AH) : ACalls Try.prog 112 [.agg [vV v], .agg [vV x], .sl 2 (stE (s :: l)) .no] H (fun o H' => o = .ret (.tuple [.agg [vV .nul], .int .i64 e]) ∧ H' = H) := by
  have hlen : (stE (s :: l)).length = l.length + 1 := by rw [stE_length, List.length_cons]
  have hg0 : (stE (s :: l))[0]? = some [.str s.1, .int .i64 s.2] := rfl
  have hz : ¬ (((l.length + 1 : Nat) : Int) = 0) := by omega
  have hlr : (1 : Int) ≤ (l.length + 1 : Nat) := by omega
  have hdr : (stE (s :: l)).drop 1 = stE l := rfl
  have htk : (stE l).take (l.length + 1 - 1) = stE l := List.take_of_length_le (by rw [stE_length]; omega)
  refine ACalls.drop ?_
  rw [vV_nul]
  refine acalls Try.func112 c112 r112 (by simp [Try.ntmps112]) ?_
  repeat' (first | ((with_reducible refine drx_vc (by simp only [AH.put_none]; exact hko) ?_)) | with_reducible (first | refine am_seq ?_ | refine am_block ?_) | ((with_reducible apply am_cond); (case hb => rfl); all_goals (intro hc; (try simp only [reduceCtorEq, decide_eq_true_eq, decide_eq_false_iff_not, Bool.or_eq_true, Bool.and_eq_true, Bool.or_eq_false_iff, Bool.not_eq_true', Bool.not_eq_false', beq_iff_eq] at hc); (try (exfalso; omega)))) | ((first | with_reducible (first | refine am_reg ?_ | refine am_drw ?_ | refine am_drx ?_ | refine am_skip ?_ | refine am_exit ?_ | refine am_ret ?_ | refine And.intro (by first | exact AH.lec_refl _ | assumption | exact AccP.lec (by assumption) | omega) ?_ | refine isnE_of (fun hc => ?_) (fun hc => ?_) (fun hc => ?_) | refine need_elems (by assumption) ?_ | refine vlen_acc (by assumption) ?_ | refine need_bytes (by assumption) ?_ | refine call_of (into_ret hin) ?_ | refine qcall_of (into_ret hin) ?_ | refine call_of (hic) ?_ | refine qcall_of (hic) ?_ | refine need_look (by repeat (first | assumption | exact AH.put_same _ _ _ | refine look_put ?_ (by assumption) | refine look_lec ?_ (by assumption))) ?_) | ((with_reducible (first | refine gd_not (fun hc => ?_) (fun hc => ?_) | refine gd_of (fun hc => ?_) (fun hc => ?_) | refine gq_not (fun hc => ?_) (fun hc => ?_) | refine gq_of (fun hc => ?_) (fun hc => ?_) | refine pickB_of (fun hc => ?_) (fun hc => ?_))) <;> (try simp -implicitDefEqProofs (disch := omega) only [go_sem, eq_self, decide_true, decide_false, Nat.reduceBEq, Nat.reduceAdd, Nat.reduceSub, Nat.reduceMul, Nat.reduceEqDiff, Nat.reduceLeDiff, Nat.reduceLT, Int.reduceLE, Int.reduceLT, Int.reduceToNat, Int.reduceAdd, Int.reduceEq, Int.reduceNeg, AH.put_ne, hc, hlen, hg0, hz, hlr, hdr, htk, Bool.not_true, Bool.not_false, he]) <;> (try simp only [reduceCtorEq, decide_eq_true_eq, decide_eq_false_iff_not, Bool.or_eq_true, Bool.and_eq_true, Bool.or_eq_false_iff, Bool.not_eq_true', Bool.not_eq_false', beq_iff_eq] at hc) <;> (try (exfalso; omega))) | ((with_reducible refine alloc_intro (fun ko hko => ?_)) <;> (try have hne := fresh_ne (by assumption) hko) <;> (try have hnk := fresh_ne hk hko) <;> (try have hnk2 := fresh_ne hk2 hko) <;> (try simp only [AH.put_none] at hko)) | ((with_reducible (first | refine vapp_accL (by assumption) ?_ (fun v2 H2 hacc hlec => ?_) | refine vapp_accL (AccP.mono (by assumption) (AccP.le (by assumption))) ?_ (fun v2 H2 hacc hlec => ?_) | refine vapp_accL (AccP.new (by assumption) (by assumption) _) ?_ (fun v2 H2 hacc hlec => ?_))); · simp only [byteCells_length, List.length_cons, List.length_nil, List.length_map, List.length_append, vE_length, mE_length, strE_len, List.length_take, rvE_length]; omega)) <;> (try simp -implicitDefEqProofs (disch := omega) only [go_sem, eq_self, decide_true, decide_false, Nat.reduceBEq, Nat.reduceAdd, Nat.reduceSub, Nat.reduceMul, Nat.reduceEqDiff, Nat.reduceLeDiff, Nat.reduceLT, Int.reduceLE, Int.reduceLT, Int.reduceToNat, Int.reduceAdd, Int.reduceEq, Int.reduceNeg, AH.put_ne, hlen, hg0, hz, hlr, hdr, htk, Bool.not_true, Bool.not_false, he])))
  rename_i kz hkz _ k1 hk1 _
  exact drop_end (fun _ _ h => h) (AH.le_put (AH.le_put (AH.le_put (AH.le_put (AH.le_refl _) hkz _) hk1.2 _) hko.2.2 _) hkz _)
theorem w_D {s : St2} {l : List St2} {v x : Vl} (hl : l.length ≤ 1000) {i y z : Vl} {e : Int} (hin : v.into s.1 s.2 = some (i, e)) (hB : e = 0 ∨ l = [] ∧ freshB v s.2 e = true) (hic : ∀ H : AH, ACalls Try.prog 112 [.agg [vV i], .agg [vV x], .sl 2 (stE l) .no] H (fun o H' => o = .ret (.tuple [.agg [vV y], .int .i64 0]) ∧ H' = H)) (hpc : ∀ H : AH, ACalls Try.prog 137 [.agg [vV v], .agg [vV y], .agg [.str s.1, .int .i64 s.2]] H (fun o H' => o = .ret (.agg [vV z]) ∧ H' = H)) (H : AH) :
    ACalls Try.prog 112 [.agg [vV v], .agg [vV x], .sl 2 (stE (s :: l)) .no] H (fun o H' => o = .ret (.tuple [.agg [vV z], .int .i64 0]) ∧ H' = H) := by
  have hlen : (stE (s :: l)).length = l.length + 1 := by rw [stE_length, List.length_cons]
  have hg0 : (stE (s :: l))[0]? = some [.str s.1, .int .i64 s.2] := rfl
  have hz : ¬ (((l.length + 1 : Nat) : Int) = 0) := by omega
  have hlr : (1 : Int) ≤ (l.length + 1 : Nat) := by omega
  have hdr : (stE (s :: l)).drop 1 = stE l := rfl
  have htk : (stE l).take (l.length + 1 - 1) = stE l := List.take_of_length_le (by rw [stE_length]; omega)
  have hfr := fresh_calls v s.1 s.2 e
  refine ACalls.drop ?_
  by_cases he : e = 0
  · refine acalls Try.func112 c112 r112 (by simp [Try.ntmps112]) ?_
    repeat' (first | ((with_reducible refine drx_vc (by simp only [AH.put_none]; exact hko) ?_)) | with_reducible (first | refine am_seq ?_ | refine am_block ?_) | ((with_reducible apply am_cond); (case hb => rfl); all_goals (intro hc; (try simp only [reduceCtorEq, decide_eq_true_eq, decide_eq_false_iff_not, Bool.or_eq_true, Bool.and_eq_true, Bool.or_eq_false_iff, Bool.not_eq_true', Bool.not_eq_false', beq_iff_eq] at hc); (try (exfalso; omega)))) | ((first | with_reducible (first | refine am_reg ?_ | refine am_drw ?_ | refine am_drx ?_ | refine am_skip ?_ | refine am_exit ?_ | refine am_ret ?_ | refine And.intro (by first | exact AH.lec_refl _ | assumption | exact AccP.lec (by assumption) | omega) ?_ | refine isnE_of (fun hc => ?_) (fun hc => ?_) (fun hc => ?_) | refine need_elems (by assumption) ?_ | refine vlen_acc (by assumption) ?_ | refine need_bytes (by assumption) ?_ | refine call_of (into_ret hin) ?_ | refine qcall_of (into_ret hin) ?_ | refine call_of (hic) ?_ | refine qcall_of (hic) ?_ | refine call_of (hpc) ?_ | refine qcall_of (hpc) ?_ | refine need_look (by repeat (first | assumption | exact AH.put_same _ _ _ | refine look_put ?_ (by assumption) | refine look_lec ?_ (by assumption))) ?_) | ((with_reducible (first | refine gd_not (fun hc => ?_) (fun hc => ?_) | refine gd_of (fun hc => ?_) (fun hc => ?_) | refine gq_not (fun hc => ?_) (fun hc => ?_) | refine gq_of (fun hc => ?_) (fun hc => ?_) | refine pickB_of (fun hc => ?_) (fun hc => ?_))) <;> (try simp -implicitDefEqProofs (disch := omega) only [go_sem, eq_self, decide_true, decide_false, Nat.reduceBEq, Nat.reduceAdd, Nat.reduceSub, Nat.reduceMul, Nat.reduceEqDiff, Nat.reduceLeDiff, Nat.reduceLT, Int.reduceLE, Int.reduceLT, Int.reduceToNat, Int.reduceAdd, Int.reduceEq, Int.reduceNeg, AH.put_ne, hc, hlen, hg0, hz, hlr, hdr, htk, Bool.not_true, Bool.not_false, he]) <;> (try simp only [reduceCtorEq, decide_eq_true_eq, decide_eq_false_iff_not, Bool.or_eq_true, Bool.and_eq_true, Bool.or_eq_false_iff, Bool.not_eq_true', Bool.not_eq_false', beq_iff_eq] at hc) <;> (try (exfalso; omega))) | ((with_reducible refine alloc_intro (fun ko hko => ?_)) <;> (try have hne := fresh_ne (by assumption) hko) <;> (try have hnk := fresh_ne hk hko) <;> (try have hnk2 := fresh_ne hk2 hko) <;> (try simp only [AH.put_none] at hko)) | ((with_reducible (first | refine vapp_accL (by assumption) ?_ (fun v2 H2 hacc hlec => ?_) | refine vapp_accL (AccP.mono (by assumption) (AccP.le (by assumption))) ?_ (fun v2 H2 hacc hlec => ?_) | refine vapp_accL (AccP.new (by assumption) (by assumption) _) ?_ (fun v2 H2 hacc hlec => ?_))); · simp only [byteCells_length, List.length_cons, List.length_nil, List.length_map, List.length_append, vE_length, mE_length, strE_len, List.length_take, rvE_length]; omega)) <;> (try simp -implicitDefEqProofs (disch := omega) only [go_sem, eq_self, decide_true, decide_false, Nat.reduceBEq, Nat.reduceAdd, Nat.reduceSub, Nat.reduceMul, Nat.reduceEqDiff, Nat.reduceLeDiff, Nat.reduceLT, Int.reduceLE, Int.reduceLT, Int.reduceToNat, Int.reduceAdd, Int.reduceEq, Int.reduceNeg, AH.put_ne, hlen, hg0, hz, hlr, hdr, htk, Bool.not_true, Bool.not_false, he])))
    rename_i kz hkz _ k1 hk1 _
    exact drop_end (fun _ _ h => h) (AH.le_put (AH.le_put (AH.le_put (AH.le_put (AH.le_refl _) hkz _) hk1.2 _) hko.2.2 _) hkz _)
  · obtain ⟨hl0, hf⟩ := hB.resolve_left he
    rw [hf] at hfr
    have hlt : ¬ (1 : Int) < (l.length + 1 : Nat) := by rw [hl0]; decide
    refine acalls Try.func112 c112 r112 (by simp [Try.ntmps112]) ?_
    repeat' (first | ((with_reducible refine drx_vc (by simp only [AH.put_none]; exact hko) ?_)) | with_reducible (first | refine am_seq ?_ | refine am_block ?_) | ((with_reducible apply am_cond); (case hb => rfl); all_goals (intro hc; (try simp only [reduceCtorEq, decide_eq_true_eq, decide_eq_false_iff_not, Bool.or_eq_true, Bool.and_eq_true, Bool.or_eq_false_iff, Bool.not_eq_true', Bool.not_eq_false', beq_iff_eq] at hc); (try (exfalso; omega)))) | ((first | with_reducible (first | refine am_reg ?_ | refine am_drw ?_ | refine am_drx ?_ | refine am_skip ?_ | refine am_exit ?_ | refine am_ret ?_ | refine And.intro (by first | exact AH.lec_refl _ | assumption | exact AccP.lec (by assumption) | omega) ?_ | refine isnE_of (fun hc => ?_) (fun hc => ?_) (fun hc => ?_) | refine need_elems (by assumption) ?_ | refine vlen_acc (by assumption) ?_ | refine need_bytes (by assumption) ?_ | refine call_of (into_ret hin) ?_ | refine qcall_of (into_ret hin) ?_ | refine call_of (hfr) ?_ | refine qcall_of (hfr) ?_ | refine call_of (hic) ?_ | refine qcall_of (hic) ?_ | refine call_of (hpc) ?_ | refine qcall_of (hpc) ?_ | refine need_look (by repeat (first | assumption | exact AH.put_same _ _ _ | refine look_put ?_ (by assumption) | refine look_lec ?_ (by assumption))) ?_) | ((with_reducible (first | refine gd_not (fun hc => ?_) (fun hc => ?_) | refine gd_of (fun hc => ?_) (fun hc => ?_) | refine gq_not (fun hc => ?_) (fun hc => ?_) | refine gq_of (fun hc => ?_) (fun hc => ?_) | refine pickB_of (fun hc => ?_) (fun hc => ?_))) <;> (try simp -implicitDefEqProofs (disch := omega) only [go_sem, eq_self, decide_true, decide_false, Nat.reduceBEq, Nat.reduceAdd, Nat.reduceSub, Nat.reduceMul, Nat.reduceEqDiff, Nat.reduceLeDiff, Nat.reduceLT, Int.reduceLE, Int.reduceLT, Int.reduceToNat, Int.reduceAdd, Int.reduceEq, Int.reduceNeg, AH.put_ne, hc, hlen, hg0, hz, hlr, hdr, htk, Bool.not_true, Bool.not_false, he, hlt]) <;> (try simp only [reduceCtorEq, decide_eq_true_eq, decide_eq_false_iff_not, Bool.or_eq_true, Bool.and_eq_true, Bool.or_eq_false_iff, Bool.not_eq_true', Bool.not_eq_false', beq_iff_eq] at hc) <;> (try (exfalso; omega))) | ((with_reducible refine alloc_intro (fun ko hko => ?_)) <;> (try have hne := fresh_ne (by assumption) hko) <;> (try have hnk := fresh_ne hk hko) <;> (try have hnk2 := fresh_ne hk2 hko) <;> (try simp only [AH.put_none] at hko)) | ((with_reducible (first | refine vapp_accL (by assumption) ?_ (fun v2 H2 hacc hlec => ?_) | refine vapp_accL (AccP.mono (by assumption) (AccP.le (by assumption))) ?_ (fun v2 H2 hacc hlec => ?_) | refine vapp_accL (AccP.new (by assumption) (by assumption) _) ?_ (fun v2 H2 hacc hlec => ?_))); · simp only [byteCells_length, List.length_cons, List.length_nil, List.length_map, List.length_append, vE_length, mE_length, strE_len, List.length_take, rvE_length]; omega)) <;> (try simp -implicitDefEqProofs (disch := omega) only [go_sem, eq_self, decide_true, decide_false, Nat.reduceBEq, Nat.reduceAdd, Nat.reduceSub, Nat.reduceMul, Nat.reduceEqDiff, Nat.reduceLeDiff, Nat.reduceLT, Int.reduceLE, Int.reduceLT, Int.reduceToNat, Int.reduceAdd, Int.reduceEq, Int.reduceNeg, AH.put_ne, hlen, hg0, hz, hlr, hdr, htk, Bool.not_true, Bool.not_false, he, hlt])))
    rename_i kz hkz _ k1 hk1 _
    exact drop_end (fun _ _ h => h) (AH.le_put (AH.le_put (AH.le_put (AH.le_put (AH.le_refl _) hkz _) hk1.2 _) hko.2.2 _) hkz _)
theorem with_cons {s : St2} {l : List St2} (hl : l.length ≤ 1000) (ih : WithOk l) : WithOk (s :: l) := by
  refine fun v x ho => ?_
  cases hin : v.into s.1 s.2 with
  | none =>
    have hw : withR v x (s :: l) = none := by rw [withR, hin]
    exact ⟨fun y e h => (by rw [hw] at h; cases h), fun _ H => w_none hl hin H⟩
  | some p =>
    obtain ⟨i, e⟩ := p
    by_cases hA : e ≠ 0 ∧ (l ≠ [] ∨ freshB v s.2 e = false)
    · have hw : withR v x (s :: l) = some (.nul, e) := by simp only [withR, hin]; rw [if_pos hA]
      refine ⟨fun y e2 h H => ?_, fun h => (by rw [hw] at h; cases h)⟩
      rw [hw] at h; cases h
      exact w_A hl hin hA.1 hA.2 H
    · have hB : e = 0 ∨ l = [] ∧ freshB v s.2 e = true := by
        by_cases he : e = 0
        · exact .inl he
        · refine .inr ?_
          by_cases hl0 : l = []
          · refine ⟨hl0, ?_⟩
            cases hf : freshB v s.2 e with
            | true => rfl
            | false => exact absurd ⟨he, .inr hf⟩ hA
          · exact absurd ⟨he, .inl hl0⟩ hA
      obtain ⟨ih1, ih2⟩ := ih i x (into_ok ho hin)
      cases hrec : withR i x l with
      | none =>
        have hw : withR v x (s :: l) = none := by simp only [withR, hin, hrec]; rw [if_neg hA]
        refine ⟨fun y e h => (by rw [hw] at h; cases h), fun _ H => ?_⟩
        rcases hB with rfl | ⟨rfl, _⟩
        · exact w_pan hl hin (ih2 hrec) H
        · cases hrec
      | some q =>
        obtain ⟨y, e2⟩ := q
        have hic := ih1 y e2 hrec
        by_cases he2 : e2 = 0
        · subst he2
          obtain ⟨z, hz2⟩ := put_some (y := y) hin (hB.imp id And.right)
          have hw : withR v x (s :: l) = some (z, 0) := by simp only [withR, hin, hrec]; rw [if_neg hA, hz2]; simp
          refine ⟨fun y2 e3 h H => ?_, fun h => (by rw [hw] at h; cases h)⟩
          rw [hw] at h; cases h
          exact w_D hl hin hB hic (put_calls hz2 ho) H
        · have hw : withR v x (s :: l) = some (.nul, e2) := by simp only [withR, hin, hrec]; rw [if_neg hA, if_pos he2]
          refine ⟨fun y2 e3 h H => ?_, fun h => (by rw [hw] at h; cases h)⟩
          rw [hw] at h; cases h
          rcases hB with rfl | ⟨rfl, _⟩
          · exact w_C hl hin he2 hic H
          · cases hrec; exact absurd rfl he2
theorem with_all : ∀ l : List St2, l.length ≤ 1000 → WithOk l
  | [], _ => with_nil
  | s :: l, h => with_cons (by simp at h; omega) (with_all l (by simp at h; omega))
def chR (v x : Vl) (l : List St2) : Vl × Int := (withR v x l).getD (.nul, 6)
theorem bodyH_ret {rs : List RV} {ko : Nat} {e : Int} {Q : Out → AH → Prop} {a : A} {H : AH} : BodyG rs ko e Q .ret a H = need (rvsGet a H rs) fun vs => Q (.ret (resOne vs)) H := rfl
theorem bodyH_pan {rs : List RV} {ko : Nat} {e : Int} {Q : Out → AH → Prop} {a : A} {H : AH} : BodyG rs ko e Q .panic a H = ∃ x : Int, H ko = some (.cells [.int .i64 x]) ∧ need (rvsGet a (H.put ko (.cells [.int .i64 e])) rs) fun vs => Q (.ret (resOne vs)) (H.put ko (.cells [.int .i64 e])) := rfl
attribute [local go_sem] bodyH_ret bodyH_pan
theorem changed_calls {v x : Vl} {l : List St2} {t : Tok} (hl : l.length ≤ 1000) (ho : v.Ok) (H : AH) : ACalls Try.prog 80 [.agg [vV v], .agg [vV x], .sl 2 (stE l) t] H (fun o H' => o = .ret (.tuple [.agg [vV (chR v x l).1], .int .i64 (chR v x l).2]) ∧ H' = H) := by
  refine ACalls.drop ?_
  refine acalls_args (us := [.agg [vV v], .agg [vV x], .sl 2 (stE l) .no]) ?_ (fun s => .cons (fun _ h => h) (.cons (fun _ h => h) (.cons (fun _ h => no_sub _ h) .nil)))
  refine acalls_guard (f := 80) (g := 111) (fn := Try.f80) (imm := (List.contains [3, 4] ·)) (lv := (List.getD [([], [2, 3, 4, 6, 7]), ([], [2, 3, 4, 6, 7]), ([], [6, 7])] · ([], []))) (m0 := (.reg [
    ⟨(some 3), none, .boxi (.t 0)⟩,
    ⟨(some 4), none, .boxi (.t 1)⟩,
    ⟨(some 6), none, .zalloc [.nilIface]⟩,
    ⟨(some 7), none, .zalloc [(.int .i64 0)]⟩] [2, 3, 4, 6, 7])) (m1 := k80_0) (rs := [.cell 6 true 1, .cell 7 false 1]) (p := 7) (e := 6) Try.func80 rfl (by kernel_rfl) (by kernel_rfl) r80 (by simp [Try.ntmps80]) guard_ok (fun x w => ?_) ?_
  · simp [invoke]
  obtain ⟨w1, w2⟩ := with_all l hl v x ho
  repeat' (first | with_reducible (first | refine am_seq ?_ | refine am_block ?_) | ((with_reducible apply am_cond); (case hb => rfl); all_goals (intro hc; (try simp only [reduceCtorEq, decide_eq_true_eq, decide_eq_false_iff_not, Bool.or_eq_true, Bool.and_eq_true, Bool.or_eq_false_iff, Bool.not_eq_true', Bool.not_eq_false', beq_iff_eq] at hc); (try (exfalso; omega)))) | ((first | with_reducible (first | refine am_reg ?_ | refine am_drw ?_ | refine am_drx ?_ | refine am_skip ?_ | refine am_exit ?_ | refine am_ret ?_ | refine And.intro (by first | exact AH.lec_refl _ | assumption | exact AccP.lec (by assumption) | omega) ?_ | refine isnE_of (fun hc => ?_) (fun hc => ?_) (fun hc => ?_) | refine need_elems (by assumption) ?_ | refine vlen_acc (by assumption) ?_ | refine need_bytes (by assumption) ?_ | refine need_look (by repeat (first | assumption | exact AH.put_same _ _ _ | refine look_put ?_ (by assumption) | refine look_lec ?_ (by assumption))) ?_) | ((with_reducible (first | refine gd_not (fun hc => ?_) (fun hc => ?_) | refine gd_of (fun hc => ?_) (fun hc => ?_) | refine gq_not (fun hc => ?_) (fun hc => ?_) | refine gq_of (fun hc => ?_) (fun hc => ?_) | refine pickB_of (fun hc => ?_) (fun hc => ?_))) <;> (try simp -implicitDefEqProofs (disch := omega) only [go_sem, eq_self, decide_true, decide_false, Nat.reduceBEq, Nat.reduceAdd, Nat.reduceSub, Nat.reduceMul, Nat.reduceEqDiff, Nat.reduceLeDiff, Nat.reduceLT, Int.reduceLE, Int.reduceLT, Int.reduceToNat, Int.reduceAdd, Int.reduceEq, Int.reduceNeg, AH.put_ne, hc]) <;> (try simp only [reduceCtorEq, decide_eq_true_eq, decide_eq_false_iff_not, Bool.or_eq_true, Bool.and_eq_true, Bool.or_eq_false_iff, Bool.not_eq_true', Bool.not_eq_false', beq_iff_eq] at hc) <;> (try (exfalso; omega))) | ((with_reducible refine alloc_intro (fun ko hko => ?_)) <;> (try have hne := fresh_ne (by assumption) hko) <;> (try have hnk := fresh_ne hk hko) <;> (try have hnk2 := fresh_ne hk2 hko) <;> (try simp only [AH.put_none] at hko)) | ((with_reducible (first | refine vapp_accL (by assumption) ?_ (fun v2 H2 hacc hlec => ?_) | refine vapp_accL (AccP.mono (by assumption) (AccP.le (by assumption))) ?_ (fun v2 H2 hacc hlec => ?_) | refine vapp_accL (AccP.new (by assumption) (by assumption) _) ?_ (fun v2 H2 hacc hlec => ?_))); · simp only [byteCells_length, List.length_cons, List.length_nil, List.length_map, List.length_append, vE_length, mE_length, strE_len, List.length_take, rvE_length]; omega)) <;> (try simp -implicitDefEqProofs (disch := omega) only [go_sem, eq_self, decide_true, decide_false, Nat.reduceBEq, Nat.reduceAdd, Nat.reduceSub, Nat.reduceMul, Nat.reduceEqDiff, Nat.reduceLeDiff, Nat.reduceLT, Int.reduceLE, Int.reduceLT, Int.reduceToNat, Int.reduceAdd, Int.reduceEq, Int.reduceNeg, AH.put_ne])))
  rename_i kz hkz
  refine ⟨ko, rfl, ?_⟩
  generalize ko = ke at *
  have hzx : kz ≠ ke := Ne.symm hko.1
  have hk1 : ((H.put kz (.cells [.nilIface])).put ke (.cells [.int .i64 0])) kz = some (.cells [.nilIface]) := by rw [AH.put_ne _ _ hzx, AH.put_same]
  have hk2 : ((H.put kz (.cells [.nilIface])).put ke (.cells [.int .i64 0])) ke = some (.cells [.int .i64 0]) := AH.put_same _ _ _
  cases hw : withR v x l with
  | none =>
    have e : chR v x l = (.nul, 6) := by rw [chR, hw]; rfl
    rw [e]
    repeat' (first | (((guard_target =~ AM _ _ k80_0 _ _ _); (refine am_seq (am_regA [(6, .ptr kz 0), (7, .ptr ke 0)] rfl ?_ ?_)))) | ((with_reducible refine call_pan (w2 hw) ?_)) | with_reducible (first | refine am_seq ?_ | refine am_block ?_) | ((with_reducible apply am_cond); (case hb => rfl); all_goals (intro hc; (try simp only [reduceCtorEq, decide_eq_true_eq, decide_eq_false_iff_not, Bool.or_eq_true, Bool.and_eq_true, Bool.or_eq_false_iff, Bool.not_eq_true', Bool.not_eq_false', beq_iff_eq] at hc); (try (exfalso; omega)))) | ((first | with_reducible (first | refine am_reg ?_ | refine am_drw ?_ | refine am_drx ?_ | refine am_skip ?_ | refine am_exit ?_ | refine am_ret ?_ | refine And.intro (by first | exact AH.lec_refl _ | assumption | exact AccP.lec (by assumption) | omega) ?_ | refine isnE_of (fun hc => ?_) (fun hc => ?_) (fun hc => ?_) | refine need_elems (by assumption) ?_ | refine vlen_acc (by assumption) ?_ | refine need_bytes (by assumption) ?_ | refine need_look (by repeat (first | assumption | exact AH.put_same _ _ _ | refine look_put ?_ (by assumption) | refine look_lec ?_ (by assumption))) ?_) | ((with_reducible (first | refine gd_not (fun hc => ?_) (fun hc => ?_) | refine gd_of (fun hc => ?_) (fun hc => ?_) | refine gq_not (fun hc => ?_) (fun hc => ?_) | refine gq_of (fun hc => ?_) (fun hc => ?_) | refine pickB_of (fun hc => ?_) (fun hc => ?_))) <;> (try simp -implicitDefEqProofs (disch := omega) only [go_sem, eq_self, decide_true, decide_false, Nat.reduceBEq, Nat.reduceAdd, Nat.reduceSub, Nat.reduceMul, Nat.reduceEqDiff, Nat.reduceLeDiff, Nat.reduceLT, Int.reduceLE, Int.reduceLT, Int.reduceToNat, Int.reduceAdd, Int.reduceEq, Int.reduceNeg, AH.put_ne, hc, hk1, hk2, hzx]) <;> (try simp only [reduceCtorEq, decide_eq_true_eq, decide_eq_false_iff_not, Bool.or_eq_true, Bool.and_eq_true, Bool.or_eq_false_iff, Bool.not_eq_true', Bool.not_eq_false', beq_iff_eq] at hc) <;> (try (exfalso; omega))) | ((with_reducible refine alloc_intro (fun ko hko => ?_)) <;> (try have hne := fresh_ne (by assumption) hko) <;> (try have hnk := fresh_ne hk hko) <;> (try have hnk2 := fresh_ne hk2 hko) <;> (try simp only [AH.put_none] at hko)) | ((with_reducible (first | refine vapp_accL (by assumption) ?_ (fun v2 H2 hacc hlec => ?_) | refine vapp_accL (AccP.mono (by assumption) (AccP.le (by assumption))) ?_ (fun v2 H2 hacc hlec => ?_) | refine vapp_accL (AccP.new (by assumption) (by assumption) _) ?_ (fun v2 H2 hacc hlec => ?_))); · simp only [byteCells_length, List.length_cons, List.length_nil, List.length_map, List.length_append, vE_length, mE_length, strE_len, List.length_take, rvE_length]; omega)) <;> (try simp -implicitDefEqProofs (disch := omega) only [go_sem, eq_self, decide_true, decide_false, Nat.reduceBEq, Nat.reduceAdd, Nat.reduceSub, Nat.reduceMul, Nat.reduceEqDiff, Nat.reduceLeDiff, Nat.reduceLT, Int.reduceLE, Int.reduceLT, Int.reduceToNat, Int.reduceAdd, Int.reduceEq, Int.reduceNeg, AH.put_ne, hk1, hk2, hzx])))
    · intro t u h
      simp only [A.get] at h ⊢
      by_cases h6 : 6 = t
      · subst h6; simpa using h
      · by_cases h7 : 7 = t
        · subst h7; simpa using h
        · simp [h6, h7] at h
    · simp -implicitDefEqProofs (disch := omega) only [go_sem, eq_self, decide_true, decide_false, Nat.reduceBEq, Nat.reduceAdd, Nat.reduceSub, Nat.reduceMul, Nat.reduceEqDiff, Nat.reduceLeDiff, Nat.reduceLT, Int.reduceLE, Int.reduceLT, Int.reduceToNat, Int.reduceAdd, Int.reduceEq, Int.reduceNeg, AH.put_ne]
      refine call_pan (w2 hw) ?_
      simp -implicitDefEqProofs (disch := omega) only [go_sem, eq_self, decide_true, decide_false, Nat.reduceBEq, Nat.reduceAdd, Nat.reduceSub, Nat.reduceMul, Nat.reduceEqDiff, Nat.reduceLeDiff, Nat.reduceLT, Int.reduceLE, Int.reduceLT, Int.reduceToNat, Int.reduceAdd, Int.reduceEq, Int.reduceNeg, AH.put_ne]
      refine ⟨0, rfl, ?_⟩
      try simp only [AH.put_ne _ _ hzx, hk1, AH.put_same]
      try simp -implicitDefEqProofs (disch := omega) only [go_sem, eq_self, decide_true, decide_false, Nat.reduceBEq, Nat.reduceAdd, Nat.reduceSub, Nat.reduceMul, Nat.reduceEqDiff, Nat.reduceLeDiff, Nat.reduceLT, Int.reduceLE, Int.reduceLT, Int.reduceToNat, Int.reduceAdd, Int.reduceEq, Int.reduceNeg, AH.put_ne]
      rw [vV_nul]
      exact drop_end (fun _ _ h => h) (AH.le_put (AH.le_put (AH.le_refl _) hkz _) hko.2 _)
  | some p =>
    obtain ⟨y, e⟩ := p
    have e1 : chR v x l = (y, e) := by rw [chR, hw]; rfl
    rw [e1]
    repeat' (first | with_reducible (first | refine am_seq ?_ | refine am_block ?_) | ((with_reducible apply am_cond); (case hb => rfl); all_goals (intro hc; (try simp only [reduceCtorEq, decide_eq_true_eq, decide_eq_false_iff_not, Bool.or_eq_true, Bool.and_eq_true, Bool.or_eq_false_iff, Bool.not_eq_true', Bool.not_eq_false', beq_iff_eq] at hc); (try (exfalso; omega)))) | ((first | with_reducible (first | refine am_reg ?_ | refine am_drw ?_ | refine am_drx ?_ | refine am_skip ?_ | refine am_exit ?_ | refine am_ret ?_ | refine And.intro (by first | exact AH.lec_refl _ | assumption | exact AccP.lec (by assumption) | omega) ?_ | refine isnE_of (fun hc => ?_) (fun hc => ?_) (fun hc => ?_) | refine need_elems (by assumption) ?_ | refine vlen_acc (by assumption) ?_ | refine need_bytes (by assumption) ?_ | refine call_of (w1 y e hw) ?_ | refine qcall_of (w1 y e hw) ?_ | refine need_look (by repeat (first | assumption | exact AH.put_same _ _ _ | refine look_put ?_ (by assumption) | refine look_lec ?_ (by assumption))) ?_) | ((with_reducible (first | refine gd_not (fun hc => ?_) (fun hc => ?_) | refine gd_of (fun hc => ?_) (fun hc => ?_) | refine gq_not (fun hc => ?_) (fun hc => ?_) | refine gq_of (fun hc => ?_) (fun hc => ?_) | refine pickB_of (fun hc => ?_) (fun hc => ?_))) <;> (try simp -implicitDefEqProofs (disch := omega) only [go_sem, eq_self, decide_true, decide_false, Nat.reduceBEq, Nat.reduceAdd, Nat.reduceSub, Nat.reduceMul, Nat.reduceEqDiff, Nat.reduceLeDiff, Nat.reduceLT, Int.reduceLE, Int.reduceLT, Int.reduceToNat, Int.reduceAdd, Int.reduceEq, Int.reduceNeg, AH.put_ne, hc, hk1, hk2, hzx, AH.put_same]) <;> (try simp only [reduceCtorEq, decide_eq_true_eq, decide_eq_false_iff_not, Bool.or_eq_true, Bool.and_eq_true, Bool.or_eq_false_iff, Bool.not_eq_true', Bool.not_eq_false', beq_iff_eq] at hc) <;> (try (exfalso; omega))) | ((with_reducible refine alloc_intro (fun ko hko => ?_)) <;> (try have hne := fresh_ne (by assumption) hko) <;> (try have hnk := fresh_ne hk hko) <;> (try have hnk2 := fresh_ne hk2 hko) <;> (try simp only [AH.put_none] at hko)) | ((with_reducible (first | refine vapp_accL (by assumption) ?_ (fun v2 H2 hacc hlec => ?_) | refine vapp_accL (AccP.mono (by assumption) (AccP.le (by assumption))) ?_ (fun v2 H2 hacc hlec => ?_) | refine vapp_accL (AccP.new (by assumption) (by assumption) _) ?_ (fun v2 H2 hacc hlec => ?_))); · simp only [byteCells_length, List.length_cons, List.length_nil, List.length_map, List.length_append, vE_length, mE_length, strE_len, List.length_take, rvE_length]; omega)) <;> (try simp -implicitDefEqProofs (disch := omega) only [go_sem, eq_self, decide_true, decide_false, Nat.reduceBEq, Nat.reduceAdd, Nat.reduceSub, Nat.reduceMul, Nat.reduceEqDiff, Nat.reduceLeDiff, Nat.reduceLT, Int.reduceLE, Int.reduceLT, Int.reduceToNat, Int.reduceAdd, Int.reduceEq, Int.reduceNeg, AH.put_ne, hk1, hk2, hzx, AH.put_same])))
    exact drop_end (fun _ _ h => h) (AH.le_put (AH.le_put (AH.le_put (AH.le_put (AH.le_refl _) hkz _) hko.2 _) hkz _) hko.2 _)
theorem With_calls {v x : Vl} {l : List St2} {t : Tok} (hl : l.length ≤ 1000) (ho : v.Ok) (H : AH) : ACalls Try.prog 26 [.agg [vV v], .agg [vV x], .sl 2 (stE l) t] H (fun o H' => o = .ret (.tuple [.agg [vV (chR v x l).1], .int .i64 (chR v x l).2]) ∧ H' = H) := by
  refine ACalls.drop ?_
  refine acalls Try.func26 c26 r26 (by simp [Try.ntmps26]) ?_
  repeat' (first | with_reducible (first | refine am_seq ?_ | refine am_block ?_) | ((with_reducible apply am_cond); (case hb => rfl); all_goals (intro hc; (try simp only [reduceCtorEq, decide_eq_true_eq, decide_eq_false_iff_not, Bool.or_eq_true, Bool.and_eq_true, Bool.or_eq_false_iff, Bool.not_eq_true', Bool.not_eq_false', beq_iff_eq] at hc); (try (exfalso; omega)))) | ((first | with_reducible (first | refine am_reg ?_ | refine am_drw ?_ | refine am_drx ?_ | refine am_skip ?_ | refine am_exit ?_ | refine am_ret ?_ | refine And.intro (by first | exact AH.lec_refl _ | assumption | exact AccP.lec (by assumption) | omega) ?_ | refine isnE_of (fun hc => ?_) (fun hc => ?_) (fun hc => ?_) | refine need_elems (by assumption) ?_ | refine vlen_acc (by assumption) ?_ | refine need_bytes (by assumption) ?_ | refine call_of (changed_calls hl ho) ?_ | refine qcall_of (changed_calls hl ho) ?_ | refine need_look (by repeat (first | assumption | exact AH.put_same _ _ _ | refine look_put ?_ (by assumption) | refine look_lec ?_ (by assumption))) ?_) | ((with_reducible (first | refine gd_not (fun hc => ?_) (fun hc => ?_) | refine gd_of (fun hc => ?_) (fun hc => ?_) | refine gq_not (fun hc => ?_) (fun hc => ?_) | refine gq_of (fun hc => ?_) (fun hc => ?_) | refine pickB_of (fun hc => ?_) (fun hc => ?_))) <;> (try simp -implicitDefEqProofs (disch := omega) only [go_sem, eq_self, decide_true, decide_false, Nat.reduceBEq, Nat.reduceAdd, Nat.reduceSub, Nat.reduceMul, Nat.reduceEqDiff, Nat.reduceLeDiff, Nat.reduceLT, Int.reduceLE, Int.reduceLT, Int.reduceToNat, Int.reduceAdd, Int.reduceEq, Int.reduceNeg, AH.put_ne, hc]) <;> (try simp only [reduceCtorEq, decide_eq_true_eq, decide_eq_false_iff_not, Bool.or_eq_true, Bool.and_eq_true, Bool.or_eq_false_iff, Bool.not_eq_true', Bool.not_eq_false', beq_iff_eq] at hc) <;> (try (exfalso; omega))) | ((with_reducible refine alloc_intro (fun ko hko => ?_)) <;> (try have hne := fresh_ne (by assumption) hko) <;> (try have hnk := fresh_ne hk hko) <;> (try have hnk2 := fresh_ne hk2 hko) <;> (try simp only [AH.put_none] at hko)) | ((with_reducible (first | refine vapp_accL (by assumption) ?_ (fun v2 H2 hacc hlec => ?_) | refine vapp_accL (AccP.mono (by assumption) (AccP.le (by assumption))) ?_ (fun v2 H2 hacc hlec => ?_) | refine vapp_accL (AccP.new (by assumption) (by assumption) _) ?_ (fun v2 H2 hacc hlec => ?_))); · simp only [byteCells_length, List.length_cons, List.length_nil, List.length_map, List.length_append, vE_length, mE_length, strE_len, List.length_take, rvE_length]; omega)) <;> (try simp -implicitDefEqProofs (disch := omega) only [go_sem, eq_self, decide_true, decide_false, Nat.reduceBEq, Nat.reduceAdd, Nat.reduceSub, Nat.reduceMul, Nat.reduceEqDiff, Nat.reduceLeDiff, Nat.reduceLT, Int.reduceLE, Int.reduceLT, Int.reduceToNat, Int.reduceAdd, Int.reduceEq, Int.reduceNeg, AH.put_ne])))
  all_goals (refine drop_end (by (first | exact fun _ _ h => h | (intro s x h; first | exact no_sub _ h | exact nil_no _ h | exact AccP.sub (by assumption) _ _ h | (refine agg_sub rfl ?_ x h; repeat (first | exact .nil | refine .cons (fun _ h => h) ?_ | refine .cons (fun _ h => nil_no _ h) ?_ | refine .cons (fun _ h => no_sub _ h) ?_ | refine .cons (fun _ h => AccP.sub (by assumption) _ _ h) ?_)) | (refine tuple_sub ?_ x h; repeat (first | exact .nil | refine .cons (fun _ h => h) ?_ | refine .cons (fun _ h => nil_no _ h) ?_ | refine .cons (fun _ h => no_sub _ h) ?_ | refine .cons (fun _ h => AccP.sub (by assumption) _ _ h) ?_ | refine .cons (fun _ h => agg_sub rfl (by repeat (first | exact .nil | refine .cons (fun _ h => h) ?_ | refine .cons (fun _ h => nil_no _ h) ?_ | refine .cons (fun _ h => no_sub _ h) ?_ | refine .cons (fun _ h => AccP.sub (by assumption) _ _ h) ?_)) _ h) ?_))))) (by (repeat (first | exact AH.le_refl _ | assumption | exact AccP.le (by assumption) | refine AH.le_put ?_ (by first | assumption | exact none_of_le (by assumption) (by assumption) | exact And.right (by assumption) | exact And.right (And.right (by assumption))) _ | refine AH.le_trans ?_ (AccP.le (by assumption))))))
end Go.Proofs.Ytjlphncecdlmcaa
namespace Go.Proofs.Ytjlphncecdlmcaa
open Go.Vm Go.Sort
theorem fnd_putE (k : List UInt8) (x : Vl) : ∀ es, fnd k (putE k x es) = some x
  | [] => by simp [putE, fnd]
  | p :: es => by
    rw [putE]
    split
    · simp [fnd]
    · rename_i h
      rw [fnd, if_neg h]; exact fnd_putE k x es
theorem fnd_putN {k k' : List UInt8} (hk : ¬ k = k') (x : Vl) : ∀ es, fnd k' (putE k x es) = fnd k' es
  | [] => by simp [putE, fnd, hk]
  | p :: es => by
    rw [putE]
    split
    · rename_i h
      rw [fnd, fnd, if_neg (show ¬ (k, x).1 = k' from hk), if_neg (by rw [h]; exact hk)]
    · rw [fnd, fnd, fnd_putN hk x es]
theorem goR_ok : ∀ {l : List St2} {v : Vl}, v.Ok → (goR v l).1.Ok
  | [], v, h => h
  | s :: r, v, h => by
    rw [goR]
    split
    · exact .nul
    · rename_i x e hi
      split
      · exact goR_ok (into_ok h hi)
      · exact .nul
end Go.Proofs.Ytjlphncecdlmcaa
