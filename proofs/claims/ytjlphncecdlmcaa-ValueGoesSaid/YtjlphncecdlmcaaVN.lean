/- Of the walks of this seat: contracts of functions of the given program, proved over the abstract values of the texts Vm. Conditions: as each theorem says. -/
import Derived.Test.YtjlphncecdlmcaaV15
import Derived.Test.YtjlphncecdlmcaaVE
import Derived.Test.YtjlphncecdlmcaaVI
set_option linter.unusedVariables false
set_option linter.unusedSimpArgs false
namespace Go.Proofs.Ytjlphncecdlmcaa
open Go.Vm Go.Sort
attribute [local go_sem] List.drop_zero toNat_succ Nat.sub_zero Int.toNat_natCast Option.map_some Int.natCast_nonneg decide_eq_true_eq decide_eq_false_iff_not
/- flange/flangeref04.Find -/
abbrev k62_0 : MC :=
  .cond (.t 15) (.skip) (.exit 0)
abbrev k62_1 : MC :=
  .cond (.t 24) ((.seq (.reg [
     ⟨(some 25), none, .val (.mv (.t 5))⟩,
     ⟨(some 4), none, .val (.mv (.t 25))⟩] [4]) (.ret))) (.skip)
abbrev k62_2 : MC :=
  .reg [
    ⟨(some 16), none, .val (.mv (.t 5))⟩,
    ⟨(some 17), none, .val (.bin .add .num (.t 16) (.c (.int .i64 1)))⟩,
    ⟨(some 5), none, .val (.mv (.t 17))⟩] [1, 2, 5]
abbrev k62_3 : MC :=
  (.seq (.block 1 ((.seq (.reg [
     ⟨(some 18), none, .val (.faddr 6 (.t 2))⟩,
     ⟨(some 19), none, .val (.load false 1 (.t 18))⟩,
     ⟨(some 20), none, .val (.mv (.t 5))⟩,
     ⟨(some 21), none, .val (.iaddr 1 (.t 19) (.t 20))⟩,
     ⟨(some 22), none, .val (.load false 1 (.t 21))⟩,
     ⟨(some 23), none, .val (.mv (.t 1))⟩,
     ⟨(some 24), none, .val (.bin .eql .num (.t 22) (.t 23))⟩] [1, 2, 5, 24]) k62_1))) k62_2)
abbrev k62_4 : MC :=
  (.seq ((.seq (.reg [
    ⟨(some 6), none, .val (.mv (.t 5))⟩,
    ⟨(some 7), none, .val (.faddr 5 (.t 2))⟩,
    ⟨(some 8), none, .val (.load false 1 (.t 7))⟩,
    ⟨(some 9), none, .val (.len .sl (.t 8))⟩,
    ⟨(some 10), none, .val (.bin .lss .num (.t 6) (.t 9))⟩,
    ⟨(some 11), none, .val (.mv (.t 10))⟩,
    ⟨(some 12), (some (11, true)), .val (.faddr 0 (.t 2))⟩,
    ⟨(some 13), (some (11, true)), .val (.load false 1 (.t 12))⟩,
    ⟨(some 14), (some (11, true)), .val (.bin .eql .num (.t 13) (.c (.int .i64 7)))⟩,
    ⟨(some 15), none, .val (.pick (.t 11) (.t 14) (.c (.bool false)))⟩] [1, 2, 5, 15]) k62_0)) k62_3)
abbrev k62_5 : MC :=
  .block 0 (.loop k62_4)
abbrev k62_6 : MC :=
  (.seq (.reg [
    ⟨(some 4), none, .val (.mv (.c (.int .i64 (-1))))⟩] [4]) (.ret))
abbrev k62_7 : MC :=
  (.seq ((.seq (.reg [
    ⟨(some 5), none, .val (.mv (.c (.int .i64 0)))⟩] [1, 2, 5]) k62_5)) k62_6)
abbrev k62 : MC :=
  (.seq (.reg [
    ⟨(some 2), none, .boxi (.t 0)⟩,
    ⟨(some 4), none, .val (.mv (.c (.int .i64 0)))⟩] [1, 2]) k62_7)
theorem c62 : Try.f62.body.bind (mcOf Try.prog (List.contains [2] ·) (List.getD [([], [1, 2]), ([], [1, 2, 5]), ([], [1, 2, 5, 15]), ([], [1, 2, 5]), ([], [1, 2, 5, 24]), ([], [4]), ([], [4])] · ([], [])) 26) = some k62 := by kernel_rfl
theorem r62 : rvsOf Try.prog Try.f62.results.toList = some [.tmp 4] := by kernel_rfl
def idK (k : List UInt8) : List (List UInt8) → Option Nat
  | [] => none
  | x :: l => if x = k then some 0 else (idK k l).map (· + 1)
def idI (k : List UInt8) (ks : List (List UInt8)) : Int := ((idK k ks).map fun (i : Nat) => (i : Int)).getD (-1)
theorem idI_mem (k : List UInt8) (ks : List (List UInt8)) : 0 ≤ idI k ks ↔ k ∈ ks := by
  have : ∀ ks, (idK k ks).isSome = true ↔ k ∈ ks := by
    intro ks
    induction ks with
    | nil => simp [idK]
    | cons x ks ih =>
      rw [idK, List.mem_cons]
      split
      · rename_i h; simp [h]
      · rename_i h
        rw [Option.isSome_map, ih]
        exact ⟨.inr, fun h2 => h2.resolve_left fun e => h e.symm⟩
  rw [← this ks, idI]
  cases idK k ks <;> simp
theorem rfind_calls {m : Rv} {v : Vl} {k : List UInt8} (hs : Sm v m) (hf : m.Fit) (H : AH) : ACalls Try.prog 62 [.agg [.int .i64 m.K, .bool m.B, .int .i64 m.N, .int .i64 m.M, .str m.S, .sl 7 (rvE m.L) .no, .sl 1 (strE m.Keys) .no], .str k] H (fun o H' => o = .ret (.int .i64 (idI k m.Keys)) ∧ H' = H) := by
  refine ACalls.drop ?_
  have hb := hf.l
  cases hs with
  | mk _ _ hK hB hS hl hk hN hP hi =>
  have hnk : m.K ≠ 7 → m.Keys = [] := fun h => by
    rw [← hk]; cases v <;> first | rfl | exact absurd hK.symm h
  have h7l : m.K = 7 → m.Keys.length = m.L.length := fun h => by rw [← hk, ← items_keys (by omega), hl]
  refine acalls Try.func62 c62 r62 (by simp [Try.ntmps62]) ?_
  repeat' (first | with_reducible (first | refine am_seq ?_ | refine am_block ?_) | ((with_reducible apply am_cond); (case hb => rfl); all_goals (intro hc; (try simp only [reduceCtorEq, decide_eq_true_eq, decide_eq_false_iff_not, Bool.or_eq_true, Bool.and_eq_true, Bool.or_eq_false_iff, Bool.not_eq_true', Bool.not_eq_false', beq_iff_eq] at hc); (try (exfalso; omega)))) | ((first | with_reducible (first | refine am_reg ?_ | refine am_drw ?_ | refine am_drx ?_ | refine am_skip ?_ | refine am_exit ?_ | refine am_ret ?_ | refine And.intro (by first | exact AH.lec_refl _ | assumption | exact AccP.lec (by assumption) | omega) ?_ | refine isnE_of (fun hc => ?_) (fun hc => ?_) (fun hc => ?_) | refine need_elems (by assumption) ?_ | refine vlen_acc (by assumption) ?_ | refine need_bytes (by assumption) ?_ | refine need_look (by repeat (first | assumption | exact AH.put_same _ _ _ | refine look_put ?_ (by assumption) | refine look_lec ?_ (by assumption))) ?_) | ((with_reducible (first | refine gd_not (fun hc => ?_) (fun hc => ?_) | refine gd_of (fun hc => ?_) (fun hc => ?_) | refine gq_not (fun hc => ?_) (fun hc => ?_) | refine gq_of (fun hc => ?_) (fun hc => ?_) | refine pickB_of (fun hc => ?_) (fun hc => ?_))) <;> (try simp -implicitDefEqProofs (disch := omega) only [go_sem, eq_self, decide_true, decide_false, Nat.reduceBEq, Nat.reduceAdd, Nat.reduceSub, Nat.reduceMul, Nat.reduceEqDiff, Nat.reduceLeDiff, Nat.reduceLT, Int.reduceLE, Int.reduceLT, Int.reduceToNat, Int.reduceAdd, Int.reduceEq, Int.reduceNeg, AH.put_ne, hc]) <;> (try simp only [reduceCtorEq, decide_eq_true_eq, decide_eq_false_iff_not, Bool.or_eq_true, Bool.and_eq_true, Bool.or_eq_false_iff, Bool.not_eq_true', Bool.not_eq_false', beq_iff_eq] at hc) <;> (try (exfalso; omega))) | ((with_reducible refine alloc_intro (fun ko hko => ?_)) <;> (try have hne := fresh_ne (by assumption) hko) <;> (try have hnk := fresh_ne hk hko) <;> (try have hnk2 := fresh_ne hk2 hko) <;> (try simp only [AH.put_none] at hko)) | ((with_reducible (first | refine vapp_accL (by assumption) ?_ (fun v2 H2 hacc hlec => ?_) | refine vapp_accL (AccP.mono (by assumption) (AccP.le (by assumption))) ?_ (fun v2 H2 hacc hlec => ?_) | refine vapp_accL (AccP.new (by assumption) (by assumption) _) ?_ (fun v2 H2 hacc hlec => ?_))); · simp only [byteCells_length, List.length_cons, List.length_nil, List.length_map, List.length_append, vE_length, mE_length, strE_len, List.length_take, rvE_length]; omega)) <;> (try simp -implicitDefEqProofs (disch := omega) only [go_sem, eq_self, decide_true, decide_false, Nat.reduceBEq, Nat.reduceAdd, Nat.reduceSub, Nat.reduceMul, Nat.reduceEqDiff, Nat.reduceLeDiff, Nat.reduceLT, Int.reduceLE, Int.reduceLT, Int.reduceToNat, Int.reduceAdd, Int.reduceEq, Int.reduceNeg, AH.put_ne])))
  refine am_loop (fun n a H' => ∃ i : Nat, i + n = m.L.length ∧ a = [(1, .str k), (2, .rptr [.int .i64 m.K, .bool m.B, .int .i64 m.N, .int .i64 m.M, .str m.S, .sl 7 (rvE m.L) .no, .sl 1 (strE m.Keys) .no] 0), (5, .int .i64 i)] ∧ H' = H ∧ idK k m.Keys = (idK k (m.Keys.drop i)).map (· + i)) ?_ m.L.length ⟨0, by omega, rfl, rfl, by simp⟩
  rintro n a H' ⟨i, hin, rfl, rfl, hd⟩
  by_cases h7 : m.K = 7
  · by_cases hlt : i < m.L.length
    · have hlk : i < m.Keys.length := by rw [h7l h7]; exact hlt
      rw [List.drop_eq_getElem_cons hlk, idK] at hd
      by_cases he : m.Keys[i] = k
      · rw [if_pos he] at hd
        repeat' (first | with_reducible (first | refine am_seq ?_ | refine am_block ?_) | ((with_reducible apply am_cond); (case hb => rfl); all_goals (intro hc; (try simp only [reduceCtorEq, decide_eq_true_eq, decide_eq_false_iff_not, Bool.or_eq_true, Bool.and_eq_true, Bool.or_eq_false_iff, Bool.not_eq_true', Bool.not_eq_false', beq_iff_eq] at hc); (try (exfalso; omega)))) | ((first | with_reducible (first | refine am_reg ?_ | refine am_drw ?_ | refine am_drx ?_ | refine am_skip ?_ | refine am_exit ?_ | refine am_ret ?_ | refine And.intro (by first | exact AH.lec_refl _ | assumption | exact AccP.lec (by assumption) | omega) ?_ | refine isnE_of (fun hc => ?_) (fun hc => ?_) (fun hc => ?_) | refine need_elems (by assumption) ?_ | refine vlen_acc (by assumption) ?_ | refine need_bytes (by assumption) ?_ | refine need_look (by repeat (first | assumption | exact AH.put_same _ _ _ | refine look_put ?_ (by assumption) | refine look_lec ?_ (by assumption))) ?_) | ((with_reducible (first | refine gd_not (fun hc => ?_) (fun hc => ?_) | refine gd_of (fun hc => ?_) (fun hc => ?_) | refine gq_not (fun hc => ?_) (fun hc => ?_) | refine gq_of (fun hc => ?_) (fun hc => ?_) | refine pickB_of (fun hc => ?_) (fun hc => ?_))) <;> (try simp -implicitDefEqProofs (disch := omega) only [go_sem, eq_self, decide_true, decide_false, Nat.reduceBEq, Nat.reduceAdd, Nat.reduceSub, Nat.reduceMul, Nat.reduceEqDiff, Nat.reduceLeDiff, Nat.reduceLT, Int.reduceLE, Int.reduceLT, Int.reduceToNat, Int.reduceAdd, Int.reduceEq, Int.reduceNeg, AH.put_ne, hc, wrap_id, rvE_length, strE_len, strE_get hlk, h7, he]) <;> (try simp only [reduceCtorEq, decide_eq_true_eq, decide_eq_false_iff_not, Bool.or_eq_true, Bool.and_eq_true, Bool.or_eq_false_iff, Bool.not_eq_true', Bool.not_eq_false', beq_iff_eq] at hc) <;> (try (exfalso; omega))) | ((with_reducible refine alloc_intro (fun ko hko => ?_)) <;> (try have hne := fresh_ne (by assumption) hko) <;> (try have hnk := fresh_ne hk hko) <;> (try have hnk2 := fresh_ne hk2 hko) <;> (try simp only [AH.put_none] at hko)) | ((with_reducible (first | refine vapp_accL (by assumption) ?_ (fun v2 H2 hacc hlec => ?_) | refine vapp_accL (AccP.mono (by assumption) (AccP.le (by assumption))) ?_ (fun v2 H2 hacc hlec => ?_) | refine vapp_accL (AccP.new (by assumption) (by assumption) _) ?_ (fun v2 H2 hacc hlec => ?_))); · simp only [byteCells_length, List.length_cons, List.length_nil, List.length_map, List.length_append, vE_length, mE_length, strE_len, List.length_take, rvE_length]; omega)) <;> (try simp -implicitDefEqProofs (disch := omega) only [go_sem, eq_self, decide_true, decide_false, Nat.reduceBEq, Nat.reduceAdd, Nat.reduceSub, Nat.reduceMul, Nat.reduceEqDiff, Nat.reduceLeDiff, Nat.reduceLT, Int.reduceLE, Int.reduceLT, Int.reduceToNat, Int.reduceAdd, Int.reduceEq, Int.reduceNeg, AH.put_ne, wrap_id, rvE_length, strE_len, strE_get hlk, h7, he])))
        all_goals exact end_eq (by simp [idI, hd]) (AH.le_refl _)
      · rw [if_neg he] at hd
        repeat' (first | with_reducible (first | refine am_seq ?_ | refine am_block ?_) | ((with_reducible apply am_cond); (case hb => rfl); all_goals (intro hc; (try simp only [reduceCtorEq, decide_eq_true_eq, decide_eq_false_iff_not, Bool.or_eq_true, Bool.and_eq_true, Bool.or_eq_false_iff, Bool.not_eq_true', Bool.not_eq_false', beq_iff_eq] at hc); (try (exfalso; omega)))) | ((first | with_reducible (first | refine am_reg ?_ | refine am_drw ?_ | refine am_drx ?_ | refine am_skip ?_ | refine am_exit ?_ | refine am_ret ?_ | refine And.intro (by first | exact AH.lec_refl _ | assumption | exact AccP.lec (by assumption) | omega) ?_ | refine isnE_of (fun hc => ?_) (fun hc => ?_) (fun hc => ?_) | refine need_elems (by assumption) ?_ | refine vlen_acc (by assumption) ?_ | refine need_bytes (by assumption) ?_ | refine need_look (by repeat (first | assumption | exact AH.put_same _ _ _ | refine look_put ?_ (by assumption) | refine look_lec ?_ (by assumption))) ?_) | ((with_reducible (first | refine gd_not (fun hc => ?_) (fun hc => ?_) | refine gd_of (fun hc => ?_) (fun hc => ?_) | refine gq_not (fun hc => ?_) (fun hc => ?_) | refine gq_of (fun hc => ?_) (fun hc => ?_) | refine pickB_of (fun hc => ?_) (fun hc => ?_))) <;> (try simp -implicitDefEqProofs (disch := omega) only [go_sem, eq_self, decide_true, decide_false, Nat.reduceBEq, Nat.reduceAdd, Nat.reduceSub, Nat.reduceMul, Nat.reduceEqDiff, Nat.reduceLeDiff, Nat.reduceLT, Int.reduceLE, Int.reduceLT, Int.reduceToNat, Int.reduceAdd, Int.reduceEq, Int.reduceNeg, AH.put_ne, hc, wrap_id, rvE_length, strE_len, strE_get hlk, h7, he]) <;> (try simp only [reduceCtorEq, decide_eq_true_eq, decide_eq_false_iff_not, Bool.or_eq_true, Bool.and_eq_true, Bool.or_eq_false_iff, Bool.not_eq_true', Bool.not_eq_false', beq_iff_eq] at hc) <;> (try (exfalso; omega))) | ((with_reducible refine alloc_intro (fun ko hko => ?_)) <;> (try have hne := fresh_ne (by assumption) hko) <;> (try have hnk := fresh_ne hk hko) <;> (try have hnk2 := fresh_ne hk2 hko) <;> (try simp only [AH.put_none] at hko)) | ((with_reducible (first | refine vapp_accL (by assumption) ?_ (fun v2 H2 hacc hlec => ?_) | refine vapp_accL (AccP.mono (by assumption) (AccP.le (by assumption))) ?_ (fun v2 H2 hacc hlec => ?_) | refine vapp_accL (AccP.new (by assumption) (by assumption) _) ?_ (fun v2 H2 hacc hlec => ?_))); · simp only [byteCells_length, List.length_cons, List.length_nil, List.length_map, List.length_append, vE_length, mE_length, strE_len, List.length_take, rvE_length]; omega)) <;> (try simp -implicitDefEqProofs (disch := omega) only [go_sem, eq_self, decide_true, decide_false, Nat.reduceBEq, Nat.reduceAdd, Nat.reduceSub, Nat.reduceMul, Nat.reduceEqDiff, Nat.reduceLeDiff, Nat.reduceLT, Int.reduceLE, Int.reduceLT, Int.reduceToNat, Int.reduceAdd, Int.reduceEq, Int.reduceNeg, AH.put_ne, wrap_id, rvE_length, strE_len, strE_get hlk, h7, he])))
        all_goals exact ⟨n - 1, by omega, i + 1, by omega, rfl, by rw [hd, Option.map_map]; congr 1; funext x; simp only [Function.comp]; omega⟩
    · rw [List.drop_eq_nil_of_le (by rw [h7l h7]; omega), idK, Option.map_none] at hd
      repeat' (first | with_reducible (first | refine am_seq ?_ | refine am_block ?_) | ((with_reducible apply am_cond); (case hb => rfl); all_goals (intro hc; (try simp only [reduceCtorEq, decide_eq_true_eq, decide_eq_false_iff_not, Bool.or_eq_true, Bool.and_eq_true, Bool.or_eq_false_iff, Bool.not_eq_true', Bool.not_eq_false', beq_iff_eq] at hc); (try (exfalso; omega)))) | ((first | with_reducible (first | refine am_reg ?_ | refine am_drw ?_ | refine am_drx ?_ | refine am_skip ?_ | refine am_exit ?_ | refine am_ret ?_ | refine And.intro (by first | exact AH.lec_refl _ | assumption | exact AccP.lec (by assumption) | omega) ?_ | refine isnE_of (fun hc => ?_) (fun hc => ?_) (fun hc => ?_) | refine need_elems (by assumption) ?_ | refine vlen_acc (by assumption) ?_ | refine need_bytes (by assumption) ?_ | refine need_look (by repeat (first | assumption | exact AH.put_same _ _ _ | refine look_put ?_ (by assumption) | refine look_lec ?_ (by assumption))) ?_) | ((with_reducible (first | refine gd_not (fun hc => ?_) (fun hc => ?_) | refine gd_of (fun hc => ?_) (fun hc => ?_) | refine gq_not (fun hc => ?_) (fun hc => ?_) | refine gq_of (fun hc => ?_) (fun hc => ?_) | refine pickB_of (fun hc => ?_) (fun hc => ?_))) <;> (try simp -implicitDefEqProofs (disch := omega) only [go_sem, eq_self, decide_true, decide_false, Nat.reduceBEq, Nat.reduceAdd, Nat.reduceSub, Nat.reduceMul, Nat.reduceEqDiff, Nat.reduceLeDiff, Nat.reduceLT, Int.reduceLE, Int.reduceLT, Int.reduceToNat, Int.reduceAdd, Int.reduceEq, Int.reduceNeg, AH.put_ne, hc, rvE_length, h7]) <;> (try simp only [reduceCtorEq, decide_eq_true_eq, decide_eq_false_iff_not, Bool.or_eq_true, Bool.and_eq_true, Bool.or_eq_false_iff, Bool.not_eq_true', Bool.not_eq_false', beq_iff_eq] at hc) <;> (try (exfalso; omega))) | ((with_reducible refine alloc_intro (fun ko hko => ?_)) <;> (try have hne := fresh_ne (by assumption) hko) <;> (try have hnk := fresh_ne hk hko) <;> (try have hnk2 := fresh_ne hk2 hko) <;> (try simp only [AH.put_none] at hko)) | ((with_reducible (first | refine vapp_accL (by assumption) ?_ (fun v2 H2 hacc hlec => ?_) | refine vapp_accL (AccP.mono (by assumption) (AccP.le (by assumption))) ?_ (fun v2 H2 hacc hlec => ?_) | refine vapp_accL (AccP.new (by assumption) (by assumption) _) ?_ (fun v2 H2 hacc hlec => ?_))); · simp only [byteCells_length, List.length_cons, List.length_nil, List.length_map, List.length_append, vE_length, mE_length, strE_len, List.length_take, rvE_length]; omega)) <;> (try simp -implicitDefEqProofs (disch := omega) only [go_sem, eq_self, decide_true, decide_false, Nat.reduceBEq, Nat.reduceAdd, Nat.reduceSub, Nat.reduceMul, Nat.reduceEqDiff, Nat.reduceLeDiff, Nat.reduceLT, Int.reduceLE, Int.reduceLT, Int.reduceToNat, Int.reduceAdd, Int.reduceEq, Int.reduceNeg, AH.put_ne, rvE_length, h7])))
      all_goals exact end_eq (by simp [idI, hd]) (AH.le_refl _)
  · have e : idI k m.Keys = -1 := by rw [hnk h7]; rfl
    repeat' (first | with_reducible (first | refine am_seq ?_ | refine am_block ?_) | ((with_reducible apply am_cond); (case hb => rfl); all_goals (intro hc; (try simp only [reduceCtorEq, decide_eq_true_eq, decide_eq_false_iff_not, Bool.or_eq_true, Bool.and_eq_true, Bool.or_eq_false_iff, Bool.not_eq_true', Bool.not_eq_false', beq_iff_eq] at hc); (try (exfalso; omega)))) | ((first | with_reducible (first | refine am_reg ?_ | refine am_drw ?_ | refine am_drx ?_ | refine am_skip ?_ | refine am_exit ?_ | refine am_ret ?_ | refine And.intro (by first | exact AH.lec_refl _ | assumption | exact AccP.lec (by assumption) | omega) ?_ | refine isnE_of (fun hc => ?_) (fun hc => ?_) (fun hc => ?_) | refine need_elems (by assumption) ?_ | refine vlen_acc (by assumption) ?_ | refine need_bytes (by assumption) ?_ | refine need_look (by repeat (first | assumption | exact AH.put_same _ _ _ | refine look_put ?_ (by assumption) | refine look_lec ?_ (by assumption))) ?_) | ((with_reducible (first | refine gd_not (fun hc => ?_) (fun hc => ?_) | refine gd_of (fun hc => ?_) (fun hc => ?_) | refine gq_not (fun hc => ?_) (fun hc => ?_) | refine gq_of (fun hc => ?_) (fun hc => ?_) | refine pickB_of (fun hc => ?_) (fun hc => ?_))) <;> (try simp -implicitDefEqProofs (disch := omega) only [go_sem, eq_self, decide_true, decide_false, Nat.reduceBEq, Nat.reduceAdd, Nat.reduceSub, Nat.reduceMul, Nat.reduceEqDiff, Nat.reduceLeDiff, Nat.reduceLT, Int.reduceLE, Int.reduceLT, Int.reduceToNat, Int.reduceAdd, Int.reduceEq, Int.reduceNeg, AH.put_ne, hc, rvE_length, h7]) <;> (try simp only [reduceCtorEq, decide_eq_true_eq, decide_eq_false_iff_not, Bool.or_eq_true, Bool.and_eq_true, Bool.or_eq_false_iff, Bool.not_eq_true', Bool.not_eq_false', beq_iff_eq] at hc) <;> (try (exfalso; omega))) | ((with_reducible refine alloc_intro (fun ko hko => ?_)) <;> (try have hne := fresh_ne (by assumption) hko) <;> (try have hnk := fresh_ne hk hko) <;> (try have hnk2 := fresh_ne hk2 hko) <;> (try simp only [AH.put_none] at hko)) | ((with_reducible (first | refine vapp_accL (by assumption) ?_ (fun v2 H2 hacc hlec => ?_) | refine vapp_accL (AccP.mono (by assumption) (AccP.le (by assumption))) ?_ (fun v2 H2 hacc hlec => ?_) | refine vapp_accL (AccP.new (by assumption) (by assumption) _) ?_ (fun v2 H2 hacc hlec => ?_))); · simp only [byteCells_length, List.length_cons, List.length_nil, List.length_map, List.length_append, vE_length, mE_length, strE_len, List.length_take, rvE_length]; omega)) <;> (try simp -implicitDefEqProofs (disch := omega) only [go_sem, eq_self, decide_true, decide_false, Nat.reduceBEq, Nat.reduceAdd, Nat.reduceSub, Nat.reduceMul, Nat.reduceEqDiff, Nat.reduceLeDiff, Nat.reduceLT, Int.reduceLE, Int.reduceLT, Int.reduceToNat, Int.reduceAdd, Int.reduceEq, Int.reduceNeg, AH.put_ne, rvE_length, h7])))
    all_goals (rw [e]; (refine drop_end (by (first | exact fun _ _ h => h | (intro s x h; first | exact no_sub _ h | exact nil_no _ h | exact AccP.sub (by assumption) _ _ h | (refine agg_sub rfl ?_ x h; repeat (first | exact .nil | refine .cons (fun _ h => h) ?_ | refine .cons (fun _ h => nil_no _ h) ?_ | refine .cons (fun _ h => no_sub _ h) ?_ | refine .cons (fun _ h => AccP.sub (by assumption) _ _ h) ?_)) | (refine tuple_sub ?_ x h; repeat (first | exact .nil | refine .cons (fun _ h => h) ?_ | refine .cons (fun _ h => nil_no _ h) ?_ | refine .cons (fun _ h => no_sub _ h) ?_ | refine .cons (fun _ h => AccP.sub (by assumption) _ _ h) ?_ | refine .cons (fun _ h => agg_sub rfl (by repeat (first | exact .nil | refine .cons (fun _ h => h) ?_ | refine .cons (fun _ h => nil_no _ h) ?_ | refine .cons (fun _ h => no_sub _ h) ?_ | refine .cons (fun _ h => AccP.sub (by assumption) _ _ h) ?_)) _ h) ?_))))) (by (repeat (first | exact AH.le_refl _ | assumption | exact AccP.le (by assumption) | refine AH.le_put ?_ (by first | assumption | exact none_of_le (by assumption) (by assumption) | exact And.right (by assumption) | exact And.right (And.right (by assumption))) _ | refine AH.le_trans ?_ (AccP.le (by assumption)))))))
end Go.Proofs.Ytjlphncecdlmcaa
namespace Go.Proofs.Ytjlphncecdlmcaa
open Go.Vm Go.Sort
def zR : Rv := .mk 0 false 0 0 [] [] []
def placeR (m : Rv) (s : St2) : Int × Int :=
  if 0 ≤ s.2 ∧ s.1 = [] then (if m.K = 6 then (if s.2 < m.L.length then (s.2, 0) else (0, 2)) else (0, 6))
  else if m.K = 7 then (if 0 ≤ idI s.1 m.Keys then (idI s.1 m.Keys, 0) else (0, 8)) else (0, 6)
def goM : Rv → List St2 → Rv × Int
  | m, [] => (m, 0)
  | m, s :: r => if (placeR m s).2 = 0 then goM (m.L.getD (placeR m s).1.toNat zR) r else (zR, (placeR m s).2)
def withM (m x : Rv) : List St2 → Rv × Int
  | [] => (x, 0)
  | s :: r => if (placeR m s).2 = 0 then
      (if (withM (m.L.getD (placeR m s).1.toNat zR) x r).2 = 0 then (.mk m.K false 0 0 [] (m.L.set (placeR m s).1.toNat (withM (m.L.getD (placeR m s).1.toNat zR) x r).1) m.Keys, 0) else (zR, (withM (m.L.getD (placeR m s).1.toNat zR) x r).2))
    else if r ≠ [] ∨ ¬ ((placeR m s).2 = 8 ∨ (placeR m s).2 = 2 ∧ s.2 = m.L.length) then (zR, (placeR m s).2)
    else if (placeR m s).2 = 2 then (.mk 6 false 0 0 [] (m.L ++ [x]) [], 0) else (cleanR (.mk 7 false 0 0 [] (m.L ++ [x]) (m.Keys ++ [s.1])), 0)
theorem sm_zero : Sm .nul zR := sm_leaf rfl rfl rfl rfl rfl (fun h => by simp at h) (fun h => by simp at h)
theorem idK_spec {k : List UInt8} : ∀ {ks : List (List UInt8)} {i : Nat}, idK k ks = some i → ∃ h : i < ks.length, ks[i] = k
  | [], i, h => by cases h
  | x :: ks, i, h => by
    rw [idK] at h
    split at h
    · rename_i e; cases h; exact ⟨by simp, e⟩
    · obtain ⟨j, hj, rfl⟩ := Option.map_eq_some_iff.1 h
      obtain ⟨h1, h2⟩ := idK_spec hj
      exact ⟨by simp; omega, by simpa using h2⟩
theorem into_place {v : Vl} {m : Rv} (hs : Sm v m) (s : St2) :
    (v.into s.1 s.2 = none ∧ placeR m s = (0, 6)) ∨ (∃ l, v = .list l ∧ 0 ≤ s.2 ∧ s.1 = [] ∧ ¬ s.2 < l.length ∧ l.length = m.L.length ∧ v.into s.1 s.2 = some (.nul, 2) ∧ placeR m s = (0, 2)) ∨ (∃ es, v = .map es ∧ ¬ (0 ≤ s.2 ∧ s.1 = []) ∧ fnd s.1 es = none ∧ v.into s.1 s.2 = some (.nul, 8) ∧ placeR m s = (0, 8)) ∨
      (∃ (i : Nat) (x : Vl) (h : i < m.L.length), v.into s.1 s.2 = some (x, 0) ∧ placeR m s = ((i : Int), 0) ∧ Sm x m.L[i] ∧ ((∃ l, v = .list l ∧ 0 ≤ s.2 ∧ s.1 = [] ∧ s.2 = i) ∨ (∃ es, ∃ h : i < m.Keys.length, v = .map es ∧ ¬ (0 ≤ s.2 ∧ s.1 = []) ∧ m.Keys[i] = s.1))) := by
  cases hs with
  | mk _ _ hK hB hS hl hk hN hP hi =>
  obtain ⟨k, n⟩ := s
  unfold Vl.into placeR
  simp only
  by_cases hst : 0 ≤ n ∧ k = []
  · simp only [if_pos hst]
    cases v with
    | list l =>
      have h6 : m.K = 6 := hK.symm
      have hl' : l.length = m.L.length := hl
      rw [if_pos h6]
      by_cases hn : n < l.length
      · right; right; right
        have hn2 : n.toNat < l.length := by omega
        refine ⟨n.toNat, l[n.toNat], by omega, by simp only [dif_pos hn2], by rw [if_pos (by omega)]; congr 1; omega, hi n.toNat hn2 (by omega), .inl ⟨l, rfl, hst.1, hst.2, by omega⟩⟩
      · right; left
        exact ⟨l, rfl, hst.1, hst.2, hn, hl', by simp only; rw [dif_neg (by omega)], by rw [if_neg (by omega)]⟩
    | _ =>
      left
      refine ⟨rfl, if_neg fun h6 => ?_⟩
      rw [← hK] at h6
      simp [Vl.kind] at h6
  · simp only [if_neg hst]
    cases v with
    | map es =>
      have h7 : m.K = 7 := hK.symm
      have hk' : kys es = m.Keys := hk
      rw [if_pos h7]
      cases hf : fnd k es with
      | none =>
        right; right; left
        refine ⟨es, rfl, hst, hf, by simp only [hf], ?_⟩
        rw [if_neg]
        rw [idI_mem, ← hk', kys_mem, ← fnd_isSome, hf]
        simp
      | some x =>
        right; right; right
        have hmem : k ∈ m.Keys := by rw [← hk', kys_mem, ← fnd_isSome, hf]; rfl
        have h0 : 0 ≤ idI k m.Keys := (idI_mem _ _).2 hmem
        cases hid : idK k m.Keys with
        | none => rw [idI, hid] at h0; simp at h0
        | some i =>
          obtain ⟨g1, g2⟩ := idK_spec hid
          have hid2 : idI k m.Keys = i := by rw [idI, hid]; rfl
          have hlen : m.Keys.length = m.L.length := by rw [← hk, ← hl]; exact (items_keys (v := .map es) rfl).symm
          have hik : i < (kys es).length := by rw [hk']; exact g1
          have hii : i < (Vl.map es).items.length := by rw [hl]; omega
          have hx : (Vl.map es).items[i] = x := by
            have e : (Vl.map es).items[i] = look es (kys es)[i] := List.getElem_map ..
            have e2 : (kys es)[i] = k := by
              have : (kys es)[i]? = m.Keys[i]? := by rw [hk']
              rw [List.getElem?_eq_getElem hik, List.getElem?_eq_getElem g1, g2] at this
              simpa using this
            rw [e, e2, look, hf]; rfl
          refine ⟨i, x, by omega, by simp only [hf], by rw [if_pos h0, hid2], by rw [← hx]; exact hi i hii (by omega), .inr ⟨es, g1, rfl, hst, g2⟩⟩
    | _ =>
      left
      refine ⟨rfl, if_neg fun h7 => ?_⟩
      rw [← hK] at h7
      simp [Vl.kind] at h7
theorem sm_go : ∀ (l : List St2) {v : Vl} {m : Rv}, Sm v m → (goR v l).2 = (goM m l).2 ∧ Sm (goR v l).1 (goM m l).1
  | [], v, m, hs => ⟨rfl, hs⟩
  | s :: r, v, m, hs => by
    rw [goR, goM]
    rcases into_place hs s with ⟨h1, h2⟩ | ⟨_, _, _, _, _, _, h1, h2⟩ | ⟨_, _, _, _, h1, h2⟩ | ⟨i, x, hlt, h1, h2, h3, _⟩
    · rw [h1, h2]; exact ⟨rfl, sm_zero⟩
    · rw [h1, h2]; exact ⟨rfl, sm_zero⟩
    · rw [h1, h2]; exact ⟨rfl, sm_zero⟩
    · rw [h1, h2]
      simp only [if_true, Int.toNat_natCast, List.getD_eq_getElem?_getD, List.getElem?_eq_getElem hlt, Option.getD_some]
      exact sm_go r h3
theorem sm_map_of {es : List (List UInt8 × Vl)} {E : Re} (hp : (es.map Prod.fst).Perm (E.map Prod.fst)) (hs : Srt E) (hc : ∀ p ∈ E, ∃ y, fnd p.1 es = some y ∧ Sm y p.2) : Sm (.map es) (.mk 7 false 0 0 [] (E.map Prod.snd) (E.map Prod.fst)) := by
  have hk : kys es = E.map Prod.fst := kys_of hp (List.pairwise_map.2 hs)
  have hi : (Vl.map es).items = E.map fun p => look es p.1 := by rw [Vl.items, hk, List.map_map]; rfl
  refine .mk _ _ rfl rfl rfl (by rw [hi]; simp [Rv.L]) hk (fun h => by simp [Rv.K] at h) (fun h => by simp [Rv.K] at h) (fun i h h2 => ?_)
  have h3 : i < E.length := by simpa [Rv.L] using h2
  have e1 : (Vl.map es).items[i] = look es E[i].1 := by simp [hi]
  have e2 : (Rv.mk 7 false 0 0 [] (E.map Prod.snd) (E.map Prod.fst)).L[i] = E[i].2 := by simp [Rv.L]
  rw [e1, e2]
  obtain ⟨y, h4, h5⟩ := hc _ (List.getElem_mem h3)
  rw [look, h4]; exact h5
theorem mem_zip_ix {α β : Type} {a : List α} {b : List β} {p : α × β} (h : p ∈ a.zip b) : ∃ (i : Nat) (h1 : i < a.length) (h2 : i < b.length), p = (a[i], b[i]) := by
  obtain ⟨i, hi, rfl⟩ := List.mem_iff_getElem.1 h
  rw [List.length_zip] at hi
  exact ⟨i, by omega, by omega, by simp⟩
theorem sm_at {es : List (List UInt8 × Vl)} {m : Rv} (hs : Sm (.map es) m) {i : Nat} (h1 : i < m.Keys.length) (h2 : i < m.L.length) : ∃ y, fnd m.Keys[i] es = some y ∧ Sm y m.L[i] := by
  cases hs with
  | mk _ _ hK hB hS hl hk hN hP hi =>
  have hk' : kys es = m.Keys := hk
  have hm : m.Keys[i] ∈ es.map Prod.fst := (kys_mem es _).1 (by rw [hk']; exact List.getElem_mem h1)
  obtain ⟨y, hy⟩ := fnd_some hm
  have hii : i < (Vl.map es).items.length := by rw [hl]; exact h2
  have e : (Vl.map es).items[i] = look es m.Keys[i] := by
    have : (Vl.map es).items = m.Keys.map (look es) := by rw [Vl.items, hk']
    simp [this]
  refine ⟨y, hy, ?_⟩
  have := hi i hii h2
  rw [e, look, hy] at this
  exact this
theorem sm_keys {v : Vl} {m : Rv} (hs : Sm v m) : v.keys = m.Keys := by cases hs; assumption
theorem sm_kind {v : Vl} {m : Rv} (hs : Sm v m) : v.kind = m.K := by cases hs; assumption
theorem sm_len {v : Vl} {m : Rv} (hs : Sm v m) : v.items.length = m.L.length := by cases hs; assumption
theorem keys_nodup {es : List (List UInt8 × Vl)} (ho : (Vl.map es).Ok) : (kys es).Nodup := by
  cases ho with
  | map _ _ h _ _ => exact (List.mergeSort_perm _ _).nodup_iff.2 h
theorem sm_clean2 : ∀ (m : Rv) (v : Vl), Sm v m → v.Ok → Sm v (cleanR m) := by
  refine Rv.ind fun m ih v hs ho => ?_
  have hK := sm_kind hs
  cases v with
  | map es =>
    have h7 : m.K = 7 := hK.symm
    have hkk : kys es = m.Keys := sm_keys hs
    have hln : m.Keys.length = m.L.length := by rw [← sm_len hs, ← sm_keys hs]; exact (items_keys (v := .map es) rfl).symm
    rw [cleanR_7 h7]
    have hnz : ((m.Keys.zip (m.L.map cleanR)).map Prod.fst) = m.Keys := List.map_fst_zip (by rw [List.length_map]; omega)
    have hpm : (entOf m).Perm (m.Keys.zip (m.L.map cleanR)) := entR_perm (by rw [hnz, ← hkk]; exact keys_nodup ho)
    refine sm_map_of ?_ (entR_srt _) fun p hp => ?_
    · have := hpm.map Prod.fst
      rw [hnz, ← hkk] at this
      exact (List.mergeSort_perm _ _).symm.trans this.symm
    · obtain ⟨i, h1, h2, rfl⟩ := mem_zip_ix (hpm.mem_iff.1 hp)
      rw [List.length_map] at h2
      obtain ⟨y, hy, hsy⟩ := sm_at hs h1 h2
      refine ⟨y, hy, ?_⟩
      rw [List.getElem_map]
      refine ih _ (List.getElem_mem h2) y hsy ?_
      have hmem : y ∈ (Vl.map es).items := List.mem_map.2 ⟨m.Keys[i], by rw [hkk]; exact List.getElem_mem h1, by rw [look, hy]; rfl⟩
      exact Ok.items ho y hmem
  | list l =>
    have h6 : m.K = 6 := hK.symm
    have e : cleanR m = .mk 6 false 0 0 [] (m.L.map cleanR) [] := by rw [cleanR_eq]; simp [h6]
    have hln : l.length = m.L.length := sm_len hs
    rw [e]
    refine .mk _ _ rfl rfl rfl (by simpa [Vl.items, Rv.L] using hln) rfl (fun h => by simp [Rv.K] at h) (fun h => by simp [Rv.K] at h) (fun i h h2 => ?_)
    have h3 : i < m.L.length := by simpa [Rv.L] using h2
    have e2 : (Rv.mk 6 false 0 0 [] (m.L.map cleanR) []).L[i] = cleanR m.L[i] := by simp [Rv.L]
    rw [e2]
    have hi : Sm (Vl.list l).items[i] m.L[i] := by cases hs with | mk _ _ hK hB hS hl hk hN hP hi => exact hi i h h3
    exact ih _ (List.getElem_mem h3) _ hi (Ok.items ho _ (List.getElem_mem h))
  | nul =>
    have h0 : m.K = 0 := hK.symm
    have e : cleanR m = .mk 0 false 0 0 [] [] [] := by rw [cleanR_eq]; simp [h0]
    rw [e]; exact sm_zero
  | unk =>
    have h0 : m.K = 1 := hK.symm
    have e : cleanR m = .mk 1 false 0 0 [] [] [] := by rw [cleanR_eq]; simp [h0]
    rw [e]; exact sm_leaf rfl rfl rfl rfl rfl (fun h => by simp at h) (fun h => by simp at h)
  | bool b =>
    have h0 : m.K = 2 := hK.symm
    have e : cleanR m = .mk 2 m.B 0 0 [] [] [] := by rw [cleanR_eq]; simp [h0]
    have hb : b = m.B := by cases hs with | mk _ _ hK hB hS hl hk hN hP hi => simpa [h0, Vl.isB] using hB
    rw [e]; exact sm_leaf rfl (by simp [Vl.isB, hb]) rfl rfl rfl (fun h => by simp at h) (fun h => by simp at h)
  | int n =>
    have h0 : m.K = 3 := hK.symm
    have e : cleanR m = .mk 3 false m.N 0 [] [] [] := by rw [cleanR_eq]; simp [h0]
    have hb : n = m.N := by cases hs with | mk _ _ hK hB hS hl hk hN hP hi => exact hN h0
    rw [e]; exact sm_leaf rfl rfl rfl rfl rfl (fun _ => hb) (fun h => by simp at h)
  | pt n k =>
    have h0 : m.K = 4 := hK.symm
    have e : cleanR m = .mk 4 false (cutI m.N) (cutI m.M) [] [] [] := by rw [cleanR_eq]; simp [h0]
    have hb : n = m.N ∧ k = m.M := by cases hs with | mk _ _ hK hB hS hl hk hN hP hi => exact hP h0
    cases ho with
    | pt _ _ g1 g2 g3 g4 =>
      rw [e]
      refine sm_leaf rfl rfl rfl rfl rfl (fun h => by simp at h) (fun _ => ⟨?_, ?_⟩)
      · show n = cutI m.N
        unfold cutI; omega
      · show k = cutI m.M
        unfold cutI; omega
  | text t =>
    have h0 : m.K = 5 := hK.symm
    have e : cleanR m = .mk 5 false 0 0 m.S [] [] := by rw [cleanR_eq]; simp [h0]
    have hb : t = m.S := by cases hs with | mk _ _ hK hB hS hl hk hN hP hi => exact hS
    rw [e]; exact sm_leaf rfl rfl hb rfl rfl (fun h => by simp at h) (fun h => by simp at h)
end Go.Proofs.Ytjlphncecdlmcaa
namespace Go.Proofs.Ytjlphncecdlmcaa
open Go.Vm Go.Sort
theorem putE_keys {k : List UInt8} {z : Vl} : ∀ {es : List (List UInt8 × Vl)}, k ∈ es.map Prod.fst → (putE k z es).map Prod.fst = es.map Prod.fst
  | [], h => by cases h
  | p :: es, h => by
    rw [putE]
    split
    · rename_i e; rw [List.map_cons, List.map_cons, e]
    · rename_i e
      rw [List.map_cons, List.map_cons, putE_keys]
      rcases List.mem_cons.1 h with h | h
      · exact absurd h.symm e
      · exact h
theorem putE_new {k : List UInt8} {z : Vl} : ∀ {es : List (List UInt8 × Vl)}, fnd k es = none → putE k z es = es ++ [(k, z)]
  | [], _ => rfl
  | p :: es, h => by
    rw [fnd] at h
    split at h
    · cases h
    · rename_i e
      rw [putE, if_neg e, putE_new h]; rfl
theorem fnd_app {k : List UInt8} {z : Vl} : ∀ {es : List (List UInt8 × Vl)} (k' : List UInt8), fnd k es = none → fnd k' (es ++ [(k, z)]) = if k' = k then some z else fnd k' es
  | [], k', _ => by
    rw [List.nil_append, fnd, fnd]
    by_cases e : k = k'
    · rw [if_pos e, if_pos e.symm]
    · rw [if_neg e, if_neg (Ne.symm e)]; rfl
  | p :: es, k', h => by
    rw [fnd] at h
    split at h
    · cases h
    · rename_i e
      rw [List.cons_append, fnd, fnd, fnd_app k' h]
      by_cases e2 : p.1 = k'
      · rw [if_pos e2, if_neg (fun e3 => e (e2.trans e3)), if_pos e2]
      · rw [if_neg e2, if_neg e2]
theorem putE_ok {k : List UInt8} {z : Vl} {es : List (List UInt8 × Vl)} (hz : z.Ok) (hk : k.length ≤ 9223372036854775807) (h : ∀ p ∈ es, p.1.length ≤ 9223372036854775807 ∧ p.2.Ok) : ∀ p ∈ putE k z es, p.1.length ≤ 9223372036854775807 ∧ p.2.Ok := by
  induction es with
  | nil => intro p hp; rw [putE, List.mem_singleton] at hp; subst hp; exact ⟨hk, hz⟩
  | cons q es ih =>
    intro p hp
    rw [putE] at hp
    split at hp
    · rcases List.mem_cons.1 hp with rfl | hp
      · exact ⟨hk, hz⟩
      · exact h p (List.mem_cons_of_mem _ hp)
    · rcases List.mem_cons.1 hp with rfl | hp
      · exact h _ List.mem_cons_self
      · exact ih (fun p hp => h p (List.mem_cons_of_mem _ hp)) p hp
theorem sm_set_list {l : List Vl} {m q : Rv} {z : Vl} {i : Nat} (hs : Sm (.list l) m) (hz : Sm z q) (hi : i < m.L.length) : Sm (.list (l.set i z)) (.mk m.K false 0 0 [] (m.L.set i q) m.Keys) := by
  have hK := sm_kind hs
  have hkk := sm_keys hs
  have hln : l.length = m.L.length := sm_len hs
  have hit : ∀ j (h : j < l.length) (h2 : j < m.L.length), Sm l[j] m.L[j] := by cases hs with | mk _ _ hK hB hS hl hk hN hP hi => exact hi
  have h6 : m.K = 6 := hK.symm
  rw [h6]
  refine .mk _ _ rfl rfl rfl (by simp [Vl.items, Rv.L, hln]) hkk (fun h => by simp [Rv.K] at h) (fun h => by simp [Rv.K] at h) (fun j h h2 => ?_)
  have h3 : j < l.length := by simpa [Vl.items] using h
  have e1 : (Vl.list (l.set i z)).items[j] = if i = j then z else l[j] := by simp [Vl.items, List.getElem_set]
  have e2 : (Rv.mk 6 false 0 0 [] (m.L.set i q) m.Keys).L[j] = if i = j then q else m.L[j] := by simp [Rv.L, List.getElem_set]
  rw [e1, e2]
  by_cases e : i = j
  · rw [if_pos e, if_pos e]; exact hz
  · rw [if_neg e, if_neg e]; exact hit j h3 (by omega)
theorem sm_set_map {es : List (List UInt8 × Vl)} {m q : Rv} {z : Vl} {i : Nat} {k : List UInt8} (hs : Sm (.map es) m) (ho : (Vl.map es).Ok) (hz : Sm z q) (hi : i < m.L.length) (hik : i < m.Keys.length) (hk : m.Keys[i] = k) : Sm (.map (putE k z es)) (.mk m.K false 0 0 [] (m.L.set i q) m.Keys) := by
  have hK := sm_kind hs
  have hkk : kys es = m.Keys := sm_keys hs
  have h7 : m.K = 7 := hK.symm
  have hmem : k ∈ es.map Prod.fst := (kys_mem es k).1 (by rw [hkk, ← hk]; exact List.getElem_mem hik)
  have hky : kys (putE k z es) = m.Keys := by rw [← hkk, kys, kys, putE_keys hmem]
  have hln : m.Keys.length = m.L.length := by rw [← sm_len hs, ← sm_keys hs]; exact (items_keys (v := .map es) rfl).symm
  have hit : (Vl.map (putE k z es)).items = m.Keys.map (look (putE k z es)) := by rw [Vl.items, hky]
  rw [h7]
  refine .mk _ _ rfl rfl rfl (by rw [hit]; simp [Rv.L, hln]) hky (fun h => by simp [Rv.K] at h) (fun h => by simp [Rv.K] at h) (fun j h h2 => ?_)
  have h3 : j < m.Keys.length := by rw [hit] at h; simpa using h
  have e1 : (Vl.map (putE k z es)).items[j] = look (putE k z es) m.Keys[j] := by simp [hit]
  have e2 : (Rv.mk 7 false 0 0 [] (m.L.set i q) m.Keys).L[j] = if i = j then q else m.L[j] := by simp [Rv.L, List.getElem_set]
  rw [e1, e2]
  by_cases e : i = j
  · subst e
    rw [if_pos rfl, hk, look, fnd_putE]; exact hz
  · rw [if_neg e]
    have hne : ¬ k = m.Keys[j] := by
      intro e3
      rw [← hk] at e3
      have hnd : m.Keys.Nodup := by rw [← hkk]; exact keys_nodup ho
      rcases Nat.lt_or_gt_of_ne e with g | g
      · exact List.pairwise_iff_getElem.1 hnd i j hik h3 g e3
      · exact List.pairwise_iff_getElem.1 hnd j i h3 hik g e3.symm
    obtain ⟨y, hy, hsy⟩ := sm_at hs h3 (show j < m.L.length by omega)
    rw [look, fnd_putN hne, hy]; exact hsy
theorem sm_add_list {l : List Vl} {m x : Rv} {y : Vl} (hs : Sm (.list l) m) (hy : Sm y x) : Sm (.list (l ++ [y])) (.mk 6 false 0 0 [] (m.L ++ [x]) []) := by
  have hln : l.length = m.L.length := sm_len hs
  have hit : ∀ j (h : j < l.length) (h2 : j < m.L.length), Sm l[j] m.L[j] := by cases hs with | mk _ _ hK hB hS hl hk hN hP hi => exact hi
  refine .mk _ _ rfl rfl rfl (by simp [Vl.items, Rv.L, hln]) rfl (fun h => by simp [Rv.K] at h) (fun h => by simp [Rv.K] at h) (fun j h h2 => ?_)
  have h3 : j < l.length + 1 := by simpa [Vl.items] using h
  by_cases e : j < l.length
  · have e3 : j < m.L.length := by omega
    have e1 : (Vl.list (l ++ [y])).items[j] = l[j] := List.getElem_append_left e
    have e2 : (Rv.mk 6 false 0 0 [] (m.L ++ [x]) []).L[j] = m.L[j] := List.getElem_append_left e3
    rw [e1, e2]
    exact hit j e e3
  · have e3 : j = l.length := by omega
    have e1 : (Vl.list (l ++ [y])).items[j] = y := by
      have : (l ++ [y])[j]? = some y := by rw [e3]; simp
      exact (List.getElem?_eq_some_iff.1 this).2
    have e2 : (Rv.mk 6 false 0 0 [] (m.L ++ [x]) []).L[j] = x := by
      have : (m.L ++ [x])[j]? = some x := by rw [e3, hln]; simp
      exact (List.getElem?_eq_some_iff.1 this).2
    rw [e1, e2]; exact hy
theorem sm_add_map {es : List (List UInt8 × Vl)} {m x : Rv} {y : Vl} {k : List UInt8} (hs : Sm (.map es) m) (ho : (Vl.map es).Ok) (hy : Sm y x) (hyo : y.Ok) (hf : fnd k es = none) : Sm (.map (es ++ [(k, y)])) (cleanR (.mk 7 false 0 0 [] (m.L ++ [x]) (m.Keys ++ [k]))) := by
  have hkk : kys es = m.Keys := sm_keys hs
  have hln : m.Keys.length = m.L.length := by rw [← sm_len hs, ← sm_keys hs]; exact (items_keys (v := .map es) rfl).symm
  have hkn : k ∉ m.Keys := by rw [← hkk, kys_mem, ← fnd_isSome, hf]; simp
  generalize hr : (Rv.mk 7 false 0 0 [] (m.L ++ [x]) (m.Keys ++ [k])) = r
  have rL : r.L = m.L ++ [x] := by rw [← hr]; rfl
  have rK : r.Keys = m.Keys ++ [k] := by rw [← hr]; rfl
  rw [cleanR_7 (by rw [← hr]; rfl)]
  have hnz : ((r.Keys.zip (r.L.map cleanR)).map Prod.fst) = r.Keys := List.map_fst_zip (by rw [rL, rK]; simp; omega)
  have hnd : r.Keys.Nodup := by
    rw [rK, List.nodup_append]
    refine ⟨by rw [← hkk]; exact keys_nodup ho, by simp, fun a ha b hb e => ?_⟩
    rw [List.mem_singleton] at hb; subst hb; subst e; exact hkn ha
  have hpm : (entOf r).Perm (r.Keys.zip (r.L.map cleanR)) := entR_perm (by rw [hnz]; exact hnd)
  refine sm_map_of ?_ (entR_srt _) fun p hp => ?_
  · have := hpm.map Prod.fst
    rw [hnz, rK, ← hkk] at this
    rw [List.map_append]
    exact ((List.mergeSort_perm _ _).symm.append_right _).trans this.symm
  · obtain ⟨i, h1, h2, rfl⟩ := mem_zip_ix (hpm.mem_iff.1 hp)
    rw [List.length_map] at h2
    rw [List.getElem_map]
    simp only [fnd_app _ hf]
    have hcl : ∀ (z : Vl) (t : Rv), Sm z t → z.Ok → Sm z (cleanR t) := fun z t h1 h2 => sm_clean2 t z h1 h2
    by_cases hi : i < m.Keys.length
    · have e1 : r.Keys[i] = m.Keys[i] := by simp only [rK]; exact List.getElem_append_left hi
      have e2 : r.L[i] = m.L[i] := by simp only [rL]; exact List.getElem_append_left (by omega)
      rw [e1, e2, if_neg (fun e => hkn (by rw [← e]; exact List.getElem_mem hi))]
      obtain ⟨z, hz, hsz⟩ := sm_at hs hi (show i < m.L.length by omega)
      refine ⟨z, hz, hcl _ _ hsz ?_⟩
      have hmem : z ∈ (Vl.map es).items := List.mem_map.2 ⟨m.Keys[i], by rw [hkk]; exact List.getElem_mem hi, by rw [look, hz]; rfl⟩
      exact Ok.items ho z hmem
    · have hi2 : i = m.Keys.length := by rw [rK] at h1; simp at h1; omega
      have e1 : r.Keys[i] = k := by
        simp only [rK]; rw [List.getElem_append_right (by omega)]; simp
      have e2 : r.L[i] = x := by
        simp only [rL]; rw [List.getElem_append_right (by omega)]; simp
      rw [e1, e2, if_pos rfl]
      exact ⟨y, rfl, hcl _ _ hy hyo⟩
theorem put_ok {v z w : Vl} {k : List UInt8} {n : Int} (h : v.put z k n = some w) (ho : v.Ok) (hz : z.Ok) (hl : v.items.length * 16 ≤ 99999999999984) (hk : k.length ≤ 140737488355328) : w.Ok := by
  unfold Vl.put at h
  split at h
  · cases v <;> simp only at h <;> try (cases h; done)
    rename_i l
    cases ho with
    | list _ h1 h2 =>
    split at h
    · cases h
      refine .list _ (by simp [Vl.items] at hl ⊢; omega) fun x hx => ?_
      rcases List.mem_append.1 hx with hx | hx
      · exact h2 x hx
      · rw [List.mem_singleton] at hx; subst hx; exact hz
    · split at h
      · cases h
        refine .list _ (by rw [List.length_set]; exact h1) fun x hx => ?_
        rcases List.mem_or_eq_of_mem_set hx with hx | rfl
        · exact h2 x hx
        · exact hz
      · cases h
  · cases v <;> simp only at h <;> try (cases h; done)
    rename_i es
    cases h
    have hln : es.length * 16 ≤ 99999999999984 := by rw [Vl.items, List.length_map, kys_length] at hl; exact hl
    cases ho with
    | map _ h1 h2 h3 h4 =>
    have hp := putE_ok (k := k) (z := z) (es := es) hz (by omega) (fun p hp => ⟨h3 p hp, h4 p hp⟩)
    cases hf : fnd k es with
    | none =>
      rw [putE_new hf] at hp ⊢
      refine .map _ (by simp; omega) ?_ (fun p hq => (hp p hq).1) (fun p hq => (hp p hq).2)
      rw [List.map_append, List.nodup_append]
      refine ⟨h2, by simp, fun a ha b hb e => ?_⟩
      simp at hb; subst hb; subst e
      have := (fnd_isSome a es).2 ha
      rw [hf] at this; cases this
    | some x =>
      have hm : k ∈ es.map Prod.fst := (fnd_isSome k es).1 (by rw [hf]; rfl)
      have hl2 : (putE k z es).length = es.length := by have := congrArg List.length (putE_keys (z := z) hm); simpa using this
      exact .map _ (by rw [hl2]; exact h1) (by rw [putE_keys hm]; exact h2) (fun p hq => (hp p hq).1) (fun p hq => (hp p hq).2)
theorem sm_with : ∀ (l : List St2), (∀ s ∈ l, s.1.length ≤ 140737488355328) → ∀ {v y : Vl} {m x : Rv}, Sm v m → v.Ok → m.FitB 140737488351232 → Sm y x → y.Ok →
    (withR v y l = none → withM m x l = (zR, 6)) ∧ ∀ w e, withR v y l = some (w, e) → (withM m x l).2 = e ∧ Sm w (withM m x l).1 ∧ w.Ok
  | [], _, v, y, m, x, hs, ho, hf, hy, hyo => ⟨fun h => (nomatch h), fun w e h => by cases h; exact ⟨rfl, hy, hyo⟩⟩
  | s :: r, hb, v, y, m, x, hs, ho, hf, hy, hyo => by
    have hitl : v.items.length * 16 ≤ 99999999999984 := by rw [sm_len hs]; have := hf.l; omega
    have hsl := hb s List.mem_cons_self
    rw [withR, withM]
    rcases into_place hs s with ⟨h1, h2⟩ | ⟨l, rfl, g1, g2, g3, g4, h1, h2⟩ | ⟨es, rfl, g1, g2, h1, h2⟩ | ⟨i, z, hlt, h1, h2, h3, h4⟩
    · rw [h1, h2]
      exact ⟨fun _ => by simp, fun w e h => by cases h⟩
    · rw [h1, h2]
      simp only [Int.reduceEq, if_false, ne_eq, not_false_eq_true, true_and, false_or]
      have hfr : freshB (.list l) s.2 2 = decide (s.2 = l.length) := by simp [freshB]
      simp only [hfr, decide_eq_false_iff_not, g4]
      by_cases hc : r ≠ [] ∨ ¬ s.2 = m.L.length
      · rw [if_pos hc, if_pos hc]
        exact ⟨fun h => (nomatch h), fun w e h => by cases h; exact ⟨rfl, sm_zero, .nul⟩⟩
      · rw [if_neg hc, if_neg hc]
        obtain ⟨hr, hn⟩ := not_or.1 hc
        have hr := Decidable.not_not.1 hr
        have hn := Decidable.not_not.1 hn
        subst hr
        simp only [withR, if_false, not_true_eq_false, if_true]
        have hput : (Vl.list l).put y s.1 s.2 = some (.list (l ++ [y])) := by simp only [Vl.put]; rw [if_pos ⟨g1, g2⟩, if_pos (by omega)]
        rw [hput]
        exact ⟨fun h => (nomatch h), fun w e h => by cases h; exact ⟨rfl, sm_add_list hs hy, put_ok hput ho hyo hitl hsl⟩⟩
    · rw [h1, h2]
      simp only [Int.reduceEq, if_false, ne_eq, not_false_eq_true, true_and, true_or, not_true_eq_false, or_false]
      have hfr : freshB (.map es) s.2 8 = true := by simp [freshB]
      rw [hfr]
      simp only [Bool.true_eq_false, or_false]
      by_cases hc : ¬ r = []
      · rw [if_pos hc, if_pos hc]
        exact ⟨fun h => (nomatch h), fun w e h => by cases h; exact ⟨rfl, sm_zero, .nul⟩⟩
      · rw [if_neg hc, if_neg hc]
        have hr := Decidable.not_not.1 hc
        subst hr
        simp only [withR, if_false, not_true_eq_false, if_true]
        have hput : (Vl.map es).put y s.1 s.2 = some (.map (es ++ [(s.1, y)])) := by simp only [Vl.put]; rw [if_neg g1, putE_new g2]
        rw [hput]
        exact ⟨fun h => (nomatch h), fun w e h => by cases h; exact ⟨rfl, sm_add_map hs ho hy hyo g2, put_ok hput ho hyo hitl hsl⟩⟩
    · rw [h1, h2]
      have hio := into_ok ho h1
      have hrec := sm_with r (fun t ht => hb t (List.mem_cons_of_mem _ ht)) h3 hio (hf.m _ (List.getElem_mem hlt)) hy hyo
      have hput : ∀ q, ∃ w, v.put q s.1 s.2 = some w := fun q => put_some h1 (.inl rfl)
      simp only [if_true, Int.toNat_natCast, List.getD_eq_getElem?_getD, List.getElem?_eq_getElem hlt, Option.getD_some, ne_eq, not_true_eq_false, false_and, if_false]
      generalize withM m.L[i] x r = q at *
      obtain ⟨q1, q2⟩ := q
      simp only at hrec ⊢
      cases hw : withR z y r with
      | none =>
        have := hrec.1 hw
        cases this
        exact ⟨fun _ => by simp, fun w e h => by cases h⟩
      | some p =>
        obtain ⟨w', e'⟩ := p
        obtain ⟨k1, k2, k3⟩ := hrec.2 w' e' hw
        subst k1
        by_cases h0 : q2 = 0
        · subst h0
          simp only [not_true_eq_false, if_false, if_true]
          obtain ⟨w, hpw⟩ := hput w'
          rw [hpw]
          refine ⟨fun h => (nomatch h), fun w2 e2 h => ?_⟩
          cases h
          refine ⟨rfl, ?_, put_ok hpw ho k3 hitl hsl⟩
          rcases h4 with ⟨l, rfl, j1, j2, j3⟩ | ⟨es, hik, rfl, j1, j2⟩
          · have hln : l.length = m.L.length := sm_len hs
            simp only [Vl.put] at hpw
            rw [if_pos ⟨j1, j2⟩, if_neg (by omega), if_pos (by omega)] at hpw
            cases hpw
            have e : s.2.toNat = i := by omega
            rw [e]
            exact sm_set_list hs k2 hlt
          · simp only [Vl.put] at hpw
            rw [if_neg j1] at hpw
            cases hpw
            exact sm_set_map hs ho k2 hlt hik j2
        · simp only [h0, not_false_eq_true, if_true, if_false]
          exact ⟨fun h => (nomatch h), fun w e h => by cases h; exact ⟨rfl, sm_zero, .nul⟩⟩
end Go.Proofs.Ytjlphncecdlmcaa
