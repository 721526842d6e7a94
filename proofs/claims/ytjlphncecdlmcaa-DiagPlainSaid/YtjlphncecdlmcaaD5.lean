/- Of the walks of this seat: contracts of functions of the given program, proved over the abstract values of the texts Vm. Conditions: as each theorem says. -/
import Derived.Test.YtjlphncecdlmcaaD3
set_option linter.unusedVariables false
set_option linter.unusedSimpArgs false
namespace Go.Proofs.Ytjlphncecdlmcaa
open Go.Vm
attribute [local go_sem] Bool.and_true strsE_get strsE_length ntsE_get ntsE_length ntC byteCells_length List.drop_zero toNat_succ Nat.sub_zero Int.toNat_natCast Option.map_some Int.natCast_nonneg decide_eq_true_eq decide_eq_false_iff_not
/- flange/flangelaw13.DiagPlain -/
abbrev k5_0 : MC :=
  .cond (.t 14) ((.seq (.reg [
     ⟨(some 15), none, .call 16 []⟩,
     ⟨(some 4), none, .val (.mv (.t 15))⟩] [4]) (.ret))) (.skip)

abbrev k5_1 : MC :=
  .cond (.t 22) (.skip) (.exit 0)

abbrev k5_2 : MC :=
  .cond (.t 54) ((.seq (.reg [
     ⟨(some 4), none, .val (.mv (.c (.bool false)))⟩] [4]) (.ret))) (.skip)

abbrev k5_3 : MC :=
  .cond (.t 62) (.skip) (.exit 2)

abbrev k5_4 : MC :=
  .cond (.t 82) ((.seq (.reg [
     ⟨(some 4), none, .val (.mv (.c (.bool false)))⟩] [4]) (.ret))) (.skip)

abbrev k5_5 : MC :=
  .reg [
    ⟨(some 63), none, .val (.mv (.t 7))⟩,
    ⟨(some 64), none, .val (.bin .add .num (.t 63) (.c (.int .i64 1)))⟩,
    ⟨(some 7), none, .val (.mv (.t 64))⟩] [5, 6, 7]

abbrev k5_6 : MC :=
  (.seq (.block 3 ((.seq (.reg [
     ⟨(some 65), none, .val (.mv (.t 5))⟩,
     ⟨(some 66), none, .val (.mv (.t 6))⟩,
     ⟨(some 67), none, .val (.iaddr 2 (.t 65) (.t 66))⟩,
     ⟨(some 68), none, .val (.faddr 1 (.t 67))⟩,
     ⟨(some 69), none, .val (.load false 1 (.t 68))⟩,
     ⟨(some 70), none, .val (.mv (.t 7))⟩,
     ⟨(some 71), none, .val (.idx (.t 69) (.t 70))⟩,
     ⟨(some 72), none, .val (.bin .lss .num (.t 71) (.c (.int .u8 32)))⟩,
     ⟨(some 73), none, .val (.mv (.t 72))⟩,
     ⟨(some 74), (some (73, false)), .val (.mv (.t 5))⟩,
     ⟨(some 75), (some (73, false)), .val (.mv (.t 6))⟩,
     ⟨(some 76), (some (73, false)), .val (.iaddr 2 (.t 74) (.t 75))⟩,
     ⟨(some 77), (some (73, false)), .val (.faddr 1 (.t 76))⟩,
     ⟨(some 78), (some (73, false)), .val (.load false 1 (.t 77))⟩,
     ⟨(some 79), (some (73, false)), .val (.mv (.t 7))⟩,
     ⟨(some 80), (some (73, false)), .val (.idx (.t 78) (.t 79))⟩,
     ⟨(some 81), (some (73, false)), .val (.bin .gtr .num (.t 80) (.c (.int .u8 126)))⟩,
     ⟨(some 82), none, .val (.pick (.t 73) (.c (.bool true)) (.t 81))⟩] [5, 6, 7, 82]) k5_4))) k5_5)

abbrev k5_7 : MC :=
  (.seq ((.seq (.reg [
    ⟨(some 55), none, .val (.mv (.t 7))⟩,
    ⟨(some 56), none, .val (.mv (.t 5))⟩,
    ⟨(some 57), none, .val (.mv (.t 6))⟩,
    ⟨(some 58), none, .val (.iaddr 2 (.t 56) (.t 57))⟩,
    ⟨(some 59), none, .val (.faddr 1 (.t 58))⟩,
    ⟨(some 60), none, .val (.load false 1 (.t 59))⟩,
    ⟨(some 61), none, .val (.len .str (.t 60))⟩,
    ⟨(some 62), none, .val (.bin .lss .num (.t 55) (.t 61))⟩] [5, 6, 7, 62]) k5_3)) k5_6)

abbrev k5_8 : MC :=
  .block 2 (.loop k5_7)

abbrev k5_9 : MC :=
  (.seq (.reg [
    ⟨(some 7), none, .val (.mv (.c (.int .i64 0)))⟩] [5, 6, 7]) k5_8)

abbrev k5_10 : MC :=
  .reg [
    ⟨(some 23), none, .val (.mv (.t 6))⟩,
    ⟨(some 24), none, .val (.bin .add .num (.t 23) (.c (.int .i64 1)))⟩,
    ⟨(some 6), none, .val (.mv (.t 24))⟩] [5, 6]

abbrev k5_11 : MC :=
  (.seq (.block 1 ((.seq ((.seq (.drw [
     ⟨(some 25), none, .val (.mv (.t 5))⟩,
     ⟨(some 26), none, .val (.mv (.t 6))⟩,
     ⟨(some 27), none, .val (.iaddr 2 (.t 25) (.t 26))⟩,
     ⟨(some 28), none, .val (.faddr 1 (.t 27))⟩,
     ⟨(some 29), none, .val (.load false 1 (.t 28))⟩,
     ⟨(some 30), none, .val (.len .str (.t 29))⟩,
     ⟨(some 31), none, .val (.bin .gtr .num (.t 30) (.c (.int .i64 80)))⟩,
     ⟨(some 32), none, .val (.mv (.t 31))⟩,
     ⟨(some 33), (some (32, false)), .val (.mv (.t 5))⟩,
     ⟨(some 34), (some (32, false)), .val (.mv (.t 6))⟩,
     ⟨(some 35), (some (32, false)), .val (.iaddr 2 (.t 33) (.t 34))⟩,
     ⟨(some 36), (some (32, false)), .val (.faddr 1 (.t 35))⟩,
     ⟨(some 37), (some (32, false)), .val (.load false 1 (.t 36))⟩,
     ⟨(some 38), (some (32, false)), .val (.len .str (.t 37))⟩,
     ⟨(some 39), (some (32, false)), .val (.bin .eql .num (.t 38) (.c (.int .i64 0)))⟩,
     ⟨(some 40), none, .val (.pick (.t 32) (.c (.bool true)) (.t 39))⟩,
     ⟨(some 41), none, .val (.mv (.t 40))⟩,
     ⟨(some 42), (some (41, false)), .val (.mv (.t 5))⟩,
     ⟨(some 43), (some (41, false)), .val (.mv (.t 6))⟩,
     ⟨(some 44), (some (41, false)), .val (.iaddr 2 (.t 42) (.t 43))⟩,
     ⟨(some 45), (some (41, false)), .val (.faddr 1 (.t 44))⟩,
     ⟨(some 46), (some (41, false)), .val (.load false 1 (.t 45))⟩,
     ⟨(some 47), (some (41, false)), .call 21 [(.t 46), (.c .nilSl)]⟩,
     ⟨(some 48), (some (41, false)), .val (.mv (.t 5))⟩,
     ⟨(some 49), (some (41, false)), .val (.mv (.t 6))⟩,
     ⟨(some 50), (some (41, false)), .val (.iaddr 2 (.t 48) (.t 49))⟩,
     ⟨(some 51), (some (41, false)), .val (.faddr 1 (.t 50))⟩,
     ⟨(some 52), (some (41, false)), .val (.load false 1 (.t 51))⟩,
     ⟨(some 53), (some (41, false)), .val (.bin .neq .num (.t 47) (.t 52))⟩,
     ⟨(some 54), none, .val (.pick (.t 41) (.c (.bool true)) (.t 53))⟩] [
] [5, 6, 54]) k5_2)) k5_9))) k5_10)

abbrev k5_12 : MC :=
  (.seq ((.seq (.reg [
    ⟨(some 19), none, .val (.mv (.t 6))⟩,
    ⟨(some 20), none, .val (.mv (.t 5))⟩,
    ⟨(some 21), none, .val (.len .sl (.t 20))⟩,
    ⟨(some 22), none, .val (.bin .lss .num (.t 19) (.t 21))⟩] [5, 6, 22]) k5_1)) k5_11)

abbrev k5_13 : MC :=
  .block 0 (.loop k5_12)

abbrev k5_14 : MC :=
  (.seq (.reg [
    ⟨(some 83), none, .val (.mv (.t 5))⟩,
    ⟨(some 84), none, .val (.len .sl (.t 83))⟩,
    ⟨(some 85), none, .val (.bin .leq .num (.t 84) (.c (.int .i64 8)))⟩,
    ⟨(some 86), none, .val (.mv (.t 85))⟩,
    ⟨(some 87), (some (86, true)), .val (.mv (.t 5))⟩,
    ⟨(some 88), (some (86, true)), .call 19 [(.t 87), (.c .nilSl)]⟩,
    ⟨(some 89), (some (86, true)), .val (.len .sl (.t 88))⟩,
    ⟨(some 90), (some (86, true)), .val (.mv (.t 5))⟩,
    ⟨(some 91), (some (86, true)), .val (.len .sl (.t 90))⟩,
    ⟨(some 92), (some (86, true)), .val (.bin .eql .num (.t 89) (.t 91))⟩,
    ⟨(some 93), none, .val (.pick (.t 86) (.t 92) (.c (.bool false)))⟩,
    ⟨(some 4), none, .val (.mv (.t 93))⟩] [4]) (.ret))

abbrev k5_15 : MC :=
  (.seq ((.seq (.reg [
    ⟨(some 6), none, .val (.mv (.c (.int .i64 0)))⟩] [5, 6]) k5_13)) k5_14)

abbrev k5_16 : MC :=
  (.seq (.reg [
    ⟨(some 16), none, .val (.mv (.t 0))⟩,
    ⟨(some 17), none, .val (.mv (.t 1))⟩,
    ⟨(some 18), none, .call 19 [(.t 16), (.t 17)]⟩,
    ⟨(some 5), none, .val (.mv (.t 18))⟩] [5]) k5_15)

abbrev k5_17 : MC :=
  (.seq ((.seq (.reg [
    ⟨(some 8), none, .val (.mv (.t 0))⟩,
    ⟨(some 9), none, .val (.mv (.t 1))⟩,
    ⟨(some 10), none, .call 15 [(.t 8), (.t 9)]⟩,
    ⟨(some 11), none, .val (.mv (.t 10))⟩,
    ⟨(some 12), (some (11, false)), .call 16 []⟩,
    ⟨(some 13), (some (11, false)), .val (.not (.t 12))⟩,
    ⟨(some 14), none, .val (.pick (.t 11) (.c (.bool true)) (.t 13))⟩] [0, 1, 14]) k5_0)) k5_16)
abbrev k5 : MC :=
  (.seq (.reg [
    ⟨(some 4), none, .val (.mv (.c (.bool false)))⟩] [0, 1]) k5_17)
theorem c5 : Try.f5.body.bind (mcOf Try.prog (List.contains [] ·) (List.getD [([], [0, 1]), ([], [0, 1, 14]), ([], [4]), ([], [5]), ([], [5, 6]), ([], [5, 6, 22]), ([], [5, 6]), ([0, 0, 0, 0, 0, 0, 0, 0, 0, 0, 0, 0, 0, 0, 0, 0, 0, 0, 0, 0, 0, 0, 0, 0, 0, 0, 0, 0, 0, 0], [5, 6, 54]), ([], [4]), ([], [5, 6, 7]), ([], [5, 6, 7, 62]), ([], [5, 6, 7]), ([], [5, 6, 7, 82]), ([], [4]), ([], [4])] · ([], [])) 94) = some k5 := by kernel_rfl
theorem r5 : rvsOf Try.prog Try.f5.results.toList = some [.tmp 4] := by kernel_rfl

/-! ### Plain laws -/
def prn (b : UInt8) : Prop := 32 ≤ b.toNat ∧ b.toNat ≤ 126
theorem pr_prn (b : UInt8) : prn (pr b) := by
  unfold pr; split
  · exact ⟨by decide, by decide⟩
  · rename_i h; simp only [prn]; omega
theorem pr_id {b : UInt8} (h : prn b) : pr b = b := by
  unfold pr; rw [if_neg]; simp only [prn] at h; omega
theorem cleanS_none : ∀ (n : Nat) (t : Str), t.length ≤ n → cleanS [] t = t
  | 0, t, h => by
    have : t = [] := List.length_eq_zero_iff.1 (by omega)
    subst this; exact cleanS_nil _
  | n + 1, t, h => by
    by_cases hne : t = []
    · subst hne; exact cleanS_nil _
    · rw [cleanS_ne _ _ hne, bgS, if_neg (by omega), cleanS_none n (t.drop 1) (by rw [List.length_drop]; omega), List.take_append_drop]
theorem textS_prn (ss : List Str) (s : Str) : ∀ b ∈ textS ss s, prn b := by
  intro b hb
  unfold textS cutS at hb
  have hm : ∀ b ∈ (cleanS ss s).map pr, prn b := by
    intro b hb; obtain ⟨x, _, rfl⟩ := List.mem_map.1 hb; exact pr_prn x
  split at hb
  · rcases List.mem_append.1 hb with h | h
    · exact hm b (List.mem_of_mem_take h)
    · simp at h; subst h; exact ⟨by decide, by decide⟩
  · exact hm b hb
theorem map_pr {t : Str} (h : ∀ b ∈ t, prn b) : t.map pr = t := by
  induction t with
  | nil => rfl
  | cons b t ih => rw [List.map_cons, pr_id (h b (by simp)), ih (fun x hx => h x (by simp [hx]))]
theorem textS_id {t : Str} (h : ∀ b ∈ t, prn b) (hl : t.length ≤ 80) : textS [] t = t := by
  rw [textS, cleanS_none _ t (Nat.le_refl _), map_pr h, cutS, if_neg (by omega)]
def okN (c : List Nt) : Prop := (∀ n ∈ c, (∀ b ∈ n.txt, prn b) ∧ n.txt.length ≤ 80 ∧ n.txt ≠ []) ∧ c.Nodup ∧ c.length ≤ 8
theorem addN_ok {ss : List Str} {c : List Nt} (n : Nt) (h : okN c) : okN (addN ss c n) := by
  unfold addN; simp only; split
  · rename_i h1
    obtain ⟨g1, g2, g3⟩ := h
    refine ⟨fun m hm => ?_, ?_, by rw [List.length_append]; simp; omega⟩
    · rcases List.mem_append.1 hm with hm | hm
      · exact g1 m hm
      · simp at hm; subst hm; exact ⟨textS_prn _ _, textS_len _ _, h1.1⟩
    · rw [List.nodup_append]
      refine ⟨g2, by simp, ?_⟩
      intro a ha b hb
      simp at hb; subst hb
      rintro rfl
      exact h1.2.1 ha
  · exact h
theorem foldl_ok {ss : List Str} : ∀ (l c : List Nt), okN c → okN (l.foldl (addN ss) c)
  | [], c, h => h
  | n :: l, c, h => foldl_ok l _ (addN_ok n h)
theorem cleanN_ok (ss : List Str) (l : List Nt) : okN (cleanN ss l) := foldl_ok l [] ⟨by simp, by simp, by simp⟩
theorem foldl_same : ∀ (l c : List Nt), okN (c ++ l) → l.foldl (addN []) c = c ++ l
  | [], c, _ => by simp
  | n :: l, c, h => by
    obtain ⟨h1, h2, h3⟩ := h
    have hn := h1 n (by simp)
    have e : addN [] c n = c ++ [n] := by
      unfold addN
      simp only [textS_id hn.1 hn.2.1]
      rw [if_pos]
      refine ⟨hn.2.2, ?_, ?_⟩
      · intro hm
        rw [List.nodup_append] at h2
        exact h2.2.2 n hm n (by simp) rfl
      · rw [List.length_append, List.length_cons] at h3; omega
    rw [List.foldl_cons, e, foldl_same l (c ++ [n]) (by rw [List.append_assoc]; exact ⟨h1, h2, h3⟩), List.append_assoc]; rfl
theorem cleanN_same {c : List Nt} (h : okN c) : cleanN [] c = c := by
  have := foldl_same c [] (by simpa using h)
  simpa [cleanN] using this
theorem dplain_calls {l : List Nt} {ss : List Str} {t k : Tok} (hl : l.length < 9223372036854775808) (hs : ss.length < 9223372036854775808) (H : AH) : ACalls Try.prog 5 [.sl 2 (ntsE l) t, .sl 1 (strsE ss) k] H (fun o H' => o = .ret (.bool true) ∧ H' = H) := by
  refine ACalls.drop ?_
  refine acalls Try.func5 c5 r5 (by simp [Try.ntmps5]) ?_
  cases hg : greatN l ss
  · obtain ⟨s1, s2, s3, s4⟩ : l.length ≤ 30 ∧ (∀ x ∈ l, x.txt.length ≤ 300) ∧ ss.length ≤ 20 ∧ ∀ s ∈ ss, s.length ≤ 100 := by
      simp only [greatN, Bool.or_eq_false_iff, List.any_eq_false, decide_eq_true_eq, decide_eq_false_iff_not] at hg
      exact ⟨by omega, fun x hx => by have := hg.1.1.1 x hx; omega, by omega, fun x hx => by have := hg.1.1.2 x hx; omega⟩
    have dc := fun G => dclean_calls (l := l) (ss := ss) (t := t) (k := k) (by omega) (by omega) (fun x hx => by have := s2 x hx; omega) G
    have hok := cleanN_ok ss l
    generalize cleanN ss l = c at *
    obtain ⟨g1, g2, g3⟩ := hok
    have hsame := cleanN_same ⟨g1, g2, g3⟩
    have dc2 := fun G => ACalls.sub (fun s => .cons (fun _ h => h) (.cons nil_arg .nil)) (dclean_calls (l := c) (ss := []) (t := .no) (k := .no) (by omega) (by simp) (fun x hx => by have := (g1 x hx).2.1; omega) G)
    rw [hsame] at dc2
    repeat' (first | with_reducible refine am_seq ?_ | with_reducible refine am_block ?_ | ((with_reducible apply am_cond); (case hb => rfl); all_goals (intro hc; (try simp only [reduceCtorEq, decide_eq_true_eq, decide_eq_false_iff_not, Bool.or_eq_true, Bool.and_eq_true, Bool.or_eq_false_iff, Bool.not_eq_true', Bool.not_eq_false', beq_iff_eq] at hc); (try (exfalso; omega)))) | ((first | with_reducible refine am_reg ?_ | with_reducible refine am_drw ?_ | with_reducible refine am_skip ?_ | with_reducible refine am_exit ?_ | with_reducible refine am_ret ?_ | with_reducible refine And.intro (by first | exact AH.lec_refl _ | assumption | exact AccP.lec (by assumption) | omega) ?_ | with_reducible refine isnE_of (fun hc => ?_) (fun hc => ?_) (fun hc => ?_) | ((first | with_reducible refine gd_not (fun hc => ?_) (fun hc => ?_) | with_reducible refine gd_of (fun hc => ?_) (fun hc => ?_) | with_reducible refine gq_not (fun hc => ?_) (fun hc => ?_) | with_reducible refine gq_of (fun hc => ?_) (fun hc => ?_) | with_reducible refine pickB_of (fun hc => ?_) (fun hc => ?_)) <;> (try simp -implicitDefEqProofs (disch := omega) only [go_sem, eq_self, decide_true, decide_false, Nat.reduceBEq, Nat.reduceAdd, Nat.reduceSub, Nat.reduceMul, Nat.reduceEqDiff, Nat.reduceLeDiff, Nat.reduceLT, Int.reduceLE, Int.reduceLT, Int.reduceToNat, Int.reduceAdd, Int.reduceEq, Int.reduceNeg, AH.put_ne, hc, wrap_id, hg]) <;> (try simp only [reduceCtorEq, decide_eq_true_eq, decide_eq_false_iff_not, Bool.or_eq_true, Bool.and_eq_true, Bool.or_eq_false_iff, Bool.not_eq_true', Bool.not_eq_false', beq_iff_eq] at hc) <;> (try (exfalso; omega))) | ((with_reducible refine alloc_intro (fun ko hko => ?_)) <;> (try have hne := fresh_ne (by assumption) hko) <;> (try simp only [AH.put_none] at hko)) | ((first | (with_reducible refine vapp_accL (by assumption) ?_ (fun v2 H2 hacc hlec => ?_)) | (with_reducible refine vapp_accL (AccP.mono (by assumption) (AccP.le (by assumption))) ?_ (fun v2 H2 hacc hlec => ?_)) | (with_reducible refine vapp_accL (AccP.new (by assumption) (by assumption) _) ?_ (fun v2 H2 hacc hlec => ?_))); · simp only [byteCells_length, List.length_cons, List.length_nil, List.length_map, List.length_append, strsE_length, ntsE_length]; omega) | with_reducible refine need_elems (by assumption) ?_ | with_reducible refine vlen_acc (by assumption) ?_ | with_reducible refine need_bytes (by assumption) ?_ | (first | with_reducible refine call_of (great_calls hl hs) ?_ | with_reducible refine qcall_of (great_calls hl hs) ?_) | (first | with_reducible refine call_of (awake_calls) ?_ | with_reducible refine qcall_of (awake_calls) ?_) | (first | with_reducible refine call_of (dc) ?_ | with_reducible refine qcall_of (dc) ?_) | with_reducible refine need_look (by assumption) ?_ | with_reducible refine need_look (look_put (by assumption) (by assumption)) ?_ | with_reducible refine need_look (look_lec (by assumption) (by assumption)) ?_ | with_reducible refine need_look (look_put (AH.put_same _ _ _) (by assumption)) ?_ | with_reducible refine need_look (look_lec (AH.put_same _ _ _) (by assumption)) ?_ | with_reducible refine need_look (look_put (look_put (by assumption) (by assumption)) (by assumption)) ?_ | with_reducible refine need_look (look_lec (look_put (by assumption) (by assumption)) (by assumption)) ?_ | with_reducible refine need_look (look_put (look_lec (by assumption) (by assumption)) (by assumption)) ?_ | with_reducible refine need_look (look_lec (look_lec (by assumption) (by assumption)) (by assumption)) ?_ | with_reducible refine need_look (look_put (look_put (AH.put_same _ _ _) (by assumption)) (by assumption)) ?_ | with_reducible refine need_look (look_lec (look_put (AH.put_same _ _ _) (by assumption)) (by assumption)) ?_ | with_reducible refine need_look (look_put (look_lec (AH.put_same _ _ _) (by assumption)) (by assumption)) ?_ | with_reducible refine need_look (look_lec (look_lec (AH.put_same _ _ _) (by assumption)) (by assumption)) ?_) <;> (try simp -implicitDefEqProofs (disch := omega) only [go_sem, eq_self, decide_true, decide_false, Nat.reduceBEq, Nat.reduceAdd, Nat.reduceSub, Nat.reduceMul, Nat.reduceEqDiff, Nat.reduceLeDiff, Nat.reduceLT, Int.reduceLE, Int.reduceLT, Int.reduceToNat, Int.reduceAdd, Int.reduceEq, Int.reduceNeg, AH.put_ne, wrap_id, hg])))
    refine am_loop (fun n a H' => ∃ i : Nat, i + n = c.length ∧ a = [(5, .sl 2 (ntsE c) .no), (6, .int .i64 i)] ∧ H' = H) ?_ c.length ⟨0, by omega, rfl, rfl⟩
    rintro n a H' ⟨i, hi, rfl, rfl⟩
    by_cases hlt : i < c.length
    · obtain ⟨p1, p2, p3⟩ := g1 _ (List.getElem_mem hlt)
      have p2' : ¬ (80 : Int) < (c[i].txt.length : Int) := by omega
      have p3' : ¬ (c[i].txt.length : Int) = 0 := by have := List.length_pos_iff.2 p3; omega
      have tc := fun G => ACalls.sub (fun s => .cons (fun _ h => h) (.cons nil_arg .nil)) (text_calls (t := c[i].txt) (l := []) (k := .no) (by simp) (by omega) G)
      rw [textS_id p1 p2] at tc
      repeat' (first | with_reducible refine am_seq ?_ | with_reducible refine am_block ?_ | ((with_reducible apply am_cond); (case hb => rfl); all_goals (intro hc; (try simp only [reduceCtorEq, decide_eq_true_eq, decide_eq_false_iff_not, Bool.or_eq_true, Bool.and_eq_true, Bool.or_eq_false_iff, Bool.not_eq_true', Bool.not_eq_false', beq_iff_eq] at hc); (try (exfalso; omega)))) | ((first | with_reducible refine am_reg ?_ | with_reducible refine am_drw ?_ | with_reducible refine am_skip ?_ | with_reducible refine am_exit ?_ | with_reducible refine am_ret ?_ | with_reducible refine And.intro (by first | exact AH.lec_refl _ | assumption | exact AccP.lec (by assumption) | omega) ?_ | with_reducible refine isnE_of (fun hc => ?_) (fun hc => ?_) (fun hc => ?_) | ((first | with_reducible refine gd_not (fun hc => ?_) (fun hc => ?_) | with_reducible refine gd_of (fun hc => ?_) (fun hc => ?_) | with_reducible refine gq_not (fun hc => ?_) (fun hc => ?_) | with_reducible refine gq_of (fun hc => ?_) (fun hc => ?_) | with_reducible refine pickB_of (fun hc => ?_) (fun hc => ?_)) <;> (try simp -implicitDefEqProofs (disch := omega) only [go_sem, eq_self, decide_true, decide_false, Nat.reduceBEq, Nat.reduceAdd, Nat.reduceSub, Nat.reduceMul, Nat.reduceEqDiff, Nat.reduceLeDiff, Nat.reduceLT, Int.reduceLE, Int.reduceLT, Int.reduceToNat, Int.reduceAdd, Int.reduceEq, Int.reduceNeg, AH.put_ne, hc, wrap_id, get_of_lt hlt, p2', p3']) <;> (try simp only [reduceCtorEq, decide_eq_true_eq, decide_eq_false_iff_not, Bool.or_eq_true, Bool.and_eq_true, Bool.or_eq_false_iff, Bool.not_eq_true', Bool.not_eq_false', beq_iff_eq] at hc) <;> (try (exfalso; omega))) | ((with_reducible refine alloc_intro (fun ko hko => ?_)) <;> (try have hne := fresh_ne (by assumption) hko) <;> (try simp only [AH.put_none] at hko)) | ((first | (with_reducible refine vapp_accL (by assumption) ?_ (fun v2 H2 hacc hlec => ?_)) | (with_reducible refine vapp_accL (AccP.mono (by assumption) (AccP.le (by assumption))) ?_ (fun v2 H2 hacc hlec => ?_)) | (with_reducible refine vapp_accL (AccP.new (by assumption) (by assumption) _) ?_ (fun v2 H2 hacc hlec => ?_))); · simp only [byteCells_length, List.length_cons, List.length_nil, List.length_map, List.length_append, strsE_length, ntsE_length]; omega) | with_reducible refine need_elems (by assumption) ?_ | with_reducible refine vlen_acc (by assumption) ?_ | with_reducible refine need_bytes (by assumption) ?_ | (first | with_reducible refine call_of (tc) ?_ | with_reducible refine qcall_of (tc) ?_) | with_reducible refine need_look (by assumption) ?_ | with_reducible refine need_look (look_put (by assumption) (by assumption)) ?_ | with_reducible refine need_look (look_lec (by assumption) (by assumption)) ?_ | with_reducible refine need_look (look_put (AH.put_same _ _ _) (by assumption)) ?_ | with_reducible refine need_look (look_lec (AH.put_same _ _ _) (by assumption)) ?_ | with_reducible refine need_look (look_put (look_put (by assumption) (by assumption)) (by assumption)) ?_ | with_reducible refine need_look (look_lec (look_put (by assumption) (by assumption)) (by assumption)) ?_ | with_reducible refine need_look (look_put (look_lec (by assumption) (by assumption)) (by assumption)) ?_ | with_reducible refine need_look (look_lec (look_lec (by assumption) (by assumption)) (by assumption)) ?_ | with_reducible refine need_look (look_put (look_put (AH.put_same _ _ _) (by assumption)) (by assumption)) ?_ | with_reducible refine need_look (look_lec (look_put (AH.put_same _ _ _) (by assumption)) (by assumption)) ?_ | with_reducible refine need_look (look_put (look_lec (AH.put_same _ _ _) (by assumption)) (by assumption)) ?_ | with_reducible refine need_look (look_lec (look_lec (AH.put_same _ _ _) (by assumption)) (by assumption)) ?_) <;> (try simp -implicitDefEqProofs (disch := omega) only [go_sem, eq_self, decide_true, decide_false, Nat.reduceBEq, Nat.reduceAdd, Nat.reduceSub, Nat.reduceMul, Nat.reduceEqDiff, Nat.reduceLeDiff, Nat.reduceLT, Int.reduceLE, Int.reduceLT, Int.reduceToNat, Int.reduceAdd, Int.reduceEq, Int.reduceNeg, AH.put_ne, wrap_id, get_of_lt hlt, p2', p3'])))
      refine am_loop (fun n2 a H2 => ∃ j : Nat, j + n2 = c[i].txt.length ∧ a = [(5, .sl 2 (ntsE c) .no), (6, .int .i64 i), (7, .int .i64 j)] ∧ H2 = H') ?_ c[i].txt.length ⟨0, by omega, rfl, rfl⟩
      rintro n2 a H2 ⟨j, hj, rfl, rfl⟩
      by_cases hlt2 : j < c[i].txt.length
      · obtain ⟨q1, q2⟩ := p1 _ (List.getElem_mem hlt2)
        have q1' : ¬ ((c[i].txt[j].toNat : Nat) : Int) < 32 := by omega
        have q2' : ¬ 126 < ((c[i].txt[j].toNat : Nat) : Int) := by omega
        repeat' (first | with_reducible refine am_seq ?_ | with_reducible refine am_block ?_ | ((with_reducible apply am_cond); (case hb => rfl); all_goals (intro hc; (try simp only [reduceCtorEq, decide_eq_true_eq, decide_eq_false_iff_not, Bool.or_eq_true, Bool.and_eq_true, Bool.or_eq_false_iff, Bool.not_eq_true', Bool.not_eq_false', beq_iff_eq] at hc); (try (exfalso; omega)))) | ((first | with_reducible refine am_reg ?_ | with_reducible refine am_drw ?_ | with_reducible refine am_skip ?_ | with_reducible refine am_exit ?_ | with_reducible refine am_ret ?_ | with_reducible refine And.intro (by first | exact AH.lec_refl _ | assumption | exact AccP.lec (by assumption) | omega) ?_ | with_reducible refine isnE_of (fun hc => ?_) (fun hc => ?_) (fun hc => ?_) | ((first | with_reducible refine gd_not (fun hc => ?_) (fun hc => ?_) | with_reducible refine gd_of (fun hc => ?_) (fun hc => ?_) | with_reducible refine gq_not (fun hc => ?_) (fun hc => ?_) | with_reducible refine gq_of (fun hc => ?_) (fun hc => ?_) | with_reducible refine pickB_of (fun hc => ?_) (fun hc => ?_)) <;> (try simp -implicitDefEqProofs (disch := omega) only [go_sem, eq_self, decide_true, decide_false, Nat.reduceBEq, Nat.reduceAdd, Nat.reduceSub, Nat.reduceMul, Nat.reduceEqDiff, Nat.reduceLeDiff, Nat.reduceLT, Int.reduceLE, Int.reduceLT, Int.reduceToNat, Int.reduceAdd, Int.reduceEq, Int.reduceNeg, AH.put_ne, hc, wrap_id, get_of_lt hlt, get_of_lt hlt2, q1', q2']) <;> (try simp only [reduceCtorEq, decide_eq_true_eq, decide_eq_false_iff_not, Bool.or_eq_true, Bool.and_eq_true, Bool.or_eq_false_iff, Bool.not_eq_true', Bool.not_eq_false', beq_iff_eq] at hc) <;> (try (exfalso; omega))) | ((with_reducible refine alloc_intro (fun ko hko => ?_)) <;> (try have hne := fresh_ne (by assumption) hko) <;> (try simp only [AH.put_none] at hko)) | ((first | (with_reducible refine vapp_accL (by assumption) ?_ (fun v2 H2 hacc hlec => ?_)) | (with_reducible refine vapp_accL (AccP.mono (by assumption) (AccP.le (by assumption))) ?_ (fun v2 H2 hacc hlec => ?_)) | (with_reducible refine vapp_accL (AccP.new (by assumption) (by assumption) _) ?_ (fun v2 H2 hacc hlec => ?_))); · simp only [byteCells_length, List.length_cons, List.length_nil, List.length_map, List.length_append, strsE_length, ntsE_length]; omega) | with_reducible refine need_elems (by assumption) ?_ | with_reducible refine vlen_acc (by assumption) ?_ | with_reducible refine need_bytes (by assumption) ?_ | with_reducible refine need_look (by assumption) ?_ | with_reducible refine need_look (look_put (by assumption) (by assumption)) ?_ | with_reducible refine need_look (look_lec (by assumption) (by assumption)) ?_ | with_reducible refine need_look (look_put (AH.put_same _ _ _) (by assumption)) ?_ | with_reducible refine need_look (look_lec (AH.put_same _ _ _) (by assumption)) ?_ | with_reducible refine need_look (look_put (look_put (by assumption) (by assumption)) (by assumption)) ?_ | with_reducible refine need_look (look_lec (look_put (by assumption) (by assumption)) (by assumption)) ?_ | with_reducible refine need_look (look_put (look_lec (by assumption) (by assumption)) (by assumption)) ?_ | with_reducible refine need_look (look_lec (look_lec (by assumption) (by assumption)) (by assumption)) ?_ | with_reducible refine need_look (look_put (look_put (AH.put_same _ _ _) (by assumption)) (by assumption)) ?_ | with_reducible refine need_look (look_lec (look_put (AH.put_same _ _ _) (by assumption)) (by assumption)) ?_ | with_reducible refine need_look (look_put (look_lec (AH.put_same _ _ _) (by assumption)) (by assumption)) ?_ | with_reducible refine need_look (look_lec (look_lec (AH.put_same _ _ _) (by assumption)) (by assumption)) ?_) <;> (try simp -implicitDefEqProofs (disch := omega) only [go_sem, eq_self, decide_true, decide_false, Nat.reduceBEq, Nat.reduceAdd, Nat.reduceSub, Nat.reduceMul, Nat.reduceEqDiff, Nat.reduceLeDiff, Nat.reduceLT, Int.reduceLE, Int.reduceLT, Int.reduceToNat, Int.reduceAdd, Int.reduceEq, Int.reduceNeg, AH.put_ne, wrap_id, get_of_lt hlt, get_of_lt hlt2, q1', q2'])))
        all_goals exact ⟨n2 - 1, by omega, j + 1, by omega, rfl⟩
      · repeat' (first | with_reducible refine am_seq ?_ | with_reducible refine am_block ?_ | ((with_reducible apply am_cond); (case hb => rfl); all_goals (intro hc; (try simp only [reduceCtorEq, decide_eq_true_eq, decide_eq_false_iff_not, Bool.or_eq_true, Bool.and_eq_true, Bool.or_eq_false_iff, Bool.not_eq_true', Bool.not_eq_false', beq_iff_eq] at hc); (try (exfalso; omega)))) | ((first | with_reducible refine am_reg ?_ | with_reducible refine am_drw ?_ | with_reducible refine am_skip ?_ | with_reducible refine am_exit ?_ | with_reducible refine am_ret ?_ | with_reducible refine And.intro (by first | exact AH.lec_refl _ | assumption | exact AccP.lec (by assumption) | omega) ?_ | with_reducible refine isnE_of (fun hc => ?_) (fun hc => ?_) (fun hc => ?_) | ((first | with_reducible refine gd_not (fun hc => ?_) (fun hc => ?_) | with_reducible refine gd_of (fun hc => ?_) (fun hc => ?_) | with_reducible refine gq_not (fun hc => ?_) (fun hc => ?_) | with_reducible refine gq_of (fun hc => ?_) (fun hc => ?_) | with_reducible refine pickB_of (fun hc => ?_) (fun hc => ?_)) <;> (try simp -implicitDefEqProofs (disch := omega) only [go_sem, eq_self, decide_true, decide_false, Nat.reduceBEq, Nat.reduceAdd, Nat.reduceSub, Nat.reduceMul, Nat.reduceEqDiff, Nat.reduceLeDiff, Nat.reduceLT, Int.reduceLE, Int.reduceLT, Int.reduceToNat, Int.reduceAdd, Int.reduceEq, Int.reduceNeg, AH.put_ne, hc, wrap_id, get_of_lt hlt]) <;> (try simp only [reduceCtorEq, decide_eq_true_eq, decide_eq_false_iff_not, Bool.or_eq_true, Bool.and_eq_true, Bool.or_eq_false_iff, Bool.not_eq_true', Bool.not_eq_false', beq_iff_eq] at hc) <;> (try (exfalso; omega))) | ((with_reducible refine alloc_intro (fun ko hko => ?_)) <;> (try have hne := fresh_ne (by assumption) hko) <;> (try simp only [AH.put_none] at hko)) | ((first | (with_reducible refine vapp_accL (by assumption) ?_ (fun v2 H2 hacc hlec => ?_)) | (with_reducible refine vapp_accL (AccP.mono (by assumption) (AccP.le (by assumption))) ?_ (fun v2 H2 hacc hlec => ?_)) | (with_reducible refine vapp_accL (AccP.new (by assumption) (by assumption) _) ?_ (fun v2 H2 hacc hlec => ?_))); · simp only [byteCells_length, List.length_cons, List.length_nil, List.length_map, List.length_append, strsE_length, ntsE_length]; omega) | with_reducible refine need_elems (by assumption) ?_ | with_reducible refine vlen_acc (by assumption) ?_ | with_reducible refine need_bytes (by assumption) ?_ | with_reducible refine need_look (by assumption) ?_ | with_reducible refine need_look (look_put (by assumption) (by assumption)) ?_ | with_reducible refine need_look (look_lec (by assumption) (by assumption)) ?_ | with_reducible refine need_look (look_put (AH.put_same _ _ _) (by assumption)) ?_ | with_reducible refine need_look (look_lec (AH.put_same _ _ _) (by assumption)) ?_ | with_reducible refine need_look (look_put (look_put (by assumption) (by assumption)) (by assumption)) ?_ | with_reducible refine need_look (look_lec (look_put (by assumption) (by assumption)) (by assumption)) ?_ | with_reducible refine need_look (look_put (look_lec (by assumption) (by assumption)) (by assumption)) ?_ | with_reducible refine need_look (look_lec (look_lec (by assumption) (by assumption)) (by assumption)) ?_ | with_reducible refine need_look (look_put (look_put (AH.put_same _ _ _) (by assumption)) (by assumption)) ?_ | with_reducible refine need_look (look_lec (look_put (AH.put_same _ _ _) (by assumption)) (by assumption)) ?_ | with_reducible refine need_look (look_put (look_lec (AH.put_same _ _ _) (by assumption)) (by assumption)) ?_ | with_reducible refine need_look (look_lec (look_lec (AH.put_same _ _ _) (by assumption)) (by assumption)) ?_) <;> (try simp -implicitDefEqProofs (disch := omega) only [go_sem, eq_self, decide_true, decide_false, Nat.reduceBEq, Nat.reduceAdd, Nat.reduceSub, Nat.reduceMul, Nat.reduceEqDiff, Nat.reduceLeDiff, Nat.reduceLT, Int.reduceLE, Int.reduceLT, Int.reduceToNat, Int.reduceAdd, Int.reduceEq, Int.reduceNeg, AH.put_ne, wrap_id, get_of_lt hlt])))
        all_goals exact ⟨n - 1, by omega, i + 1, by omega, rfl⟩
    · have g3' : (c.length : Int) ≤ 8 := by omega
      repeat' (first | with_reducible refine am_seq ?_ | with_reducible refine am_block ?_ | ((with_reducible apply am_cond); (case hb => rfl); all_goals (intro hc; (try simp only [reduceCtorEq, decide_eq_true_eq, decide_eq_false_iff_not, Bool.or_eq_true, Bool.and_eq_true, Bool.or_eq_false_iff, Bool.not_eq_true', Bool.not_eq_false', beq_iff_eq] at hc); (try (exfalso; omega)))) | ((first | with_reducible refine am_reg ?_ | with_reducible refine am_drw ?_ | with_reducible refine am_skip ?_ | with_reducible refine am_exit ?_ | with_reducible refine am_ret ?_ | with_reducible refine And.intro (by first | exact AH.lec_refl _ | assumption | exact AccP.lec (by assumption) | omega) ?_ | with_reducible refine isnE_of (fun hc => ?_) (fun hc => ?_) (fun hc => ?_) | ((first | with_reducible refine gd_not (fun hc => ?_) (fun hc => ?_) | with_reducible refine gd_of (fun hc => ?_) (fun hc => ?_) | with_reducible refine gq_not (fun hc => ?_) (fun hc => ?_) | with_reducible refine gq_of (fun hc => ?_) (fun hc => ?_) | with_reducible refine pickB_of (fun hc => ?_) (fun hc => ?_)) <;> (try simp -implicitDefEqProofs (disch := omega) only [go_sem, eq_self, decide_true, decide_false, Nat.reduceBEq, Nat.reduceAdd, Nat.reduceSub, Nat.reduceMul, Nat.reduceEqDiff, Nat.reduceLeDiff, Nat.reduceLT, Int.reduceLE, Int.reduceLT, Int.reduceToNat, Int.reduceAdd, Int.reduceEq, Int.reduceNeg, AH.put_ne, hc, wrap_id, g3']) <;> (try simp only [reduceCtorEq, decide_eq_true_eq, decide_eq_false_iff_not, Bool.or_eq_true, Bool.and_eq_true, Bool.or_eq_false_iff, Bool.not_eq_true', Bool.not_eq_false', beq_iff_eq] at hc) <;> (try (exfalso; omega))) | ((with_reducible refine alloc_intro (fun ko hko => ?_)) <;> (try have hne := fresh_ne (by assumption) hko) <;> (try simp only [AH.put_none] at hko)) | ((first | (with_reducible refine vapp_accL (by assumption) ?_ (fun v2 H2 hacc hlec => ?_)) | (with_reducible refine vapp_accL (AccP.mono (by assumption) (AccP.le (by assumption))) ?_ (fun v2 H2 hacc hlec => ?_)) | (with_reducible refine vapp_accL (AccP.new (by assumption) (by assumption) _) ?_ (fun v2 H2 hacc hlec => ?_))); · simp only [byteCells_length, List.length_cons, List.length_nil, List.length_map, List.length_append, strsE_length, ntsE_length]; omega) | with_reducible refine need_elems (by assumption) ?_ | with_reducible refine vlen_acc (by assumption) ?_ | with_reducible refine need_bytes (by assumption) ?_ | (first | with_reducible refine call_of (dc2) ?_ | with_reducible refine qcall_of (dc2) ?_) | with_reducible refine need_look (by assumption) ?_ | with_reducible refine need_look (look_put (by assumption) (by assumption)) ?_ | with_reducible refine need_look (look_lec (by assumption) (by assumption)) ?_ | with_reducible refine need_look (look_put (AH.put_same _ _ _) (by assumption)) ?_ | with_reducible refine need_look (look_lec (AH.put_same _ _ _) (by assumption)) ?_ | with_reducible refine need_look (look_put (look_put (by assumption) (by assumption)) (by assumption)) ?_ | with_reducible refine need_look (look_lec (look_put (by assumption) (by assumption)) (by assumption)) ?_ | with_reducible refine need_look (look_put (look_lec (by assumption) (by assumption)) (by assumption)) ?_ | with_reducible refine need_look (look_lec (look_lec (by assumption) (by assumption)) (by assumption)) ?_ | with_reducible refine need_look (look_put (look_put (AH.put_same _ _ _) (by assumption)) (by assumption)) ?_ | with_reducible refine need_look (look_lec (look_put (AH.put_same _ _ _) (by assumption)) (by assumption)) ?_ | with_reducible refine need_look (look_put (look_lec (AH.put_same _ _ _) (by assumption)) (by assumption)) ?_ | with_reducible refine need_look (look_lec (look_lec (AH.put_same _ _ _) (by assumption)) (by assumption)) ?_) <;> (try simp -implicitDefEqProofs (disch := omega) only [go_sem, eq_self, decide_true, decide_false, Nat.reduceBEq, Nat.reduceAdd, Nat.reduceSub, Nat.reduceMul, Nat.reduceEqDiff, Nat.reduceLeDiff, Nat.reduceLT, Int.reduceLE, Int.reduceLT, Int.reduceToNat, Int.reduceAdd, Int.reduceEq, Int.reduceNeg, AH.put_ne, wrap_id, g3'])))
      all_goals exact end_same
  · repeat' (first | with_reducible refine am_seq ?_ | with_reducible refine am_block ?_ | ((with_reducible apply am_cond); (case hb => rfl); all_goals (intro hc; (try simp only [reduceCtorEq, decide_eq_true_eq, decide_eq_false_iff_not, Bool.or_eq_true, Bool.and_eq_true, Bool.or_eq_false_iff, Bool.not_eq_true', Bool.not_eq_false', beq_iff_eq] at hc); (try (exfalso; omega)))) | ((first | with_reducible refine am_reg ?_ | with_reducible refine am_drw ?_ | with_reducible refine am_skip ?_ | with_reducible refine am_exit ?_ | with_reducible refine am_ret ?_ | with_reducible refine And.intro (by first | exact AH.lec_refl _ | assumption | exact AccP.lec (by assumption) | omega) ?_ | with_reducible refine isnE_of (fun hc => ?_) (fun hc => ?_) (fun hc => ?_) | ((first | with_reducible refine gd_not (fun hc => ?_) (fun hc => ?_) | with_reducible refine gd_of (fun hc => ?_) (fun hc => ?_) | with_reducible refine gq_not (fun hc => ?_) (fun hc => ?_) | with_reducible refine gq_of (fun hc => ?_) (fun hc => ?_) | with_reducible refine pickB_of (fun hc => ?_) (fun hc => ?_)) <;> (try simp -implicitDefEqProofs (disch := omega) only [go_sem, eq_self, decide_true, decide_false, Nat.reduceBEq, Nat.reduceAdd, Nat.reduceSub, Nat.reduceMul, Nat.reduceEqDiff, Nat.reduceLeDiff, Nat.reduceLT, Int.reduceLE, Int.reduceLT, Int.reduceToNat, Int.reduceAdd, Int.reduceEq, Int.reduceNeg, AH.put_ne, hc, wrap_id, hg]) <;> (try simp only [reduceCtorEq, decide_eq_true_eq, decide_eq_false_iff_not, Bool.or_eq_true, Bool.and_eq_true, Bool.or_eq_false_iff, Bool.not_eq_true', Bool.not_eq_false', beq_iff_eq] at hc) <;> (try (exfalso; omega))) | ((with_reducible refine alloc_intro (fun ko hko => ?_)) <;> (try have hne := fresh_ne (by assumption) hko) <;> (try simp only [AH.put_none] at hko)) | ((first | (with_reducible refine vapp_accL (by assumption) ?_ (fun v2 H2 hacc hlec => ?_)) | (with_reducible refine vapp_accL (AccP.mono (by assumption) (AccP.le (by assumption))) ?_ (fun v2 H2 hacc hlec => ?_)) | (with_reducible refine vapp_accL (AccP.new (by assumption) (by assumption) _) ?_ (fun v2 H2 hacc hlec => ?_))); · simp only [byteCells_length, List.length_cons, List.length_nil, List.length_map, List.length_append, strsE_length, ntsE_length]; omega) | with_reducible refine need_elems (by assumption) ?_ | with_reducible refine vlen_acc (by assumption) ?_ | with_reducible refine need_bytes (by assumption) ?_ | (first | with_reducible refine call_of (great_calls hl hs) ?_ | with_reducible refine qcall_of (great_calls hl hs) ?_) | (first | with_reducible refine call_of (awake_calls) ?_ | with_reducible refine qcall_of (awake_calls) ?_) | with_reducible refine need_look (by assumption) ?_ | with_reducible refine need_look (look_put (by assumption) (by assumption)) ?_ | with_reducible refine need_look (look_lec (by assumption) (by assumption)) ?_ | with_reducible refine need_look (look_put (AH.put_same _ _ _) (by assumption)) ?_ | with_reducible refine need_look (look_lec (AH.put_same _ _ _) (by assumption)) ?_ | with_reducible refine need_look (look_put (look_put (by assumption) (by assumption)) (by assumption)) ?_ | with_reducible refine need_look (look_lec (look_put (by assumption) (by assumption)) (by assumption)) ?_ | with_reducible refine need_look (look_put (look_lec (by assumption) (by assumption)) (by assumption)) ?_ | with_reducible refine need_look (look_lec (look_lec (by assumption) (by assumption)) (by assumption)) ?_ | with_reducible refine need_look (look_put (look_put (AH.put_same _ _ _) (by assumption)) (by assumption)) ?_ | with_reducible refine need_look (look_lec (look_put (AH.put_same _ _ _) (by assumption)) (by assumption)) ?_ | with_reducible refine need_look (look_put (look_lec (AH.put_same _ _ _) (by assumption)) (by assumption)) ?_ | with_reducible refine need_look (look_lec (look_lec (AH.put_same _ _ _) (by assumption)) (by assumption)) ?_) <;> (try simp -implicitDefEqProofs (disch := omega) only [go_sem, eq_self, decide_true, decide_false, Nat.reduceBEq, Nat.reduceAdd, Nat.reduceSub, Nat.reduceMul, Nat.reduceEqDiff, Nat.reduceLeDiff, Nat.reduceLT, Int.reduceLE, Int.reduceLT, Int.reduceToNat, Int.reduceAdd, Int.reduceEq, Int.reduceNeg, AH.put_ne, wrap_id, hg])))
    all_goals exact end_same
end Go.Proofs.Ytjlphncecdlmcaa
