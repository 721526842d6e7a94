/- Of the walks of this seat: contracts of functions of the given program, proved over the abstract values of the texts Vm. Conditions: as each theorem says. -/
import Derived.Test.YtmomncmddejcoaaH1
set_option linter.unusedVariables false
set_option linter.unusedSimpArgs false
namespace Go.Proofs.Ytmomncmddejcoaa
open Go.Vm
attribute [local go_sem] strsE_get strsE_length intsE_get intsE_length byteCells_get byteCells_length byteCells_take byteCells_drop bytes_cells fldC fldsE_get fldsE_length blobsE_get blobsE_length u64sE_length u64sE_get List.drop_zero bytesOf_cells toNat_succ Nat.sub_zero Int.toNat_natCast Option.map_some Int.natCast_nonneg decide_eq_true_eq decide_eq_false_iff_not
/- flange/hello.Decode -/
abbrev k35_0 : MC :=
  .cond (.t 25) ((.seq (.reg [
     ⟨(some 26), none, .build [.nilSl, .nilSl] []⟩,
     ⟨none, none, .store 2 (.t 2) (.t 26)⟩,
     ⟨(some 3), none, .val (.mv (.c (.int .i64 4)))⟩] [2, 3]) .ret)) (.skip)

abbrev k35_1 : MC :=
  .reg [
    ⟨(some 44), none, .val (.faddr 0 (.t 7))⟩,
    ⟨(some 45), none, .val (.load false 1 (.t 44))⟩,
    ⟨(some 46), none, .val (.mv (.t 14))⟩,
    ⟨(some 47), none, .val (.mx false (.t 46) (.c (.int .u64 1001)))⟩,
    ⟨(some 48), none, .val (.i2i .i64 (.t 47))⟩,
    ⟨(some 49), none, .bslice 1 1 [(.int .i64 0)] [(0, 1, (.t 48))]⟩,
    ⟨(some 50), none, .app 1 8 (.t 45) (.t 49)⟩,
    ⟨(some 51), none, .val (.faddr 0 (.t 7))⟩,
    ⟨none, none, .store 1 (.t 51) (.t 50)⟩] [0, 2, 4, 7, 38, 39, 40]

abbrev k35_2 : MC :=
  .reg [
    ⟨(some 52), none, .val (.bin .add .num (.t 40) (.c (.int .i64 1)))⟩,
    ⟨(some 40), none, .val (.mv (.t 52))⟩] [0, 2, 4, 7, 38, 39, 40]

abbrev k35_3 : MC :=
  (.seq (.block 1 ((.seq (.reg [
     ⟨(some 42), none, .val (.iaddr 1 (.t 38) (.t 40))⟩,
     ⟨(some 43), none, .val (.load false 1 (.t 42))⟩,
     ⟨(some 14), none, .val (.mv (.t 43))⟩] [0, 2, 4, 7, 14, 38, 39, 40]) k35_1))) k35_2)

abbrev k35_4 : MC :=
  (.seq (.cond (.t 41) (.skip) (.exit 0)) k35_3)

abbrev k35_5 : MC :=
  (.seq (.reg [
    ⟨(some 41), none, .val (.bin .lss .num (.t 40) (.t 39))⟩] [0, 2, 4, 7, 38, 39, 40, 41]) k35_4)

abbrev k35_6 : MC :=
  .block 0 (.loop k35_5)

abbrev k35_7 : MC :=
  .reg [
    ⟨(some 60), none, .val (.faddr 1 (.t 7))⟩,
    ⟨(some 61), none, .val (.load false 1 (.t 60))⟩,
    ⟨(some 62), none, .val (.mv (.t 16))⟩,
    ⟨(some 63), none, .val (.b2s (.t 62))⟩,
    ⟨(some 64), none, .bslice 1 1 [(.str [])] [(0, 1, (.t 63))]⟩,
    ⟨(some 65), none, .app 1 16 (.t 61) (.t 64)⟩,
    ⟨(some 66), none, .val (.faddr 1 (.t 7))⟩,
    ⟨none, none, .store 1 (.t 66) (.t 65)⟩] [0, 2, 7, 54, 55, 56]

abbrev k35_8 : MC :=
  .reg [
    ⟨(some 67), none, .val (.bin .add .num (.t 56) (.c (.int .i64 1)))⟩,
    ⟨(some 56), none, .val (.mv (.t 67))⟩] [0, 2, 7, 54, 55, 56]

abbrev k35_9 : MC :=
  (.seq (.block 3 ((.seq (.reg [
     ⟨(some 58), none, .val (.iaddr 1 (.t 54) (.t 56))⟩,
     ⟨(some 59), none, .val (.load false 1 (.t 58))⟩,
     ⟨(some 16), none, .val (.mv (.t 59))⟩] [0, 2, 7, 16, 54, 55, 56]) k35_7))) k35_8)

abbrev k35_10 : MC :=
  (.seq (.cond (.t 57) (.skip) (.exit 2)) k35_9)

abbrev k35_11 : MC :=
  (.seq (.reg [
    ⟨(some 57), none, .val (.bin .lss .num (.t 56) (.t 55))⟩] [0, 2, 7, 54, 55, 56, 57]) k35_10)

abbrev k35_12 : MC :=
  .block 2 (.loop k35_11)

abbrev k35_13 : MC :=
  .cond (.t 81) ((.seq (.reg [
     ⟨(some 82), none, .build [.nilSl, .nilSl] []⟩,
     ⟨none, none, .store 2 (.t 2) (.t 82)⟩,
     ⟨(some 3), none, .val (.mv (.c (.int .i64 4)))⟩] [2, 3]) .ret)) (.skip)

abbrev k35_14 : MC :=
  (.seq (.reg [
    ⟨(some 83), none, .val (.load true 2 (.t 7))⟩,
    ⟨none, none, .store 2 (.t 2) (.t 83)⟩,
    ⟨(some 3), none, .val (.mv (.c (.int .i64 0)))⟩] [2, 3]) .ret)

abbrev k35_15 : MC :=
  (.seq ((.seq (.reg [
    ⟨(some 73), none, .val (.mv (.t 6))⟩,
    ⟨(some 74), none, .val (.bin .neq .num (.t 73) (.c (.int .i64 0)))⟩,
    ⟨(some 75), none, .val (.mv (.t 74))⟩,
    ⟨(some 76), (some (75, false)), .val (.mv (.t 17))⟩,
    ⟨(some 77), (some (75, false)), .val (.b2s (.t 76))⟩,
    ⟨(some 78), (some (75, false)), .val (.mv (.t 0))⟩,
    ⟨(some 79), (some (75, false)), .val (.b2s (.t 78))⟩,
    ⟨(some 80), (some (75, false)), .val (.bin .neq .num (.t 77) (.t 79))⟩,
    ⟨(some 81), none, .val (.pick (.t 75) (.c (.bool true)) (.t 80))⟩] [2, 7, 81]) k35_13)) k35_14)

abbrev k35_16 : MC :=
  (.seq (.reg [
    ⟨(some 69), none, .val (.load true 2 (.t 7))⟩,
    ⟨(some 70), none, .call 33 [(.t 69)]⟩,
    ⟨(some 68), none, .val (.mv (.t 70))⟩,
    ⟨(some 71), none, .val (.ext (.t 68) 0)⟩,
    ⟨(some 72), none, .val (.ext (.t 68) 1)⟩,
    ⟨(some 17), none, .val (.mv (.t 71))⟩,
    ⟨(some 6), none, .val (.mv (.t 72))⟩] [0, 2, 6, 7, 17]) k35_15)

abbrev k35_17 : MC :=
  (.seq ((.seq (.reg [
    ⟨(some 53), none, .val (.mv (.t 4))⟩,
    ⟨(some 54), none, .call 31 [(.t 53), (.c (.int .i64 3))]⟩,
    ⟨(some 55), none, .val (.len .sl (.t 54))⟩,
    ⟨(some 56), none, .val (.mv (.c (.int .i64 0)))⟩] [0, 2, 7, 54, 55, 56]) k35_12)) k35_16)

abbrev k35_18 : MC :=
  (.seq ((.seq (.reg [
    ⟨(some 38), none, .val (.mv (.t 10))⟩,
    ⟨(some 39), none, .val (.len .sl (.t 38))⟩,
    ⟨(some 40), none, .val (.mv (.c (.int .i64 0)))⟩] [0, 2, 4, 7, 38, 39, 40]) k35_6)) k35_17)

abbrev k35_19 : MC :=
  (.seq (.reg [
    ⟨(some 33), none, .val (.mv (.t 8))⟩,
    ⟨(some 34), none, .call 61 [(.t 33)]⟩,
    ⟨(some 32), none, .val (.mv (.t 34))⟩,
    ⟨(some 35), none, .val (.ext (.t 32) 0)⟩,
    ⟨(some 36), none, .val (.ext (.t 32) 1)⟩,
    ⟨(some 37), none, .val (.ext (.t 32) 2)⟩,
    ⟨(some 10), none, .val (.mv (.t 35))⟩,
    ⟨(some 11), none, .val (.mv (.t 36))⟩,
    ⟨(some 12), none, .val (.mv (.t 37))⟩] [0, 2, 4, 7, 10]) k35_18)

abbrev k35_20 : MC :=
  (.seq (.reg [
    ⟨(some 28), none, .val (.mv (.t 4))⟩,
    ⟨(some 29), none, .call 30 [(.t 28), (.c (.int .i64 2))]⟩,
    ⟨(some 27), none, .val (.mv (.t 29))⟩,
    ⟨(some 30), none, .val (.ext (.t 27) 0)⟩,
    ⟨(some 31), none, .val (.ext (.t 27) 1)⟩,
    ⟨(some 8), none, .val (.mv (.t 30))⟩,
    ⟨(some 9), none, .val (.mv (.t 31))⟩] [0, 2, 4, 7, 8]) k35_19)

abbrev k35_21 : MC :=
  (.seq (.reg [
    ⟨(some 7), none, .zalloc [.nilSl, .nilSl]⟩] [0, 2, 4, 7]) k35_20)

abbrev k35_22 : MC :=
  (.seq ((.seq (.reg [
    ⟨(some 24), none, .val (.mv (.t 6))⟩,
    ⟨(some 25), none, .val (.bin .neq .num (.t 24) (.c (.int .i64 0)))⟩] [0, 2, 4, 25]) k35_0)) k35_21)

abbrev k35_23 : MC :=
  (.seq (.reg [
    ⟨(some 19), none, .val (.mv (.t 0))⟩,
    ⟨(some 20), none, .call 24 [(.t 19)]⟩,
    ⟨(some 18), none, .val (.mv (.t 20))⟩,
    ⟨(some 21), none, .val (.ext (.t 18) 0)⟩,
    ⟨(some 22), none, .val (.ext (.t 18) 1)⟩,
    ⟨(some 23), none, .val (.ext (.t 18) 2)⟩,
    ⟨(some 4), none, .val (.mv (.t 21))⟩,
    ⟨(some 5), none, .val (.mv (.t 22))⟩,
    ⟨(some 6), none, .val (.mv (.t 23))⟩] [0, 2, 4, 6]) k35_22)
abbrev k35 : MC :=
  (.seq (.reg [
    ⟨(some 2), none, .zalloc [.nilSl, .nilSl]⟩,
    ⟨(some 3), none, .val (.mv (.c (.int .i64 0)))⟩] [0, 2]) k35_23)
theorem c35 : Try.f35.body.bind (mcOf Try.prog (List.contains [] ·) (List.getD [([], [0, 2]), ([], [0, 2, 4, 6]), ([], [0, 2, 4, 25]), ([], [2, 3]), ([], [0, 2, 4, 7]), ([], [0, 2, 4, 7, 8]), ([], [0, 2, 4, 7, 10]), ([], [0, 2, 4, 7, 38, 39, 40]), ([], [0, 2, 4, 7, 38, 39, 40, 41]), ([], [0, 2, 4, 7, 14, 38, 39, 40]), ([], [0, 2, 4, 7, 38, 39, 40]), ([], [0, 2, 4, 7, 38, 39, 40]), ([], [0, 2, 7, 54, 55, 56]), ([], [0, 2, 7, 54, 55, 56, 57]), ([], [0, 2, 7, 16, 54, 55, 56]), ([], [0, 2, 7, 54, 55, 56]), ([], [0, 2, 7, 54, 55, 56]), ([], [0, 2, 6, 7, 17]), ([], [2, 7, 81]), ([], [2, 3]), ([], [2, 3])] · ([], [])) 84) = some k35 := by kernel_rfl
theorem r35 : rvsOf Try.prog Try.f35.results.toList = some [.cell 2 true 2, .tmp 3] := by kernel_rfl

def rawV (b : List UInt8) : List Int := (allS (blobT (decS b).1 2)).1.map fun n => ((min n 1001 : Nat) : Int)
def rawS (b : List UInt8) : List (List UInt8) := manyT (decS b).1 3
def decH (b : List UInt8) : List Int × List (List UInt8) × Int :=
  if (decS b).2.2 ≠ 0 then ([], [], 4) else if (encH (rawV b) (rawS b)).2 ≠ 0 ∨ (encH (rawV b) (rawS b)).1 ≠ b then ([], [], 4) else (rawV b, rawS b, 0)
theorem hdecode_calls {b : List UInt8} {t : Tok} (hb : b.length < 10000) (H : AH) :
    ACalls Try.prog 35 [.sl 1 (byteCells b) t] H (fun o H' => o = .ret (.tuple [.agg [.sl 1 (intsE (decH b).1) .no, .sl 1 (strsE (decH b).2.1) .no], .int .i64 (decH b).2.2]) ∧ H' = H) := by
  refine ACalls.drop ?_
  refine acalls Try.func35 c35 r35 (by simp [Try.ntmps35]) ?_
  have dc := fun H => decode_calls (b := b) (t := t) (by omega) H
  by_cases hz : (decS b).2.2 = 0
  · obtain ⟨g1, g2, g3, g4⟩ := enc_dec hz
    have bc := fun H => mbytes_calls (l := (decS b).1) (t := .no) (tag := 2) (by omega) (fun f hf => by have := (g4 f hf).2; omega) H
    have mc := fun H => many_calls (l := (decS b).1) (t := .no) (tag := 3) (by omega) (fun f hf => by have := (g4 f hf).2; omega) H
    have hbl : (blobT (decS b).1 2).length < 10000 := by
      unfold blobT
      split
      · simp
      · rename_i x xs hm
        have : x ∈ manyT (decS b).1 2 := by rw [hm]; simp
        simp only [manyT, List.mem_map, List.mem_filter] at this
        obtain ⟨f, ⟨hf, _⟩, rfl⟩ := this
        have := (g4 f hf).2; omega
    have ac := fun H => all_calls (b := blobT (decS b).1 2) (t := .no) (by omega) H
    repeat' (first | with_reducible refine am_seq ?_ | with_reducible refine am_block ?_ | ((with_reducible apply am_cond); (case hb => rfl); all_goals (intro hc; (try simp only [reduceCtorEq, decide_eq_true_eq, decide_eq_false_iff_not, Bool.or_eq_true, Bool.and_eq_true, Bool.or_eq_false_iff, Bool.not_eq_true', Bool.not_eq_false', beq_iff_eq] at hc); (try (exfalso; omega)))) | ((first | with_reducible refine am_reg ?_ | with_reducible refine am_drw ?_ | with_reducible refine am_skip ?_ | with_reducible refine am_exit ?_ | with_reducible refine am_ret ?_ | with_reducible refine And.intro (by first | exact AH.lec_refl _ | assumption | exact AccP.lec (by assumption) | omega) ?_ | with_reducible refine isnE_of (fun hc => ?_) (fun hc => ?_) (fun hc => ?_) | ((first | with_reducible refine gd_not (fun hc => ?_) (fun hc => ?_) | with_reducible refine gd_of (fun hc => ?_) (fun hc => ?_) | with_reducible refine gq_not (fun hc => ?_) (fun hc => ?_) | with_reducible refine gq_of (fun hc => ?_) (fun hc => ?_) | with_reducible refine pickB_of (fun hc => ?_) (fun hc => ?_)) <;> (try simp -implicitDefEqProofs (disch := omega) only [go_sem, eq_self, decide_true, decide_false, Nat.reduceBEq, Nat.reduceAdd, Nat.reduceSub, Nat.reduceMul, Nat.reduceEqDiff, Nat.reduceLeDiff, Nat.reduceLT, Int.reduceLE, Int.reduceLT, Int.reduceToNat, Int.reduceAdd, Int.reduceEq, Int.reduceNeg, AH.put_ne, hc, wrap_id, hz]) <;> (try simp only [reduceCtorEq, decide_eq_true_eq, decide_eq_false_iff_not, Bool.or_eq_true, Bool.and_eq_true, Bool.or_eq_false_iff, Bool.not_eq_true', Bool.not_eq_false', beq_iff_eq] at hc) <;> (try (exfalso; omega))) | ((with_reducible refine alloc_intro (fun ko hko => ?_)) <;> (try have hne := fresh_ne (by assumption) hko) <;> (try simp only [AH.put_none] at hko)) | ((first | (with_reducible refine vapp_accL (by assumption) ?_ (fun v2 H2 hacc hlec => ?_)) | (with_reducible refine vapp_accL (AccP.mono (by assumption) (AccP.le (by assumption))) ?_ (fun v2 H2 hacc hlec => ?_)) | (with_reducible refine vapp_accL (AccP.new (by assumption) (by assumption) _) ?_ (fun v2 H2 hacc hlec => ?_))); · simp only [byteCells_length, List.length_cons, List.length_nil, List.length_map, List.length_append, fldsE_length, blobsE_length, u64sE_length, intsE_length, strsE_length]; omega) | with_reducible refine need_elems (by assumption) ?_ | with_reducible refine vlen_acc (by assumption) ?_ | with_reducible refine need_bytes (by assumption) ?_ | (first | with_reducible refine call_of (dc) ?_ | with_reducible refine qcall_of (dc) ?_) | (first | with_reducible refine call_of (bc) ?_ | with_reducible refine qcall_of (bc) ?_) | (first | with_reducible refine call_of (ac) ?_ | with_reducible refine qcall_of (ac) ?_) | (first | with_reducible refine call_of (mc) ?_ | with_reducible refine qcall_of (mc) ?_) | with_reducible refine need_look (by assumption) ?_ | with_reducible refine need_look (look_put (by assumption) (by assumption)) ?_ | with_reducible refine need_look (look_lec (by assumption) (by assumption)) ?_ | with_reducible refine need_look (look_put (AH.put_same _ _ _) (by assumption)) ?_ | with_reducible refine need_look (look_lec (AH.put_same _ _ _) (by assumption)) ?_ | with_reducible refine need_look (look_put (look_put (by assumption) (by assumption)) (by assumption)) ?_ | with_reducible refine need_look (look_lec (look_put (by assumption) (by assumption)) (by assumption)) ?_ | with_reducible refine need_look (look_put (look_lec (by assumption) (by assumption)) (by assumption)) ?_ | with_reducible refine need_look (look_lec (look_lec (by assumption) (by assumption)) (by assumption)) ?_ | with_reducible refine need_look (look_put (look_put (AH.put_same _ _ _) (by assumption)) (by assumption)) ?_ | with_reducible refine need_look (look_lec (look_put (AH.put_same _ _ _) (by assumption)) (by assumption)) ?_ | with_reducible refine need_look (look_put (look_lec (AH.put_same _ _ _) (by assumption)) (by assumption)) ?_ | with_reducible refine need_look (look_lec (look_lec (AH.put_same _ _ _) (by assumption)) (by assumption)) ?_) <;> (try simp -implicitDefEqProofs (disch := omega) only [go_sem, eq_self, decide_true, decide_false, Nat.reduceBEq, Nat.reduceAdd, Nat.reduceSub, Nat.reduceMul, Nat.reduceEqDiff, Nat.reduceLeDiff, Nat.reduceLT, Int.reduceLE, Int.reduceLT, Int.reduceToNat, Int.reduceAdd, Int.reduceEq, Int.reduceNeg, AH.put_ne, wrap_id, hz])))
    rename_i kr hkr
    revert ko
    intro kh hko
    obtain ⟨hne0, hkh⟩ := hko
    have q0 : allS (blobT (decS b).1 2) = allS (blobT (decS b).1 2) := rfl
    generalize hns : (allS (blobT (decS b).1 2)).1 = ns
    have hnl : ns.length < 20000 ∧ ∀ x ∈ ns, x < 18446744073709551616 := by
      have h := allL_le (blobT (decS b).1 2).length [] 0 (blobT (decS b).1 2) (by simp)
      rw [← hns]
      exact ⟨by have := h.1; simp only [allS, List.length_nil] at this ⊢; omega, h.2⟩
    refine am_loop (fun n a H2 => ∃ (i : Nat) (v : V), i + n = ns.length ∧ a = [(0, V.sl 1 (byteCells b) t), (2, V.ptr kr 0), (4, V.sl 4 (fldsE (decS b).fst) Tok.no), (7, V.ptr kh 0), (38, V.sl 1 (u64sE ns) Tok.no), (39, V.int IntKind.i64 ↑ns.length), (40, V.int IntKind.i64 i)] ∧
      AccP H 1 (intsE ((ns.take i).map fun n => ((min n 1001 : Nat) : Int))) v H2 ∧ H2 kh = some (.cells [v, .nilSl]) ∧ H2 kr = some (.cells [.nilSl, .nilSl])) ?_ ns.length ⟨0, .nilSl, by omega, rfl, ⟨AH.le_put (AH.le_put (AH.le_refl _) hkr _) hkh _, .inl ⟨rfl, rfl⟩⟩, AH.put_same _ _ _, look_ne (Ne.symm hne0) (AH.put_same _ _ _)⟩
    rintro n a H2 ⟨i, v, hi, rfl, hacc, hh, hr⟩
    by_cases hlt : i < ns.length
    · have hx := hnl.2 _ (List.getElem_mem hlt)
      repeat' (first | with_reducible refine am_seq ?_ | with_reducible refine am_block ?_ | ((with_reducible apply am_cond); (case hb => rfl); all_goals (intro hc; (try simp only [reduceCtorEq, decide_eq_true_eq, decide_eq_false_iff_not, Bool.or_eq_true, Bool.and_eq_true, Bool.or_eq_false_iff, Bool.not_eq_true', Bool.not_eq_false', beq_iff_eq] at hc); (try (exfalso; omega)))) | ((first | with_reducible refine am_reg ?_ | with_reducible refine am_drw ?_ | with_reducible refine am_skip ?_ | with_reducible refine am_exit ?_ | with_reducible refine am_ret ?_ | with_reducible refine And.intro (by first | exact AH.lec_refl _ | assumption | exact AccP.lec (by assumption) | omega) ?_ | with_reducible refine isnE_of (fun hc => ?_) (fun hc => ?_) (fun hc => ?_) | ((first | with_reducible refine gd_not (fun hc => ?_) (fun hc => ?_) | with_reducible refine gd_of (fun hc => ?_) (fun hc => ?_) | with_reducible refine gq_not (fun hc => ?_) (fun hc => ?_) | with_reducible refine gq_of (fun hc => ?_) (fun hc => ?_) | with_reducible refine pickB_of (fun hc => ?_) (fun hc => ?_)) <;> (try simp -implicitDefEqProofs (disch := omega) only [go_sem, eq_self, decide_true, decide_false, Nat.reduceBEq, Nat.reduceAdd, Nat.reduceSub, Nat.reduceMul, Nat.reduceEqDiff, Nat.reduceLeDiff, Nat.reduceLT, Int.reduceLE, Int.reduceLT, Int.reduceToNat, Int.reduceAdd, Int.reduceEq, Int.reduceNeg, AH.put_ne, hc, wrap_id, get_of_lt hlt]) <;> (try simp only [reduceCtorEq, decide_eq_true_eq, decide_eq_false_iff_not, Bool.or_eq_true, Bool.and_eq_true, Bool.or_eq_false_iff, Bool.not_eq_true', Bool.not_eq_false', beq_iff_eq] at hc) <;> (try (exfalso; omega))) | ((with_reducible refine alloc_intro (fun ko hko => ?_)) <;> (try have hne := fresh_ne (by assumption) hko) <;> (try simp only [AH.put_none] at hko)) | ((first | (with_reducible refine vapp_accL (by assumption) ?_ (fun v2 H2 hacc hlec => ?_)) | (with_reducible refine vapp_accL (AccP.mono (by assumption) (AccP.le (by assumption))) ?_ (fun v2 H2 hacc hlec => ?_)) | (with_reducible refine vapp_accL (AccP.new (by assumption) (by assumption) _) ?_ (fun v2 H2 hacc hlec => ?_))); · simp only [byteCells_length, List.length_cons, List.length_nil, List.length_map, List.length_append, fldsE_length, blobsE_length, u64sE_length, intsE_length, strsE_length]; omega) | with_reducible refine need_elems (by assumption) ?_ | with_reducible refine vlen_acc (by assumption) ?_ | with_reducible refine need_bytes (by assumption) ?_ | with_reducible refine need_look (by assumption) ?_ | with_reducible refine need_look (look_put (by assumption) (by assumption)) ?_ | with_reducible refine need_look (look_lec (by assumption) (by assumption)) ?_ | with_reducible refine need_look (look_put (AH.put_same _ _ _) (by assumption)) ?_ | with_reducible refine need_look (look_lec (AH.put_same _ _ _) (by assumption)) ?_ | with_reducible refine need_look (look_put (look_put (by assumption) (by assumption)) (by assumption)) ?_ | with_reducible refine need_look (look_lec (look_put (by assumption) (by assumption)) (by assumption)) ?_ | with_reducible refine need_look (look_put (look_lec (by assumption) (by assumption)) (by assumption)) ?_ | with_reducible refine need_look (look_lec (look_lec (by assumption) (by assumption)) (by assumption)) ?_ | with_reducible refine need_look (look_put (look_put (AH.put_same _ _ _) (by assumption)) (by assumption)) ?_ | with_reducible refine need_look (look_lec (look_put (AH.put_same _ _ _) (by assumption)) (by assumption)) ?_ | with_reducible refine need_look (look_put (look_lec (AH.put_same _ _ _) (by assumption)) (by assumption)) ?_ | with_reducible refine need_look (look_lec (look_lec (AH.put_same _ _ _) (by assumption)) (by assumption)) ?_) <;> (try simp -implicitDefEqProofs (disch := omega) only [go_sem, eq_self, decide_true, decide_false, Nat.reduceBEq, Nat.reduceAdd, Nat.reduceSub, Nat.reduceMul, Nat.reduceEqDiff, Nat.reduceLeDiff, Nat.reduceLT, Int.reduceLE, Int.reduceLT, Int.reduceToNat, Int.reduceAdd, Int.reduceEq, Int.reduceNeg, AH.put_ne, wrap_id, get_of_lt hlt])))
      have hml : ((ns.take i).map fun n => ((min n 1001 : Nat) : Int)).length ≤ i := by simp; omega
      refine vapp_accL hacc (by simp only [intsE_length, List.length_cons, List.length_nil]; omega) (fun v2 H3 hacc3 hlec3 => ?_)
      have q1 := look_lec hh hlec3
      have q2 := look_lec hr hlec3
      refine need_look q1 (store_acc hacc3 (by simp) ?_)
      simp -implicitDefEqProofs (disch := omega) only [go_sem, eq_self, decide_true, decide_false, Nat.reduceBEq, Nat.reduceAdd, Nat.reduceSub, Nat.reduceMul, Nat.reduceEqDiff, Nat.reduceLeDiff, Nat.reduceLT, Int.reduceLE, Int.reduceLT, Int.reduceToNat, Int.reduceAdd, Int.reduceEq, Int.reduceNeg, AH.put_ne, wrap_id]
      try repeat' (first | with_reducible refine am_seq ?_ | with_reducible refine am_block ?_ | ((with_reducible apply am_cond); (case hb => rfl); all_goals (intro hc; (try simp only [reduceCtorEq, decide_eq_true_eq, decide_eq_false_iff_not, Bool.or_eq_true, Bool.and_eq_true, Bool.or_eq_false_iff, Bool.not_eq_true', Bool.not_eq_false', beq_iff_eq] at hc); (try (exfalso; omega)))) | ((first | with_reducible refine am_reg ?_ | with_reducible refine am_drw ?_ | with_reducible refine am_skip ?_ | with_reducible refine am_exit ?_ | with_reducible refine am_ret ?_ | with_reducible refine And.intro (by first | exact AH.lec_refl _ | assumption | exact AccP.lec (by assumption) | omega) ?_ | with_reducible refine isnE_of (fun hc => ?_) (fun hc => ?_) (fun hc => ?_) | ((first | with_reducible refine gd_not (fun hc => ?_) (fun hc => ?_) | with_reducible refine gd_of (fun hc => ?_) (fun hc => ?_) | with_reducible refine gq_not (fun hc => ?_) (fun hc => ?_) | with_reducible refine gq_of (fun hc => ?_) (fun hc => ?_) | with_reducible refine pickB_of (fun hc => ?_) (fun hc => ?_)) <;> (try simp -implicitDefEqProofs (disch := omega) only [go_sem, eq_self, decide_true, decide_false, Nat.reduceBEq, Nat.reduceAdd, Nat.reduceSub, Nat.reduceMul, Nat.reduceEqDiff, Nat.reduceLeDiff, Nat.reduceLT, Int.reduceLE, Int.reduceLT, Int.reduceToNat, Int.reduceAdd, Int.reduceEq, Int.reduceNeg, AH.put_ne, hc, wrap_id]) <;> (try simp only [reduceCtorEq, decide_eq_true_eq, decide_eq_false_iff_not, Bool.or_eq_true, Bool.and_eq_true, Bool.or_eq_false_iff, Bool.not_eq_true', Bool.not_eq_false', beq_iff_eq] at hc) <;> (try (exfalso; omega))) | ((with_reducible refine alloc_intro (fun ko hko => ?_)) <;> (try have hne := fresh_ne (by assumption) hko) <;> (try simp only [AH.put_none] at hko)) | ((first | (with_reducible refine vapp_accL (by assumption) ?_ (fun v2 H2 hacc hlec => ?_)) | (with_reducible refine vapp_accL (AccP.mono (by assumption) (AccP.le (by assumption))) ?_ (fun v2 H2 hacc hlec => ?_)) | (with_reducible refine vapp_accL (AccP.new (by assumption) (by assumption) _) ?_ (fun v2 H2 hacc hlec => ?_))); · simp only [byteCells_length, List.length_cons, List.length_nil, List.length_map, List.length_append, fldsE_length, blobsE_length, u64sE_length, intsE_length, strsE_length]; omega) | with_reducible refine need_elems (by assumption) ?_ | with_reducible refine vlen_acc (by assumption) ?_ | with_reducible refine need_bytes (by assumption) ?_ | with_reducible refine need_look (by assumption) ?_ | with_reducible refine need_look (look_put (by assumption) (by assumption)) ?_ | with_reducible refine need_look (look_lec (by assumption) (by assumption)) ?_ | with_reducible refine need_look (look_put (AH.put_same _ _ _) (by assumption)) ?_ | with_reducible refine need_look (look_lec (AH.put_same _ _ _) (by assumption)) ?_ | with_reducible refine need_look (look_put (look_put (by assumption) (by assumption)) (by assumption)) ?_ | with_reducible refine need_look (look_lec (look_put (by assumption) (by assumption)) (by assumption)) ?_ | with_reducible refine need_look (look_put (look_lec (by assumption) (by assumption)) (by assumption)) ?_ | with_reducible refine need_look (look_lec (look_lec (by assumption) (by assumption)) (by assumption)) ?_ | with_reducible refine need_look (look_put (look_put (AH.put_same _ _ _) (by assumption)) (by assumption)) ?_ | with_reducible refine need_look (look_lec (look_put (AH.put_same _ _ _) (by assumption)) (by assumption)) ?_ | with_reducible refine need_look (look_put (look_lec (AH.put_same _ _ _) (by assumption)) (by assumption)) ?_ | with_reducible refine need_look (look_lec (look_lec (AH.put_same _ _ _) (by assumption)) (by assumption)) ?_) <;> (try simp -implicitDefEqProofs (disch := omega) only [go_sem, eq_self, decide_true, decide_false, Nat.reduceBEq, Nat.reduceAdd, Nat.reduceSub, Nat.reduceMul, Nat.reduceEqDiff, Nat.reduceLeDiff, Nat.reduceLT, Int.reduceLE, Int.reduceLT, Int.reduceToNat, Int.reduceAdd, Int.reduceEq, Int.reduceNeg, AH.put_ne, wrap_id])))
      refine ⟨n - 1, by omega, i + 1, v2, by omega, rfl, ?_, by first | exact AH.put_same _ _ _ | rfl, by first | exact look_ne (Ne.symm hne0) q2 | exact q2⟩
      have e : ((ns.take (i + 1)).map fun n => ((min n 1001 : Nat) : Int)) = ((ns.take i).map fun n => ((min n 1001 : Nat) : Int)) ++ [min (ns[i] : Int) 1001] := by
        rw [take_snoc ns i hlt, List.map_append, List.map_cons, List.map_nil]
        congr 2
        omega
      rw [e]
      have e2 : ∀ l m : List Int, intsE (l ++ m) = intsE l ++ intsE m := by intro l m; simp [intsE]
      rw [e2]
      exact AccP.turn hacc3 hkh q1 _
    · repeat' (first | with_reducible refine am_seq ?_ | with_reducible refine am_block ?_ | ((with_reducible apply am_cond); (case hb => rfl); all_goals (intro hc; (try simp only [reduceCtorEq, decide_eq_true_eq, decide_eq_false_iff_not, Bool.or_eq_true, Bool.and_eq_true, Bool.or_eq_false_iff, Bool.not_eq_true', Bool.not_eq_false', beq_iff_eq] at hc); (try (exfalso; omega)))) | ((first | with_reducible refine am_reg ?_ | with_reducible refine am_drw ?_ | with_reducible refine am_skip ?_ | with_reducible refine am_exit ?_ | with_reducible refine am_ret ?_ | with_reducible refine And.intro (by first | exact AH.lec_refl _ | assumption | exact AccP.lec (by assumption) | omega) ?_ | with_reducible refine isnE_of (fun hc => ?_) (fun hc => ?_) (fun hc => ?_) | ((first | with_reducible refine gd_not (fun hc => ?_) (fun hc => ?_) | with_reducible refine gd_of (fun hc => ?_) (fun hc => ?_) | with_reducible refine gq_not (fun hc => ?_) (fun hc => ?_) | with_reducible refine gq_of (fun hc => ?_) (fun hc => ?_) | with_reducible refine pickB_of (fun hc => ?_) (fun hc => ?_)) <;> (try simp -implicitDefEqProofs (disch := omega) only [go_sem, eq_self, decide_true, decide_false, Nat.reduceBEq, Nat.reduceAdd, Nat.reduceSub, Nat.reduceMul, Nat.reduceEqDiff, Nat.reduceLeDiff, Nat.reduceLT, Int.reduceLE, Int.reduceLT, Int.reduceToNat, Int.reduceAdd, Int.reduceEq, Int.reduceNeg, AH.put_ne, hc, wrap_id]) <;> (try simp only [reduceCtorEq, decide_eq_true_eq, decide_eq_false_iff_not, Bool.or_eq_true, Bool.and_eq_true, Bool.or_eq_false_iff, Bool.not_eq_true', Bool.not_eq_false', beq_iff_eq] at hc) <;> (try (exfalso; omega))) | ((with_reducible refine alloc_intro (fun ko hko => ?_)) <;> (try have hne := fresh_ne (by assumption) hko) <;> (try simp only [AH.put_none] at hko)) | ((first | (with_reducible refine vapp_accL (by assumption) ?_ (fun v2 H2 hacc hlec => ?_)) | (with_reducible refine vapp_accL (AccP.mono (by assumption) (AccP.le (by assumption))) ?_ (fun v2 H2 hacc hlec => ?_)) | (with_reducible refine vapp_accL (AccP.new (by assumption) (by assumption) _) ?_ (fun v2 H2 hacc hlec => ?_))); · simp only [byteCells_length, List.length_cons, List.length_nil, List.length_map, List.length_append, fldsE_length, blobsE_length, u64sE_length, intsE_length, strsE_length]; omega) | with_reducible refine need_elems (by assumption) ?_ | with_reducible refine vlen_acc (by assumption) ?_ | with_reducible refine need_bytes (by assumption) ?_ | (first | with_reducible refine call_of (mc) ?_ | with_reducible refine qcall_of (mc) ?_) | with_reducible refine need_look (by assumption) ?_ | with_reducible refine need_look (look_put (by assumption) (by assumption)) ?_ | with_reducible refine need_look (look_lec (by assumption) (by assumption)) ?_ | with_reducible refine need_look (look_put (AH.put_same _ _ _) (by assumption)) ?_ | with_reducible refine need_look (look_lec (AH.put_same _ _ _) (by assumption)) ?_ | with_reducible refine need_look (look_put (look_put (by assumption) (by assumption)) (by assumption)) ?_ | with_reducible refine need_look (look_lec (look_put (by assumption) (by assumption)) (by assumption)) ?_ | with_reducible refine need_look (look_put (look_lec (by assumption) (by assumption)) (by assumption)) ?_ | with_reducible refine need_look (look_lec (look_lec (by assumption) (by assumption)) (by assumption)) ?_ | with_reducible refine need_look (look_put (look_put (AH.put_same _ _ _) (by assumption)) (by assumption)) ?_ | with_reducible refine need_look (look_lec (look_put (AH.put_same _ _ _) (by assumption)) (by assumption)) ?_ | with_reducible refine need_look (look_put (look_lec (AH.put_same _ _ _) (by assumption)) (by assumption)) ?_ | with_reducible refine need_look (look_lec (look_lec (AH.put_same _ _ _) (by assumption)) (by assumption)) ?_) <;> (try simp -implicitDefEqProofs (disch := omega) only [go_sem, eq_self, decide_true, decide_false, Nat.reduceBEq, Nat.reduceAdd, Nat.reduceSub, Nat.reduceMul, Nat.reduceEqDiff, Nat.reduceLeDiff, Nat.reduceLT, Int.reduceLE, Int.reduceLT, Int.reduceToNat, Int.reduceAdd, Int.reduceEq, Int.reduceNeg, AH.put_ne, wrap_id])))
      rw [List.take_of_length_le (by omega)] at hacc
      have hrv : rawV b = ns.map fun n => ((min n 1001 : Nat) : Int) := by rw [rawV, hns]
      rw [← hrv] at hacc
      have hss : manyT (decS b).1 3 = rawS b := rfl
      have hsl : (rawS b).length ≤ 64 ∧ ∀ s ∈ rawS b, s.length ≤ b.length := by
        constructor
        · have : (rawS b).length ≤ (decS b).1.length := by unfold rawS manyT; rw [List.length_map]; exact List.length_filter_le _ _
          omega
        · intro s hs'
          simp only [rawS, manyT, List.mem_map, List.mem_filter] at hs'
          obtain ⟨f, ⟨hf, _⟩, rfl⟩ := hs'
          exact (g4 f hf).2
      have hrl : (rawV b).length < 20000 := by rw [hrv, List.length_map]; exact hnl.1
      rw [hss]
      generalize hS : rawS b = ss at *
      refine am_loop (fun n a H3 => ∃ (j : Nat) (w : V), j + n = ss.length ∧ a = [(0, V.sl 1 (byteCells b) t), (2, V.ptr kr 0), (7, V.ptr kh 0), (54, V.sl 1 (blobsE ss) Tok.no), (55, V.int IntKind.i64 ↑ss.length), (56, V.int IntKind.i64 j)] ∧
        AccP H 1 (strsE (ss.take j)) w H3 ∧ H3 kh = some (.cells [v, w]) ∧ H3 kr = some (.cells [.nilSl, .nilSl])) ?_ ss.length ⟨0, .nilSl, by omega, rfl, ⟨hacc.le, .inl ⟨rfl, rfl⟩⟩, hh, hr⟩
      rintro n2 a2 H3 ⟨j, w, hj, rfl, hacc2, hh2, hr2⟩
      by_cases hlt2 : j < ss.length
      · repeat' (first | with_reducible refine am_seq ?_ | with_reducible refine am_block ?_ | ((with_reducible apply am_cond); (case hb => rfl); all_goals (intro hc; (try simp only [reduceCtorEq, decide_eq_true_eq, decide_eq_false_iff_not, Bool.or_eq_true, Bool.and_eq_true, Bool.or_eq_false_iff, Bool.not_eq_true', Bool.not_eq_false', beq_iff_eq] at hc); (try (exfalso; omega)))) | ((first | with_reducible refine am_reg ?_ | with_reducible refine am_drw ?_ | with_reducible refine am_skip ?_ | with_reducible refine am_exit ?_ | with_reducible refine am_ret ?_ | with_reducible refine And.intro (by first | exact AH.lec_refl _ | assumption | exact AccP.lec (by assumption) | omega) ?_ | with_reducible refine isnE_of (fun hc => ?_) (fun hc => ?_) (fun hc => ?_) | ((first | with_reducible refine gd_not (fun hc => ?_) (fun hc => ?_) | with_reducible refine gd_of (fun hc => ?_) (fun hc => ?_) | with_reducible refine gq_not (fun hc => ?_) (fun hc => ?_) | with_reducible refine gq_of (fun hc => ?_) (fun hc => ?_) | with_reducible refine pickB_of (fun hc => ?_) (fun hc => ?_)) <;> (try simp -implicitDefEqProofs (disch := omega) only [go_sem, eq_self, decide_true, decide_false, Nat.reduceBEq, Nat.reduceAdd, Nat.reduceSub, Nat.reduceMul, Nat.reduceEqDiff, Nat.reduceLeDiff, Nat.reduceLT, Int.reduceLE, Int.reduceLT, Int.reduceToNat, Int.reduceAdd, Int.reduceEq, Int.reduceNeg, AH.put_ne, hc, wrap_id, get_of_lt hlt2]) <;> (try simp only [reduceCtorEq, decide_eq_true_eq, decide_eq_false_iff_not, Bool.or_eq_true, Bool.and_eq_true, Bool.or_eq_false_iff, Bool.not_eq_true', Bool.not_eq_false', beq_iff_eq] at hc) <;> (try (exfalso; omega))) | ((with_reducible refine alloc_intro (fun ko hko => ?_)) <;> (try have hne := fresh_ne (by assumption) hko) <;> (try simp only [AH.put_none] at hko)) | ((first | (with_reducible refine vapp_accL (by assumption) ?_ (fun v2 H2 hacc hlec => ?_)) | (with_reducible refine vapp_accL (AccP.mono (by assumption) (AccP.le (by assumption))) ?_ (fun v2 H2 hacc hlec => ?_)) | (with_reducible refine vapp_accL (AccP.new (by assumption) (by assumption) _) ?_ (fun v2 H2 hacc hlec => ?_))); · simp only [byteCells_length, List.length_cons, List.length_nil, List.length_map, List.length_append, fldsE_length, blobsE_length, u64sE_length, intsE_length, strsE_length]; omega) | with_reducible refine need_elems (by assumption) ?_ | with_reducible refine vlen_acc (by assumption) ?_ | with_reducible refine need_bytes (by assumption) ?_ | with_reducible refine need_look (by assumption) ?_ | with_reducible refine need_look (look_put (by assumption) (by assumption)) ?_ | with_reducible refine need_look (look_lec (by assumption) (by assumption)) ?_ | with_reducible refine need_look (look_put (AH.put_same _ _ _) (by assumption)) ?_ | with_reducible refine need_look (look_lec (AH.put_same _ _ _) (by assumption)) ?_ | with_reducible refine need_look (look_put (look_put (by assumption) (by assumption)) (by assumption)) ?_ | with_reducible refine need_look (look_lec (look_put (by assumption) (by assumption)) (by assumption)) ?_ | with_reducible refine need_look (look_put (look_lec (by assumption) (by assumption)) (by assumption)) ?_ | with_reducible refine need_look (look_lec (look_lec (by assumption) (by assumption)) (by assumption)) ?_ | with_reducible refine need_look (look_put (look_put (AH.put_same _ _ _) (by assumption)) (by assumption)) ?_ | with_reducible refine need_look (look_lec (look_put (AH.put_same _ _ _) (by assumption)) (by assumption)) ?_ | with_reducible refine need_look (look_put (look_lec (AH.put_same _ _ _) (by assumption)) (by assumption)) ?_ | with_reducible refine need_look (look_lec (look_lec (AH.put_same _ _ _) (by assumption)) (by assumption)) ?_) <;> (try simp -implicitDefEqProofs (disch := omega) only [go_sem, eq_self, decide_true, decide_false, Nat.reduceBEq, Nat.reduceAdd, Nat.reduceSub, Nat.reduceMul, Nat.reduceEqDiff, Nat.reduceLeDiff, Nat.reduceLT, Int.reduceLE, Int.reduceLT, Int.reduceToNat, Int.reduceAdd, Int.reduceEq, Int.reduceNeg, AH.put_ne, wrap_id, get_of_lt hlt2])))
        have hml : (ss.take j).length ≤ j := by simp; omega
        refine vapp_accL hacc2 (by simp only [strsE_length, List.length_cons, List.length_nil]; omega) (fun v2 H4 hacc3 hlec3 => ?_)
        have q1 := look_lec hh2 hlec3
        have q2 := look_lec hr2 hlec3
        refine need_look q1 (store_acc hacc3 (by simp) ?_)
        simp -implicitDefEqProofs (disch := omega) only [go_sem, eq_self, decide_true, decide_false, Nat.reduceBEq, Nat.reduceAdd, Nat.reduceSub, Nat.reduceMul, Nat.reduceEqDiff, Nat.reduceLeDiff, Nat.reduceLT, Int.reduceLE, Int.reduceLT, Int.reduceToNat, Int.reduceAdd, Int.reduceEq, Int.reduceNeg, AH.put_ne, wrap_id]
        try repeat' (first | with_reducible refine am_seq ?_ | with_reducible refine am_block ?_ | ((with_reducible apply am_cond); (case hb => rfl); all_goals (intro hc; (try simp only [reduceCtorEq, decide_eq_true_eq, decide_eq_false_iff_not, Bool.or_eq_true, Bool.and_eq_true, Bool.or_eq_false_iff, Bool.not_eq_true', Bool.not_eq_false', beq_iff_eq] at hc); (try (exfalso; omega)))) | ((first | with_reducible refine am_reg ?_ | with_reducible refine am_drw ?_ | with_reducible refine am_skip ?_ | with_reducible refine am_exit ?_ | with_reducible refine am_ret ?_ | with_reducible refine And.intro (by first | exact AH.lec_refl _ | assumption | exact AccP.lec (by assumption) | omega) ?_ | with_reducible refine isnE_of (fun hc => ?_) (fun hc => ?_) (fun hc => ?_) | ((first | with_reducible refine gd_not (fun hc => ?_) (fun hc => ?_) | with_reducible refine gd_of (fun hc => ?_) (fun hc => ?_) | with_reducible refine gq_not (fun hc => ?_) (fun hc => ?_) | with_reducible refine gq_of (fun hc => ?_) (fun hc => ?_) | with_reducible refine pickB_of (fun hc => ?_) (fun hc => ?_)) <;> (try simp -implicitDefEqProofs (disch := omega) only [go_sem, eq_self, decide_true, decide_false, Nat.reduceBEq, Nat.reduceAdd, Nat.reduceSub, Nat.reduceMul, Nat.reduceEqDiff, Nat.reduceLeDiff, Nat.reduceLT, Int.reduceLE, Int.reduceLT, Int.reduceToNat, Int.reduceAdd, Int.reduceEq, Int.reduceNeg, AH.put_ne, hc, wrap_id]) <;> (try simp only [reduceCtorEq, decide_eq_true_eq, decide_eq_false_iff_not, Bool.or_eq_true, Bool.and_eq_true, Bool.or_eq_false_iff, Bool.not_eq_true', Bool.not_eq_false', beq_iff_eq] at hc) <;> (try (exfalso; omega))) | ((with_reducible refine alloc_intro (fun ko hko => ?_)) <;> (try have hne := fresh_ne (by assumption) hko) <;> (try simp only [AH.put_none] at hko)) | ((first | (with_reducible refine vapp_accL (by assumption) ?_ (fun v2 H2 hacc hlec => ?_)) | (with_reducible refine vapp_accL (AccP.mono (by assumption) (AccP.le (by assumption))) ?_ (fun v2 H2 hacc hlec => ?_)) | (with_reducible refine vapp_accL (AccP.new (by assumption) (by assumption) _) ?_ (fun v2 H2 hacc hlec => ?_))); · simp only [byteCells_length, List.length_cons, List.length_nil, List.length_map, List.length_append, fldsE_length, blobsE_length, u64sE_length, intsE_length, strsE_length]; omega) | with_reducible refine need_elems (by assumption) ?_ | with_reducible refine vlen_acc (by assumption) ?_ | with_reducible refine need_bytes (by assumption) ?_ | with_reducible refine need_look (by assumption) ?_ | with_reducible refine need_look (look_put (by assumption) (by assumption)) ?_ | with_reducible refine need_look (look_lec (by assumption) (by assumption)) ?_ | with_reducible refine need_look (look_put (AH.put_same _ _ _) (by assumption)) ?_ | with_reducible refine need_look (look_lec (AH.put_same _ _ _) (by assumption)) ?_ | with_reducible refine need_look (look_put (look_put (by assumption) (by assumption)) (by assumption)) ?_ | with_reducible refine need_look (look_lec (look_put (by assumption) (by assumption)) (by assumption)) ?_ | with_reducible refine need_look (look_put (look_lec (by assumption) (by assumption)) (by assumption)) ?_ | with_reducible refine need_look (look_lec (look_lec (by assumption) (by assumption)) (by assumption)) ?_ | with_reducible refine need_look (look_put (look_put (AH.put_same _ _ _) (by assumption)) (by assumption)) ?_ | with_reducible refine need_look (look_lec (look_put (AH.put_same _ _ _) (by assumption)) (by assumption)) ?_ | with_reducible refine need_look (look_put (look_lec (AH.put_same _ _ _) (by assumption)) (by assumption)) ?_ | with_reducible refine need_look (look_lec (look_lec (AH.put_same _ _ _) (by assumption)) (by assumption)) ?_) <;> (try simp -implicitDefEqProofs (disch := omega) only [go_sem, eq_self, decide_true, decide_false, Nat.reduceBEq, Nat.reduceAdd, Nat.reduceSub, Nat.reduceMul, Nat.reduceEqDiff, Nat.reduceLeDiff, Nat.reduceLT, Int.reduceLE, Int.reduceLT, Int.reduceToNat, Int.reduceAdd, Int.reduceEq, Int.reduceNeg, AH.put_ne, wrap_id])))
        refine ⟨n2 - 1, by omega, j + 1, v2, by omega, rfl, ?_, by first | exact AH.put_same _ _ _ | rfl, by first | exact look_ne (Ne.symm hne0) q2 | exact q2⟩
        have e2 : ∀ l m : List (List UInt8), strsE (l ++ m) = strsE l ++ strsE m := by intro l m; simp [strsE]
        rw [take_snoc ss j hlt2, e2]
        exact AccP.turn hacc3 hkh q1 _
      · rw [List.take_of_length_le (by omega)] at hacc2
        have hle2 := hacc2.le
        have ec := fun G => ACalls.sub (fun s => .cons (agg_sub rfl (.cons (AccP.sub hacc s) (.cons (AccP.sub hacc2 s) .nil))) .nil) (hencode_calls (va := rawV b) (sa := ss) (tv := .no) (ts := .no) (by omega) (by omega) (fun s hs' => by have := hsl.2 s hs'; omega) G)
        repeat' (first | with_reducible refine am_seq ?_ | with_reducible refine am_block ?_ | ((with_reducible apply am_cond); (case hb => rfl); all_goals (intro hc; (try simp only [reduceCtorEq, decide_eq_true_eq, decide_eq_false_iff_not, Bool.or_eq_true, Bool.and_eq_true, Bool.or_eq_false_iff, Bool.not_eq_true', Bool.not_eq_false', beq_iff_eq] at hc); (try (exfalso; omega)))) | ((first | with_reducible refine am_reg ?_ | with_reducible refine am_drw ?_ | with_reducible refine am_skip ?_ | with_reducible refine am_exit ?_ | with_reducible refine am_ret ?_ | with_reducible refine And.intro (by first | exact AH.lec_refl _ | assumption | exact AccP.lec (by assumption) | omega) ?_ | with_reducible refine isnE_of (fun hc => ?_) (fun hc => ?_) (fun hc => ?_) | ((first | with_reducible refine gd_not (fun hc => ?_) (fun hc => ?_) | with_reducible refine gd_of (fun hc => ?_) (fun hc => ?_) | with_reducible refine gq_not (fun hc => ?_) (fun hc => ?_) | with_reducible refine gq_of (fun hc => ?_) (fun hc => ?_) | with_reducible refine pickB_of (fun hc => ?_) (fun hc => ?_)) <;> (try simp -implicitDefEqProofs (disch := omega) only [go_sem, eq_self, decide_true, decide_false, Nat.reduceBEq, Nat.reduceAdd, Nat.reduceSub, Nat.reduceMul, Nat.reduceEqDiff, Nat.reduceLeDiff, Nat.reduceLT, Int.reduceLE, Int.reduceLT, Int.reduceToNat, Int.reduceAdd, Int.reduceEq, Int.reduceNeg, AH.put_ne, hc, wrap_id, hh2, hr2]) <;> (try simp only [reduceCtorEq, decide_eq_true_eq, decide_eq_false_iff_not, Bool.or_eq_true, Bool.and_eq_true, Bool.or_eq_false_iff, Bool.not_eq_true', Bool.not_eq_false', beq_iff_eq] at hc) <;> (try (exfalso; omega))) | ((with_reducible refine alloc_intro (fun ko hko => ?_)) <;> (try have hne := fresh_ne (by assumption) hko) <;> (try simp only [AH.put_none] at hko)) | ((first | (with_reducible refine vapp_accL (by assumption) ?_ (fun v2 H2 hacc hlec => ?_)) | (with_reducible refine vapp_accL (AccP.mono (by assumption) (AccP.le (by assumption))) ?_ (fun v2 H2 hacc hlec => ?_)) | (with_reducible refine vapp_accL (AccP.new (by assumption) (by assumption) _) ?_ (fun v2 H2 hacc hlec => ?_))); · simp only [byteCells_length, List.length_cons, List.length_nil, List.length_map, List.length_append, fldsE_length, blobsE_length, u64sE_length, intsE_length, strsE_length]; omega) | with_reducible refine need_elems (by assumption) ?_ | with_reducible refine vlen_acc (by assumption) ?_ | with_reducible refine need_bytes (by assumption) ?_ | (first | with_reducible refine call_of (ec) ?_ | with_reducible refine qcall_of (ec) ?_) | with_reducible refine need_look (by assumption) ?_ | with_reducible refine need_look (look_put (by assumption) (by assumption)) ?_ | with_reducible refine need_look (look_lec (by assumption) (by assumption)) ?_ | with_reducible refine need_look (look_put (AH.put_same _ _ _) (by assumption)) ?_ | with_reducible refine need_look (look_lec (AH.put_same _ _ _) (by assumption)) ?_ | with_reducible refine need_look (look_put (look_put (by assumption) (by assumption)) (by assumption)) ?_ | with_reducible refine need_look (look_lec (look_put (by assumption) (by assumption)) (by assumption)) ?_ | with_reducible refine need_look (look_put (look_lec (by assumption) (by assumption)) (by assumption)) ?_ | with_reducible refine need_look (look_lec (look_lec (by assumption) (by assumption)) (by assumption)) ?_ | with_reducible refine need_look (look_put (look_put (AH.put_same _ _ _) (by assumption)) (by assumption)) ?_ | with_reducible refine need_look (look_lec (look_put (AH.put_same _ _ _) (by assumption)) (by assumption)) ?_ | with_reducible refine need_look (look_put (look_lec (AH.put_same _ _ _) (by assumption)) (by assumption)) ?_ | with_reducible refine need_look (look_lec (look_lec (AH.put_same _ _ _) (by assumption)) (by assumption)) ?_) <;> (try simp -implicitDefEqProofs (disch := omega) only [go_sem, eq_self, decide_true, decide_false, Nat.reduceBEq, Nat.reduceAdd, Nat.reduceSub, Nat.reduceMul, Nat.reduceEqDiff, Nat.reduceLeDiff, Nat.reduceLT, Int.reduceLE, Int.reduceLT, Int.reduceToNat, Int.reduceAdd, Int.reduceEq, Int.reduceNeg, AH.put_ne, wrap_id, hh2, hr2])))
        · rw [show decH b = ([], [], 4) by rw [decH, if_neg (by omega), hS, if_pos (.inr (by assumption))]]
          refine drop_end (by (first | exact fun _ _ h => h | (intro s x h; first | exact no_sub _ h | exact nil_no _ h | exact AccP.sub (by assumption) _ _ h | (refine agg_sub rfl ?_ x h; repeat (first | exact .nil | refine .cons (fun _ h => h) ?_ | refine .cons (fun _ h => nil_no _ h) ?_ | refine .cons (fun _ h => no_sub _ h) ?_ | refine .cons (fun _ h => AccP.sub (by assumption) _ _ h) ?_)) | (refine tuple_sub ?_ x h; repeat (first | exact .nil | refine .cons (fun _ h => h) ?_ | refine .cons (fun _ h => nil_no _ h) ?_ | refine .cons (fun _ h => no_sub _ h) ?_ | refine .cons (fun _ h => AccP.sub (by assumption) _ _ h) ?_ | refine .cons (fun _ h => agg_sub rfl (by repeat (first | exact .nil | refine .cons (fun _ h => h) ?_ | refine .cons (fun _ h => nil_no _ h) ?_ | refine .cons (fun _ h => no_sub _ h) ?_ | refine .cons (fun _ h => AccP.sub (by assumption) _ _ h) ?_)) _ h) ?_))))) (AH.le_put hle2 hkr _)
        · rw [show decH b = (rawV b, ss, 0) by rw [decH, if_neg (by omega), hS, if_neg (by rintro (h | h) <;> exact h (by assumption))]]
          refine drop_end (by (first | exact fun _ _ h => h | (intro s x h; first | exact no_sub _ h | exact nil_no _ h | exact AccP.sub (by assumption) _ _ h | (refine agg_sub rfl ?_ x h; repeat (first | exact .nil | refine .cons (fun _ h => h) ?_ | refine .cons (fun _ h => nil_no _ h) ?_ | refine .cons (fun _ h => no_sub _ h) ?_ | refine .cons (fun _ h => AccP.sub (by assumption) _ _ h) ?_)) | (refine tuple_sub ?_ x h; repeat (first | exact .nil | refine .cons (fun _ h => h) ?_ | refine .cons (fun _ h => nil_no _ h) ?_ | refine .cons (fun _ h => no_sub _ h) ?_ | refine .cons (fun _ h => AccP.sub (by assumption) _ _ h) ?_ | refine .cons (fun _ h => agg_sub rfl (by repeat (first | exact .nil | refine .cons (fun _ h => h) ?_ | refine .cons (fun _ h => nil_no _ h) ?_ | refine .cons (fun _ h => no_sub _ h) ?_ | refine .cons (fun _ h => AccP.sub (by assumption) _ _ h) ?_)) _ h) ?_))))) (AH.le_put hle2 hkr _)
        · rw [show decH b = ([], [], 4) by rw [decH, if_neg (by omega), hS, if_pos (.inl (by assumption))]]
          refine drop_end (by (first | exact fun _ _ h => h | (intro s x h; first | exact no_sub _ h | exact nil_no _ h | exact AccP.sub (by assumption) _ _ h | (refine agg_sub rfl ?_ x h; repeat (first | exact .nil | refine .cons (fun _ h => h) ?_ | refine .cons (fun _ h => nil_no _ h) ?_ | refine .cons (fun _ h => no_sub _ h) ?_ | refine .cons (fun _ h => AccP.sub (by assumption) _ _ h) ?_)) | (refine tuple_sub ?_ x h; repeat (first | exact .nil | refine .cons (fun _ h => h) ?_ | refine .cons (fun _ h => nil_no _ h) ?_ | refine .cons (fun _ h => no_sub _ h) ?_ | refine .cons (fun _ h => AccP.sub (by assumption) _ _ h) ?_ | refine .cons (fun _ h => agg_sub rfl (by repeat (first | exact .nil | refine .cons (fun _ h => h) ?_ | refine .cons (fun _ h => nil_no _ h) ?_ | refine .cons (fun _ h => no_sub _ h) ?_ | refine .cons (fun _ h => AccP.sub (by assumption) _ _ h) ?_)) _ h) ?_))))) (AH.le_put hle2 hkr _)
  · repeat' (first | with_reducible refine am_seq ?_ | with_reducible refine am_block ?_ | ((with_reducible apply am_cond); (case hb => rfl); all_goals (intro hc; (try simp only [reduceCtorEq, decide_eq_true_eq, decide_eq_false_iff_not, Bool.or_eq_true, Bool.and_eq_true, Bool.or_eq_false_iff, Bool.not_eq_true', Bool.not_eq_false', beq_iff_eq] at hc); (try (exfalso; omega)))) | ((first | with_reducible refine am_reg ?_ | with_reducible refine am_drw ?_ | with_reducible refine am_skip ?_ | with_reducible refine am_exit ?_ | with_reducible refine am_ret ?_ | with_reducible refine And.intro (by first | exact AH.lec_refl _ | assumption | exact AccP.lec (by assumption) | omega) ?_ | with_reducible refine isnE_of (fun hc => ?_) (fun hc => ?_) (fun hc => ?_) | ((first | with_reducible refine gd_not (fun hc => ?_) (fun hc => ?_) | with_reducible refine gd_of (fun hc => ?_) (fun hc => ?_) | with_reducible refine gq_not (fun hc => ?_) (fun hc => ?_) | with_reducible refine gq_of (fun hc => ?_) (fun hc => ?_) | with_reducible refine pickB_of (fun hc => ?_) (fun hc => ?_)) <;> (try simp -implicitDefEqProofs (disch := omega) only [go_sem, eq_self, decide_true, decide_false, Nat.reduceBEq, Nat.reduceAdd, Nat.reduceSub, Nat.reduceMul, Nat.reduceEqDiff, Nat.reduceLeDiff, Nat.reduceLT, Int.reduceLE, Int.reduceLT, Int.reduceToNat, Int.reduceAdd, Int.reduceEq, Int.reduceNeg, AH.put_ne, hc, wrap_id, hz]) <;> (try simp only [reduceCtorEq, decide_eq_true_eq, decide_eq_false_iff_not, Bool.or_eq_true, Bool.and_eq_true, Bool.or_eq_false_iff, Bool.not_eq_true', Bool.not_eq_false', beq_iff_eq] at hc) <;> (try (exfalso; omega))) | ((with_reducible refine alloc_intro (fun ko hko => ?_)) <;> (try have hne := fresh_ne (by assumption) hko) <;> (try simp only [AH.put_none] at hko)) | ((first | (with_reducible refine vapp_accL (by assumption) ?_ (fun v2 H2 hacc hlec => ?_)) | (with_reducible refine vapp_accL (AccP.mono (by assumption) (AccP.le (by assumption))) ?_ (fun v2 H2 hacc hlec => ?_)) | (with_reducible refine vapp_accL (AccP.new (by assumption) (by assumption) _) ?_ (fun v2 H2 hacc hlec => ?_))); · simp only [byteCells_length, List.length_cons, List.length_nil, List.length_map, List.length_append, fldsE_length, blobsE_length, u64sE_length, intsE_length, strsE_length]; omega) | with_reducible refine need_elems (by assumption) ?_ | with_reducible refine vlen_acc (by assumption) ?_ | with_reducible refine need_bytes (by assumption) ?_ | (first | with_reducible refine call_of (dc) ?_ | with_reducible refine qcall_of (dc) ?_) | with_reducible refine need_look (by assumption) ?_ | with_reducible refine need_look (look_put (by assumption) (by assumption)) ?_ | with_reducible refine need_look (look_lec (by assumption) (by assumption)) ?_ | with_reducible refine need_look (look_put (AH.put_same _ _ _) (by assumption)) ?_ | with_reducible refine need_look (look_lec (AH.put_same _ _ _) (by assumption)) ?_ | with_reducible refine need_look (look_put (look_put (by assumption) (by assumption)) (by assumption)) ?_ | with_reducible refine need_look (look_lec (look_put (by assumption) (by assumption)) (by assumption)) ?_ | with_reducible refine need_look (look_put (look_lec (by assumption) (by assumption)) (by assumption)) ?_ | with_reducible refine need_look (look_lec (look_lec (by assumption) (by assumption)) (by assumption)) ?_ | with_reducible refine need_look (look_put (look_put (AH.put_same _ _ _) (by assumption)) (by assumption)) ?_ | with_reducible refine need_look (look_lec (look_put (AH.put_same _ _ _) (by assumption)) (by assumption)) ?_ | with_reducible refine need_look (look_put (look_lec (AH.put_same _ _ _) (by assumption)) (by assumption)) ?_ | with_reducible refine need_look (look_lec (look_lec (AH.put_same _ _ _) (by assumption)) (by assumption)) ?_) <;> (try simp -implicitDefEqProofs (disch := omega) only [go_sem, eq_self, decide_true, decide_false, Nat.reduceBEq, Nat.reduceAdd, Nat.reduceSub, Nat.reduceMul, Nat.reduceEqDiff, Nat.reduceLeDiff, Nat.reduceLT, Int.reduceLE, Int.reduceLT, Int.reduceToNat, Int.reduceAdd, Int.reduceEq, Int.reduceNeg, AH.put_ne, wrap_id, hz])))
    rw [show decH b = ([], [], 4) by rw [decH, if_pos hz]]
    (refine drop_end (by (first | exact fun _ _ h => h | (intro s x h; first | exact no_sub _ h | exact nil_no _ h | exact AccP.sub (by assumption) _ _ h | (refine agg_sub rfl ?_ x h; repeat (first | exact .nil | refine .cons (fun _ h => h) ?_ | refine .cons (fun _ h => nil_no _ h) ?_ | refine .cons (fun _ h => no_sub _ h) ?_ | refine .cons (fun _ h => AccP.sub (by assumption) _ _ h) ?_)) | (refine tuple_sub ?_ x h; repeat (first | exact .nil | refine .cons (fun _ h => h) ?_ | refine .cons (fun _ h => nil_no _ h) ?_ | refine .cons (fun _ h => no_sub _ h) ?_ | refine .cons (fun _ h => AccP.sub (by assumption) _ _ h) ?_ | refine .cons (fun _ h => agg_sub rfl (by repeat (first | exact .nil | refine .cons (fun _ h => h) ?_ | refine .cons (fun _ h => nil_no _ h) ?_ | refine .cons (fun _ h => no_sub _ h) ?_ | refine .cons (fun _ h => AccP.sub (by assumption) _ _ h) ?_)) _ h) ?_))))) (by (repeat (first | exact AH.le_refl _ | assumption | exact AccP.le (by assumption) | refine AH.le_put ?_ (by first | assumption | exact none_of_le (by assumption) (by assumption)) _ | refine AH.le_trans ?_ (AccP.le (by assumption))))))
end Go.Proofs.Ytmomncmddejcoaa
