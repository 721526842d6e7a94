/- Of the walks of this seat: contracts of functions of the given program, proved over the abstract values of the texts Vm. Conditions: as each theorem says. -/
import Derived.Test.YtoicninkfmfnbaaGreatZW9
import Derived.Test.YtoicninkfmfnbaaGreatZY3
import Derived.Test.YtoicninkfmfnbaaGreatZV32
import Derived.Test.YtoicninkfmfnbaaGreatVm37
import Derived.Test.YtoicninkfmfnbaaGreatZWE
import Derived.Test.YtoicninkfmfnbaaGreatZJC
set_option linter.unusedVariables false
set_option linter.unusedSimpArgs false
/- PackEncodes. -/
namespace Go.Proofs.YtoicninkfmfnbaaGreat
open Go.Vm
attribute [local go_sem] eq_self decide_true decide_false AH.put_ne
attribute [local go_sem_proc] Nat.reduceBEq Nat.reduceAdd Nat.reduceSub Nat.reduceMul Nat.reduceEqDiff Nat.reduceLeDiff Nat.reduceLT Int.reduceLE Int.reduceLT Int.reduceToNat Int.reduceAdd Int.reduceEq Int.reduceNeg
attribute [local go_sem] vE_length byteCells_get byteCells_length byteCells_take byteCells_drop bytes_cells bytesOf_cells fldC fldsE_get fldsE_length List.drop_zero toNat_succ Nat.sub_zero Int.toNat_natCast Option.map_some Int.natCast_nonneg decide_eq_true_eq decide_eq_false_iff_not
/- flange/pack.Size -/
/- flange/flangelaw06.PackEncodes -/
abbrev k3_0 : MC :=
 .cond (.t 16) ((.seq (.reg [
 ⟨some 17, none, .call 6 []⟩,
 mv 2 17] [2]) (.ret))) (.skip)
abbrev k3_1 : MC :=
 .cond (.t 32) ((.seq (.reg [
 mv 33 4,
 vl 34 (.len .sl (.t 33)),
 vl 35 (.bin .eql .num (.t 34) (.c (.int .i64 0))),
 mv 36 35,
 ⟨some 37, (some (36, true)), .val (.mv (.t 5))⟩,
 ⟨some 38, (some (36, true)), .val (.bin .eql .num (.t 37) (.c (.int .i64 3)))⟩,
 vl 39 (.pick (.t 36) (.t 38) (.c (.bool false))),
 mv 40 39,
 ⟨some 41, (some (40, true)), .val (.load true 7 (.t 3))⟩,
 ⟨some 42, (some (40, true)), .call 9 [(.t 41)]⟩,
 ⟨some 43, (some (40, true)), .call 11 [(.t 42)]⟩,
 ⟨some 44, (some (40, true)), .val (.bin .eql .num (.t 43) (.c (.int .i64 0)))⟩,
 vl 45 (.pick (.t 40) (.t 44) (.c (.bool false))),
 mv 2 45] [2]) (.ret))) (.skip)
abbrev k3_2 : MC :=
 (.seq (.reg [
 mv 51 4,
 vl 52 (.b2s (.t 51)),
 mv 53 6,
 vl 54 (.b2s (.t 53)),
 vl 55 (.bin .eql .num (.t 52) (.t 54)),
 mv 56 55,
 ⟨some 57, (some (56, true)), .val (.mv (.t 5))⟩,
 ⟨some 58, (some (56, true)), .val (.bin .eql .num (.t 57) (.c (.int .i64 0)))⟩,
 vl 59 (.pick (.t 56) (.t 58) (.c (.bool false))),
 mv 60 59,
 ⟨some 61, (some (60, true)), .val (.mv (.t 9))⟩,
 ⟨some 62, (some (60, true)), .val (.bin .eql .num (.t 61) (.c (.int .i64 0)))⟩,
 vl 63 (.pick (.t 60) (.t 62) (.c (.bool false))),
 mv 64 63,
 ⟨some 65, (some (64, true)), .val (.load true 1 (.t 8))⟩,
 ⟨some 66, (some (64, true)), .val (.load true 7 (.t 3))⟩,
 ⟨some 67, (some (64, true)), .call 13 [(.t 65), (.t 66)]⟩,
 ⟨some 68, (some (64, true)), .val (.bin .eql .num (.t 67) (.c (.int .i64 0)))⟩,
 vl 69 (.pick (.t 64) (.t 68) (.c (.bool false))),
 mv 70 69,
 ⟨some 71, (some (70, true)), .val (.load true 1 (.t 8))⟩,
 ⟨some 72, (some (70, true)), .call 11 [(.t 71)]⟩,
 ⟨some 73, (some (70, true)), .val (.mv (.t 4))⟩,
 ⟨some 74, (some (70, true)), .val (.len .sl (.t 73))⟩,
 ⟨some 75, (some (70, true)), .val (.bin .eql .num (.t 72) (.t 74))⟩,
 vl 76 (.pick (.t 70) (.t 75) (.c (.bool false))),
 mv 2 76] [2]) (.ret))
abbrev k3_3 : MC :=
 (.seq (.reg [
 mv 47 4,
 ⟨some 48, none, .call 12 [(.t 47)]⟩,
 mv 46 48,
 vl 49 (.ext (.t 46) 0),
 vl 50 (.ext (.t 46) 1),
 ⟨some 8, none, .zalloc [.nilIface]⟩,
 ⟨none, none, .store 1 (.t 8) (.t 49)⟩,
 mv 9 50] [3, 4, 5, 6, 8, 9]) k3_2)
abbrev k3_4 : MC :=
 (.seq ((.seq (.reg [
 mv 31 7,
 vl 32 (.not (.t 31))] [3, 4, 5, 6, 32]) k3_1)) k3_3)
abbrev k3_5 : MC :=
 (.seq (.reg [
 vl 27 (.load true 7 (.t 3)),
 ⟨some 28, none, .call 10 [(.t 27)]⟩,
 mv 26 28,
 vl 29 (.ext (.t 26) 0),
 vl 30 (.ext (.t 26) 1),
 mv 6 29,
 mv 7 30] [3, 4, 5, 6, 7]) k3_4)
abbrev k3_6 : MC :=
 (.seq (.reg [
 vl 21 (.load true 7 (.t 3)),
 ⟨some 22, none, .call 9 [(.t 21)]⟩,
 ⟨some 23, none, .call 8 [(.t 22)]⟩,
 mv 20 23,
 vl 24 (.ext (.t 20) 0),
 vl 25 (.ext (.t 20) 1),
 mv 4 24,
 mv 5 25] [3, 4, 5]) k3_5)
abbrev k3_7 : MC :=
 (.seq (.reg [
 vl 18 (.load true 7 (.t 1)),
 ⟨some 19, none, .call 7 [(.t 18)]⟩,
 ⟨some 3, none, .zalloc [(.int .i64 0), (.bool false), (.int .i64 0), (.int .i64 0), (.str []), .nilSl, .nilSl]⟩,
 ⟨none, none, .store 7 (.t 3) (.t 19)⟩] [3]) k3_6)
abbrev k3_8 : MC :=
 (.seq ((.seq (.reg [
 vl 10 (.load true 7 (.t 1)),
 ⟨some 11, none, .call 5 [(.t 10)]⟩,
 vl 12 (.bin .gtr .num (.t 11) (.c (.int .i64 0))),
 mv 13 12,
 ⟨some 14, (some (13, false)), .call 6 []⟩,
 ⟨some 15, (some (13, false)), .val (.not (.t 14))⟩,
 vl 16 (.pick (.t 13) (.c (.bool true)) (.t 15))] [1, 16]) k3_0)) k3_7)
abbrev k3 : MC :=
 (.seq (.reg [
 ⟨some 1, none, .boxi (.t 0)⟩,
 vl 2 (.mv (.c (.bool false)))] [1]) k3_8)
theorem c3 : Tryz.f3.body.bind (mcOf Tryz.prog (List.contains [1] ·) (List.getD [([], [1]), ([], [1, 16]), ([], [2]), ([], [3]), ([], [3, 4, 5]), ([], [3, 4, 5, 6, 7]), ([], [3, 4, 5, 6, 32]), ([], [2]), ([], [3, 4, 5, 6, 8, 9]), ([], [2])] · ([], [])) 77) = some k3 := by kernel_rfl
theorem r3 : rvsOf Tryz.prog Tryz.f3.results.toList = some [.tmp 2] := by kernel_rfl
end Go.Proofs.YtoicninkfmfnbaaGreat
/- pack.Many. -/
namespace Go.Proofs.YtoicninkfmfnbaaGreat
open Go.Vm
attribute [local go_sem] eq_self decide_true decide_false AH.put_ne
attribute [local go_sem_proc] Nat.reduceBEq Nat.reduceAdd Nat.reduceSub Nat.reduceMul Nat.reduceEqDiff Nat.reduceLeDiff Nat.reduceLT Int.reduceLE Int.reduceLT Int.reduceToNat Int.reduceAdd Int.reduceEq Int.reduceNeg
attribute [local go_sem] vE_length byteCells_get byteCells_length byteCells_take byteCells_drop bytes_cells bytesOf_cells fldC fldsE_get fldsE_length List.drop_zero toNat_succ Nat.sub_zero Int.toNat_natCast Option.map_some Int.natCast_nonneg decide_eq_true_eq decide_eq_false_iff_not
/- flange/pack.Many -/
abbrev k14_0 : MC :=
 .cond (.t 21) ((.seq (.reg [
 mv 22 8,
 vl 2 (.mv (.c .nilSl)),
 mv 3 22] [2, 3]) (.ret))) (.skip)
abbrev k14_1 : MC :=
 .reg [
 mv 23 4,
 mv 24 7,
 ⟨some 25, none, .bslice 1 1 [.nilSl] [(0, 1, (.t 24))]⟩,
 ⟨some 26, none, .app 1 24 (.t 23) (.t 25)⟩,
 mv 4 26] [4, 9, 10, 11]
abbrev k14_2 : MC :=
 (.seq ((.seq (.reg [
 mv 20 8,
 vl 21 (.bin .neq .num (.t 20) (.c (.int .i64 0)))] [4, 7, 8, 9, 10, 11, 21]) k14_0)) k14_1)
abbrev k14_3 : MC :=
 (.seq (.reg [
 vl 16 (.load true 1 (.t 6)),
 ⟨some 17, none, .call 8 [(.t 16)]⟩,
 mv 15 17,
 vl 18 (.ext (.t 15) 0),
 vl 19 (.ext (.t 15) 1),
 mv 7 18,
 mv 8 19] [4, 7, 8, 9, 10, 11]) k14_2)
abbrev k14_4 : MC :=
 .reg [
 vl 27 (.bin .add .num (.t 11) (.c (.int .i64 1))),
 mv 11 27] [4, 9, 10, 11]
abbrev k14_5 : MC :=
 (.seq (.block 1 ((.seq (.reg [
 vl 13 (.iaddr 1 (.t 9) (.t 11)),
 vl 14 (.load true 1 (.t 13)),
 ⟨some 6, none, .zalloc [.nilIface]⟩,
 ⟨none, none, .store 1 (.t 6) (.t 14)⟩] [4, 6, 9, 10, 11]) k14_3))) k14_4)
abbrev k14_6 : MC :=
 (.seq (.cond (.t 12) (.skip) (.exit 0)) k14_5)
abbrev k14_7 : MC :=
 (.seq (.reg [
 vl 12 (.bin .lss .num (.t 11) (.t 10))] [4, 9, 10, 11, 12]) k14_6)
abbrev k14_8 : MC :=
 .block 0 (.loop k14_7)
abbrev k14_9 : MC :=
 (.seq (.reg [
 mv 28 4,
 mv 2 28,
 vl 3 (.mv (.c (.int .i64 0)))] [2, 3]) (.ret))
abbrev k14_10 : MC :=
 (.seq ((.seq (.reg [
 mv 9 0,
 vl 10 (.len .sl (.t 9)),
 vl 11 (.mv (.c (.int .i64 0)))] [4, 9, 10, 11]) k14_8)) k14_9)
abbrev k14_11 : MC :=
 (.seq (.reg [
 vl 4 (.mv (.c .nilSl))] [0, 4]) k14_10)
abbrev k14 : MC :=
 (.seq (.reg [
 vl 2 (.mv (.c .nilSl)),
 vl 3 (.mv (.c (.int .i64 0)))] [0]) k14_11)
theorem c14 : Tryz.f14.body.bind (mcOf Tryz.prog (List.contains [] ·) (List.getD [([], [0]), ([], [0, 4]), ([], [4, 9, 10, 11]), ([], [4, 9, 10, 11, 12]), ([], [4, 6, 9, 10, 11]), ([], [4, 7, 8, 9, 10, 11]), ([], [4, 7, 8, 9, 10, 11, 21]), ([], [2, 3]), ([], [4, 9, 10, 11]), ([], [4, 9, 10, 11]), ([], [2, 3])] · ([], [])) 29) = some k14 := by kernel_rfl
theorem r14 : rvsOf Tryz.prog Tryz.f14.results.toList = some [.tmp 2, .tmp 3] := by kernel_rfl
def ManyR (L : List Rv) (H : AH) (v : V) (H' : AH) : Prop := ∃ w, v = .tuple [w, .int .i64 (if badL (L.map encM) = true then 3 else 0)] ∧ H.le H' ∧ (badL (L.map encM) = true → w = .nilSl) ∧ (badL (L.map encM) = false → AccP H 1 (blobsE ((L.map encM).map Prod.fst)) w H')
theorem pmany_calls {vs : List Vl} {L : List Rv} {t : Tok} {g : Nat} {H : AH} (hvl : vs.length = L.length) (hL : L.length ≤ 1000) (hs : ∀ i (h : i < vs.length) (h2 : i < L.length), Sm vs[i] L[i]) (ho : ∀ x ∈ vs, x.Ok) (hr : ∀ x ∈ L, Rg x) (hg : H g = some .nodr) :
    ACalls Tryz.prog 14 [.sl 1 (vE vs) t] H (fun o H' => ∃ v, o = .ret v ∧ ManyR L H v H') := by
  refine acalls Tryz.func14 c14 r14 (by simp [Tryz.ntmps14]) ?_
  repeat' (first | with_reducible refine go0 ?_ | (with_reducible refine am_cnd ?_ ?_ <;> intro hc <;> try (exfalso; omega)) | ((first | with_reducible (first | refine go1 ?_ | refine vc_intro ?_ | refine need_el ?_ | refine vlen_a ?_ | refine need_by ?_ | refine need_lk ?_) | ((with_reducible refine alloc_intro (fun ko hko => ?_)) <;> (try have hne := fresh_ne (by assumption) hko) <;> (try simp only [AH.put_none] at hko)) | ((with_reducible refine vapp_go ?_ (fun v2 H2 hacc hlec => ?_)); · simp only [byteCells_length, List.length_cons, List.length_nil, List.length_map, List.length_append, vE_length, fldsE_length, strE_length, strE_len, rvE_length, blobsE_length]; omega) | done) <;> (try simp -implicitDefEqProofs (disch := omega) only [go_sem, wrap_id, vE_length])))
  refine am_loop (fun n st G => ∃ (i : Nat) (v : V), i + n = L.length ∧ st = [(4, v), (9, .sl 1 (vE vs) t), (10, .int .i64 vs.length), (11, .int .i64 i)] ∧ badL ((L.take i).map encM) = false ∧ AccP H 1 (blobsE (((L.take i).map encM).map Prod.fst)) v G) ?_ L.length ⟨0, .nilSl, by omega, rfl, rfl, AccP.nil _ _⟩
  rintro n st G ⟨i, v, hi, rfl, hbad, hacc⟩
  by_cases hlt : i < L.length
  · have hlt1 : i < vs.length := by omega
    have hge := hacc.le _ _ hg
    have ec := fun (G : AH) (h : G g = some .nodr) => enc_ok L[i] (hr _ (List.getElem_mem hlt)) vs[i] (hs i hlt1 hlt) (ho _ (List.getElem_mem _)) g G h
    have hget := vE_get hlt1
    have e0 : (L.take (i + 1)).map encM = (L.take i).map encM ++ [encM L[i]] := by rw [List.take_succ_eq_append_getElem hlt, List.map_append]; rfl
    rcases encM_code L[i] with hz | hz
    · rw [hz] at ec
      repeat' (first | with_reducible refine go0 ?_ | (with_reducible refine am_cnd ?_ ?_ <;> intro hc <;> try (exfalso; omega)) | ((first | with_reducible (first | refine go1 ?_ | refine vc_intro ?_ | refine need_el ?_ | refine vlen_a ?_ | refine need_by ?_ | refine call_turn (ec _ (look_put hge hko)) ?_ | refine need_lk ?_) | ((with_reducible refine alloc_intro (fun ko hko => ?_)) <;> (try have hne := fresh_ne (by assumption) hko) <;> (try simp only [AH.put_none] at hko)) | ((with_reducible refine vapp_go ?_ (fun v2 H2 hacc hlec => ?_)); · simp only [byteCells_length, List.length_cons, List.length_nil, List.length_map, List.length_append, vE_length, fldsE_length, strE_length, strE_len, rvE_length, blobsE_length]; omega) | done) <;> (try simp -implicitDefEqProofs (disch := omega) only [go_sem, wrap_id, hget, vE_length])))
      refine vapp_acc (fs := blobsE [(encM L[i]).1]) (hacc.new hko _) (by simp only [blobsE_length, List.length_map, List.length_take, List.length_cons, List.length_nil]; omega) (fun v2 H3 hacc3 => ?_)
      repeat' (first | with_reducible refine go0 ?_ | (with_reducible refine am_cnd ?_ ?_ <;> intro hc <;> try (exfalso; omega)) | ((first | with_reducible (first | refine go1 ?_ | refine vc_intro ?_ | refine need_el ?_ | refine vlen_a ?_ | refine need_by ?_ | refine need_lk ?_) | ((with_reducible refine alloc_intro (fun ko hko => ?_)) <;> (try have hne := fresh_ne (by assumption) hko) <;> (try simp only [AH.put_none] at hko)) | ((with_reducible refine vapp_go ?_ (fun v2 H2 hacc hlec => ?_)); · simp only [byteCells_length, List.length_cons, List.length_nil, List.length_map, List.length_append, vE_length, fldsE_length, strE_length, strE_len, rvE_length, blobsE_length]; omega) | done) <;> (try simp -implicitDefEqProofs (disch := omega) only [go_sem, wrap_id])))
      all_goals refine ⟨n - 1, by omega, i + 1, v2, by omega, rfl, by rw [e0, badL, List.any_append, ← badL, hbad]; simp [hz], ?_⟩
      rw [e0, List.map_append]
      simpa [blobsE] using hacc3
    · have hball : badL (L.map encM) = true := by
        rw [badL, List.any_eq_true]; exact ⟨_, List.mem_map.2 ⟨_, List.getElem_mem hlt, rfl⟩, by rw [hz]; decide⟩
      rw [hz] at ec
      repeat' (first | with_reducible refine go0 ?_ | (with_reducible refine am_cnd ?_ ?_ <;> intro hc <;> try (exfalso; omega)) | ((first | with_reducible (first | refine go1 ?_ | refine vc_intro ?_ | refine need_el ?_ | refine vlen_a ?_ | refine need_by ?_ | refine call_turn (ec _ (look_put hge hko)) ?_ | refine need_lk ?_) | ((with_reducible refine alloc_intro (fun ko hko => ?_)) <;> (try have hne := fresh_ne (by assumption) hko) <;> (try simp only [AH.put_none] at hko)) | ((with_reducible refine vapp_go ?_ (fun v2 H2 hacc hlec => ?_)); · simp only [byteCells_length, List.length_cons, List.length_nil, List.length_map, List.length_append, vE_length, fldsE_length, strE_length, strE_len, rvE_length, blobsE_length]; omega) | done) <;> (try simp -implicitDefEqProofs (disch := omega) only [go_sem, wrap_id, hget, vE_length])))
      all_goals exact ⟨_, rfl, .nilSl, by rw [hball]; rfl, AH.le_put hacc.le (none_of_le hacc.le hko) _, fun _ => rfl, fun h => by rw [hball] at h; cases h⟩
  · have hti : L.take i = L := List.take_of_length_le (by omega)
    rw [hti] at hacc hbad
    repeat' (first | with_reducible refine go0 ?_ | (with_reducible refine am_cnd ?_ ?_ <;> intro hc <;> try (exfalso; omega)) | ((first | with_reducible (first | refine go1 ?_ | refine vc_intro ?_ | refine need_el ?_ | refine vlen_a ?_ | refine need_by ?_ | refine need_lk ?_) | ((with_reducible refine alloc_intro (fun ko hko => ?_)) <;> (try have hne := fresh_ne (by assumption) hko) <;> (try simp only [AH.put_none] at hko)) | ((with_reducible refine vapp_go ?_ (fun v2 H2 hacc hlec => ?_)); · simp only [byteCells_length, List.length_cons, List.length_nil, List.length_map, List.length_append, vE_length, fldsE_length, strE_length, strE_len, rvE_length, blobsE_length]; omega) | done) <;> (try simp -implicitDefEqProofs (disch := omega) only [go_sem, wrap_id, vE_length])))
    all_goals exact ⟨_, rfl, v, by rw [hbad]; rfl, hacc.le, fun h => by (rw [hbad] at h; cases h), fun _ => hacc⟩
end Go.Proofs.YtoicninkfmfnbaaGreat
/- PackMany. -/
namespace Go.Proofs.YtoicninkfmfnbaaGreat
open Go.Vm
attribute [local go_sem] eq_self decide_true decide_false AH.put_ne
attribute [local go_sem_proc] Nat.reduceBEq Nat.reduceAdd Nat.reduceSub Nat.reduceMul Nat.reduceEqDiff Nat.reduceLeDiff Nat.reduceLT Int.reduceLE Int.reduceLT Int.reduceToNat Int.reduceAdd Int.reduceEq Int.reduceNeg
attribute [local go_sem] vE_length byteCells_get byteCells_length byteCells_take byteCells_drop bytes_cells bytesOf_cells fldC fldsE_get fldsE_length List.drop_zero toNat_succ Nat.sub_zero Int.toNat_natCast Option.map_some Int.natCast_nonneg decide_eq_true_eq decide_eq_false_iff_not
/- flange/flangelaw06.PackMany -/
abbrev k4_0 : MC :=
 .cond (.t 33) ((.seq (.reg [
 ⟨some 34, none, .call 6 []⟩,
 mv 4 34] [4]) (.ret))) (.skip)
abbrev k4_1 : MC :=
 .cond (.t 38) (.skip) (.exit 0)
abbrev k4_2 : MC :=
 .cond (.t 46) ((.seq (.reg [
 vl 4 (.mv (.c (.bool true)))] [4]) (.ret))) (.skip)
abbrev k4_3 : MC :=
 .reg [
 mv 62 6,
 mv 63 62,
 ⟨some 64, (some (63, true)), .val (.mv (.t 10))⟩,
 vl 65 (.pick (.t 63) (.t 64) (.c (.bool false))),
 mv 6 65] [0, 1, 5, 6, 7]
abbrev k4_4 : MC :=
 (.seq (.reg [
 vl 58 (.load true 7 (.t 8)),
 ⟨some 59, none, .call 10 [(.t 58)]⟩,
 mv 57 59,
 vl 60 (.ext (.t 57) 0),
 vl 61 (.ext (.t 57) 1),
 mv 9 60,
 mv 10 61] [0, 1, 5, 6, 7, 10]) k4_3)
abbrev k4_5 : MC :=
 (.seq (.reg [
 mv 52 5,
 vl 53 (.load true 7 (.t 8)),
 ⟨some 54, none, .call 9 [(.t 53)]⟩,
 ⟨some 55, none, .bslice 1 1 [.nilIface] [(0, 1, (.t 54))]⟩,
 ⟨some 56, none, .app 1 16 (.t 52) (.t 55)⟩,
 mv 5 56] [0, 1, 5, 6, 7, 8]) k4_4)
abbrev k4_6 : MC :=
 (.seq (.reg [
 mv 47 0,
 mv 48 7,
 vl 49 (.iaddr 7 (.t 47) (.t 48)),
 vl 50 (.load true 7 (.t 49)),
 ⟨some 51, none, .call 7 [(.t 50)]⟩,
 ⟨some 8, none, .zalloc [(.int .i64 0), (.bool false), (.int .i64 0), (.int .i64 0), (.str []), .nilSl, .nilSl]⟩,
 ⟨none, none, .store 7 (.t 8) (.t 51)⟩] [0, 1, 5, 6, 7, 8]) k4_5)
abbrev k4_7 : MC :=
 .reg [
 mv 39 7,
 vl 40 (.bin .add .num (.t 39) (.c (.int .i64 1))),
 mv 7 40] [0, 1, 5, 6, 7]
abbrev k4_8 : MC :=
 (.seq (.block 1 ((.seq ((.seq (.reg [
 mv 41 0,
 mv 42 7,
 vl 43 (.iaddr 7 (.t 41) (.t 42)),
 vl 44 (.load true 7 (.t 43)),
 ⟨some 45, none, .call 5 [(.t 44)]⟩,
 vl 46 (.bin .gtr .num (.t 45) (.c (.int .i64 0)))] [0, 1, 5, 6, 7, 46]) k4_2)) k4_6))) k4_7)
abbrev k4_9 : MC :=
 (.seq ((.seq (.reg [
 mv 35 7,
 mv 36 0,
 vl 37 (.len .sl (.t 36)),
 vl 38 (.bin .lss .num (.t 35) (.t 37))] [0, 1, 5, 6, 7, 38]) k4_1)) k4_8)
abbrev k4_10 : MC :=
 .block 0 (.loop k4_9)
abbrev k4_11 : MC :=
 .cond (.t 72) ((.seq (.reg [
 mv 73 11,
 vl 74 (.len .sl (.t 73)),
 vl 75 (.bin .eql .num (.t 74) (.c (.int .i64 0))),
 mv 76 75,
 ⟨some 77, (some (76, true)), .val (.mv (.t 12))⟩,
 ⟨some 78, (some (76, true)), .val (.bin .eql .num (.t 77) (.c (.int .i64 3)))⟩,
 vl 79 (.pick (.t 76) (.t 78) (.c (.bool false))),
 mv 4 79] [4]) (.ret))) (.skip)
abbrev k4_12 : MC :=
 .cond (.t 97) ((.seq (.reg [
 vl 4 (.mv (.c (.bool false)))] [4]) (.ret))) (.skip)
abbrev k4_13 : MC :=
 .cond (.t 101) (.skip) (.exit 2)
abbrev k4_14 : MC :=
 .cond (.t 132) ((.seq (.reg [
 vl 4 (.mv (.c (.bool false)))] [4]) (.ret))) (.skip)
abbrev k4_15 : MC :=
 (.seq (.drw [
 mv 113 11,
 mv 114 15,
 vl 115 (.iaddr 1 (.t 113) (.t 114)),
 vl 116 (.load false 1 (.t 115)),
 vl 117 (.b2s (.t 116)),
 mv 118 16,
 vl 119 (.b2s (.t 118)),
 vl 120 (.bin .neq .num (.t 117) (.t 119)),
 mv 121 120,
 ⟨some 122, (some (121, false)), .val (.mv (.t 13))⟩,
 ⟨some 123, (some (121, false)), .val (.mv (.t 15))⟩,
 ⟨some 124, (some (121, false)), .val (.iaddr 1 (.t 122) (.t 123))⟩,
 ⟨some 125, (some (121, false)), .val (.load true 1 (.t 124))⟩,
 ⟨some 126, (some (121, false)), .val (.mv (.t 5))⟩,
 ⟨some 127, (some (121, false)), .val (.mv (.t 15))⟩,
 ⟨some 128, (some (121, false)), .val (.iaddr 1 (.t 126) (.t 127))⟩,
 ⟨some 129, (some (121, false)), .val (.load true 1 (.t 128))⟩,
 ⟨some 130, (some (121, false)), .call 16 [(.t 125), (.t 129)]⟩,
 ⟨some 131, (some (121, false)), .val (.not (.t 130))⟩,
 vl 132 (.pick (.t 121) (.c (.bool true)) (.t 131))] [] [0, 1, 5, 11, 13, 15, 132]) k4_14)
abbrev k4_16 : MC :=
 .reg [
 mv 102 15,
 vl 103 (.bin .add .num (.t 102) (.c (.int .i64 1))),
 mv 15 103] [0, 1, 5, 11, 13, 15]
abbrev k4_17 : MC :=
 (.seq (.block 3 ((.seq (.reg [
 mv 105 0,
 mv 106 15,
 vl 107 (.iaddr 7 (.t 105) (.t 106)),
 vl 108 (.load true 7 (.t 107)),
 ⟨some 109, none, .call 7 [(.t 108)]⟩,
 ⟨some 110, none, .call 10 [(.t 109)]⟩,
 mv 104 110,
 vl 111 (.ext (.t 104) 0),
 vl 112 (.ext (.t 104) 1),
 mv 16 111,
 mv 17 112] [0, 1, 5, 11, 13, 15, 16]) k4_15))) k4_16)
abbrev k4_18 : MC :=
 (.seq ((.seq (.reg [
 mv 98 15,
 mv 99 0,
 vl 100 (.len .sl (.t 99)),
 vl 101 (.bin .lss .num (.t 98) (.t 100))] [0, 1, 5, 11, 13, 15, 101]) k4_13)) k4_17)
abbrev k4_19 : MC :=
 .block 2 (.loop k4_18)
abbrev k4_20 : MC :=
 (.seq (.reg [
 mv 146 19,
 vl 147 (.bin .eql .num (.t 146) (.c (.int .i64 0))),
 mv 148 21,
 vl 149 (.bin .eql .num (.t 148) (.c (.int .i64 0))),
 vl 150 (.bin .eql .bool (.t 147) (.t 149)),
 mv 151 150,
 ⟨some 152, (some (151, true)), .val (.mv (.t 21))⟩,
 ⟨some 153, (some (151, true)), .val (.bin .eql .num (.t 152) (.c (.int .i64 0)))⟩,
 ⟨some 154, (some (151, true)), .val (.mv (.t 153))⟩,
 ⟨some 155, (some (154, false)), .val (.mv (.t 20))⟩,
 ⟨some 156, (some (154, false)), .val (.len .sl (.t 155))⟩,
 ⟨some 157, (some (154, false)), .val (.bin .eql .num (.t 156) (.c (.int .i64 0)))⟩,
 ⟨some 158, (some (154, false)), .val (.mv (.t 157))⟩,
 ⟨some 159, (some (158, true)), .val (.mv (.t 21))⟩,
 ⟨some 160, (some (158, true)), .val (.bin .eql .num (.t 159) (.c (.int .i64 4)))⟩,
 ⟨some 161, (some (154, false)), .val (.pick (.t 158) (.t 160) (.c (.bool false)))⟩,
 ⟨some 162, (some (151, true)), .val (.pick (.t 154) (.c (.bool true)) (.t 161))⟩,
 vl 163 (.pick (.t 151) (.t 162) (.c (.bool false))),
 mv 4 163] [4]) (.ret))
abbrev k4_21 : MC :=
 (.seq (.reg [
 mv 139 11,
 mv 140 1,
 ⟨some 141, none, .bslice 1 1 [.nilSl] [(0, 1, (.t 140))]⟩,
 ⟨some 142, none, .app 1 24 (.t 139) (.t 141)⟩,
 ⟨some 143, none, .call 15 [(.t 142)]⟩,
 mv 138 143,
 vl 144 (.ext (.t 138) 0),
 vl 145 (.ext (.t 138) 1),
 mv 20 144,
 mv 21 145] [19, 20, 21]) k4_20)
abbrev k4_22 : MC :=
 (.seq (.reg [
 mv 134 1,
 ⟨some 135, none, .call 12 [(.t 134)]⟩,
 mv 133 135,
 vl 136 (.ext (.t 133) 0),
 vl 137 (.ext (.t 133) 1),
 ⟨some 18, none, .zalloc [.nilIface]⟩,
 ⟨none, none, .store 1 (.t 18) (.t 136)⟩,
 mv 19 137] [1, 11, 19]) k4_21)
abbrev k4_23 : MC :=
 (.seq ((.seq (.reg [
 vl 15 (.mv (.c (.int .i64 0)))] [0, 1, 5, 11, 13, 15]) k4_19)) k4_22)
abbrev k4_24 : MC :=
 (.seq ((.seq (.reg [
 mv 85 12,
 vl 86 (.bin .neq .num (.t 85) (.c (.int .i64 0))),
 mv 87 86,
 ⟨some 88, (some (87, false)), .val (.mv (.t 14))⟩,
 ⟨some 89, (some (87, false)), .val (.bin .neq .num (.t 88) (.c (.int .i64 0)))⟩,
 vl 90 (.pick (.t 87) (.c (.bool true)) (.t 89)),
 mv 91 90,
 ⟨some 92, (some (91, false)), .val (.mv (.t 13))⟩,
 ⟨some 93, (some (91, false)), .val (.len .sl (.t 92))⟩,
 ⟨some 94, (some (91, false)), .val (.mv (.t 0))⟩,
 ⟨some 95, (some (91, false)), .val (.len .sl (.t 94))⟩,
 ⟨some 96, (some (91, false)), .val (.bin .neq .num (.t 93) (.t 95))⟩,
 vl 97 (.pick (.t 91) (.c (.bool true)) (.t 96))] [0, 1, 5, 11, 13, 97]) k4_12)) k4_23)
abbrev k4_25 : MC :=
 (.seq (.reg [
 mv 81 11,
 ⟨some 82, none, .call 15 [(.t 81)]⟩,
 mv 80 82,
 vl 83 (.ext (.t 80) 0),
 vl 84 (.ext (.t 80) 1),
 mv 13 83,
 mv 14 84] [0, 1, 5, 11, 12, 13, 14]) k4_24)
abbrev k4_26 : MC :=
 (.seq ((.seq (.reg [
 mv 71 6,
 vl 72 (.not (.t 71))] [0, 1, 5, 11, 12, 72]) k4_11)) k4_25)
abbrev k4_27 : MC :=
 (.seq (.reg [
 mv 67 5,
 ⟨some 68, none, .call 14 [(.t 67)]⟩,
 mv 66 68,
 vl 69 (.ext (.t 66) 0),
 vl 70 (.ext (.t 66) 1),
 mv 11 69,
 mv 12 70] [0, 1, 5, 6, 11, 12]) k4_26)
abbrev k4_28 : MC :=
 (.seq ((.seq (.reg [
 vl 7 (.mv (.c (.int .i64 0)))] [0, 1, 5, 6, 7]) k4_10)) k4_27)
abbrev k4_29 : MC :=
 (.seq (.reg [
 vl 6 (.mv (.c (.bool true)))] [0, 1, 5, 6]) k4_28)
abbrev k4_30 : MC :=
 (.seq (.reg [
 vl 5 (.mv (.c .nilSl))] [0, 1, 5]) k4_29)
abbrev k4_31 : MC :=
 (.seq ((.seq (.reg [
 mv 22 0,
 vl 23 (.len .sl (.t 22)),
 vl 24 (.bin .gtr .num (.t 23) (.c (.int .i64 10))),
 mv 25 24,
 ⟨some 26, (some (25, false)), .val (.mv (.t 1))⟩,
 ⟨some 27, (some (25, false)), .val (.len .sl (.t 26))⟩,
 ⟨some 28, (some (25, false)), .val (.bin .gtr .num (.t 27) (.c (.int .i64 100)))⟩,
 vl 29 (.pick (.t 25) (.c (.bool true)) (.t 28)),
 mv 30 29,
 ⟨some 31, (some (30, false)), .call 6 []⟩,
 ⟨some 32, (some (30, false)), .val (.not (.t 31))⟩,
 vl 33 (.pick (.t 30) (.c (.bool true)) (.t 32))] [0, 1, 33]) k4_0)) k4_30)
abbrev k4 : MC :=
 (.seq (.reg [
 vl 4 (.mv (.c (.bool false)))] [0, 1]) k4_31)
theorem c4 : Tryz.f4.body.bind (mcOf Tryz.prog (List.contains [] ·) (List.getD [([], [0, 1]), ([], [0, 1, 33]), ([], [4]), ([], [0, 1, 5]), ([], [0, 1, 5, 6]), ([], [0, 1, 5, 6, 7]), ([], [0, 1, 5, 6, 7, 38]), ([], [0, 1, 5, 6, 7]), ([], [0, 1, 5, 6, 7, 46]), ([], [4]), ([], [0, 1, 5, 6, 7, 8]), ([], [0, 1, 5, 6, 7, 8]), ([], [0, 1, 5, 6, 7, 10]), ([], [0, 1, 5, 6, 7]), ([], [0, 1, 5, 6, 11, 12]), ([], [0, 1, 5, 11, 12, 72]), ([], [4]), ([], [0, 1, 5, 11, 12, 13, 14]), ([], [0, 1, 5, 11, 13, 97]), ([], [4]), ([], [0, 1, 5, 11, 13, 15]), ([], [0, 1, 5, 11, 13, 15, 101]), ([], [0, 1, 5, 11, 13, 15]), ([], [0, 1, 5, 11, 13, 15, 16]), ([0, 0, 0, 0, 0, 0, 0, 0, 0, 0, 0, 0, 0, 0, 0, 0, 0, 0, 0, 0], [0, 1, 5, 11, 13, 15, 132]), ([], [4]), ([], [1, 11, 19]), ([], [19, 20, 21]), ([], [4])] · ([], [])) 164) = some k4 := by kernel_rfl
theorem r4 : rvsOf Tryz.prog Tryz.f4.results.toList = some [.tmp 4] := by kernel_rfl
def Sup (a : A) : A → Prop
  | [] => True
  | (t, v) :: r => a.get t = some v ∧ Sup a r
theorem sup_get {a : A} : ∀ (a' : A), Sup a a' → ∀ t v, a'.get t = some v → a.get t = some v
  | [], _, t, v, h => by cases h
  | (u, w) :: r, hs, t, v, h => by
    simp only [A.get] at h
    split at h
    · rename_i e; subst e; rw [← h]; exact hs.1
    · exact sup_get r hs.2 t v h
abbrev MQ (H : AH) : AExit → A → AH → Prop := Body [RV.tmp 4] fun o H' => (∃ u, o = Out.ret u ∧ ∀ (s : St) (x : Value), s.val u x → s.val (.bool true) x) ∧ H.le H'
theorem allO_app (D : List UInt8 → Option Vl) (c : List UInt8) : ∀ (l : List (List UInt8)) (ws : List Vl), allO D l = some ws → allO D (l ++ [c]) = (D c).map fun v => ws ++ [v]
  | [], ws, h => by
    cases h
    show (match D c with | none => none | some v => (allO D []).map fun r => v :: r) = _
    cases D c <;> rfl
  | b :: l, ws, h => by
    rw [List.cons_append, allO]
    rw [allO] at h
    cases hb : D b with
    | none => rw [hb] at h; cases h
    | some v =>
      rw [hb] at h
      simp only at h ⊢
      cases ha : allO D l with
      | none => rw [ha] at h; cases h
      | some r =>
        rw [ha] at h; cases h
        rw [allO_app D c l r ha]
        cases D c <;> rfl
theorem all_acc {bs : List (List UInt8)} {w : V} {g : Nat} {G0 H : AH} (hl : bs.length ≤ 1000) (hb : ∀ b ∈ bs, b.length ≤ 4096) (hacc : AccP G0 1 (blobsE bs) w H) (hg : G0 g = some .nodr) :
    ACalls Tryz.prog 15 [w] H (fun o H' => o = .ret (.tuple [.sl 1 (vE ((allO decV bs).getD [])) .no, .int .i64 (if (allO decV bs).isSome = true then 0 else 4)]) ∧ H' = H) :=
  ACalls.sub (fun s => .cons (fun x h => hacc.sub s x h) .nil) (all_calls (t := .no) (by omega) (fun b h => dec_ok _ b (Nat.le_refl _) (by have := hb b h; omega)) (hacc.le _ _ hg))
theorem pm_c {junk : List UInt8} {bs : List (List UInt8)} {ws : List Vl} {w x0 x5 x13 x15 : V} {g : Nat} {H G0 G : AH} (hws : allO decV bs = some ws) (hl : bs.length ≤ 10) (hj : junk.length ≤ 100) (hb : ∀ b ∈ bs, b.length ≤ 4096) (hacc0 : AccP G0 1 (blobsE bs) w G) (hle : H.le G0) (hg : G0 g = some .nodr) :
    AM Tryz.prog Tryz.f4.ntmps k4_22 (MQ H) [(0, x0), (1, .sl 1 (byteCells junk) .no), (5, x5), (11, w), (13, x13), (15, x15)] G := by
  have hgG := hacc0.le _ _ hg
  have dk := dec_ok _ junk (Nat.le_refl _) (by omega) g G hgG
  have ha := fun (v2 : V) (H2 : AH) (h : AccP G0 1 (blobsE bs ++ [[.sl 1 (byteCells junk) .no]]) v2 H2) => all_acc (bs := bs ++ [junk]) (w := v2) (H := H2) (g := g) (by simp; omega) (fun b h => by
    rcases List.mem_append.1 h with h | h
    · exact hb b h
    · simp at h; subst h; omega) (by simpa [blobsE] using h) hg
  rw [allO_app _ _ _ _ hws] at ha
  unfold MQ
  cases hd : decV junk with
  | none =>
    rw [hd] at dk ha
    simp only [Option.getD_none, Option.isSome_none, Option.map_none, Bool.false_eq_true, if_false] at dk ha
    repeat' (first | with_reducible refine go0 ?_ | (with_reducible refine am_cnd ?_ ?_ <;> intro hc <;> try (exfalso; omega)) | ((first | with_reducible (first | refine go1 ?_ | refine vc_intro ?_ | refine need_el ?_ | refine vlen_a ?_ | refine need_by ?_ | refine call_turn (dk) ?_ | refine call_turn (ha _ _ hacc) ?_ | refine need_lk ?_) | ((with_reducible (first | apply gd_not | apply gd_of | apply gq_not | apply gq_of | apply pickB_of)) <;> intro hc <;> (try simp -implicitDefEqProofs (disch := omega) only [go_sem, hc]) <;> (try simp only [reduceCtorEq, bD, beq_iff_eq] at hc) <;> (try (exfalso; omega))) | ((with_reducible refine alloc_intro (fun ko hko => ?_)) <;> (try have hne := fresh_ne (by assumption) hko) <;> (try simp only [AH.put_none] at hko)) | ((with_reducible refine vapp_go ?_ (fun v2 H2 hacc hlec => ?_)); · simp only [byteCells_length, List.length_cons, List.length_nil, List.length_map, List.length_append, vE_length, fldsE_length, strE_len, rvE_length, blobsE_length]; omega) | done) <;> (try simp -implicitDefEqProofs (disch := omega) only [go_sem])))
    all_goals exact drop_end (fun _ _ h => h) (AH.le_trans hle (AccP.le (by assumption)))
  | some v =>
    rw [hd] at dk ha
    simp only [Option.getD_some, Option.isSome_some, Option.map_some, if_true] at dk ha
    repeat' (first | with_reducible refine go0 ?_ | (with_reducible refine am_cnd ?_ ?_ <;> intro hc <;> try (exfalso; omega)) | ((first | with_reducible (first | refine go1 ?_ | refine vc_intro ?_ | refine need_el ?_ | refine vlen_a ?_ | refine need_by ?_ | refine call_turn (dk) ?_ | refine call_turn (ha _ _ hacc) ?_ | refine need_lk ?_) | ((with_reducible (first | apply gd_not | apply gd_of | apply gq_not | apply gq_of | apply pickB_of)) <;> intro hc <;> (try simp -implicitDefEqProofs (disch := omega) only [go_sem, hc]) <;> (try simp only [reduceCtorEq, bD, beq_iff_eq] at hc) <;> (try (exfalso; omega))) | ((with_reducible refine alloc_intro (fun ko hko => ?_)) <;> (try have hne := fresh_ne (by assumption) hko) <;> (try simp only [AH.put_none] at hko)) | ((with_reducible refine vapp_go ?_ (fun v2 H2 hacc hlec => ?_)); · simp only [byteCells_length, List.length_cons, List.length_nil, List.length_map, List.length_append, vE_length, fldsE_length, strE_len, rvE_length, blobsE_length]; omega) | done) <;> (try simp -implicitDefEqProofs (disch := omega) only [go_sem])))
    all_goals exact drop_end (fun _ _ h => h) (AH.le_trans hle (AccP.le (by assumption)))
theorem pm_loop {l : List Rv} {junk : List UInt8} {bs : List (List UInt8)} {vs ws : List Vl} {w : V} {t0 : Tok} {g : Nat} {H G0 G : AH} (hfit : ∀ r ∈ l, r.FitB 140737488351232 ∧ Rg r) (hbs : bs = ((l.map cleanR).map encM).map Prod.fst) (hbad : badL ((l.map cleanR).map encM) = false) (hvs : vs = (l.map cleanR).map toV)
    (hws : allO decV bs = some ws) (hwl : ws.length = l.length) (hwi : ∀ i (h : i < ws.length) (h2 : i < l.length), Sm ws[i] (cleanR l[i]) ∧ ws[i].Ok) (hl : l.length ≤ 10) (hj : junk.length ≤ 100) (hacc0 : AccP G0 1 (blobsE bs) w G) (hle : H.le G0) (hg : G0 g = some .nodr) :
    AM Tryz.prog Tryz.f4.ntmps (.loop k4_18) (BQ 2 (SQ Tryz.prog Tryz.f4.ntmps k4_22 (MQ H))) [(0, .sl 7 (rvE l) t0), (1, .sl 1 (byteCells junk) .no), (5, .sl 1 (vE vs) .no), (11, w), (13, .sl 1 (vE ws) .no), (15, .int .i64 0)] G := by
  have hbl : bs.length = l.length := by rw [hbs]; simp
  have hvl : vs.length = l.length := by rw [hvs]; simp
  have hgG := hacc0.le _ _ hg
  have hb4 : ∀ b ∈ bs, b.length ≤ 4096 := fun b hb => by
    rw [hbs] at hb
    obtain ⟨p, hp, rfl⟩ := List.mem_map.1 hb
    obtain ⟨m, _, rfl⟩ := List.mem_map.1 hp
    exact encM_len m
  refine am_loop (fun n st G' => ∃ i : Nat, i + n = l.length ∧ st = [(0, .sl 7 (rvE l) t0), (1, .sl 1 (byteCells junk) .no), (5, .sl 1 (vE vs) .no), (11, w), (13, .sl 1 (vE ws) .no), (15, .int .i64 i)] ∧ G' = G) ?_ l.length ⟨0, by omega, rfl, rfl⟩
  rintro n st G' ⟨i, hi, rfl, rfl⟩
  by_cases hlt : i < l.length
  · obtain ⟨hf, hr⟩ := hfit _ (List.getElem_mem hlt)
    have hf2 : l[i].Fit := hf.mono (by decide)
    have c1 := clean_calls l[i] hf2
    have sa := sm_clean l[i]
    have oa := ok_clean l[i] hf2
    have bc := rb6_calls (cleanR l[i]) _ sa oa (fit_cleanB _ hf) (rg_clean _ hr)
    simp only [rvC_eq] at c1
    have hlw : i < ws.length := by omega
    have hlv : i < vs.length := by omega
    have hlb : i < bs.length := by omega
    obtain ⟨sw, ow⟩ := hwi i hlw hlt
    have hv : vs[i] = toV (cleanR l[i]) := by subst hvs; simp
    have hb : bs[i] = (encM (cleanR l[i])).1 := by subst hbs; simp
    have hsame := sm_sameV _ _ _ sw sa ow oa
    have sc := fun (G : AH) (h : G g = some .nodr) => same_calls _ ow _ oa g G h
    unfold SameOk at sc
    rw [hsame] at sc
    have hg1 := rvE_get hlt
    have hg2 := vE_get hlw
    have hg3 := vE_get hlv
    rw [hv] at hg3
    have hg4 : (blobsE bs)[i]? = some [.sl 1 (byteCells (encM (cleanR l[i])).1) .no] := by rw [blobsE_get, get_of_lt hlb, hb]; rfl
    have hwe : ∃ k, w = .sl 1 (blobsE bs) (.id k) := by
      rcases hacc0 with ⟨_, ⟨h, _⟩ | ⟨k, _, h, _⟩⟩
      · exfalso; have := congrArg List.length h; rw [blobsE_length, List.length_nil] at this; omega
      · exact ⟨k, h⟩
    obtain ⟨k, rfl⟩ := hwe
    have hz : (encM (cleanR l[i])).2 = 0 := by
      have := List.any_eq_false.1 hbad (encM (cleanR l[i])) (List.mem_map.2 ⟨_, List.mem_map.2 ⟨_, List.getElem_mem hlt, rfl⟩, rfl⟩)
      simpa using this
    rw [decide_eq_true hz] at bc
    generalize encM (cleanR l[i]) = e at *
    generalize toV (cleanR l[i]) = a at *
    generalize cleanR l[i] = p at *
    generalize l[i] = r at *
    generalize ws[i] = b at *
    repeat' (first | with_reducible refine go0 ?_ | (with_reducible refine am_cnd ?_ ?_ <;> intro hc <;> try (exfalso; omega)) | ((first | with_reducible (first | refine go1 ?_ | refine vc_intro ?_ | refine need_el ?_ | refine vlen_a ?_ | refine need_by ?_ | refine call_of (c1) ?_ | refine qcall_of (c1) ?_ | refine call_of (bc) ?_ | refine qcall_of (bc) ?_ | refine call_at (fun G hl => sc _ (nodr_lec hgG hl)) ?_ | refine qcall_at (fun G hl => sc _ (nodr_lec hgG hl)) ?_ | refine need_lk ?_) | ((with_reducible (first | apply gd_not | apply gd_of | apply gq_not | apply gq_of | apply pickB_of)) <;> intro hc <;> (try simp -implicitDefEqProofs (disch := omega) only [go_sem, hc, wrap_id, hg1, hg2, hg3, hg4, rvE_length, blobsE_length, bne_self_eq_false, Bool.not_true]) <;> (try simp only [reduceCtorEq, bD, beq_iff_eq] at hc) <;> (try (exfalso; omega))) | ((with_reducible refine alloc_intro (fun ko hko => ?_)) <;> (try have hne := fresh_ne (by assumption) hko) <;> (try simp only [AH.put_none] at hko)) | ((with_reducible refine vapp_go ?_ (fun v2 H2 hacc hlec => ?_)); · simp only [byteCells_length, List.length_cons, List.length_nil, List.length_map, List.length_append, vE_length, fldsE_length, strE_len, rvE_length, blobsE_length]; omega) | done) <;> (try simp -implicitDefEqProofs (disch := omega) only [go_sem, wrap_id, hg1, hg2, hg3, hg4, rvE_length, blobsE_length, bne_self_eq_false, Bool.not_true])))
    all_goals exact ⟨n - 1, by omega, i + 1, by omega, rfl⟩
  · repeat' (first | (((with_reducible refine AM.sub (pm_c (x0 := .sl 7 (rvE l) t0) (x5 := .sl 1 (vE vs) .no) (x13 := .sl 1 (vE ws) .no) (x15 := .int .i64 i) hws (by omega) hj hb4 hacc0 hle hg) ?_); exact sup_get _ ⟨rfl, rfl, rfl, rfl, rfl, rfl, trivial⟩)) | with_reducible refine go0 ?_ | (with_reducible refine am_cnd ?_ ?_ <;> intro hc <;> try (exfalso; omega)) | ((first | with_reducible (first | refine go1 ?_ | refine vc_intro ?_ | refine need_el ?_ | refine vlen_a ?_ | refine need_by ?_ | refine need_lk ?_) | ((with_reducible (first | apply gd_not | apply gd_of | apply gq_not | apply gq_of | apply pickB_of)) <;> intro hc <;> (try simp -implicitDefEqProofs (disch := omega) only [go_sem, hc, wrap_id, rvE_length]) <;> (try simp only [reduceCtorEq, bD, beq_iff_eq] at hc) <;> (try (exfalso; omega))) | ((with_reducible refine alloc_intro (fun ko hko => ?_)) <;> (try have hne := fresh_ne (by assumption) hko) <;> (try simp only [AH.put_none] at hko)) | ((with_reducible refine vapp_go ?_ (fun v2 H2 hacc hlec => ?_)); · simp only [byteCells_length, List.length_cons, List.length_nil, List.length_map, List.length_append, vE_length, fldsE_length, strE_len, rvE_length, blobsE_length]; omega) | done) <;> (try simp -implicitDefEqProofs (disch := omega) only [go_sem, wrap_id, rvE_length])))
theorem pm_dec {l : List Rv} (hfit : ∀ r ∈ l, r.FitB 140737488351232 ∧ Rg r) (hbad : badL ((l.map cleanR).map encM) = false) : ∃ ws, allO decV (((l.map cleanR).map encM).map Prod.fst) = some ws ∧ ws.length = l.length ∧ ∀ i (h : i < ws.length) (h2 : i < l.length), Sm ws[i] (cleanR l[i]) ∧ ws[i].Ok := by
  have hz : ∀ r ∈ l, (encM (cleanR r)).2 = 0 := fun r hr => by
    have := List.any_eq_false.1 hbad (encM (cleanR r)) (List.mem_map.2 ⟨_, List.mem_map.2 ⟨_, hr, rfl⟩, rfl⟩)
    simpa using this
  induction l with
  | nil => exact ⟨[], rfl, rfl, by intro i h; simp at h⟩
  | cons r l ih =>
    obtain ⟨hf, hg⟩ := hfit r List.mem_cons_self
    have hf2 : r.Fit := hf.mono (by decide)
    obtain ⟨v, h1, h2⟩ := dec_encM (cleanR r) _ (sm_clean r) (ok_clean r hf2) (rg_clean r hg) (encM (cleanR r)).1 (Prod.ext rfl (hz r List.mem_cons_self))
    have hfine := decV_fine _ (encM (cleanR r)).1 (Nat.le_refl _) v h1
    have hb2 : badL ((l.map cleanR).map encM) = false := by
      rw [List.map_cons, List.map_cons, badL, List.any_cons, Bool.or_eq_false_iff] at hbad; exact hbad.2
    obtain ⟨ws, h3, h4, h5⟩ := ih (fun x hx => hfit x (List.mem_cons_of_mem _ hx)) hb2 (fun x hx => hz x (List.mem_cons_of_mem _ hx))
    refine ⟨v :: ws, ?_, by simp [h4], fun i h6 h7 => ?_⟩
    · rw [List.map_cons, List.map_cons, List.map_cons, allO, h1, h3]; rfl
    · cases i with
      | zero => exact ⟨h2, hfine.1⟩
      | succ i => exact h5 i (by simpa using h6) (by simpa using h7)
theorem pm_after {l : List Rv} {junk : List UInt8} {t0 : Tok} {g : Nat} {H G : AH} (hfit : ∀ r ∈ l, r.FitB 140737488351232 ∧ Rg r) (hl : l.length ≤ 10) (hj : junk.length ≤ 100) (hle : H.le G) (hg : G g = some .nodr) :
    AM Tryz.prog Tryz.f4.ntmps k4_27 (MQ H) [(0, .sl 7 (rvE l) t0), (1, .sl 1 (byteCells junk) .no), (5, .sl 1 (vE ((l.map cleanR).map toV)) .no), (6, .bool (!badL ((l.map cleanR).map encM)))] G := by
  have mc := pmany_calls (vs := (l.map cleanR).map toV) (L := l.map cleanR) (t := .no) (g := g) (H := G) (by simp) (by simp; omega) (fun i h h2 => by simpa using sm_clean _) (fun x hx => by
    obtain ⟨y, hy, rfl⟩ := List.mem_map.1 hx
    obtain ⟨r, hr, rfl⟩ := List.mem_map.1 hy
    exact ok_clean r ((hfit r hr).1.mono (by decide))) (fun x hx => by
    obtain ⟨r, hr, rfl⟩ := List.mem_map.1 hx
    exact rg_clean r (hfit r hr).2) hg
  cases hbad : badL ((l.map cleanR).map encM) with
  | true =>
    have mc2 : ACalls Tryz.prog 14 [.sl 1 (vE ((l.map cleanR).map toV)) .no] G (fun o H' => ∃ v, o = .ret v ∧ (v = .tuple [.nilSl, .int .i64 3] ∧ G.le H')) := mc.mono fun o H' h => by
      obtain ⟨v, rfl, w, rfl, h1, h2, h3⟩ := h
      rw [h2 hbad, hbad]; exact ⟨_, rfl, rfl, h1⟩
    unfold MQ
    repeat' (first | (((with_reducible refine call_ex mc2 (fun v H2 hr => ?_)); obtain ⟨rfl, hle2⟩ := hr; (try simp -implicitDefEqProofs (disch := omega) only [go_sem]))) | with_reducible refine go0 ?_ | (with_reducible refine am_cnd ?_ ?_ <;> intro hc <;> try (exfalso; omega)) | ((first | with_reducible (first | refine go1 ?_ | refine vc_intro ?_ | refine need_el ?_ | refine vlen_a ?_ | refine need_by ?_ | refine need_lk ?_) | ((with_reducible (first | apply gd_not | apply gd_of | apply gq_not | apply gq_of | apply pickB_of)) <;> intro hc <;> (try simp -implicitDefEqProofs (disch := omega) only [go_sem, hc, Bool.not_true, Bool.not_false]) <;> (try simp only [reduceCtorEq, bD, beq_iff_eq] at hc) <;> (try (exfalso; omega))) | ((with_reducible refine alloc_intro (fun ko hko => ?_)) <;> (try have hne := fresh_ne (by assumption) hko) <;> (try simp only [AH.put_none] at hko)) | ((with_reducible refine vapp_go ?_ (fun v2 H2 hacc hlec => ?_)); · simp only [byteCells_length, List.length_cons, List.length_nil, List.length_map, List.length_append, vE_length, fldsE_length, strE_len, rvE_length, blobsE_length]; omega) | done) <;> (try simp -implicitDefEqProofs (disch := omega) only [go_sem, Bool.not_true, Bool.not_false])))
    all_goals exact drop_end (fun _ _ h => h) (AH.le_trans hle (by assumption))
  | false =>
    have mc2 : ACalls Tryz.prog 14 [.sl 1 (vE ((l.map cleanR).map toV)) .no] G (fun o H' => ∃ v, o = .ret v ∧ (∃ w, v = .tuple [w, .int .i64 0] ∧ AccP G 1 (blobsE (((l.map cleanR).map encM).map Prod.fst)) w H')) := mc.mono fun o H' h => by
      obtain ⟨v, rfl, w, rfl, h1, h2, h3⟩ := h
      rw [hbad]; exact ⟨_, rfl, w, rfl, h3 hbad⟩
    obtain ⟨ws, hws, hwl, hwi⟩ := pm_dec hfit hbad
    have hb4 : ∀ b ∈ ((l.map cleanR).map encM).map Prod.fst, b.length ≤ 4096 := fun b hb => by
      obtain ⟨p, hp, rfl⟩ := List.mem_map.1 hb
      obtain ⟨m, _, rfl⟩ := List.mem_map.1 hp
      exact encM_len m
    have ha := fun (w : V) (H2 : AH) (h : AccP G 1 (blobsE (((l.map cleanR).map encM).map Prod.fst)) w H2) => all_acc (g := g) (by simp; omega) hb4 h hg
    rw [hws] at ha
    simp only [Option.getD_some, Option.isSome_some, if_true] at ha
    have hlw : ((ws.length : Nat) : Int) = ((l.length : Nat) : Int) := by rw [hwl]
    repeat' (first | (((with_reducible refine call_ex mc2 (fun v H2 hr => ?_)); obtain ⟨w, rfl, hacc⟩ := hr; (try simp -implicitDefEqProofs (disch := omega) only [go_sem]))) | ((with_reducible exact pm_loop hfit rfl hbad rfl hws hwl hwi hl hj (by assumption) hle hg)) | with_reducible refine go0 ?_ | (with_reducible refine am_cnd ?_ ?_ <;> intro hc <;> try (exfalso; omega)) | ((first | with_reducible (first | refine go1 ?_ | refine vc_intro ?_ | refine need_el ?_ | refine vlen_a ?_ | refine need_by ?_ | refine call_turn (ha _ _ hacc) ?_ | refine need_lk ?_) | ((with_reducible (first | apply gd_not | apply gd_of | apply gq_not | apply gq_of | apply pickB_of)) <;> intro hc <;> (try simp -implicitDefEqProofs (disch := omega) only [go_sem, hc, Bool.not_true, Bool.not_false, rvE_length, vE_length, hlw, bne_self_eq_false]) <;> (try simp only [reduceCtorEq, bD, beq_iff_eq] at hc) <;> (try (exfalso; omega))) | ((with_reducible refine alloc_intro (fun ko hko => ?_)) <;> (try have hne := fresh_ne (by assumption) hko) <;> (try simp only [AH.put_none] at hko)) | ((with_reducible refine vapp_go ?_ (fun v2 H2 hacc hlec => ?_)); · simp only [byteCells_length, List.length_cons, List.length_nil, List.length_map, List.length_append, vE_length, fldsE_length, strE_len, rvE_length, blobsE_length]; omega) | done) <;> (try simp -implicitDefEqProofs (disch := omega) only [go_sem, Bool.not_true, Bool.not_false, rvE_length, vE_length, hlw, bne_self_eq_false])))
theorem pm_first {l : List Rv} {junk : List UInt8} {t0 : Tok} {g : Nat} {H : AH} (hfit : ∀ r ∈ l, r.FitB 140737488351232 ∧ Rg r) (hl : l.length ≤ 10) (hj : junk.length ≤ 100) (hg : H g = some .nodr) :
    AM Tryz.prog Tryz.f4.ntmps (.loop k4_9) (BQ 0 (SQ Tryz.prog Tryz.f4.ntmps k4_27 (MQ H))) [(0, .sl 7 (rvE l) t0), (1, .sl 1 (byteCells junk) .no), (5, .nilSl), (6, .bool true), (7, .int .i64 0)] H := by
  refine am_loop (fun n st G => ∃ (i : Nat) (v : V), i + n = l.length ∧ st = [(0, .sl 7 (rvE l) t0), (1, .sl 1 (byteCells junk) .no), (5, v), (6, .bool (!badL (((l.take i).map cleanR).map encM))), (7, .int .i64 i)] ∧ AccP H 1 (vE (((l.take i).map cleanR).map toV)) v G) ?_ l.length ⟨0, .nilSl, by omega, rfl, AccP.nil _ _⟩
  rintro n st G ⟨i, v, hi, rfl, hacc0⟩
  by_cases hlt : i < l.length
  · obtain ⟨hf, hr⟩ := hfit _ (List.getElem_mem hlt)
    have hf2 : l[i].Fit := hf.mono (by decide)
    have c1 := clean_calls l[i] hf2
    have sa := sm_clean l[i]
    have oa := ok_clean l[i] hf2
    have t1 := to_calls (cleanR l[i]) (fit_clean _ hf2)
    have k1 := great_calls l[i] hf2
    have bc := rb6_calls (cleanR l[i]) _ sa oa (fit_cleanB _ hf) (rg_clean _ hr)
    simp only [rvC_eq] at c1
    have hg1 := rvE_get hlt
    have e0 : l.take (i + 1) = l.take i ++ [l[i]] := List.take_succ_eq_append_getElem hlt
    have e1 : badL (((l.take (i + 1)).map cleanR).map encM) = (badL (((l.take i).map cleanR).map encM) || decide ((encM (cleanR l[i])).2 ≠ 0)) := by
      rw [e0, List.map_append, List.map_append, badL, List.any_append, ← badL]; simp
    have e2 : vE (((l.take (i + 1)).map cleanR).map toV) = vE (((l.take i).map cleanR).map toV) ++ [[vV (toV (cleanR l[i]))]] := by
      rw [e0, List.map_append, List.map_append, ← vE_app]; rfl
    have hal : (vE (((l.take i).map cleanR).map toV)).length ≤ 10 := by rw [vE_length, List.length_map, List.length_map, List.length_take]; omega
    have hinv : ∀ n', n' < n → n' + 1 = n → ∀ (v2 : V) (G2 : AH), AccP H 1 (vE (((l.take i).map cleanR).map toV) ++ [[vV (toV (cleanR l[i]))]]) v2 G2 → ∀ b : Bool, b = (!badL (((l.take (i + 1)).map cleanR).map encM)) → ∃ m, m < n ∧ ∃ (i' : Nat) (v' : V), i' + m = l.length ∧ [(0, V.sl 7 (rvE l) t0), (1, .sl 1 (byteCells junk) .no), (5, v2), (6, .bool b), (7, .int .i64 ((i : Int) + 1))] = [(0, V.sl 7 (rvE l) t0), (1, .sl 1 (byteCells junk) .no), (5, v'), (6, .bool (!badL (((l.take i').map cleanR).map encM))), (7, .int .i64 i')] ∧ AccP H 1 (vE (((l.take i').map cleanR).map toV)) v' G2 := fun n' h1 h2 v2 G2 h3 b hb =>
      ⟨n', h1, i + 1, v2, by omega, by rw [hb]; rfl, by rw [e2]; exact h3⟩
    rw [e1] at hinv
    generalize badL (((l.take i).map cleanR).map encM) = bd at *
    generalize greatI l[i] = gr at *
    generalize vE (((l.take i).map cleanR).map toV) = es at *
    generalize hee : encM (cleanR l[i]) = e at *
    generalize toV (cleanR l[i]) = a at *
    generalize cleanR l[i] = p at *
    generalize hrr : l[i] = r at *
    cases bd
    · repeat' (first | (((with_reducible refine need_look (look_lec (AH.put_same _ _ _) hlec) ?_) <;> (try simp -implicitDefEqProofs (disch := omega) only [go_sem]))) | with_reducible refine go0 ?_ | (with_reducible refine am_cnd ?_ ?_ <;> intro hc <;> try (exfalso; omega)) | ((first | with_reducible (first | refine go1 ?_ | refine vc_intro ?_ | refine need_el ?_ | refine vlen_a ?_ | refine need_by ?_ | refine call_of (k1) ?_ | refine qcall_of (k1) ?_ | refine call_of (c1) ?_ | refine qcall_of (c1) ?_ | refine call_of (t1) ?_ | refine qcall_of (t1) ?_ | refine call_of (bc) ?_ | refine qcall_of (bc) ?_ | refine need_lk ?_) | ((with_reducible (first | apply gd_not | apply gd_of | apply gq_not | apply gq_of | apply pickB_of)) <;> intro hc <;> (try simp -implicitDefEqProofs (disch := omega) only [go_sem, hc, wrap_id, hg1, rvE_length, Bool.not_true, Bool.not_false]) <;> (try simp only [reduceCtorEq, bD, beq_iff_eq] at hc) <;> (try (exfalso; omega))) | ((with_reducible refine alloc_intro (fun ko hko => ?_)) <;> (try have hne := fresh_ne (by assumption) hko) <;> (try simp only [AH.put_none] at hko)) | ((with_reducible refine vapp_go ?_ (fun v2 H2 hacc hlec => ?_)); · simp only [byteCells_length, List.length_cons, List.length_nil, List.length_map, List.length_append, vE_length, fldsE_length, strE_len, rvE_length, blobsE_length]; omega) | done) <;> (try simp -implicitDefEqProofs (disch := omega) only [go_sem, wrap_id, hg1, rvE_length, Bool.not_true, Bool.not_false])))
      all_goals first | exact drop_end (fun _ _ h => h) hacc0.le | exact hinv (n - 1) (by omega) (by omega) _ _ hacc _ (by simp)
    · repeat' (first | (((with_reducible refine need_look (look_lec (AH.put_same _ _ _) hlec) ?_) <;> (try simp -implicitDefEqProofs (disch := omega) only [go_sem]))) | with_reducible refine go0 ?_ | (with_reducible refine am_cnd ?_ ?_ <;> intro hc <;> try (exfalso; omega)) | ((first | with_reducible (first | refine go1 ?_ | refine vc_intro ?_ | refine need_el ?_ | refine vlen_a ?_ | refine need_by ?_ | refine call_of (k1) ?_ | refine qcall_of (k1) ?_ | refine call_of (c1) ?_ | refine qcall_of (c1) ?_ | refine call_of (t1) ?_ | refine qcall_of (t1) ?_ | refine call_of (bc) ?_ | refine qcall_of (bc) ?_ | refine need_lk ?_) | ((with_reducible (first | apply gd_not | apply gd_of | apply gq_not | apply gq_of | apply pickB_of)) <;> intro hc <;> (try simp -implicitDefEqProofs (disch := omega) only [go_sem, hc, wrap_id, hg1, rvE_length, Bool.not_true, Bool.not_false]) <;> (try simp only [reduceCtorEq, bD, beq_iff_eq] at hc) <;> (try (exfalso; omega))) | ((with_reducible refine alloc_intro (fun ko hko => ?_)) <;> (try have hne := fresh_ne (by assumption) hko) <;> (try simp only [AH.put_none] at hko)) | ((with_reducible refine vapp_go ?_ (fun v2 H2 hacc hlec => ?_)); · simp only [byteCells_length, List.length_cons, List.length_nil, List.length_map, List.length_append, vE_length, fldsE_length, strE_len, rvE_length, blobsE_length]; omega) | done) <;> (try simp -implicitDefEqProofs (disch := omega) only [go_sem, wrap_id, hg1, rvE_length, Bool.not_true, Bool.not_false])))
      all_goals first | exact drop_end (fun _ _ h => h) hacc0.le | exact hinv (n - 1) (by omega) (by omega) _ _ hacc _ (by simp)
  · have hti : l.take i = l := List.take_of_length_le (by omega)
    rw [hti] at hacc0 ⊢
    have pa := pm_after (t0 := t0) hfit hl hj hacc0.le (hacc0.le _ _ hg)
    have pa2 : AM Tryz.prog Tryz.f4.ntmps k4_27 (MQ H) [(0, .sl 7 (rvE l) t0), (1, .sl 1 (byteCells junk) .no), (5, v), (6, .bool (!badL ((l.map cleanR).map encM)))] G := AM.subA pa (fun s => .cons (fun _ h => h) (.cons (fun _ h => h) (.cons (hacc0.sub s) (.cons (fun _ h => h) .nil))))
    repeat' (first | (((with_reducible refine AM.sub pa2 ?_); exact sup_get _ ⟨rfl, rfl, rfl, rfl, trivial⟩)) | with_reducible refine go0 ?_ | (with_reducible refine am_cnd ?_ ?_ <;> intro hc <;> try (exfalso; omega)) | ((first | with_reducible (first | refine go1 ?_ | refine vc_intro ?_ | refine need_el ?_ | refine vlen_a ?_ | refine need_by ?_ | refine need_lk ?_) | ((with_reducible (first | apply gd_not | apply gd_of | apply gq_not | apply gq_of | apply pickB_of)) <;> intro hc <;> (try simp -implicitDefEqProofs (disch := omega) only [go_sem, hc, wrap_id, rvE_length]) <;> (try simp only [reduceCtorEq, bD, beq_iff_eq] at hc) <;> (try (exfalso; omega))) | ((with_reducible refine alloc_intro (fun ko hko => ?_)) <;> (try have hne := fresh_ne (by assumption) hko) <;> (try simp only [AH.put_none] at hko)) | ((with_reducible refine vapp_go ?_ (fun v2 H2 hacc hlec => ?_)); · simp only [byteCells_length, List.length_cons, List.length_nil, List.length_map, List.length_append, vE_length, fldsE_length, strE_len, rvE_length, blobsE_length]; omega) | done) <;> (try simp -implicitDefEqProofs (disch := omega) only [go_sem, wrap_id, rvE_length])))
theorem plmany_calls {l : List Rv} {junk : List UInt8} {t0 : Tok} {g : Nat} {H : AH} (hfit : ∀ r ∈ l, r.FitB 140737488351232 ∧ Rg r) (hg : H g = some .nodr) : ACalls Tryz.prog 4 [.sl 7 (rvE l) t0, .sl 1 (byteCells junk) .no] H (fun o H' => o = .ret (.bool true) ∧ H' = H) := by
  refine ACalls.drop ?_
  have ac := awake_calls hg
  refine acalls Tryz.func4 c4 r4 (by simp [Tryz.ntmps4]) ?_
  by_cases hl : l.length ≤ 10
  · by_cases hj : junk.length ≤ 100
    · have hl' : ¬ (10 : Int) < (l.length : Int) := by omega
      have hj' : ¬ (100 : Int) < (junk.length : Int) := by omega
      repeat' (first | ((with_reducible exact pm_first hfit hl hj hg)) | with_reducible refine go0 ?_ | (with_reducible refine am_cnd ?_ ?_ <;> intro hc <;> try (exfalso; omega)) | ((first | with_reducible (first | refine go1 ?_ | refine vc_intro ?_ | refine need_el ?_ | refine vlen_a ?_ | refine need_by ?_ | refine call_turn (ac) ?_ | refine need_lk ?_) | ((with_reducible (first | apply gd_not | apply gd_of | apply gq_not | apply gq_of | apply pickB_of)) <;> intro hc <;> (try simp -implicitDefEqProofs (disch := omega) only [go_sem, hc, hl', hj', rvE_length, Bool.not_true]) <;> (try simp only [reduceCtorEq, bD, beq_iff_eq] at hc) <;> (try (exfalso; omega))) | ((with_reducible refine alloc_intro (fun ko hko => ?_)) <;> (try have hne := fresh_ne (by assumption) hko) <;> (try simp only [AH.put_none] at hko)) | ((with_reducible refine vapp_go ?_ (fun v2 H2 hacc hlec => ?_)); · simp only [byteCells_length, List.length_cons, List.length_nil, List.length_map, List.length_append, vE_length, fldsE_length, strE_len, rvE_length, blobsE_length]; omega) | done) <;> (try simp -implicitDefEqProofs (disch := omega) only [go_sem, hl', hj', rvE_length, Bool.not_true])))
    · have hl' : ¬ (10 : Int) < (l.length : Int) := by omega
      have hj' : (100 : Int) < (junk.length : Int) := by omega
      repeat' (first | with_reducible refine go0 ?_ | (with_reducible refine am_cnd ?_ ?_ <;> intro hc <;> try (exfalso; omega)) | ((first | with_reducible (first | refine go1 ?_ | refine vc_intro ?_ | refine need_el ?_ | refine vlen_a ?_ | refine need_by ?_ | refine call_turn (ac) ?_ | refine need_lk ?_) | ((with_reducible (first | apply gd_not | apply gd_of | apply gq_not | apply gq_of | apply pickB_of)) <;> intro hc <;> (try simp -implicitDefEqProofs (disch := omega) only [go_sem, hc, hl', hj', rvE_length, Bool.not_true]) <;> (try simp only [reduceCtorEq, bD, beq_iff_eq] at hc) <;> (try (exfalso; omega))) | ((with_reducible refine alloc_intro (fun ko hko => ?_)) <;> (try have hne := fresh_ne (by assumption) hko) <;> (try simp only [AH.put_none] at hko)) | ((with_reducible refine vapp_go ?_ (fun v2 H2 hacc hlec => ?_)); · simp only [byteCells_length, List.length_cons, List.length_nil, List.length_map, List.length_append, vE_length, fldsE_length, strE_len, rvE_length, blobsE_length]; omega) | done) <;> (try simp -implicitDefEqProofs (disch := omega) only [go_sem, hl', hj', rvE_length, Bool.not_true])))
      all_goals exact end_same
  · have hl' : (10 : Int) < (l.length : Int) := by omega
    repeat' (first | with_reducible refine go0 ?_ | (with_reducible refine am_cnd ?_ ?_ <;> intro hc <;> try (exfalso; omega)) | ((first | with_reducible (first | refine go1 ?_ | refine vc_intro ?_ | refine need_el ?_ | refine vlen_a ?_ | refine need_by ?_ | refine call_turn (ac) ?_ | refine need_lk ?_) | ((with_reducible (first | apply gd_not | apply gd_of | apply gq_not | apply gq_of | apply pickB_of)) <;> intro hc <;> (try simp -implicitDefEqProofs (disch := omega) only [go_sem, hc, hl', rvE_length, Bool.not_true]) <;> (try simp only [reduceCtorEq, bD, beq_iff_eq] at hc) <;> (try (exfalso; omega))) | ((with_reducible refine alloc_intro (fun ko hko => ?_)) <;> (try have hne := fresh_ne (by assumption) hko) <;> (try simp only [AH.put_none] at hko)) | ((with_reducible refine vapp_go ?_ (fun v2 H2 hacc hlec => ?_)); · simp only [byteCells_length, List.length_cons, List.length_nil, List.length_map, List.length_append, vE_length, fldsE_length, strE_len, rvE_length, blobsE_length]; omega) | done) <;> (try simp -implicitDefEqProofs (disch := omega) only [go_sem, hl', rvE_length, Bool.not_true])))
    all_goals exact end_same
end Go.Proofs.YtoicninkfmfnbaaGreat
