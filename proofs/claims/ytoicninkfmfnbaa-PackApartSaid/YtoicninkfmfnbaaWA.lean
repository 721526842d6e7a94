/- Of the walks of this seat: contracts of functions of the given program, proved over the abstract values of the texts Vm. Conditions: as each theorem says. -/
import Derived.Test.YtoicninkfmfnbaaJB
import Derived.Test.YtoicninkfmfnbaaKMC
import Derived.Test.YtoicninkfmfnbaaKMB
import Derived.Test.YtoicninkfmfnbaaVm36
set_option linter.unusedVariables false
set_option linter.unusedSimpArgs false
namespace Go.Proofs.Ytoicninkfmfnbaa
open Go.Vm
attribute [local go_sem] eq_self decide_true decide_false AH.put_ne
attribute [local go_sem_proc] Nat.reduceBEq Nat.reduceAdd Nat.reduceSub Nat.reduceMul Nat.reduceEqDiff Nat.reduceLeDiff Nat.reduceLT Int.reduceLE Int.reduceLT Int.reduceToNat Int.reduceAdd Int.reduceEq Int.reduceNeg
attribute [local go_sem] vE_length byteCells_length fldC fldsE_get fldsE_length List.drop_zero toNat_succ Nat.sub_zero Int.toNat_natCast Option.map_some Int.natCast_nonneg decide_eq_true_eq decide_eq_false_iff_not
/- flange/varint.Zig -/
abbrev k66_0 : MC :=
 (.seq (.reg [
 ⟨some 3, none, .val (.mv (.t 0))⟩,
 ⟨some 4, none, .val (.i2i .u64 (.t 3))⟩,
 ⟨some 5, none, .val (.bin .shl .num (.t 4) (.c (.int .u64 1)))⟩,
 ⟨some 6, none, .val (.mv (.t 0))⟩,
 ⟨some 7, none, .val (.bin .shr .num (.t 6) (.c (.int .u64 63)))⟩,
 ⟨some 8, none, .val (.i2i .u64 (.t 7))⟩,
 ⟨some 9, none, .val (.bin .xor .num (.t 5) (.t 8))⟩,
 ⟨some 2, none, .val (.mv (.t 9))⟩] [2]) (.ret))
abbrev k66 : MC :=
 (.seq (.reg [
 ⟨some 2, none, .val (.mv (.c (.int .u64 0)))⟩] [0]) k66_0)
theorem c66 : Try.f66.body.bind (mcOf Try.prog (List.contains [] ·) (List.getD [([], [0]), ([], [2])] · ([], [])) 10) = some k66 := by kernel_rfl
theorem r66 : rvsOf Try.prog Try.f66.results.toList = some [.tmp 2] := by kernel_rfl
/- flange/varint.Zag -/
abbrev k38_0 : MC :=
 (.seq (.reg [
 ⟨some 3, none, .val (.mv (.t 0))⟩,
 ⟨some 4, none, .val (.bin .shr .num (.t 3) (.c (.int .u64 1)))⟩,
 ⟨some 5, none, .val (.i2i .i64 (.t 4))⟩,
 ⟨some 6, none, .val (.mv (.t 0))⟩,
 ⟨some 7, none, .val (.bin .and .num (.t 6) (.c (.int .u64 1)))⟩,
 ⟨some 8, none, .val (.i2i .i64 (.t 7))⟩,
 ⟨some 9, none, .val (.neg (.t 8))⟩,
 ⟨some 10, none, .val (.bin .xor .num (.t 5) (.t 9))⟩,
 ⟨some 2, none, .val (.mv (.t 10))⟩] [2]) (.ret))
abbrev k38 : MC :=
 (.seq (.reg [
 ⟨some 2, none, .val (.mv (.c (.int .i64 0)))⟩] [0]) k38_0)
theorem c38 : Try.f38.body.bind (mcOf Try.prog (List.contains [] ·) (List.getD [([], [0]), ([], [2])] · ([], [])) 11) = some k38 := by kernel_rfl
theorem r38 : rvsOf Try.prog Try.f38.results.toList = some [.tmp 2] := by kernel_rfl
/- (*flange/pack.failure).fail -/
abbrev k39_0 : MC :=
 .cond (.t 8) (.reg [
 ⟨some 9, none, .val (.mv (.t 0))⟩,
 ⟨some 10, none, .val (.mv (.t 1))⟩,
 ⟨some 11, none, .val (.nilc (.t 9))⟩,
 ⟨some 12, none, .val (.faddr 0 (.t 11))⟩,
 ⟨none, none, .store 1 (.t 12) (.t 10)⟩] []) (.skip)
abbrev k39 : MC :=
 (.seq (.reg [
 ⟨some 4, none, .val (.mv (.t 0))⟩,
 ⟨some 5, none, .val (.nilc (.t 4))⟩,
 ⟨some 6, none, .val (.faddr 0 (.t 5))⟩,
 ⟨some 7, none, .val (.load false 1 (.t 6))⟩,
 ⟨some 8, none, .val (.bin .eql .num (.t 7) (.c (.int .i64 0)))⟩] [0, 1, 8]) k39_0)
theorem c39 : Try.f39.body.bind (mcOf Try.prog (List.contains [] ·) (List.getD [([], [0, 1, 8]), ([], [])] · ([], [])) 13) = some k39 := by kernel_rfl
theorem r39 : rvsOf Try.prog Try.f39.results.toList = some [] := by kernel_rfl
/- (*flange/pack.packer).number -/
abbrev k45 : MC :=
 .drw [
 ⟨some 6, none, .val (.mv (.t 0))⟩,
 ⟨some 7, none, .val (.mv (.t 0))⟩,
 ⟨some 8, none, .val (.nilc (.t 7))⟩,
 ⟨some 9, none, .val (.faddr 1 (.t 8))⟩,
 ⟨some 10, none, .val (.load false 1 (.t 9))⟩,
 ⟨some 11, none, .val (.mv (.t 1))⟩,
 ⟨some 12, none, .val (.mv (.t 2))⟩,
 ⟨some 13, none, .call 66 [(.t 12)]⟩,
 ⟨some 14, none, .call 43 [(.t 11), (.t 13)]⟩,
 ⟨some 15, none, .bslice 4 1 [(.int .i64 0), (.bool false), (.int .u64 0), .nilSl] [(0, 4, (.t 14))]⟩,
 ⟨some 17, none, .val (.nilc (.t 6))⟩,
 ⟨some 18, none, .val (.faddr 1 (.t 17))⟩] [
 ⟨some 16, none, .app 4 48 (.t 10) (.t 15)⟩,
 ⟨none, none, .store 1 (.t 18) (.t 16)⟩] []
theorem c45 : Try.f45.body.bind (mcOf Try.prog (List.contains [] ·) (List.getD [([0, 0, 0, 0, 0, 0, 0, 0, 0, 0, 2, 0, 0, 2], [])] · ([], [])) 19) = some k45 := by kernel_rfl
theorem r45 : rvsOf Try.prog Try.f45.results.toList = some [] := by kernel_rfl
/- flange/message.Num -/
abbrev k43_0 : MC :=
 (.seq (.reg [
 ⟨some 5, none, .val (.mv (.t 0))⟩,
 ⟨some 6, none, .val (.mv (.t 1))⟩,
 ⟨some 7, none, .build [(.int .i64 0), (.bool false), (.int .u64 0), .nilSl] [(0, 1, (.t 5)), (2, 1, (.t 6))]⟩,
 ⟨none, none, .store 4 (.t 4) (.t 7)⟩] [4]) (.ret))
abbrev k43 : MC :=
 (.seq (.reg [
 ⟨some 4, none, .zalloc [(.int .i64 0), (.bool false), (.int .u64 0), .nilSl]⟩] [0, 1, 4]) k43_0)
theorem c43 : Try.f43.body.bind (mcOf Try.prog (List.contains [] ·) (List.getD [([], [0, 1, 4]), ([], [4])] · ([], [])) 8) = some k43 := by kernel_rfl
theorem r43 : rvsOf Try.prog Try.f43.results.toList = some [.cell 4 true 4] := by kernel_rfl
theorem zig_calls {n : Int} (h : -9223372036854775808 ≤ n ∧ n < 9223372036854775808) (H : AH) : ACalls Try.prog 66 [.int .i64 n] H (fun o H' => o = .ret (.int .u64 (zigN n)) ∧ H' = H) := by
  refine ACalls.drop ?_
  refine acalls Try.func66 c66 r66 (by simp [Try.ntmps66]) ?_
  repeat' (first | with_reducible (first | refine am_seq ?_ | refine am_block ?_) | ((with_reducible apply am_cond); (case hb => rfl); all_goals (intro hc; (try simp only [reduceCtorEq, bD, beq_iff_eq] at hc); (try (exfalso; omega)))) | ((first | with_reducible (first | refine am_reg ?_ | refine am_skip ?_ | refine am_exit ?_ | refine am_ret ?_ | refine vc_intro ?_ | refine need_elems (by assumption) ?_ | refine vlen_acc (by assumption) ?_ | refine need_bytes (by assumption) ?_ | refine need_lk ?_) | ((with_reducible refine alloc_intro (fun ko hko => ?_)) <;> (try have hne := fresh_ne (by assumption) hko) <;> (try have hnk := fresh_ne hk hko) <;> (try have hnk2 := fresh_ne hk2 hko) <;> (try simp only [AH.put_none] at hko)) | done) <;> (try simp -implicitDefEqProofs (disch := omega) only [go_sem, bitI, IntKind.bits])))
  all_goals exact end_eq (congrArg (V.int .u64) (zig_bits h)) (AH.le_refl _)
theorem zag_calls {n : Nat} (h : n < 18446744073709551616) (H : AH) : ACalls Try.prog 38 [.int .u64 n] H (fun o H' => o = .ret (.int .i64 (zagN n)) ∧ H' = H) := by
  refine ACalls.drop ?_
  refine acalls Try.func38 c38 r38 (by simp [Try.ntmps38]) ?_
  repeat' (first | with_reducible (first | refine am_seq ?_ | refine am_block ?_) | ((with_reducible apply am_cond); (case hb => rfl); all_goals (intro hc; (try simp only [reduceCtorEq, bD, beq_iff_eq] at hc); (try (exfalso; omega)))) | ((first | with_reducible (first | refine am_reg ?_ | refine am_skip ?_ | refine am_exit ?_ | refine am_ret ?_ | refine vc_intro ?_ | refine need_elems (by assumption) ?_ | refine vlen_acc (by assumption) ?_ | refine need_bytes (by assumption) ?_ | refine need_lk ?_) | ((with_reducible refine alloc_intro (fun ko hko => ?_)) <;> (try have hne := fresh_ne (by assumption) hko) <;> (try have hnk := fresh_ne hk hko) <;> (try have hnk2 := fresh_ne hk2 hko) <;> (try simp only [AH.put_none] at hko)) | done) <;> (try simp -implicitDefEqProofs (disch := omega) only [go_sem, bitI, IntKind.bits])))
  all_goals exact end_eq (congrArg (V.int .i64) (zag_bits h)) (AH.le_refl _)
theorem num_calls {t : Int} {n : Nat} (H : AH) : ACalls Try.prog 43 [.int .i64 t, .int .u64 n] H (fun o H' => o = .ret (.agg (fldC ⟨t, false, n, []⟩)) ∧ H' = H) := by
  refine ACalls.drop ?_
  refine acalls Try.func43 c43 r43 (by simp [Try.ntmps43]) ?_
  repeat' (first | with_reducible (first | refine am_seq ?_ | refine am_block ?_) | ((with_reducible apply am_cond); (case hb => rfl); all_goals (intro hc; (try simp only [reduceCtorEq, bD, beq_iff_eq] at hc); (try (exfalso; omega)))) | ((first | with_reducible (first | refine am_reg ?_ | refine am_skip ?_ | refine am_exit ?_ | refine am_ret ?_ | refine vc_intro ?_ | refine need_elems (by assumption) ?_ | refine vlen_acc (by assumption) ?_ | refine need_bytes (by assumption) ?_ | refine need_lk ?_) | ((with_reducible refine alloc_intro (fun ko hko => ?_)) <;> (try have hne := fresh_ne (by assumption) hko) <;> (try have hnk := fresh_ne hk hko) <;> (try have hnk2 := fresh_ne hk2 hko) <;> (try simp only [AH.put_none] at hko)) | done) <;> (try simp -implicitDefEqProofs (disch := omega) only [go_sem])))
  all_goals (refine drop_end (by (first | exact fun _ _ h => h | (intro s x h; first | exact no_sub _ h | exact nil_no _ h | exact AccP.sub (by assumption) _ _ h | (refine agg_sub rfl ?_ x h; repeat (first | exact .nil | refine .cons (fun _ h => h) ?_ | refine .cons (fun _ h => nil_no _ h) ?_ | refine .cons (fun _ h => no_sub _ h) ?_ | refine .cons (fun _ h => AccP.sub (by assumption) _ _ h) ?_)) | (refine tuple_sub ?_ x h; repeat (first | exact .nil | refine .cons (fun _ h => h) ?_ | refine .cons (fun _ h => nil_no _ h) ?_ | refine .cons (fun _ h => no_sub _ h) ?_ | refine .cons (fun _ h => AccP.sub (by assumption) _ _ h) ?_ | refine .cons (fun _ h => agg_sub rfl (by repeat (first | exact .nil | refine .cons (fun _ h => h) ?_ | refine .cons (fun _ h => nil_no _ h) ?_ | refine .cons (fun _ h => no_sub _ h) ?_ | refine .cons (fun _ h => AccP.sub (by assumption) _ _ h) ?_)) _ h) ?_))))) (by (repeat (first | exact AH.le_refl _ | assumption | exact AccP.le (by assumption) | refine AH.le_put ?_ (by first | assumption | exact none_of_le (by assumption) (by assumption) | exact And.right (by assumption) | exact And.right (And.right (by assumption))) _ | refine AH.le_trans ?_ (AccP.le (by assumption))))))
def Pk (H0 : AH) (kp : Nat) (e : Int) (l : List Fld) (H : AH) : Prop := ∃ v, H kp = some (.cells [.int .i64 e, v]) ∧ AccP H0 4 (fldsE l) v H
theorem Pk.of {H0 H : AH} {kp : Nat} {e : Int} {l : List Fld} {v : V} (hk : H kp = some (.cells [.int .i64 e, v])) (hacc : AccP H0 4 (fldsE l) v H) : Pk H0 kp e l H := ⟨v, hk, hacc⟩
theorem fail_calls {H0 H : AH} {kp : Nat} {e x : Int} {l : List Fld} (h0 : H0 kp = none) (hp : Pk H0 kp e l H) : ACalls Try.prog 39 [.ptr kp 0, .int .i64 x] H (fun o H' => ∃ v, o = .ret v ∧ Pk H0 kp (if e = 0 then x else e) l H') := by
  obtain ⟨v, hk, hacc⟩ := hp
  refine acalls Try.func39 c39 r39 (by simp [Try.ntmps39]) ?_
  by_cases he : e = 0
  · rw [if_pos he]
    repeat' (first | with_reducible (first | refine am_seq ?_ | refine am_block ?_) | ((with_reducible apply am_cond); (case hb => rfl); all_goals (intro hc; (try simp only [reduceCtorEq, bD, beq_iff_eq] at hc); (try (exfalso; omega)))) | ((first | with_reducible (first | refine am_reg ?_ | refine am_skip ?_ | refine am_exit ?_ | refine am_ret ?_ | refine vc_intro ?_ | refine need_elems (by assumption) ?_ | refine vlen_acc (by assumption) ?_ | refine need_bytes (by assumption) ?_ | refine need_lk ?_) | done) <;> (try simp -implicitDefEqProofs (disch := omega) only [go_sem, he])))
    all_goals exact ⟨_, rfl, v, AH.put_same _ _ _, AccP.turn hacc h0 hk _⟩
  · rw [if_neg he]
    repeat' (first | with_reducible (first | refine am_seq ?_ | refine am_block ?_) | ((with_reducible apply am_cond); (case hb => rfl); all_goals (intro hc; (try simp only [reduceCtorEq, bD, beq_iff_eq] at hc); (try (exfalso; omega)))) | ((first | with_reducible (first | refine am_reg ?_ | refine am_skip ?_ | refine am_exit ?_ | refine am_ret ?_ | refine vc_intro ?_ | refine need_elems (by assumption) ?_ | refine vlen_acc (by assumption) ?_ | refine need_bytes (by assumption) ?_ | refine need_lk ?_) | done) <;> (try simp -implicitDefEqProofs (disch := omega) only [go_sem, he])))
    all_goals exact ⟨_, rfl, v, hk, hacc⟩
theorem pk_app {H0 H : AH} {kp : Nat} {e : Int} {l : List Fld} {f : Fld} {cs : List V} {v : V} {Q : V → AH → Prop} (h0 : H0 kp = none) (hk : H kp = some (.cells [.int .i64 e, v])) (hacc : AccP H0 4 (fldsE l) v H) (hl : l.length < 1000000000000)
    (hQ : ∀ H', Pk H0 kp e (l ++ [f]) H' → ∀ w, Q w H') (hcs : cs = fldC f := by with_unfolding_all rfl) : vapp H 4 48 [cs] (fun v H' => need (H' kp) (storeC H' 1 kp 1 v Q)) v := by
  subst hcs
  refine vapp_accL hacc (by simp only [fldsE_length, List.length_cons, List.length_nil]; omega) (fun v2 H3 hacc3 hlec3 => ?_)
  have q1 := look_lec hk hlec3
  refine need_look q1 (store_acc hacc3 (by simp) ?_)
  refine hQ _ ⟨v2, AH.put_same _ _ _, ?_⟩ _
  rw [fldsE_append]
  exact AccP.turn hacc3 h0 q1 _
theorem pnum_calls {H0 H : AH} {kp : Nat} {e n t : Int} {l : List Fld} (h0 : H0 kp = none) (hp : Pk H0 kp e l H) (hn : -9223372036854775808 ≤ n ∧ n < 9223372036854775808) (hl : l.length < 1000000000000) :
    ACalls Try.prog 45 [.ptr kp 0, .int .i64 t, .int .i64 n] H (fun o H' => ∃ v, o = .ret v ∧ Pk H0 kp e (l ++ [⟨t, false, zigN n, []⟩]) H') := by
  obtain ⟨v, hk, hacc⟩ := hp
  have hnc := fun G => num_calls (t := t) (n := zigN n) G
  simp only [fldC] at hnc
  refine acalls Try.func45 c45 r45 (by simp [Try.ntmps45]) ?_
  repeat' (first | ((with_reducible refine pk_app (f := ⟨t, false, zigN n, []⟩) h0 hk hacc hl (fun H2 hp w => ?_))) | with_reducible (first | refine am_seq ?_ | refine am_block ?_) | ((with_reducible apply am_cond); (case hb => rfl); all_goals (intro hc; (try simp only [reduceCtorEq, bD, beq_iff_eq] at hc); (try (exfalso; omega)))) | ((first | with_reducible (first | refine am_reg ?_ | refine am_drw ?_ | refine am_skip ?_ | refine am_exit ?_ | refine am_ret ?_ | refine vc_intro ?_ | refine need_elems (by assumption) ?_ | refine vlen_acc (by assumption) ?_ | refine need_bytes (by assumption) ?_ | refine call_of (zig_calls hn) ?_ | refine qcall_of (zig_calls hn) ?_ | refine call_of (hnc) ?_ | refine qcall_of (hnc) ?_ | refine need_lk ?_) | ((with_reducible refine alloc_intro (fun ko hko => ?_)) <;> (try have hne := fresh_ne (by assumption) hko) <;> (try have hnk := fresh_ne hk hko) <;> (try have hnk2 := fresh_ne hk2 hko) <;> (try simp only [AH.put_none] at hko)) | ((with_reducible (first | refine vapp_accL (by assumption) ?_ (fun v2 H2 hacc hlec => ?_) | refine vapp_accL (AccP.mono (by assumption) (AccP.le (by assumption))) ?_ (fun v2 H2 hacc hlec => ?_) | refine vapp_accL (AccP.new (by assumption) (by assumption) _) ?_ (fun v2 H2 hacc hlec => ?_))); · simp only [byteCells_length, List.length_cons, List.length_nil, List.length_map, List.length_append, vE_length, fldsE_length, strE_length]; omega) | done) <;> (try simp -implicitDefEqProofs (disch := omega) only [go_sem])))
  all_goals exact ⟨_, rfl, hp⟩
end Go.Proofs.Ytoicninkfmfnbaa
namespace Go.Proofs.Ytoicninkfmfnbaa
open Go.Vm
attribute [local go_sem] eq_self decide_true decide_false AH.put_ne
attribute [local go_sem_proc] Nat.reduceBEq Nat.reduceAdd Nat.reduceSub Nat.reduceMul Nat.reduceEqDiff Nat.reduceLeDiff Nat.reduceLT Int.reduceLE Int.reduceLT Int.reduceToNat Int.reduceAdd Int.reduceEq Int.reduceNeg
attribute [local go_sem] vE_length byteCells_length fldC fldsE_get fldsE_length List.drop_zero toNat_succ Nat.sub_zero Int.toNat_natCast Option.map_some Int.natCast_nonneg decide_eq_true_eq decide_eq_false_iff_not
/- (*flange/pack.packer).items -/
abbrev k49_0 : MC :=
 .drw [
 ⟨some 26, none, .val (.mv (.t 0))⟩,
 ⟨some 27, none, .val (.mv (.t 0))⟩,
 ⟨some 28, none, .val (.nilc (.t 27))⟩,
 ⟨some 29, none, .val (.faddr 1 (.t 28))⟩,
 ⟨some 30, none, .val (.load false 1 (.t 29))⟩,
 ⟨some 31, none, .val (.mv (.t 1))⟩,
 ⟨some 32, none, .val (.mv (.t 8))⟩,
 ⟨some 33, none, .call 48 [(.t 31), (.t 32)]⟩,
 ⟨some 34, none, .bslice 4 1 [(.int .i64 0), (.bool false), (.int .u64 0), .nilSl] [(0, 4, (.t 33))]⟩,
 ⟨some 36, none, .val (.nilc (.t 26))⟩,
 ⟨some 37, none, .val (.faddr 1 (.t 36))⟩] [
 ⟨some 35, none, .app 4 48 (.t 30) (.t 34)⟩,
 ⟨none, none, .store 1 (.t 37) (.t 35)⟩] [0, 1, 10, 11, 12]
abbrev k49_1 : MC :=
 (.seq (.reg [
 ⟨some 21, none, .val (.mv (.t 0))⟩,
 ⟨some 22, none, .val (.nilc (.t 21))⟩,
 ⟨some 23, none, .val (.faddr 0 (.t 22))⟩,
 ⟨some 24, none, .val (.mv (.t 9))⟩,
 ⟨some 25, none, .call 39 [(.t 23), (.t 24)]⟩] [0, 1, 8, 10, 11, 12]) k49_0)
abbrev k49_2 : MC :=
 (.seq (.reg [
 ⟨some 17, none, .val (.load true 1 (.t 7))⟩,
 ⟨some 18, none, .call 8 [(.t 17)]⟩,
 ⟨some 16, none, .val (.mv (.t 18))⟩,
 ⟨some 19, none, .val (.ext (.t 16) 0)⟩,
 ⟨some 20, none, .val (.ext (.t 16) 1)⟩,
 ⟨some 8, none, .val (.mv (.t 19))⟩,
 ⟨some 9, none, .val (.mv (.t 20))⟩] [0, 1, 8, 9, 10, 11, 12]) k49_1)
abbrev k49_3 : MC :=
 .reg [
 ⟨some 38, none, .val (.bin .add .num (.t 12) (.c (.int .i64 1)))⟩,
 ⟨some 12, none, .val (.mv (.t 38))⟩] [0, 1, 10, 11, 12]
abbrev k49_4 : MC :=
 (.seq (.block 1 ((.seq (.reg [
 ⟨some 14, none, .val (.iaddr 1 (.t 10) (.t 12))⟩,
 ⟨some 15, none, .val (.load true 1 (.t 14))⟩,
 ⟨some 7, none, .zalloc [.nilIface]⟩,
 ⟨none, none, .store 1 (.t 7) (.t 15)⟩] [0, 1, 7, 10, 11, 12]) k49_2))) k49_3)
abbrev k49_5 : MC :=
 (.seq (.cond (.t 13) (.skip) (.exit 0)) k49_4)
abbrev k49_6 : MC :=
 (.seq (.reg [
 ⟨some 13, none, .val (.bin .lss .num (.t 12) (.t 11))⟩] [0, 1, 10, 11, 12, 13]) k49_5)
abbrev k49_7 : MC :=
 .block 0 (.loop k49_6)
abbrev k49 : MC :=
 (.seq (.reg [
 ⟨some 10, none, .val (.mv (.t 2))⟩,
 ⟨some 11, none, .val (.len .sl (.t 10))⟩,
 ⟨some 12, none, .val (.mv (.c (.int .i64 0)))⟩] [0, 1, 10, 11, 12]) k49_7)
theorem c49 : Try.f49.body.bind (mcOf Try.prog (List.contains [] ·) (List.getD [([], [0, 1, 10, 11, 12]), ([], [0, 1, 10, 11, 12, 13]), ([], [0, 1, 7, 10, 11, 12]), ([], [0, 1, 8, 9, 10, 11, 12]), ([], [0, 1, 8, 10, 11, 12]), ([0, 0, 0, 0, 0, 0, 0, 0, 0, 2, 0, 0, 2], [0, 1, 10, 11, 12]), ([], [0, 1, 10, 11, 12])] · ([], [])) 39) = some k49 := by kernel_rfl
theorem r49 : rvsOf Try.prog Try.f49.results.toList = some [] := by kernel_rfl
/- (*flange/pack.packer).value -/
abbrev k19_0 : MC :=
 .cond (.t 38) (.reg [
 ⟨some 4, none, .val (.mv (.c (.int .u64 1)))⟩] [0, 4]) (.skip)
abbrev k19_1 : MC :=
 (.seq (.reg [
 ⟨some 38, none, .val (.mv (.t 5))⟩] [0, 4, 38]) k19_0)
abbrev k19_2 : MC :=
 .drw [
 ⟨some 39, none, .val (.mv (.t 0))⟩,
 ⟨some 40, none, .val (.mv (.t 0))⟩,
 ⟨some 41, none, .val (.nilc (.t 40))⟩,
 ⟨some 42, none, .val (.faddr 1 (.t 41))⟩,
 ⟨some 43, none, .val (.load false 1 (.t 42))⟩,
 ⟨some 44, none, .val (.mv (.t 4))⟩,
 ⟨some 45, none, .call 43 [(.c (.int .i64 2)), (.t 44)]⟩,
 ⟨some 46, none, .bslice 4 1 [(.int .i64 0), (.bool false), (.int .u64 0), .nilSl] [(0, 4, (.t 45))]⟩,
 ⟨some 48, none, .val (.nilc (.t 39))⟩,
 ⟨some 49, none, .val (.faddr 1 (.t 48))⟩] [
 ⟨some 47, none, .app 4 48 (.t 43) (.t 46)⟩,
 ⟨none, none, .store 1 (.t 49) (.t 47)⟩] []
abbrev k19_3 : MC :=
 (.seq ((.seq (.reg [
 ⟨some 34, none, .val (.load true 1 (.t 3))⟩,
 ⟨some 35, none, .call 44 [(.t 34)]⟩,
 ⟨some 33, none, .val (.mv (.t 35))⟩,
 ⟨some 36, none, .val (.ext (.t 33) 0)⟩,
 ⟨some 37, none, .val (.ext (.t 33) 1)⟩,
 ⟨some 5, none, .val (.mv (.t 36))⟩,
 ⟨some 6, none, .val (.mv (.t 37))⟩] [0, 4, 5]) k19_1)) k19_2)
abbrev k19_4 : MC :=
 .reg [
 ⟨some 57, none, .val (.mv (.t 0))⟩,
 ⟨some 58, none, .val (.mv (.t 7))⟩,
 ⟨some 59, none, .call 45 [(.t 57), (.c (.int .i64 2)), (.t 58)]⟩] []
abbrev k19_5 : MC :=
 .reg [
 ⟨some 71, none, .val (.mv (.t 0))⟩,
 ⟨some 72, none, .val (.mv (.t 10))⟩,
 ⟨some 73, none, .call 45 [(.t 71), (.c (.int .i64 3)), (.t 72)]⟩] []
abbrev k19_6 : MC :=
 (.seq (.reg [
 ⟨some 68, none, .val (.mv (.t 0))⟩,
 ⟨some 69, none, .val (.mv (.t 9))⟩,
 ⟨some 70, none, .call 45 [(.t 68), (.c (.int .i64 2)), (.t 69)]⟩] [0, 10]) k19_5)
abbrev k19_7 : MC :=
 .drw [
 ⟨some 81, none, .val (.mv (.t 0))⟩,
 ⟨some 82, none, .val (.mv (.t 0))⟩,
 ⟨some 83, none, .val (.nilc (.t 82))⟩,
 ⟨some 84, none, .val (.faddr 1 (.t 83))⟩,
 ⟨some 85, none, .val (.load false 1 (.t 84))⟩,
 ⟨some 86, none, .val (.mv (.t 12))⟩,
 ⟨some 87, none, .s2b (.t 86)⟩,
 ⟨some 88, none, .call 48 [(.c (.int .i64 4)), (.t 87)]⟩,
 ⟨some 89, none, .bslice 4 1 [(.int .i64 0), (.bool false), (.int .u64 0), .nilSl] [(0, 4, (.t 88))]⟩,
 ⟨some 91, none, .val (.nilc (.t 81))⟩,
 ⟨some 92, none, .val (.faddr 1 (.t 91))⟩] [
 ⟨some 90, none, .app 4 48 (.t 85) (.t 89)⟩,
 ⟨none, none, .store 1 (.t 92) (.t 90)⟩] []
abbrev k19_8 : MC :=
 .drw [
 ⟨some 108, none, .val (.mv (.t 0))⟩,
 ⟨some 109, none, .val (.mv (.t 0))⟩,
 ⟨some 110, none, .val (.nilc (.t 109))⟩,
 ⟨some 111, none, .val (.faddr 1 (.t 110))⟩,
 ⟨some 112, none, .val (.load false 1 (.t 111))⟩,
 ⟨some 113, none, .val (.mv (.t 15))⟩,
 ⟨some 114, none, .s2b (.t 113)⟩,
 ⟨some 115, none, .call 48 [(.c (.int .i64 6)), (.t 114)]⟩,
 ⟨some 116, none, .bslice 4 1 [(.int .i64 0), (.bool false), (.int .u64 0), .nilSl] [(0, 4, (.t 115))]⟩,
 ⟨some 118, none, .val (.nilc (.t 108))⟩,
 ⟨some 119, none, .val (.faddr 1 (.t 118))⟩] [
 ⟨some 117, none, .app 4 48 (.t 112) (.t 116)⟩,
 ⟨none, none, .store 1 (.t 119) (.t 117)⟩] [0, 3, 102, 103, 104]
abbrev k19_9 : MC :=
 .reg [
 ⟨some 120, none, .val (.bin .add .num (.t 104) (.c (.int .i64 1)))⟩,
 ⟨some 104, none, .val (.mv (.t 120))⟩] [0, 3, 102, 103, 104]
abbrev k19_10 : MC :=
 (.seq (.block 2 ((.seq (.reg [
 ⟨some 106, none, .val (.iaddr 1 (.t 102) (.t 104))⟩,
 ⟨some 107, none, .val (.load false 1 (.t 106))⟩,
 ⟨some 15, none, .val (.mv (.t 107))⟩] [0, 3, 15, 102, 103, 104]) k19_8))) k19_9)
abbrev k19_11 : MC :=
 (.seq (.cond (.t 105) (.skip) (.exit 1)) k19_10)
abbrev k19_12 : MC :=
 (.seq (.reg [
 ⟨some 105, none, .val (.bin .lss .num (.t 104) (.t 103))⟩] [0, 3, 102, 103, 104, 105]) k19_11)
abbrev k19_13 : MC :=
 .block 1 (.loop k19_12)
abbrev k19_14 : MC :=
 .reg [
 ⟨some 121, none, .val (.mv (.t 0))⟩,
 ⟨some 122, none, .val (.load true 1 (.t 3))⟩,
 ⟨some 123, none, .call 50 [(.t 122)]⟩,
 ⟨some 124, none, .call 49 [(.t 121), (.c (.int .i64 7)), (.t 123)]⟩] []
abbrev k19_15 : MC :=
 .cond (.t 99) ((.seq ((.seq (.reg [
 ⟨some 101, none, .val (.load true 1 (.t 3))⟩,
 ⟨some 102, none, .call 51 [(.t 101)]⟩,
 ⟨some 103, none, .val (.len .sl (.t 102))⟩,
 ⟨some 104, none, .val (.mv (.c (.int .i64 0)))⟩] [0, 3, 102, 103, 104]) k19_13)) k19_14)) (.skip)
abbrev k19_16 : MC :=
 .cond (.t 93) (.reg [
 ⟨some 95, none, .val (.mv (.t 0))⟩,
 ⟨some 96, none, .val (.load true 1 (.t 3))⟩,
 ⟨some 97, none, .call 50 [(.t 96)]⟩,
 ⟨some 98, none, .call 49 [(.t 95), (.c (.int .i64 5)), (.t 97)]⟩] []) ((.seq (.reg [
 ⟨some 100, none, .val (.bin .eql .num (.t 30) (.c (.int .i64 7)))⟩,
 ⟨some 99, none, .val (.mv (.t 100))⟩] [0, 3, 99]) k19_15))
abbrev k19_17 : MC :=
 .cond (.t 74) ((.seq (.reg [
 ⟨some 77, none, .val (.load true 1 (.t 3))⟩,
 ⟨some 78, none, .call 47 [(.t 77)]⟩,
 ⟨some 76, none, .val (.mv (.t 78))⟩,
 ⟨some 79, none, .val (.ext (.t 76) 0)⟩,
 ⟨some 80, none, .val (.ext (.t 76) 1)⟩,
 ⟨some 12, none, .val (.mv (.t 79))⟩,
 ⟨some 13, none, .val (.mv (.t 80))⟩] [0, 12]) k19_7)) ((.seq (.reg [
 ⟨some 94, none, .val (.bin .eql .num (.t 30) (.c (.int .i64 6)))⟩,
 ⟨some 93, none, .val (.mv (.t 94))⟩] [0, 3, 30, 93]) k19_16))
abbrev k19_18 : MC :=
 .cond (.t 60) ((.seq (.reg [
 ⟨some 63, none, .val (.load true 1 (.t 3))⟩,
 ⟨some 64, none, .call 46 [(.t 63)]⟩,
 ⟨some 62, none, .val (.mv (.t 64))⟩,
 ⟨some 65, none, .val (.ext (.t 62) 0)⟩,
 ⟨some 66, none, .val (.ext (.t 62) 1)⟩,
 ⟨some 67, none, .val (.ext (.t 62) 2)⟩,
 ⟨some 9, none, .val (.mv (.t 65))⟩,
 ⟨some 10, none, .val (.mv (.t 66))⟩,
 ⟨some 11, none, .val (.mv (.t 67))⟩] [0, 9, 10]) k19_6)) ((.seq (.reg [
 ⟨some 75, none, .val (.bin .eql .num (.t 30) (.c (.int .i64 5)))⟩,
 ⟨some 74, none, .val (.mv (.t 75))⟩] [0, 3, 30, 74]) k19_17))
abbrev k19_19 : MC :=
 .cond (.t 50) ((.seq (.reg [
 ⟨some 53, none, .val (.load true 1 (.t 3))⟩,
 ⟨some 54, none, .call 15 [(.t 53)]⟩,
 ⟨some 52, none, .val (.mv (.t 54))⟩,
 ⟨some 55, none, .val (.ext (.t 52) 0)⟩,
 ⟨some 56, none, .val (.ext (.t 52) 1)⟩,
 ⟨some 7, none, .val (.mv (.t 55))⟩,
 ⟨some 8, none, .val (.mv (.t 56))⟩] [0, 7]) k19_4)) ((.seq (.reg [
 ⟨some 61, none, .val (.bin .eql .num (.t 30) (.c (.int .i64 4)))⟩,
 ⟨some 60, none, .val (.mv (.t 61))⟩] [0, 3, 30, 60]) k19_18))
abbrev k19_20 : MC :=
 .cond (.t 31) ((.seq (.reg [
 ⟨some 4, none, .val (.mv (.c (.int .u64 0)))⟩] [0, 3, 4]) k19_3)) ((.seq (.reg [
 ⟨some 51, none, .val (.bin .eql .num (.t 30) (.c (.int .i64 3)))⟩,
 ⟨some 50, none, .val (.mv (.t 51))⟩] [0, 3, 30, 50]) k19_19))
abbrev k19_21 : MC :=
 .block 0 ((.seq (.reg [
 ⟨some 32, none, .val (.bin .eql .num (.t 30) (.c (.int .i64 2)))⟩,
 ⟨some 31, none, .val (.mv (.t 32))⟩] [0, 3, 30, 31]) k19_20))
abbrev k19_22 : MC :=
 (.seq (.reg [
 ⟨some 29, none, .val (.load true 1 (.t 3))⟩,
 ⟨some 30, none, .call 7 [(.t 29)]⟩] [0, 3, 30]) k19_21)
abbrev k19_23 : MC :=
 (.seq (.drw [
 ⟨some 16, none, .val (.mv (.t 0))⟩,
 ⟨some 17, none, .val (.mv (.t 0))⟩,
 ⟨some 18, none, .val (.nilc (.t 17))⟩,
 ⟨some 19, none, .val (.faddr 1 (.t 18))⟩,
 ⟨some 20, none, .val (.load false 1 (.t 19))⟩,
 ⟨some 21, none, .val (.load true 1 (.t 3))⟩,
 ⟨some 22, none, .call 7 [(.t 21)]⟩,
 ⟨some 23, none, .val (.i2i .u64 (.t 22))⟩,
 ⟨some 24, none, .call 43 [(.c (.int .i64 1)), (.t 23)]⟩,
 ⟨some 25, none, .bslice 4 1 [(.int .i64 0), (.bool false), (.int .u64 0), .nilSl] [(0, 4, (.t 24))]⟩,
 ⟨some 27, none, .val (.nilc (.t 16))⟩,
 ⟨some 28, none, .val (.faddr 1 (.t 27))⟩] [
 ⟨some 26, none, .app 4 48 (.t 20) (.t 25)⟩,
 ⟨none, none, .store 1 (.t 28) (.t 26)⟩] [0, 3]) k19_22)
abbrev k19 : MC :=
 (.seq (.reg [
 ⟨some 3, none, .boxi (.t 1)⟩] [0, 3]) k19_23)
theorem c19 : Try.f19.body.bind (mcOf Try.prog (List.contains [3] ·) (List.getD [([], [0, 3]), ([0, 0, 0, 0, 0, 0, 0, 0, 0, 0, 2, 0, 0, 2], [0, 3]), ([], [0, 3, 30]), ([], [0, 3, 30, 31]), ([], [0, 3, 4]), ([], [0, 4, 5]), ([], [0, 4, 38]), ([], [0, 4]), ([0, 0, 0, 0, 0, 0, 0, 0, 2, 0, 0, 2], []), ([], [0, 3, 30, 50]), ([], [0, 7]), ([], []), ([], [0, 3, 30, 60]), ([], [0, 9, 10]), ([], [0, 10]), ([], []), ([], [0, 3, 30, 74]), ([], [0, 12]), ([0, 0, 0, 0, 0, 0, 0, 0, 0, 2, 0, 0, 2], []), ([], [0, 3, 30, 93]), ([], []), ([], [0, 3, 99]), ([], [0, 3, 102, 103, 104]), ([], [0, 3, 102, 103, 104, 105]), ([], [0, 3, 15, 102, 103, 104]), ([0, 0, 0, 0, 0, 0, 0, 0, 0, 2, 0, 0, 2], [0, 3, 102, 103, 104]), ([], [0, 3, 102, 103, 104]), ([], [])] · ([], [])) 125) = some k19 := by kernel_rfl
theorem r19 : rvsOf Try.prog Try.f19.results.toList = some [] := by kernel_rfl
def EncOk (m : Rv) : Prop := ∀ v, Sm v m → v.Ok → ∀ (g : Nat) (H : AH), H g = some .nodr → ACalls Try.prog 8 [.agg [vV v]] H (fun o H' => o = .ret (.tuple [.sl 1 (byteCells (encM m).1) .no, .int .i64 (encM m).2]) ∧ H' = H)
def errF (e : Int) (l : List (List UInt8 × Int)) : Int := l.foldl (fun a p => if a = 0 then p.2 else a) e
theorem Pk.new {H0 H : AH} {kp ko : Nat} {e : Int} {l : List Fld} (h : Pk H0 kp e l H) (hko : H ko = none) (o : AObj) : Pk H0 kp e l (H.put ko o) := by
  obtain ⟨v, hk, hacc⟩ := h
  exact ⟨v, look_put hk hko, hacc.new hko _⟩
theorem Pk.le {H0 H : AH} {kp : Nat} {e : Int} {l : List Fld} (h : Pk H0 kp e l H) : H0.le H := by
  obtain ⟨v, hk, hacc⟩ := h
  exact hacc.le
abbrev bF (tag : Int) (p : List UInt8 × Int) : Fld := ⟨tag, true, 0, p.1⟩
theorem pitems_calls {H0 H : AH} {kp g : Nat} {e tag : Int} {l : List Fld} {vs : List Vl} {L : List Rv} (h0 : H0 kp = none) (hp : Pk H0 kp e l H) (hg0 : H0 g = some .nodr) (hvl : vs.length = L.length) (hL : L.length ≤ 64) (hll : l.length ≤ 1000)
    (hs : ∀ i (h : i < vs.length) (h2 : i < L.length), Sm vs[i] L[i]) (ho : ∀ x ∈ vs, x.Ok) (ih : ∀ x ∈ L, EncOk x) :
    ACalls Try.prog 49 [.ptr kp 0, .int .i64 tag, .sl 1 (vE vs) .no] H (fun o H' => ∃ v, o = .ret v ∧ Pk H0 kp (errF e (L.map encM)) (l ++ (L.map encM).map (bF tag)) H') := by
  refine acalls Try.func49 c49 r49 (by simp [Try.ntmps49]) ?_
  repeat' (first | with_reducible (first | refine am_seq ?_ | refine am_block ?_) | ((with_reducible apply am_cond); (case hb => rfl); all_goals (intro hc; (try simp only [reduceCtorEq, bD, beq_iff_eq] at hc); (try (exfalso; omega)))) | ((first | with_reducible (first | refine am_reg ?_ | refine am_drw ?_ | refine am_skip ?_ | refine am_exit ?_ | refine am_ret ?_ | refine vc_intro ?_ | refine need_elems (by assumption) ?_ | refine vlen_acc (by assumption) ?_ | refine need_bytes (by assumption) ?_ | refine need_lk ?_) | ((with_reducible refine alloc_intro (fun ko hko => ?_)) <;> (try have hne := fresh_ne (by assumption) hko) <;> (try have hnk := fresh_ne hk hko) <;> (try have hnk2 := fresh_ne hk2 hko) <;> (try simp only [AH.put_none] at hko)) | ((with_reducible (first | refine vapp_accL (by assumption) ?_ (fun v2 H2 hacc hlec => ?_) | refine vapp_accL (AccP.mono (by assumption) (AccP.le (by assumption))) ?_ (fun v2 H2 hacc hlec => ?_) | refine vapp_accL (AccP.new (by assumption) (by assumption) _) ?_ (fun v2 H2 hacc hlec => ?_))); · simp only [byteCells_length, List.length_cons, List.length_nil, List.length_map, List.length_append, vE_length, fldsE_length, strE_length]; omega) | done) <;> (try simp -implicitDefEqProofs (disch := omega) only [go_sem, wrap_id])))
  refine am_loop (fun n st H' => ∃ i : Nat, i + n = L.length ∧ st = [(0, .ptr kp 0), (1, .int .i64 tag), (10, .sl 1 (vE vs) .no), (11, .int .i64 vs.length), (12, .int .i64 i)] ∧ Pk H0 kp (errF e ((L.take i).map encM)) (l ++ ((L.take i).map encM).map (bF tag)) H') ?_ L.length ⟨0, by omega, rfl, by simpa [errF] using hp⟩
  rintro n st G ⟨i, hi, rfl, hpk⟩
  by_cases hlt : i < L.length
  · have hlt1 : i < vs.length := by omega
    have hc1 := ih L[i] (List.getElem_mem hlt) vs[i] (hs i hlt1 hlt) (ho _ (List.getElem_mem hlt1))
    have e0 : (L.take (i + 1)).map encM = (L.take i).map encM ++ [encM L[i]] := by rw [List.take_succ_eq_append_getElem hlt, List.map_append]; rfl
    have hge := hpk.le _ _ hg0
    have hbl := encM_len L[i]
    have hll2 : (l ++ ((L.take i).map encM).map (bF tag)).length < 1000000000000 := by simp only [List.length_append, List.length_map, List.length_take]; omega
    have hget := vE_get hlt1
    generalize vs[i] = x at *
    generalize L[i] = m at *
    have hb := fun G => Msg.blob_calls (t := tag) (l := (encM m).1) (k := .no) (by omega) G
    simp only [fldC] at hb
    repeat' (first | (((with_reducible refine call_ex (fail_calls h0 (Pk.new hpk hko _)) (fun w H2 hr => ?_)); obtain ⟨v2, hk2, hacc2⟩ := hr)) | ((with_reducible refine pk_app (f := ⟨tag, true, 0, (encM m).1⟩) h0 hk2 hacc2 hll2 (fun H3 hp3 w3 => ?_))) | with_reducible (first | refine am_seq ?_ | refine am_block ?_) | ((with_reducible apply am_cond); (case hb => rfl); all_goals (intro hc; (try simp only [reduceCtorEq, bD, beq_iff_eq] at hc); (try (exfalso; omega)))) | ((first | with_reducible (first | refine am_reg ?_ | refine am_drw ?_ | refine am_skip ?_ | refine am_exit ?_ | refine am_ret ?_ | refine vc_intro ?_ | refine need_elems (by assumption) ?_ | refine vlen_acc (by assumption) ?_ | refine need_bytes (by assumption) ?_ | refine call_turn (hc1 _ _ (look_put hge hko)) ?_ | refine call_of (hb) ?_ | refine qcall_of (hb) ?_ | refine need_lk ?_) | ((with_reducible refine alloc_intro (fun ko hko => ?_)) <;> (try have hne := fresh_ne (by assumption) hko) <;> (try have hnk := fresh_ne hk hko) <;> (try have hnk2 := fresh_ne hk2 hko) <;> (try simp only [AH.put_none] at hko)) | ((with_reducible (first | refine vapp_accL (by assumption) ?_ (fun v2 H2 hacc hlec => ?_) | refine vapp_accL (AccP.mono (by assumption) (AccP.le (by assumption))) ?_ (fun v2 H2 hacc hlec => ?_) | refine vapp_accL (AccP.new (by assumption) (by assumption) _) ?_ (fun v2 H2 hacc hlec => ?_))); · simp only [byteCells_length, List.length_cons, List.length_nil, List.length_map, List.length_append, vE_length, fldsE_length, strE_length]; omega) | done) <;> (try simp -implicitDefEqProofs (disch := omega) only [go_sem, wrap_id, vE_length, hget])))
    all_goals refine ⟨n - 1, by omega, i + 1, by omega, rfl, ?_⟩
    rw [e0, errF, List.foldl_append, List.map_append, ← List.append_assoc]
    exact hp3
  · rw [List.take_of_length_le (by omega)] at hpk
    repeat' (first | with_reducible (first | refine am_seq ?_ | refine am_block ?_) | ((with_reducible apply am_cond); (case hb => rfl); all_goals (intro hc; (try simp only [reduceCtorEq, bD, beq_iff_eq] at hc); (try (exfalso; omega)))) | ((first | with_reducible (first | refine am_reg ?_ | refine am_drw ?_ | refine am_skip ?_ | refine am_exit ?_ | refine am_ret ?_ | refine vc_intro ?_ | refine need_elems (by assumption) ?_ | refine vlen_acc (by assumption) ?_ | refine need_bytes (by assumption) ?_ | refine need_lk ?_) | ((with_reducible refine alloc_intro (fun ko hko => ?_)) <;> (try have hne := fresh_ne (by assumption) hko) <;> (try have hnk := fresh_ne hk hko) <;> (try have hnk2 := fresh_ne hk2 hko) <;> (try simp only [AH.put_none] at hko)) | ((with_reducible (first | refine vapp_accL (by assumption) ?_ (fun v2 H2 hacc hlec => ?_) | refine vapp_accL (AccP.mono (by assumption) (AccP.le (by assumption))) ?_ (fun v2 H2 hacc hlec => ?_) | refine vapp_accL (AccP.new (by assumption) (by assumption) _) ?_ (fun v2 H2 hacc hlec => ?_))); · simp only [byteCells_length, List.length_cons, List.length_nil, List.length_map, List.length_append, vE_length, fldsE_length, strE_length]; omega) | done) <;> (try simp -implicitDefEqProofs (disch := omega) only [go_sem, wrap_id])))
    all_goals exact ⟨_, rfl, hpk⟩
end Go.Proofs.Ytoicninkfmfnbaa
