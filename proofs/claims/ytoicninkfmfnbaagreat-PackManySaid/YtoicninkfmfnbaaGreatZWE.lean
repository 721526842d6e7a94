/- Of the walks of this seat: contracts of functions of the given program, proved over the abstract values of the texts Vm. Conditions: as each theorem says. -/
import Derived.Test.YtoicninkfmfnbaaGreatZKGD
import Derived.Test.YtoicninkfmfnbaaGreatVm37
import Derived.Test.YtoicninkfmfnbaaGreatKVF
set_option linter.unusedVariables false
set_option linter.unusedSimpArgs false
namespace Go.Proofs.YtoicninkfmfnbaaGreat
open Go.Vm Go.Sort
attribute [local go_sem] eq_self decide_true decide_false AH.put_ne
attribute [local go_sem_proc] Nat.reduceBEq Nat.reduceAdd Nat.reduceSub Nat.reduceMul Nat.reduceEqDiff Nat.reduceLeDiff Nat.reduceLT Int.reduceLE Int.reduceLT Int.reduceToNat Int.reduceAdd Int.reduceEq Int.reduceNeg
attribute [local go_sem] List.drop_zero toNat_succ Nat.sub_zero Int.toNat_natCast Option.map_some Int.natCast_nonneg decide_eq_true_eq decide_eq_false_iff_not
/- flange/value.Same -/
abbrev k16_0 : MC :=
 (.seq (.reg [
 mv 22 7,
 mv 23 22,
 ⟨some 24, (some (23, true)), .val (.mv (.t 5))⟩,
 ⟨some 25, (some (23, true)), .val (.mv (.t 6))⟩,
 ⟨some 26, (some (23, true)), .call 43 [(.t 24), (.t 25), (.c (.func (.func 16) [] []))]⟩,
 vl 27 (.pick (.t 23) (.t 26) (.c (.bool false))),
 mv 4 27] [4]) (.ret))
abbrev k16_1 : MC :=
 (.seq (.reg [
 vl 17 (.faddr 0 (.t 3)),
 vl 18 (.load false 1 (.t 17)),
 vl 19 (.tya 88 true .nilSl (.t 18)),
 mv 16 19,
 vl 20 (.ext (.t 16) 0),
 vl 21 (.ext (.t 16) 1),
 mv 6 20,
 mv 7 21] [5, 6, 7]) k16_0)
abbrev k16_2 : MC :=
 (.seq (.reg [
 mv 37 10,
 mv 38 37,
 ⟨some 39, (some (38, true)), .val (.mv (.t 8))⟩,
 ⟨some 40, (some (38, true)), .val (.mv (.t 9))⟩,
 ⟨some 41, (some (38, true)), .call 44 [(.t 39), (.t 40), (.c (.func (.func 16) [] []))]⟩,
 vl 42 (.pick (.t 38) (.t 41) (.c (.bool false))),
 mv 4 42] [4]) (.ret))
abbrev k16_3 : MC :=
 (.seq (.reg [
 vl 32 (.faddr 0 (.t 3)),
 vl 33 (.load false 1 (.t 32)),
 vl 34 (.tya 92 true .nilMap (.t 33)),
 mv 31 34,
 vl 35 (.ext (.t 31) 0),
 vl 36 (.ext (.t 31) 1),
 mv 9 35,
 mv 10 36] [8, 9, 10]) k16_2)
abbrev k16_4 : MC :=
 .cond (.t 29) ((.seq (.reg [
 mv 8 30] [3, 8]) k16_3)) (.skip)
abbrev k16_5 : MC :=
 .cond (.t 14) ((.seq (.reg [
 mv 5 15] [3, 5]) k16_1)) ((.seq (.reg [
 vl 28 (.tya 92 true .nilMap (.t 12)),
 vl 29 (.ext (.t 28) 1),
 vl 30 (.ext (.t 28) 0)] [2, 3, 29, 30]) k16_4))
abbrev k16_6 : MC :=
 .block 0 ((.seq (.reg [
 vl 13 (.tya 88 true .nilSl (.t 12)),
 vl 14 (.ext (.t 13) 1),
 vl 15 (.ext (.t 13) 0)] [2, 3, 12, 14, 15]) k16_5))
abbrev k16_7 : MC :=
 .cond (.t 51) ((.seq (.reg [
 vl 4 (.mv (.c (.bool false)))] [4]) (.ret))) (.skip)
abbrev k16_8 : MC :=
 .block 1 ((.seq (.reg [
 vl 45 (.tya 88 true .nilSl (.t 44)),
 vl 46 (.ext (.t 45) 1),
 vl 47 (.ext (.t 45) 0),
 vl 48 (.tya 92 true .nilMap (.t 44)),
 vl 49 (.ext (.t 48) 1),
 vl 50 (.ext (.t 48) 0),
 vl 51 (.pick (.t 46) (.c (.bool true)) (.t 49))] [2, 3, 51]) k16_7))
abbrev k16_9 : MC :=
 (.seq (.reg [
 vl 52 (.faddr 0 (.t 2)),
 vl 53 (.load false 1 (.t 52)),
 vl 54 (.faddr 0 (.t 3)),
 vl 55 (.load false 1 (.t 54)),
 vl 56 (.bin .eql (.iface [(2, .int), (3, .int), (4, .bool), (5, .int), (6, .int), (9, .str), (10, .str), (11, .str), (12, .int), (21, .int), (30, .int), (97, .int), (106, .unit), (107, .unit), (109, .cplx), (141, .int), (156, .int), (164, .int), (165, .int), (179, .int), (180, .int), (183, .int), (184, .int)]) (.t 53) (.t 55)),
 mv 4 56] [4]) (.ret))
abbrev k16_10 : MC :=
 (.seq ((.seq (.reg [
 vl 43 (.faddr 0 (.t 3)),
 vl 44 (.load false 1 (.t 43))] [2, 3, 44]) k16_8)) k16_9)
abbrev k16_11 : MC :=
 (.seq ((.seq (.reg [
 vl 11 (.faddr 0 (.t 2)),
 vl 12 (.load false 1 (.t 11))] [2, 3, 12]) k16_6)) k16_10)
abbrev k16 : MC :=
 (.seq (.reg [
 ⟨some 2, none, .boxi (.t 0)⟩,
 ⟨some 3, none, .boxi (.t 1)⟩,
 vl 4 (.mv (.c (.bool false)))] [2, 3]) k16_11)
theorem c16 : Tryz.f16.body.bind (mcOf Tryz.prog (List.contains [2, 3] ·) (List.getD [([], [2, 3]), ([], [2, 3, 12]), ([], [2, 3, 12, 14, 15]), ([], [3, 5]), ([], [5, 6, 7]), ([], [4]), ([], [2, 3, 29, 30]), ([], [3, 8]), ([], [8, 9, 10]), ([], [4]), ([], [2, 3, 44]), ([], [2, 3, 51]), ([], [4]), ([], [4])] · ([], [])) 57) = some k16 := by kernel_rfl
theorem r16 : rvsOf Tryz.prog Tryz.f16.results.toList = some [.tmp 4] := by kernel_rfl
/- slices.EqualFunc[flange/value.list,flange/value.list,flange/value.Value,flange/value.Value] -/
abbrev k43_0 : MC :=
 .cond (.t 14) ((.seq (.reg [
 vl 6 (.mv (.c (.bool false)))] [6]) (.ret))) (.skip)
abbrev k43_1 : MC :=
 .cond (.t 30) ((.seq (.reg [
 vl 6 (.mv (.c (.bool false)))] [6]) (.ret))) (.skip)
abbrev k43_2 : MC :=
 (.seq (.reg [
 mv 26 2,
 vl 27 (.load true 1 (.t 8)),
 vl 28 (.load true 1 (.t 9)),
 ⟨some 29, none, .callv (.t 26) [(.t 27), (.t 28)]⟩,
 vl 30 (.not (.t 29))] [1, 2, 15, 16, 17, 30]) k43_1)
abbrev k43_3 : MC :=
 (.seq (.reg [
 mv 22 1,
 mv 23 7,
 vl 24 (.iaddr 1 (.t 22) (.t 23)),
 vl 25 (.load true 1 (.t 24)),
 ⟨some 9, none, .zalloc [.nilIface]⟩,
 ⟨none, none, .store 1 (.t 9) (.t 25)⟩] [1, 2, 8, 9, 15, 16, 17]) k43_2)
abbrev k43_4 : MC :=
 .reg [
 vl 31 (.bin .add .num (.t 17) (.c (.int .i64 1))),
 mv 17 31] [1, 2, 15, 16, 17]
abbrev k43_5 : MC :=
 (.seq (.block 1 ((.seq (.reg [
 mv 19 17,
 vl 20 (.iaddr 1 (.t 15) (.t 17)),
 vl 21 (.load true 1 (.t 20)),
 ⟨some 8, none, .zalloc [.nilIface]⟩,
 mv 7 19,
 ⟨none, none, .store 1 (.t 8) (.t 21)⟩] [1, 2, 7, 8, 15, 16, 17]) k43_3))) k43_4)
abbrev k43_6 : MC :=
 (.seq (.cond (.t 18) (.skip) (.exit 0)) k43_5)
abbrev k43_7 : MC :=
 (.seq (.reg [
 vl 18 (.bin .lss .num (.t 17) (.t 16))] [1, 2, 15, 16, 17, 18]) k43_6)
abbrev k43_8 : MC :=
 .block 0 (.loop k43_7)
abbrev k43_9 : MC :=
 (.seq (.reg [
 vl 6 (.mv (.c (.bool true)))] [6]) (.ret))
abbrev k43_10 : MC :=
 (.seq ((.seq (.reg [
 mv 15 0,
 vl 16 (.len .sl (.t 15)),
 vl 17 (.mv (.c (.int .i64 0)))] [1, 2, 15, 16, 17]) k43_8)) k43_9)
abbrev k43_11 : MC :=
 (.seq ((.seq (.reg [
 mv 10 0,
 vl 11 (.len .sl (.t 10)),
 mv 12 1,
 vl 13 (.len .sl (.t 12)),
 vl 14 (.bin .neq .num (.t 11) (.t 13))] [0, 1, 2, 14]) k43_0)) k43_10)
abbrev k43 : MC :=
 (.seq (.reg [
 vl 6 (.mv (.c (.bool false)))] [0, 1, 2]) k43_11)
theorem c43 : Tryz.f43.body.bind (mcOf Tryz.prog (List.contains [] ·) (List.getD [([], [0, 1, 2]), ([], [0, 1, 2, 14]), ([], [6]), ([], [1, 2, 15, 16, 17]), ([], [1, 2, 15, 16, 17, 18]), ([], [1, 2, 7, 8, 15, 16, 17]), ([], [1, 2, 8, 9, 15, 16, 17]), ([], [1, 2, 15, 16, 17, 30]), ([], [6]), ([], [1, 2, 15, 16, 17]), ([], [6])] · ([], [])) 32) = some k43 := by kernel_rfl
theorem r43 : rvsOf Tryz.prog Tryz.f43.results.toList = some [.tmp 6] := by kernel_rfl
abbrev ksI : List (Nat × IK) := [(2, .int), (3, .int), (4, .bool), (5, .int), (6, .int), (9, .str), (10, .str), (11, .str), (12, .int), (21, .int), (30, .int), (97, .int), (106, .unit), (107, .unit), (109, .cplx), (141, .int), (156, .int), (164, .int), (165, .int), (179, .int), (180, .int), (183, .int), (184, .int)]
def leafE : Vl → Vl → Bool
  | .nul, .nul => true
  | .unk, .unk => true
  | .bool a, .bool b => a == b
  | .int a, .int b => decide (a = b)
  | .pt a b, .pt c d => Op.floatEq .f64 (fl a) (fl c) && Op.floatEq .f64 (fl b) (fl d)
  | .text a, .text b => decide (a = b)
  | _, _ => false
def sameL : List (Vl → Bool) → List Vl → Bool
  | [], [] => true
  | f :: fs, x :: xs => f x && sameL fs xs
  | _, _ => false
def sameM (fs : List (List UInt8 × (Vl → Bool))) (es : List (List UInt8 × Vl)) : Bool :=
  fs.all fun p => match fnd p.1 es with
    | some y => p.2 y
    | none => false
def sameV : Vl → Vl → Bool
  | .list l => fun w => match w with
    | .list l' => sameL (l.map fun x => sameV x) l'
    | _ => false
  | .map es => fun w => match w with
    | .map es' => decide (es.length = es'.length) && sameM (es.map fun p => (p.1, sameV p.2)) es'
    | _ => false
  | .nul => leafE .nul
  | .unk => leafE .unk
  | .bool b => leafE (.bool b)
  | .int n => leafE (.int n)
  | .pt n m => leafE (.pt n m)
  | .text s => leafE (.text s)
termination_by v => SizeOf.sizeOf v
decreasing_by
  all_goals first
    | (have := List.sizeOf_lt_of_mem ‹_ ∈ l›; simp only [Vl.list.sizeOf_spec]; omega)
    | (rename_i hm; obtain ⟨a, b⟩ := p; have := List.sizeOf_lt_of_mem (by assumption); simp only [Prod.mk.sizeOf_spec, Vl.map.sizeOf_spec] at this ⊢; omega)
def Vl.leaf : Vl → Bool
  | .list _ | .map _ => false
  | _ => true
theorem sameV_leaf {a : Vl} (h : a.leaf = true) : sameV a = leafE a := by
  cases a <;> first | (cases h; done) | rw [sameV]
theorem sameV_list (l : List Vl) (w : Vl) : sameV (.list l) w = match w with
    | .list l' => sameL (l.map sameV) l'
    | _ => false := by rw [sameV]
theorem sameV_map (es : List (List UInt8 × Vl)) (w : Vl) : sameV (.map es) w = match w with
    | .map es' => decide (es.length = es'.length) && sameM (es.map fun p => (p.1, sameV p.2)) es'
    | _ => false := by rw [sameV]
theorem leaf_eq {a b : Vl} (ha : a.leaf = true) (hb : b.leaf = true) (K : V → Prop) : vbin .eql (.iface ksI) (vV a) (vV b) K = K (.bool (leafE a b)) := by
  cases a <;> first | (cases ha; done) | skip
  all_goals cases b <;> first | (cases hb; done) | skip
  all_goals simp only [vV_nul, vV_unk, vV_bool, vV_int, vV_pt, vV_text, vbin, ifEq, ikAt, ikEq, need_some, leafE, Nat.reduceEqDiff, if_true, if_false, reduceCtorEq]
theorem tyaK_leaf {a : Vl} (ha : a.leaf = true) (t : Nat) (ht : t = 88 ∨ t = 92) (z : V) (K : V → Prop) : tyaK t true z K (vV a) = K (.tuple [z, .bool false]) := by
  rcases ht with rfl | rfl
  all_goals cases a <;> first | (cases ha; done) | skip
  all_goals simp [vV_nul, vV_unk, vV_bool, vV_int, vV_pt, vV_text, tyaK]
theorem leaf_not {a b : Vl} (hb : b.leaf = false) : leafE a b = false := by
  cases b <;> first | (cases hb; done) | cases a <;> rfl
theorem leaf_cases (b : Vl) : b.leaf = true ∨ (∃ l, b = .list l) ∨ ∃ es, b = .map es := by
  cases b <;> first | exact .inl rfl | exact .inr (.inl ⟨_, rfl⟩) | exact .inr (.inr ⟨_, rfl⟩)
theorem sameV_bad1 {l : List Vl} {b : Vl} (h : ∀ l', b ≠ .list l') : sameV (.list l) b = false := by
  rw [sameV_list]
  cases b <;> first | exact absurd rfl (h _) | rfl
theorem sameV_bad2 {es : List (List UInt8 × Vl)} {b : Vl} (h : ∀ l', b ≠ .map l') : sameV (.map es) b = false := by
  rw [sameV_map]
  cases b <;> first | exact absurd rfl (h _) | rfl
theorem same_leaf {a b : Vl} (ha : a.leaf = true) (H : AH) : ACalls Tryz.prog 16 [.agg [vV a], .agg [vV b]] H (fun o H' => o = .ret (.bool (sameV a b)) ∧ H' = H) := by
  refine ACalls.drop ?_
  rw [sameV_leaf ha]
  have h1 := fun z K => tyaK_leaf ha 88 (.inl rfl) z K
  have h2 := fun z K => tyaK_leaf ha 92 (.inr rfl) z K
  refine acalls Tryz.func16 c16 r16 (by simp [Tryz.ntmps16]) ?_
  rcases leaf_cases b with hb | ⟨l, rfl⟩ | ⟨es, rfl⟩
  · have h3 := fun z K => tyaK_leaf hb 88 (.inl rfl) z K
    have h4 := fun z K => tyaK_leaf hb 92 (.inr rfl) z K
    have h5 := fun K => leaf_eq ha hb K
    repeat' (first | with_reducible refine go0 ?_ | (with_reducible refine am_cnd ?_ ?_ <;> intro hc <;> try (exfalso; omega)) | ((first | with_reducible (first | refine go1 ?_ | refine vc_intro ?_ | refine need_el ?_ | refine vlen_a ?_ | refine need_by ?_ | refine need_lk ?_) | ((with_reducible (first | apply gd_not | apply gd_of | apply gq_not | apply gq_of | apply pickB_of)) <;> intro hc <;> (try simp -implicitDefEqProofs (disch := omega) only [go_sem, hc, h1, h2, h3, h4, ↓ h5]) <;> (try simp only [reduceCtorEq, bD, beq_iff_eq] at hc) <;> (try (exfalso; omega))) | ((with_reducible refine alloc_intro (fun ko hko => ?_)) <;> (try have hne := fresh_ne (by assumption) hko) <;> (try simp only [AH.put_none] at hko)) | done) <;> (try simp -implicitDefEqProofs (disch := omega) only [go_sem, h1, h2, h3, h4, ↓ h5])))
    all_goals (refine drop_end (by (first | exact fun _ _ h => h | (intro s x h; first | exact no_sub _ h | exact nil_no _ h | exact AccP.sub (by assumption) _ _ h | (refine agg_sub rfl ?_ x h; repeat (first | exact .nil | refine .cons (fun _ h => h) ?_ | refine .cons (fun _ h => nil_no _ h) ?_ | refine .cons (fun _ h => no_sub _ h) ?_ | refine .cons (fun _ h => AccP.sub (by assumption) _ _ h) ?_)) | (refine tuple_sub ?_ x h; repeat (first | exact .nil | refine .cons (fun _ h => h) ?_ | refine .cons (fun _ h => nil_no _ h) ?_ | refine .cons (fun _ h => no_sub _ h) ?_ | refine .cons (fun _ h => AccP.sub (by assumption) _ _ h) ?_ | refine .cons (fun _ h => agg_sub rfl (by repeat (first | exact .nil | refine .cons (fun _ h => h) ?_ | refine .cons (fun _ h => nil_no _ h) ?_ | refine .cons (fun _ h => no_sub _ h) ?_ | refine .cons (fun _ h => AccP.sub (by assumption) _ _ h) ?_)) _ h) ?_))))) (by (repeat (first | exact AH.le_refl _ | assumption | exact AccP.le (by assumption) | refine AH.le_put ?_ (by first | assumption | exact none_of_le (by assumption) (by assumption) | exact And.right (by assumption) | exact And.right (And.right (by assumption))) _ | refine AH.le_trans ?_ (AccP.le (by assumption))))))
  · rw [vV_list, leaf_not rfl]
    repeat' (first | with_reducible refine go0 ?_ | (with_reducible refine am_cnd ?_ ?_ <;> intro hc <;> try (exfalso; omega)) | ((first | with_reducible (first | refine go1 ?_ | refine vc_intro ?_ | refine need_el ?_ | refine vlen_a ?_ | refine need_by ?_ | refine need_lk ?_) | ((with_reducible (first | apply gd_not | apply gd_of | apply gq_not | apply gq_of | apply pickB_of)) <;> intro hc <;> (try simp -implicitDefEqProofs (disch := omega) only [go_sem, hc, h1, h2, true_or, or_true, true_and]) <;> (try simp only [reduceCtorEq, bD, beq_iff_eq] at hc) <;> (try (exfalso; omega))) | ((with_reducible refine alloc_intro (fun ko hko => ?_)) <;> (try have hne := fresh_ne (by assumption) hko) <;> (try simp only [AH.put_none] at hko)) | done) <;> (try simp -implicitDefEqProofs (disch := omega) only [go_sem, h1, h2, true_or, or_true, true_and])))
    all_goals (refine drop_end (by (first | exact fun _ _ h => h | (intro s x h; first | exact no_sub _ h | exact nil_no _ h | exact AccP.sub (by assumption) _ _ h | (refine agg_sub rfl ?_ x h; repeat (first | exact .nil | refine .cons (fun _ h => h) ?_ | refine .cons (fun _ h => nil_no _ h) ?_ | refine .cons (fun _ h => no_sub _ h) ?_ | refine .cons (fun _ h => AccP.sub (by assumption) _ _ h) ?_)) | (refine tuple_sub ?_ x h; repeat (first | exact .nil | refine .cons (fun _ h => h) ?_ | refine .cons (fun _ h => nil_no _ h) ?_ | refine .cons (fun _ h => no_sub _ h) ?_ | refine .cons (fun _ h => AccP.sub (by assumption) _ _ h) ?_ | refine .cons (fun _ h => agg_sub rfl (by repeat (first | exact .nil | refine .cons (fun _ h => h) ?_ | refine .cons (fun _ h => nil_no _ h) ?_ | refine .cons (fun _ h => no_sub _ h) ?_ | refine .cons (fun _ h => AccP.sub (by assumption) _ _ h) ?_)) _ h) ?_))))) (by (repeat (first | exact AH.le_refl _ | assumption | exact AccP.le (by assumption) | refine AH.le_put ?_ (by first | assumption | exact none_of_le (by assumption) (by assumption) | exact And.right (by assumption) | exact And.right (And.right (by assumption))) _ | refine AH.le_trans ?_ (AccP.le (by assumption))))))
  · rw [vV_map, leaf_not rfl]
    repeat' (first | with_reducible refine go0 ?_ | (with_reducible refine am_cnd ?_ ?_ <;> intro hc <;> try (exfalso; omega)) | ((first | with_reducible (first | refine go1 ?_ | refine vc_intro ?_ | refine need_el ?_ | refine vlen_a ?_ | refine need_by ?_ | refine need_lk ?_) | ((with_reducible (first | apply gd_not | apply gd_of | apply gq_not | apply gq_of | apply pickB_of)) <;> intro hc <;> (try simp -implicitDefEqProofs (disch := omega) only [go_sem, hc, h1, h2, true_or, or_true, true_and]) <;> (try simp only [reduceCtorEq, bD, beq_iff_eq] at hc) <;> (try (exfalso; omega))) | ((with_reducible refine alloc_intro (fun ko hko => ?_)) <;> (try have hne := fresh_ne (by assumption) hko) <;> (try simp only [AH.put_none] at hko)) | done) <;> (try simp -implicitDefEqProofs (disch := omega) only [go_sem, h1, h2, true_or, or_true, true_and])))
    all_goals (refine drop_end (by (first | exact fun _ _ h => h | (intro s x h; first | exact no_sub _ h | exact nil_no _ h | exact AccP.sub (by assumption) _ _ h | (refine agg_sub rfl ?_ x h; repeat (first | exact .nil | refine .cons (fun _ h => h) ?_ | refine .cons (fun _ h => nil_no _ h) ?_ | refine .cons (fun _ h => no_sub _ h) ?_ | refine .cons (fun _ h => AccP.sub (by assumption) _ _ h) ?_)) | (refine tuple_sub ?_ x h; repeat (first | exact .nil | refine .cons (fun _ h => h) ?_ | refine .cons (fun _ h => nil_no _ h) ?_ | refine .cons (fun _ h => no_sub _ h) ?_ | refine .cons (fun _ h => AccP.sub (by assumption) _ _ h) ?_ | refine .cons (fun _ h => agg_sub rfl (by repeat (first | exact .nil | refine .cons (fun _ h => h) ?_ | refine .cons (fun _ h => nil_no _ h) ?_ | refine .cons (fun _ h => no_sub _ h) ?_ | refine .cons (fun _ h => AccP.sub (by assumption) _ _ h) ?_)) _ h) ?_))))) (by (repeat (first | exact AH.le_refl _ | assumption | exact AccP.le (by assumption) | refine AH.le_put ?_ (by first | assumption | exact none_of_le (by assumption) (by assumption) | exact And.right (by assumption) | exact And.right (And.right (by assumption))) _ | refine AH.le_trans ?_ (AccP.le (by assumption))))))
theorem ent_same : entered Tryz.prog 16 = true := by kernel_rfl
abbrev SameOk (a b : Vl) (H : AH) : Prop := ACalls Tryz.prog 16 [.agg [vV a], .agg [vV b]] H (fun o H' => o = .ret (.bool (sameV a b)) ∧ H' = H)
theorem sameL_drop : ∀ (i : Nat) (l l' : List Vl) (h : i < l.length) (h' : i < l'.length), sameL ((l.drop i).map sameV) (l'.drop i) = (sameV l[i] l'[i] && sameL ((l.drop (i + 1)).map sameV) (l'.drop (i + 1))) := by
  intro i l l' h h'
  rw [List.drop_eq_getElem_cons h, List.drop_eq_getElem_cons h', List.map_cons, sameL]
theorem sameL_len : ∀ (l l' : List Vl), l.length ≠ l'.length → sameL (l.map sameV) l' = false
  | [], [], h => absurd rfl h
  | [], _ :: _, _ => rfl
  | _ :: _, [], _ => rfl
  | x :: l, y :: l', h => by
    rw [List.map_cons, sameL, sameL_len l l' (by simpa using h), Bool.and_false]
theorem eqf_calls {l l' : List Vl} {t t' : Tok} (h1 : l.length * 16 ≤ 100000000000000) (h2 : l'.length * 16 ≤ 100000000000000) {g : Nat} {H : AH} (hg : H g = some .nodr) (hs : ∀ a ∈ l, ∀ b ∈ l', ∀ G : AH, G g = some .nodr → SameOk a b G) :
    ACalls Tryz.prog 43 [.sl 1 (vE l) t, .sl 1 (vE l') t', .func (.func 16) [] []] H (fun o H' => o = .ret (.bool (sameL (l.map sameV) l')) ∧ H' = H) := by
  refine ACalls.drop ?_
  refine acalls Tryz.func43 c43 r43 (by simp [Tryz.ntmps43]) ?_
  by_cases hll : l.length = l'.length
  · have hlz : ((l.length : Nat) : Int) = ((l'.length : Nat) : Int) := by rw [hll]
    repeat' (first | with_reducible refine go0 ?_ | (with_reducible refine am_cnd ?_ ?_ <;> intro hc <;> try (exfalso; omega)) | ((first | with_reducible (first | refine go1 ?_ | refine vc_intro ?_ | refine need_el ?_ | refine vlen_a ?_ | refine need_by ?_ | refine need_lk ?_) | ((with_reducible refine alloc_intro (fun ko hko => ?_)) <;> (try have hne := fresh_ne (by assumption) hko) <;> (try simp only [AH.put_none] at hko)) | done) <;> (try simp -implicitDefEqProofs (disch := omega) only [go_sem, vE_length, hlz, bne_self_eq_false, Bool.not_true])))
    refine am_loop (fun n a H' => ∃ i : Nat, i + n = l.length ∧ a = [(1, .sl 1 (vE l') t'), (2, .func (.func 16) [] []), (15, .sl 1 (vE l) t), (16, .int .i64 l'.length), (17, .int .i64 i)] ∧ H.le H' ∧ sameL (l.map sameV) l' = sameL ((l.drop i).map sameV) (l'.drop i)) ?_ l.length ⟨0, by omega, rfl, AH.le_refl _, rfl⟩
    rintro n a H' ⟨i, hin, rfl, hle, hd⟩
    by_cases hlt : i < l.length
    · have hlt' : i < l'.length := by omega
      rw [sameL_drop i l l' hlt hlt'] at hd
      have hg' := hle _ _ hg
      have hcc := hs l[i] (List.getElem_mem hlt) l'[i] (List.getElem_mem hlt')
      unfold SameOk at hcc
      cases hq : sameV l[i] l'[i] with
      | true =>
        rw [hq] at hcc
        rw [hq, Bool.true_and] at hd
        repeat' (first | with_reducible refine go0 ?_ | (with_reducible refine am_cnd ?_ ?_ <;> intro hc <;> try (exfalso; omega)) | ((first | with_reducible (first | refine go1 ?_ | refine vc_intro ?_ | refine need_el ?_ | refine vlen_a ?_ | refine need_by ?_ | refine call_turn (hcc _ (by first | assumption | exact look_put hg' (by assumption) | exact look_put (look_put hg' (by assumption)) (by rw [AH.put_none]; assumption))) ?_ | refine need_lk ?_) | ((with_reducible refine alloc_intro (fun ko hko => ?_)) <;> (try have hne := fresh_ne (by assumption) hko) <;> (try simp only [AH.put_none] at hko)) | done) <;> (try simp -implicitDefEqProofs (disch := omega) only [go_sem, wrap_id, vE_length, vE_get hlt, vE_get hlt', Bool.not_true, ent_same, true_and, List.nil_append, List.append_nil, List.cons_append])))
        all_goals exact ⟨n - 1, by omega, i + 1, by omega, rfl, (by repeat (first | assumption | refine AH.le_put ?_ (by first | assumption | exact none_of_le hle (by assumption) | exact none_of_le hle (And.right (by assumption))) _)), hd⟩
      | false =>
        rw [hq] at hcc
        rw [hq, Bool.false_and] at hd
        repeat' (first | with_reducible refine go0 ?_ | (with_reducible refine am_cnd ?_ ?_ <;> intro hc <;> try (exfalso; omega)) | ((first | with_reducible (first | refine go1 ?_ | refine vc_intro ?_ | refine need_el ?_ | refine vlen_a ?_ | refine need_by ?_ | refine call_turn (hcc _ (by first | assumption | exact look_put hg' (by assumption) | exact look_put (look_put hg' (by assumption)) (by rw [AH.put_none]; assumption))) ?_ | refine need_lk ?_) | ((with_reducible refine alloc_intro (fun ko hko => ?_)) <;> (try have hne := fresh_ne (by assumption) hko) <;> (try simp only [AH.put_none] at hko)) | done) <;> (try simp -implicitDefEqProofs (disch := omega) only [go_sem, wrap_id, vE_length, vE_get hlt, vE_get hlt', Bool.not_false, ent_same, true_and, List.nil_append, List.append_nil, List.cons_append])))
        all_goals exact drop_end (fun _ _ h => by rw [hd]; exact h) (by repeat (first | assumption | refine AH.le_put ?_ (by first | assumption | exact none_of_le hle (by assumption) | exact none_of_le hle (And.right (by assumption))) _))
    · rw [List.drop_eq_nil_of_le (by omega), List.drop_eq_nil_of_le (by omega)] at hd
      repeat' (first | with_reducible refine go0 ?_ | (with_reducible refine am_cnd ?_ ?_ <;> intro hc <;> try (exfalso; omega)) | ((first | with_reducible (first | refine go1 ?_ | refine vc_intro ?_ | refine need_el ?_ | refine vlen_a ?_ | refine need_by ?_ | refine need_lk ?_) | ((with_reducible refine alloc_intro (fun ko hko => ?_)) <;> (try have hne := fresh_ne (by assumption) hko) <;> (try simp only [AH.put_none] at hko)) | done) <;> (try simp -implicitDefEqProofs (disch := omega) only [go_sem, vE_length])))
      all_goals exact drop_end (fun _ _ h => by rw [hd]; exact h) hle
  · rw [sameL_len l l' hll]
    have hn : ¬ ((l.length : Nat) : Int) = ((l'.length : Nat) : Int) := by omega
    repeat' (first | with_reducible refine go0 ?_ | (with_reducible refine am_cnd ?_ ?_ <;> intro hc <;> try (exfalso; omega)) | ((first | with_reducible (first | refine go1 ?_ | refine vc_intro ?_ | refine need_el ?_ | refine vlen_a ?_ | refine need_by ?_ | refine need_lk ?_) | ((with_reducible refine alloc_intro (fun ko hko => ?_)) <;> (try have hne := fresh_ne (by assumption) hko) <;> (try simp only [AH.put_none] at hko)) | done) <;> (try simp -implicitDefEqProofs (disch := omega) only [go_sem, vE_length, hn, Bool.not_false])))
    all_goals (refine drop_end (by (first | exact fun _ _ h => h | (intro s x h; first | exact no_sub _ h | exact nil_no _ h | exact AccP.sub (by assumption) _ _ h | (refine agg_sub rfl ?_ x h; repeat (first | exact .nil | refine .cons (fun _ h => h) ?_ | refine .cons (fun _ h => nil_no _ h) ?_ | refine .cons (fun _ h => no_sub _ h) ?_ | refine .cons (fun _ h => AccP.sub (by assumption) _ _ h) ?_)) | (refine tuple_sub ?_ x h; repeat (first | exact .nil | refine .cons (fun _ h => h) ?_ | refine .cons (fun _ h => nil_no _ h) ?_ | refine .cons (fun _ h => no_sub _ h) ?_ | refine .cons (fun _ h => AccP.sub (by assumption) _ _ h) ?_ | refine .cons (fun _ h => agg_sub rfl (by repeat (first | exact .nil | refine .cons (fun _ h => h) ?_ | refine .cons (fun _ h => nil_no _ h) ?_ | refine .cons (fun _ h => no_sub _ h) ?_ | refine .cons (fun _ h => AccP.sub (by assumption) _ _ h) ?_)) _ h) ?_))))) (by (repeat (first | exact AH.le_refl _ | assumption | exact AccP.le (by assumption) | refine AH.le_put ?_ (by first | assumption | exact none_of_le (by assumption) (by assumption) | exact And.right (by assumption) | exact And.right (And.right (by assumption))) _ | refine AH.le_trans ?_ (AccP.le (by assumption))))))
end Go.Proofs.YtoicninkfmfnbaaGreat
namespace Go.Proofs.YtoicninkfmfnbaaGreat
open Go.Vm Go.Sort
attribute [local go_sem] eq_self decide_true decide_false AH.put_ne
attribute [local go_sem_proc] Nat.reduceBEq Nat.reduceAdd Nat.reduceSub Nat.reduceMul Nat.reduceEqDiff Nat.reduceLeDiff Nat.reduceLT Int.reduceLE Int.reduceLT Int.reduceToNat Int.reduceAdd Int.reduceEq Int.reduceNeg
attribute [local go_sem] List.drop_zero toNat_succ Nat.sub_zero Int.toNat_natCast Option.map_some Int.natCast_nonneg decide_eq_true_eq decide_eq_false_iff_not
/- maps.EqualFunc[flange/value.table,flange/value.table,string,flange/value.Value,flange/value.Value] -/
abbrev k44_0 : MC :=
 .cond (.t 15) ((.seq (.reg [
 vl 6 (.mv (.c (.bool false)))] [6]) (.ret))) (.skip)
abbrev k44_1 : MC :=
 .cond (.t 37) ((.seq (.reg [
 vl 6 (.mv (.c (.bool false)))] [6]) (.ret))) (.skip)
abbrev k44_2 : MC :=
 (.seq (.reg [
 mv 29 10,
 vl 30 (.not (.t 29)),
 mv 31 30,
 ⟨some 32, (some (31, false)), .val (.mv (.t 2))⟩,
 ⟨some 33, (some (31, false)), .val (.load true 1 (.t 8))⟩,
 ⟨some 34, (some (31, false)), .val (.load true 1 (.t 9))⟩,
 ⟨some 35, (some (31, false)), .callv (.t 32) [(.t 33), (.t 34)]⟩,
 ⟨some 36, (some (31, false)), .val (.not (.t 35))⟩,
 vl 37 (.pick (.t 31) (.c (.bool true)) (.t 36))] [1, 2, 17, 37]) k44_1)
abbrev k44_3 : MC :=
 (.seq (.reg [
 mv 24 1,
 mv 25 7,
 vl 26 (.yo (.look .str (.agg [.nilIface]) true) [(.t 24), (.t 25)]),
 mv 23 26,
 vl 27 (.ext (.t 23) 0),
 vl 28 (.ext (.t 23) 1),
 ⟨some 9, none, .zalloc [.nilIface]⟩,
 ⟨none, none, .store 1 (.t 9) (.t 27)⟩,
 mv 10 28] [1, 2, 8, 9, 10, 17]) k44_2)
abbrev k44_4 : MC :=
 .block 1 ((.seq (.reg [
 vl 20 (.yo .ent [(.t 17)]),
 vl 21 (.ext (.t 20) 0),
 vl 22 (.ext (.t 20) 1),
 ⟨some 8, none, .zalloc [.nilIface]⟩,
 mv 7 21,
 ⟨none, none, .store 1 (.t 8) (.t 22)⟩] [1, 2, 7, 8, 17]) k44_3))
abbrev k44_5 : MC :=
 (.seq (.cond (.t 19) (.skip) (.exit 0)) k44_4)
abbrev k44_6 : MC :=
 (.seq (.reg [
 ⟨some 18, none, .xo .mnext [(.t 17)]⟩,
 vl 19 (.ext (.t 18) 0)] [1, 2, 17, 19]) k44_5)
abbrev k44_7 : MC :=
 .block 0 (.loop k44_6)
abbrev k44_8 : MC :=
 (.seq (.reg [
 vl 6 (.mv (.c (.bool true)))] [6]) (.ret))
abbrev k44_9 : MC :=
 (.seq ((.seq (.reg [
 mv 16 0,
 ⟨some 17, none, .xo .mrange [(.t 16)]⟩] [1, 2, 17]) k44_7)) k44_8)
abbrev k44_10 : MC :=
 (.seq ((.seq (.reg [
 mv 11 0,
 vl 12 (.len .map (.t 11)),
 mv 13 1,
 vl 14 (.len .map (.t 13)),
 vl 15 (.bin .neq .num (.t 12) (.t 14))] [0, 1, 2, 15]) k44_0)) k44_9)
abbrev k44 : MC :=
 (.seq (.reg [
 vl 6 (.mv (.c (.bool false)))] [0, 1, 2]) k44_10)
theorem c44 : Tryz.f44.body.bind (mcOf Tryz.prog (List.contains [] ·) (List.getD [([], [0, 1, 2]), ([], [0, 1, 2, 15]), ([], [6]), ([], [1, 2, 17]), ([], [1, 2, 17, 19]), ([], [1, 2, 7, 8, 17]), ([], [1, 2, 8, 9, 10, 17]), ([], [1, 2, 17, 37]), ([], [6]), ([], [6])] · ([], [])) 38) = some k44 := by kernel_rfl
theorem r44 : rvsOf Tryz.prog Tryz.f44.results.toList = some [.tmp 6] := by kernel_rfl
theorem sameM_split (a b : List (List UInt8 × (Vl → Bool))) (p : List UInt8 × (Vl → Bool)) (es : List (List UInt8 × Vl)) : sameM (a ++ p :: b) es = ((match fnd p.1 es with | some y => p.2 y | none => false) && sameM (a ++ b) es) := by
  simp only [sameM, List.all_append, List.all_cons]
  cases a.all _ <;> cases b.all _ <;> simp <;> rfl
theorem mE_split {l : List (List UInt8 × Vl)} {l1 l2 : List (V × V)} {kv : V × V} (h : mE l = l1 ++ kv :: l2) : ∃ a p b, l = a ++ p :: b ∧ l1 = mE a ∧ l2 = mE b ∧ kv = (.str p.1, .agg [vV p.2]) := by
  obtain ⟨a, c, rfl, h1, h2⟩ := List.map_eq_append_iff.1 h
  cases c with
  | nil => cases h2
  | cons p b =>
    simp only [List.map_cons, List.cons.injEq] at h2
    exact ⟨a, p, b, rfl, h1.symm, h2.2.symm, h2.1.symm⟩
theorem mE_app (a b : List (List UInt8 × Vl)) : mE a ++ mE b = mE (a ++ b) := by simp [mE]
theorem mE_nil {l : List (List UInt8 × Vl)} (h : mE l = []) : l = [] := List.map_eq_nil_iff.1 h
theorem fnd_mem {k : List UInt8} {y : Vl} : ∀ {es : List (List UInt8 × Vl)}, fnd k es = some y → ∃ q ∈ es, q.2 = y
  | [], h => by cases h
  | p :: es, h => by
    rw [fnd] at h
    split at h
    · cases h; exact ⟨p, List.mem_cons_self, rfl⟩
    · obtain ⟨q, h1, h2⟩ := fnd_mem h; exact ⟨q, List.mem_cons_of_mem _ h1, h2⟩
theorem meqf_calls {es es' : List (List UInt8 × Vl)} {g : Nat} {H : AH} (hg : H g = some .nodr) (hs : ∀ p ∈ es, ∀ q ∈ es', ∀ G : AH, G g = some .nodr → SameOk p.2 q.2 G) :
    ACalls Tryz.prog 44 [.mapv (mE es), .mapv (mE es'), .func (.func 16) [] []] H (fun o H' => o = .ret (.bool (decide (es.length = es'.length) && sameM (es.map fun p => (p.1, sameV p.2)) es')) ∧ H' = H) := by
  refine ACalls.drop ?_
  refine acalls Tryz.func44 c44 r44 (by simp [Tryz.ntmps44]) ?_
  by_cases hll : es.length = es'.length
  · have hlz : ((es.length : Nat) : Int) = ((es'.length : Nat) : Int) := by rw [hll]
    rw [decide_eq_true hll, Bool.true_and]
    repeat' (first | with_reducible refine go0 ?_ | (with_reducible refine am_cnd ?_ ?_ <;> intro hc <;> try (exfalso; omega)) | ((first | with_reducible (first | refine go1 ?_ | refine vc_intro ?_ | refine need_el ?_ | refine vlen_a ?_ | refine need_by ?_ | refine need_lk ?_) | ((with_reducible (first | apply gd_not | apply gd_of | apply gq_not | apply gq_of | apply pickB_of)) <;> intro hc <;> (try simp -implicitDefEqProofs (disch := omega) only [go_sem, hc, mE_length, hlz, bne_self_eq_false, Bool.not_true]) <;> (try simp only [reduceCtorEq, bD, beq_iff_eq] at hc) <;> (try (exfalso; omega))) | ((with_reducible refine alloc_intro (fun ko hko => ?_)) <;> (try have hne := fresh_ne (by assumption) hko) <;> (try have hnk := fresh_ne hk hko) <;> (try have hnk2 := fresh_ne hk2 hko) <;> (try simp only [AH.put_none] at hko)) | done) <;> (try simp -implicitDefEqProofs (disch := omega) only [go_sem, mE_length, hlz, bne_self_eq_false, Bool.not_true])))
    refine am_loop (fun n a H' => ∃ (lft : List (List UInt8 × Vl)) (cur : Option (V × V)), lft.length = n ∧ (∃ ex, a = [(1, .mapv (mE es')), (2, .func (.func 16) [] []), (17, .ptr ko 0)] ++ ex) ∧ H' ko = some (.iterv (mE lft) cur) ∧ H.le H' ∧ (∀ p ∈ lft, p ∈ es) ∧ sameM (es.map fun p => (p.1, sameV p.2)) es' = sameM (lft.map fun p => (p.1, sameV p.2)) es') ?_ es.length ⟨es, none, rfl, ⟨[], rfl⟩, AH.put_same _ _ _, AH.le_put (AH.le_refl _) hko _, fun _ h => h, rfl⟩
    rintro n a H' ⟨lft, cur, rfl, ⟨ex, rfl⟩, hk, hle, hin, hd⟩
    refine AM.sub (a' := [(1, .mapv (mE es')), (2, .func (.func 16) [] []), (17, .ptr ko 0)]) ?_ (fun t v h => get_more _ _ h)
    clear ex
    have hg' := hle _ _ hg
    repeat' (first | with_reducible refine go0 ?_ | (with_reducible refine am_cnd ?_ ?_ <;> intro hc <;> try (exfalso; omega)) | ((first | with_reducible (first | refine go1 ?_ | refine vc_intro ?_ | refine need_el ?_ | refine vlen_a ?_ | refine need_by ?_ | refine need_lk ?_) | ((with_reducible (first | apply gd_not | apply gd_of | apply gq_not | apply gq_of | apply pickB_of)) <;> intro hc <;> (try simp -implicitDefEqProofs (disch := omega) only [go_sem, hc]) <;> (try simp only [reduceCtorEq, bD, beq_iff_eq] at hc) <;> (try (exfalso; omega))) | ((with_reducible refine alloc_intro (fun ko hko => ?_)) <;> (try have hne := fresh_ne (by assumption) hko) <;> (try have hnk := fresh_ne hk hko) <;> (try have hnk2 := fresh_ne hk2 hko) <;> (try simp only [AH.put_none] at hko)) | done) <;> (try simp -implicitDefEqProofs (disch := omega) only [go_sem])))
    refine ⟨fun h => ?_, fun l1 kv l2 h => ?_⟩
    · obtain rfl := mE_nil h
      repeat' (first | with_reducible refine go0 ?_ | (with_reducible refine am_cnd ?_ ?_ <;> intro hc <;> try (exfalso; omega)) | ((first | with_reducible (first | refine go1 ?_ | refine vc_intro ?_ | refine need_el ?_ | refine vlen_a ?_ | refine need_by ?_ | refine need_lk ?_) | ((with_reducible (first | apply gd_not | apply gd_of | apply gq_not | apply gq_of | apply pickB_of)) <;> intro hc <;> (try simp -implicitDefEqProofs (disch := omega) only [go_sem, hc]) <;> (try simp only [reduceCtorEq, bD, beq_iff_eq] at hc) <;> (try (exfalso; omega))) | ((with_reducible refine alloc_intro (fun ko hko => ?_)) <;> (try have hne := fresh_ne (by assumption) hko) <;> (try have hnk := fresh_ne hk hko) <;> (try have hnk2 := fresh_ne hk2 hko) <;> (try simp only [AH.put_none] at hko)) | done) <;> (try simp -implicitDefEqProofs (disch := omega) only [go_sem])))
      all_goals exact drop_end (fun _ _ h => by rw [hd]; exact h) hle
    · obtain ⟨a, p, b, rfl, rfl, rfl, rfl⟩ := mE_split h
      clear h
      have hp := hin p (by simp)
      rw [List.map_append, List.map_cons, sameM_split, ← List.map_append] at hd
      simp only at hd
      have hin2 : ∀ q ∈ a ++ b, q ∈ es := fun q hq => hin q ((List.mem_append.1 hq).elim (fun h => List.mem_append_left _ h) (fun h => List.mem_append_right _ (List.mem_cons_of_mem _ h)))
      have hk2 : (H'.put ko (.iterv (mE (a ++ b)) (some (.str p.1, .agg [vV p.2])))) ko = some (.iterv (mE (a ++ b)) (some (.str p.1, .agg [vV p.2]))) := AH.put_same _ _ _
      have hg2 : (H'.put ko (.iterv (mE (a ++ b)) (some (.str p.1, .agg [vV p.2])))) g = some .nodr := by rw [AH.put_ne _ _ hne]; exact hg'
      have hle2 : H.le (H'.put ko (.iterv (mE (a ++ b)) (some (.str p.1, .agg [vV p.2])))) := AH.le_put hle hko _
      rw [mE_app]
      generalize (H'.put ko (.iterv (mE (a ++ b)) (some (.str p.1, .agg [vV p.2])))) = G at *
      have hlen : (a ++ b).length < (a ++ p :: b).length := by simp
      have hfx := mE_find p.1 es'
      cases hf : fnd p.1 es' with
      | none =>
        rw [hf] at hd hfx
        rw [Bool.false_and] at hd
        repeat' (first | with_reducible refine go0 ?_ | (with_reducible refine am_cnd ?_ ?_ <;> intro hc <;> try (exfalso; omega)) | ((first | with_reducible (first | refine go1 ?_ | refine vc_intro ?_ | refine need_el ?_ | refine vlen_a ?_ | refine need_by ?_ | refine need_lk ?_) | ((with_reducible (first | apply gd_not | apply gd_of | apply gq_not | apply gq_of | apply pickB_of)) <;> intro hc <;> (try simp -implicitDefEqProofs (disch := omega) only [go_sem, hc, hfx, Option.map_none]) <;> (try simp only [reduceCtorEq, bD, beq_iff_eq] at hc) <;> (try (exfalso; omega))) | ((with_reducible refine alloc_intro (fun ko hko => ?_)) <;> (try have hne := fresh_ne (by assumption) hko) <;> (try have hnk := fresh_ne hk hko) <;> (try have hnk2 := fresh_ne hk2 hko) <;> (try simp only [AH.put_none] at hko)) | done) <;> (try simp -implicitDefEqProofs (disch := omega) only [go_sem, hfx, Option.map_none])))
        all_goals exact drop_end (fun _ _ h => by rw [hd]; exact h) (by repeat (first | assumption | refine AH.le_put ?_ (by first | assumption | exact none_of_le hle2 (by assumption) | exact none_of_le hle2 (And.right (by assumption))) _))
      | some y =>
        rw [hf] at hd hfx
        simp only at hd
        obtain ⟨q, hq1, rfl⟩ := fnd_mem hf
        have hcc := hs p hp q hq1
        unfold SameOk at hcc
        cases hb : sameV p.2 q.2 with
        | true =>
          rw [hb] at hcc
          rw [hb, Bool.true_and] at hd
          repeat' (first | with_reducible refine go0 ?_ | (with_reducible refine am_cnd ?_ ?_ <;> intro hc <;> try (exfalso; omega)) | ((first | with_reducible (first | refine go1 ?_ | refine vc_intro ?_ | refine need_el ?_ | refine vlen_a ?_ | refine need_by ?_ | refine call_turn (hcc _ (look_put (look_put hg2 (by assumption)) (by rw [AH.put_none]; assumption))) ?_ | refine need_lk ?_) | ((with_reducible (first | apply gd_not | apply gd_of | apply gq_not | apply gq_of | apply pickB_of)) <;> intro hc <;> (try simp -implicitDefEqProofs (disch := omega) only [go_sem, hc, hfx, Option.map_some, Bool.not_true, ent_same, true_and, List.nil_append, List.append_nil, List.cons_append]) <;> (try simp only [reduceCtorEq, bD, beq_iff_eq] at hc) <;> (try (exfalso; omega))) | ((with_reducible refine alloc_intro (fun ko hko => ?_)) <;> (try have hne := fresh_ne (by assumption) hko) <;> (try have hnk := fresh_ne hk hko) <;> (try have hnk2 := fresh_ne hk2 hko) <;> (try simp only [AH.put_none] at hko)) | done) <;> (try simp -implicitDefEqProofs (disch := omega) only [go_sem, hfx, Option.map_some, Bool.not_true, ent_same, true_and, List.nil_append, List.append_nil, List.cons_append])))
          all_goals exact ⟨(a ++ b).length, hlen, a ++ b, _, rfl, ⟨[_], rfl⟩, look_put (look_put hk2 (by assumption)) (by rw [AH.put_none]; assumption), (by repeat (first | assumption | refine AH.le_put ?_ (by first | assumption | exact none_of_le hle2 (by assumption) | exact none_of_le hle2 (And.right (by assumption))) _)), hin2, hd⟩
        | false =>
          rw [hb] at hcc
          rw [hb, Bool.false_and] at hd
          repeat' (first | with_reducible refine go0 ?_ | (with_reducible refine am_cnd ?_ ?_ <;> intro hc <;> try (exfalso; omega)) | ((first | with_reducible (first | refine go1 ?_ | refine vc_intro ?_ | refine need_el ?_ | refine vlen_a ?_ | refine need_by ?_ | refine call_turn (hcc _ (look_put (look_put hg2 (by assumption)) (by rw [AH.put_none]; assumption))) ?_ | refine need_lk ?_) | ((with_reducible (first | apply gd_not | apply gd_of | apply gq_not | apply gq_of | apply pickB_of)) <;> intro hc <;> (try simp -implicitDefEqProofs (disch := omega) only [go_sem, hc, hfx, Option.map_some, Bool.not_false, ent_same, true_and, List.nil_append, List.append_nil, List.cons_append]) <;> (try simp only [reduceCtorEq, bD, beq_iff_eq] at hc) <;> (try (exfalso; omega))) | ((with_reducible refine alloc_intro (fun ko hko => ?_)) <;> (try have hne := fresh_ne (by assumption) hko) <;> (try have hnk := fresh_ne hk hko) <;> (try have hnk2 := fresh_ne hk2 hko) <;> (try simp only [AH.put_none] at hko)) | done) <;> (try simp -implicitDefEqProofs (disch := omega) only [go_sem, hfx, Option.map_some, Bool.not_false, ent_same, true_and, List.nil_append, List.append_nil, List.cons_append])))
          all_goals exact drop_end (fun _ _ h => by rw [hd]; exact h) (by repeat (first | assumption | refine AH.le_put ?_ (by first | assumption | exact none_of_le hle2 (by assumption) | exact none_of_le hle2 (And.right (by assumption))) _))
  · have hn : ¬ ((es.length : Nat) : Int) = ((es'.length : Nat) : Int) := by omega
    rw [decide_eq_false hll, Bool.false_and]
    repeat' (first | with_reducible refine go0 ?_ | (with_reducible refine am_cnd ?_ ?_ <;> intro hc <;> try (exfalso; omega)) | ((first | with_reducible (first | refine go1 ?_ | refine vc_intro ?_ | refine need_el ?_ | refine vlen_a ?_ | refine need_by ?_ | refine need_lk ?_) | ((with_reducible (first | apply gd_not | apply gd_of | apply gq_not | apply gq_of | apply pickB_of)) <;> intro hc <;> (try simp -implicitDefEqProofs (disch := omega) only [go_sem, hc, mE_length, hn, Bool.not_false]) <;> (try simp only [reduceCtorEq, bD, beq_iff_eq] at hc) <;> (try (exfalso; omega))) | ((with_reducible refine alloc_intro (fun ko hko => ?_)) <;> (try have hne := fresh_ne (by assumption) hko) <;> (try have hnk := fresh_ne hk hko) <;> (try have hnk2 := fresh_ne hk2 hko) <;> (try simp only [AH.put_none] at hko)) | done) <;> (try simp -implicitDefEqProofs (disch := omega) only [go_sem, mE_length, hn, Bool.not_false])))
    all_goals (refine drop_end (by (first | exact fun _ _ h => h | (intro s x h; first | exact no_sub _ h | exact nil_no _ h | exact AccP.sub (by assumption) _ _ h | (refine agg_sub rfl ?_ x h; repeat (first | exact .nil | refine .cons (fun _ h => h) ?_ | refine .cons (fun _ h => nil_no _ h) ?_ | refine .cons (fun _ h => no_sub _ h) ?_ | refine .cons (fun _ h => AccP.sub (by assumption) _ _ h) ?_)) | (refine tuple_sub ?_ x h; repeat (first | exact .nil | refine .cons (fun _ h => h) ?_ | refine .cons (fun _ h => nil_no _ h) ?_ | refine .cons (fun _ h => no_sub _ h) ?_ | refine .cons (fun _ h => AccP.sub (by assumption) _ _ h) ?_ | refine .cons (fun _ h => agg_sub rfl (by repeat (first | exact .nil | refine .cons (fun _ h => h) ?_ | refine .cons (fun _ h => nil_no _ h) ?_ | refine .cons (fun _ h => no_sub _ h) ?_ | refine .cons (fun _ h => AccP.sub (by assumption) _ _ h) ?_)) _ h) ?_))))) (by (repeat (first | exact AH.le_refl _ | assumption | exact AccP.le (by assumption) | refine AH.le_put ?_ (by first | assumption | exact none_of_le (by assumption) (by assumption) | exact And.right (by assumption) | exact And.right (And.right (by assumption))) _ | refine AH.le_trans ?_ (AccP.le (by assumption))))))
end Go.Proofs.YtoicninkfmfnbaaGreat
namespace Go.Proofs.YtoicninkfmfnbaaGreat
open Go.Vm Go.Sort
attribute [local go_sem] eq_self decide_true decide_false AH.put_ne
attribute [local go_sem_proc] Nat.reduceBEq Nat.reduceAdd Nat.reduceSub Nat.reduceMul Nat.reduceEqDiff Nat.reduceLeDiff Nat.reduceLT Int.reduceLE Int.reduceLT Int.reduceToNat Int.reduceAdd Int.reduceEq Int.reduceNeg
attribute [local go_sem] List.drop_zero toNat_succ Nat.sub_zero Int.toNat_natCast Option.map_some Int.natCast_nonneg decide_eq_true_eq decide_eq_false_iff_not
theorem ok_list {l : List Vl} (h : (Vl.list l).Ok) : l.length * 16 ≤ 100000000000000 ∧ ∀ x ∈ l, x.Ok := by cases h with | list _ h1 h2 => exact ⟨h1, h2⟩
theorem ok_map {es : List (List UInt8 × Vl)} (h : (Vl.map es).Ok) : ∀ p ∈ es, p.2.Ok := by cases h with | map _ _ _ _ h => exact h
theorem same_list {l : List Vl} {b : Vl} (ho : (Vl.list l).Ok) (hb : b.Ok) {g : Nat} {H : AH} (hg : H g = some .nodr) (ih : ∀ x ∈ l, x.Ok → ∀ b : Vl, b.Ok → ∀ G : AH, G g = some .nodr → SameOk x b G) : SameOk (.list l) b H := by
  refine ACalls.drop ?_
  refine acalls Tryz.func16 c16 r16 (by simp [Tryz.ntmps16]) ?_
  rcases leaf_cases b with hl | ⟨l', rfl⟩ | ⟨es, rfl⟩
  · have h3 := fun z K => tyaK_leaf hl 88 (.inl rfl) z K
    have h4 := fun z K => tyaK_leaf hl 92 (.inr rfl) z K
    rw [sameV_bad1 (by rintro l' rfl; cases hl), vV_list]
    repeat' (first | with_reducible refine go0 ?_ | (with_reducible refine am_cnd ?_ ?_ <;> intro hc <;> try (exfalso; omega)) | ((first | with_reducible (first | refine go1 ?_ | refine vc_intro ?_ | refine need_el ?_ | refine vlen_a ?_ | refine need_by ?_ | refine need_lk ?_) | ((with_reducible (first | apply gd_not | apply gd_of | apply gq_not | apply gq_of | apply pickB_of)) <;> intro hc <;> (try simp -implicitDefEqProofs (disch := omega) only [go_sem, hc, h3, h4, true_or, or_true, true_and]) <;> (try simp only [reduceCtorEq, bD, beq_iff_eq] at hc) <;> (try (exfalso; omega))) | ((with_reducible refine alloc_intro (fun ko hko => ?_)) <;> (try have hne := fresh_ne (by assumption) hko) <;> (try simp only [AH.put_none] at hko)) | done) <;> (try simp -implicitDefEqProofs (disch := omega) only [go_sem, h3, h4, true_or, or_true, true_and])))
    all_goals (refine drop_end (by (first | exact fun _ _ h => h | (intro s x h; first | exact no_sub _ h | exact nil_no _ h | exact AccP.sub (by assumption) _ _ h | (refine agg_sub rfl ?_ x h; repeat (first | exact .nil | refine .cons (fun _ h => h) ?_ | refine .cons (fun _ h => nil_no _ h) ?_ | refine .cons (fun _ h => no_sub _ h) ?_ | refine .cons (fun _ h => AccP.sub (by assumption) _ _ h) ?_)) | (refine tuple_sub ?_ x h; repeat (first | exact .nil | refine .cons (fun _ h => h) ?_ | refine .cons (fun _ h => nil_no _ h) ?_ | refine .cons (fun _ h => no_sub _ h) ?_ | refine .cons (fun _ h => AccP.sub (by assumption) _ _ h) ?_ | refine .cons (fun _ h => agg_sub rfl (by repeat (first | exact .nil | refine .cons (fun _ h => h) ?_ | refine .cons (fun _ h => nil_no _ h) ?_ | refine .cons (fun _ h => no_sub _ h) ?_ | refine .cons (fun _ h => AccP.sub (by assumption) _ _ h) ?_)) _ h) ?_))))) (by (repeat (first | exact AH.le_refl _ | assumption | exact AccP.le (by assumption) | refine AH.le_put ?_ (by first | assumption | exact none_of_le (by assumption) (by assumption) | exact And.right (by assumption) | exact And.right (And.right (by assumption))) _ | refine AH.le_trans ?_ (AccP.le (by assumption))))))
  · have hcq := eqf_calls (t := .no) (t' := .no) (ok_list ho).1 (ok_list hb).1 hg (fun a ha b hb' => ih a ha ((ok_list ho).2 a ha) b ((ok_list hb).2 b hb'))
    rw [sameV_list, vV_list, vV_list]
    simp only
    repeat' (first | with_reducible refine go0 ?_ | (with_reducible refine am_cnd ?_ ?_ <;> intro hc <;> try (exfalso; omega)) | ((first | with_reducible (first | refine go1 ?_ | refine vc_intro ?_ | refine need_el ?_ | refine vlen_a ?_ | refine need_by ?_ | refine call_turn (hcq) ?_ | refine need_lk ?_) | ((with_reducible (first | apply gd_not | apply gd_of | apply gq_not | apply gq_of | apply pickB_of)) <;> intro hc <;> (try simp -implicitDefEqProofs (disch := omega) only [go_sem, hc, true_or, or_true, true_and]) <;> (try simp only [reduceCtorEq, bD, beq_iff_eq] at hc) <;> (try (exfalso; omega))) | ((with_reducible refine alloc_intro (fun ko hko => ?_)) <;> (try have hne := fresh_ne (by assumption) hko) <;> (try simp only [AH.put_none] at hko)) | done) <;> (try simp -implicitDefEqProofs (disch := omega) only [go_sem, true_or, or_true, true_and])))
    all_goals (refine drop_end (by (first | exact fun _ _ h => h | (intro s x h; first | exact no_sub _ h | exact nil_no _ h | exact AccP.sub (by assumption) _ _ h | (refine agg_sub rfl ?_ x h; repeat (first | exact .nil | refine .cons (fun _ h => h) ?_ | refine .cons (fun _ h => nil_no _ h) ?_ | refine .cons (fun _ h => no_sub _ h) ?_ | refine .cons (fun _ h => AccP.sub (by assumption) _ _ h) ?_)) | (refine tuple_sub ?_ x h; repeat (first | exact .nil | refine .cons (fun _ h => h) ?_ | refine .cons (fun _ h => nil_no _ h) ?_ | refine .cons (fun _ h => no_sub _ h) ?_ | refine .cons (fun _ h => AccP.sub (by assumption) _ _ h) ?_ | refine .cons (fun _ h => agg_sub rfl (by repeat (first | exact .nil | refine .cons (fun _ h => h) ?_ | refine .cons (fun _ h => nil_no _ h) ?_ | refine .cons (fun _ h => no_sub _ h) ?_ | refine .cons (fun _ h => AccP.sub (by assumption) _ _ h) ?_)) _ h) ?_))))) (by (repeat (first | exact AH.le_refl _ | assumption | exact AccP.le (by assumption) | refine AH.le_put ?_ (by first | assumption | exact none_of_le (by assumption) (by assumption) | exact And.right (by assumption) | exact And.right (And.right (by assumption))) _ | refine AH.le_trans ?_ (AccP.le (by assumption))))))
  · rw [sameV_bad1 (by rintro l' h; cases h), vV_list, vV_map]
    repeat' (first | with_reducible refine go0 ?_ | (with_reducible refine am_cnd ?_ ?_ <;> intro hc <;> try (exfalso; omega)) | ((first | with_reducible (first | refine go1 ?_ | refine vc_intro ?_ | refine need_el ?_ | refine vlen_a ?_ | refine need_by ?_ | refine need_lk ?_) | ((with_reducible (first | apply gd_not | apply gd_of | apply gq_not | apply gq_of | apply pickB_of)) <;> intro hc <;> (try simp -implicitDefEqProofs (disch := omega) only [go_sem, hc, true_or, or_true, true_and]) <;> (try simp only [reduceCtorEq, bD, beq_iff_eq] at hc) <;> (try (exfalso; omega))) | ((with_reducible refine alloc_intro (fun ko hko => ?_)) <;> (try have hne := fresh_ne (by assumption) hko) <;> (try simp only [AH.put_none] at hko)) | done) <;> (try simp -implicitDefEqProofs (disch := omega) only [go_sem, true_or, or_true, true_and])))
    all_goals (refine drop_end (by (first | exact fun _ _ h => h | (intro s x h; first | exact no_sub _ h | exact nil_no _ h | exact AccP.sub (by assumption) _ _ h | (refine agg_sub rfl ?_ x h; repeat (first | exact .nil | refine .cons (fun _ h => h) ?_ | refine .cons (fun _ h => nil_no _ h) ?_ | refine .cons (fun _ h => no_sub _ h) ?_ | refine .cons (fun _ h => AccP.sub (by assumption) _ _ h) ?_)) | (refine tuple_sub ?_ x h; repeat (first | exact .nil | refine .cons (fun _ h => h) ?_ | refine .cons (fun _ h => nil_no _ h) ?_ | refine .cons (fun _ h => no_sub _ h) ?_ | refine .cons (fun _ h => AccP.sub (by assumption) _ _ h) ?_ | refine .cons (fun _ h => agg_sub rfl (by repeat (first | exact .nil | refine .cons (fun _ h => h) ?_ | refine .cons (fun _ h => nil_no _ h) ?_ | refine .cons (fun _ h => no_sub _ h) ?_ | refine .cons (fun _ h => AccP.sub (by assumption) _ _ h) ?_)) _ h) ?_))))) (by (repeat (first | exact AH.le_refl _ | assumption | exact AccP.le (by assumption) | refine AH.le_put ?_ (by first | assumption | exact none_of_le (by assumption) (by assumption) | exact And.right (by assumption) | exact And.right (And.right (by assumption))) _ | refine AH.le_trans ?_ (AccP.le (by assumption))))))
theorem same_map {es : List (List UInt8 × Vl)} {b : Vl} (ho : (Vl.map es).Ok) (hb : b.Ok) {g : Nat} {H : AH} (hg : H g = some .nodr) (ih : ∀ p ∈ es, p.2.Ok → ∀ b : Vl, b.Ok → ∀ G : AH, G g = some .nodr → SameOk p.2 b G) : SameOk (.map es) b H := by
  refine ACalls.drop ?_
  refine acalls Tryz.func16 c16 r16 (by simp [Tryz.ntmps16]) ?_
  rcases leaf_cases b with hl | ⟨l', rfl⟩ | ⟨es', rfl⟩
  · have h3 := fun z K => tyaK_leaf hl 88 (.inl rfl) z K
    have h4 := fun z K => tyaK_leaf hl 92 (.inr rfl) z K
    rw [sameV_bad2 (by rintro l' rfl; cases hl), vV_map]
    repeat' (first | with_reducible refine go0 ?_ | (with_reducible refine am_cnd ?_ ?_ <;> intro hc <;> try (exfalso; omega)) | ((first | with_reducible (first | refine go1 ?_ | refine vc_intro ?_ | refine need_el ?_ | refine vlen_a ?_ | refine need_by ?_ | refine need_lk ?_) | ((with_reducible (first | apply gd_not | apply gd_of | apply gq_not | apply gq_of | apply pickB_of)) <;> intro hc <;> (try simp -implicitDefEqProofs (disch := omega) only [go_sem, hc, h3, h4, true_or, or_true, true_and]) <;> (try simp only [reduceCtorEq, bD, beq_iff_eq] at hc) <;> (try (exfalso; omega))) | ((with_reducible refine alloc_intro (fun ko hko => ?_)) <;> (try have hne := fresh_ne (by assumption) hko) <;> (try simp only [AH.put_none] at hko)) | done) <;> (try simp -implicitDefEqProofs (disch := omega) only [go_sem, h3, h4, true_or, or_true, true_and])))
    all_goals (refine drop_end (by (first | exact fun _ _ h => h | (intro s x h; first | exact no_sub _ h | exact nil_no _ h | exact AccP.sub (by assumption) _ _ h | (refine agg_sub rfl ?_ x h; repeat (first | exact .nil | refine .cons (fun _ h => h) ?_ | refine .cons (fun _ h => nil_no _ h) ?_ | refine .cons (fun _ h => no_sub _ h) ?_ | refine .cons (fun _ h => AccP.sub (by assumption) _ _ h) ?_)) | (refine tuple_sub ?_ x h; repeat (first | exact .nil | refine .cons (fun _ h => h) ?_ | refine .cons (fun _ h => nil_no _ h) ?_ | refine .cons (fun _ h => no_sub _ h) ?_ | refine .cons (fun _ h => AccP.sub (by assumption) _ _ h) ?_ | refine .cons (fun _ h => agg_sub rfl (by repeat (first | exact .nil | refine .cons (fun _ h => h) ?_ | refine .cons (fun _ h => nil_no _ h) ?_ | refine .cons (fun _ h => no_sub _ h) ?_ | refine .cons (fun _ h => AccP.sub (by assumption) _ _ h) ?_)) _ h) ?_))))) (by (repeat (first | exact AH.le_refl _ | assumption | exact AccP.le (by assumption) | refine AH.le_put ?_ (by first | assumption | exact none_of_le (by assumption) (by assumption) | exact And.right (by assumption) | exact And.right (And.right (by assumption))) _ | refine AH.le_trans ?_ (AccP.le (by assumption))))))
  · rw [sameV_bad2 (by rintro l' h; cases h), vV_list, vV_map]
    repeat' (first | with_reducible refine go0 ?_ | (with_reducible refine am_cnd ?_ ?_ <;> intro hc <;> try (exfalso; omega)) | ((first | with_reducible (first | refine go1 ?_ | refine vc_intro ?_ | refine need_el ?_ | refine vlen_a ?_ | refine need_by ?_ | refine need_lk ?_) | ((with_reducible (first | apply gd_not | apply gd_of | apply gq_not | apply gq_of | apply pickB_of)) <;> intro hc <;> (try simp -implicitDefEqProofs (disch := omega) only [go_sem, hc, true_or, or_true, true_and]) <;> (try simp only [reduceCtorEq, bD, beq_iff_eq] at hc) <;> (try (exfalso; omega))) | ((with_reducible refine alloc_intro (fun ko hko => ?_)) <;> (try have hne := fresh_ne (by assumption) hko) <;> (try simp only [AH.put_none] at hko)) | done) <;> (try simp -implicitDefEqProofs (disch := omega) only [go_sem, true_or, or_true, true_and])))
    all_goals (refine drop_end (by (first | exact fun _ _ h => h | (intro s x h; first | exact no_sub _ h | exact nil_no _ h | exact AccP.sub (by assumption) _ _ h | (refine agg_sub rfl ?_ x h; repeat (first | exact .nil | refine .cons (fun _ h => h) ?_ | refine .cons (fun _ h => nil_no _ h) ?_ | refine .cons (fun _ h => no_sub _ h) ?_ | refine .cons (fun _ h => AccP.sub (by assumption) _ _ h) ?_)) | (refine tuple_sub ?_ x h; repeat (first | exact .nil | refine .cons (fun _ h => h) ?_ | refine .cons (fun _ h => nil_no _ h) ?_ | refine .cons (fun _ h => no_sub _ h) ?_ | refine .cons (fun _ h => AccP.sub (by assumption) _ _ h) ?_ | refine .cons (fun _ h => agg_sub rfl (by repeat (first | exact .nil | refine .cons (fun _ h => h) ?_ | refine .cons (fun _ h => nil_no _ h) ?_ | refine .cons (fun _ h => no_sub _ h) ?_ | refine .cons (fun _ h => AccP.sub (by assumption) _ _ h) ?_)) _ h) ?_))))) (by (repeat (first | exact AH.le_refl _ | assumption | exact AccP.le (by assumption) | refine AH.le_put ?_ (by first | assumption | exact none_of_le (by assumption) (by assumption) | exact And.right (by assumption) | exact And.right (And.right (by assumption))) _ | refine AH.le_trans ?_ (AccP.le (by assumption))))))
  · have hcq := meqf_calls (es := es) (es' := es') hg (fun p hp q hq => ih p hp (ok_map ho p hp) q.2 (ok_map hb q hq))
    rw [sameV_map, vV_map, vV_map]
    simp only
    repeat' (first | with_reducible refine go0 ?_ | (with_reducible refine am_cnd ?_ ?_ <;> intro hc <;> try (exfalso; omega)) | ((first | with_reducible (first | refine go1 ?_ | refine vc_intro ?_ | refine need_el ?_ | refine vlen_a ?_ | refine need_by ?_ | refine call_turn (hcq) ?_ | refine need_lk ?_) | ((with_reducible (first | apply gd_not | apply gd_of | apply gq_not | apply gq_of | apply pickB_of)) <;> intro hc <;> (try simp -implicitDefEqProofs (disch := omega) only [go_sem, hc, true_or, or_true, true_and]) <;> (try simp only [reduceCtorEq, bD, beq_iff_eq] at hc) <;> (try (exfalso; omega))) | ((with_reducible refine alloc_intro (fun ko hko => ?_)) <;> (try have hne := fresh_ne (by assumption) hko) <;> (try simp only [AH.put_none] at hko)) | done) <;> (try simp -implicitDefEqProofs (disch := omega) only [go_sem, true_or, or_true, true_and])))
    all_goals (refine drop_end (by (first | exact fun _ _ h => h | (intro s x h; first | exact no_sub _ h | exact nil_no _ h | exact AccP.sub (by assumption) _ _ h | (refine agg_sub rfl ?_ x h; repeat (first | exact .nil | refine .cons (fun _ h => h) ?_ | refine .cons (fun _ h => nil_no _ h) ?_ | refine .cons (fun _ h => no_sub _ h) ?_ | refine .cons (fun _ h => AccP.sub (by assumption) _ _ h) ?_)) | (refine tuple_sub ?_ x h; repeat (first | exact .nil | refine .cons (fun _ h => h) ?_ | refine .cons (fun _ h => nil_no _ h) ?_ | refine .cons (fun _ h => no_sub _ h) ?_ | refine .cons (fun _ h => AccP.sub (by assumption) _ _ h) ?_ | refine .cons (fun _ h => agg_sub rfl (by repeat (first | exact .nil | refine .cons (fun _ h => h) ?_ | refine .cons (fun _ h => nil_no _ h) ?_ | refine .cons (fun _ h => no_sub _ h) ?_ | refine .cons (fun _ h => AccP.sub (by assumption) _ _ h) ?_)) _ h) ?_))))) (by (repeat (first | exact AH.le_refl _ | assumption | exact AccP.le (by assumption) | refine AH.le_put ?_ (by first | assumption | exact none_of_le (by assumption) (by assumption) | exact And.right (by assumption) | exact And.right (And.right (by assumption))) _ | refine AH.le_trans ?_ (AccP.le (by assumption))))))
theorem same_calls : ∀ a : Vl, a.Ok → ∀ b : Vl, b.Ok → ∀ (g : Nat) (H : AH), H g = some .nodr → SameOk a b H := by
  refine Vl.ind ?_ ?_ ?_ ?_ ?_ ?_ ?_ ?_
  · exact fun _ b _ g H _ => same_leaf rfl H
  · exact fun _ b _ g H _ => same_leaf rfl H
  · exact fun _ _ b _ g H _ => same_leaf rfl H
  · exact fun _ _ b _ g H _ => same_leaf rfl H
  · exact fun _ _ _ b _ g H _ => same_leaf rfl H
  · exact fun _ _ b _ g H _ => same_leaf rfl H
  · exact fun l ih ho b hb g H hg => same_list ho hb hg fun x hx hxo b hb G hG => ih x hx hxo b hb g G hG
  · exact fun es ih ho b hb g H hg => same_map ho hb hg fun x hx hxo b hb G hG => ih x hx hxo b hb g G hG
theorem fl_eq (n : Int) (h1 : -9007199254740992 ≤ n) (h2 : n ≤ 9007199254740992) : Op.floatEq .f64 (fl n) (fl n) = true := by
  have h := near_toInt n h1 h2
  unfold Op.floatEq Ieee.Format.order
  have e : FloatKind.f64.decode (fl n) = FloatKind.f64.format.read (fl n) := rfl
  rw [show FloatKind.f64.nearest n = fl n from rfl, e] at h
  generalize FloatKind.f64.format.read (fl n) = d at *
  cases d with
  | number s m i => simp [Ieee.Datum.order]
  | infinity s => simp [Ieee.Datum.toInt, Ieee.Datum.integral] at h
  | nan s t => simp [Ieee.Datum.toInt, Ieee.Datum.integral] at h
theorem fnd_self : ∀ {es : List (List UInt8 × Vl)}, (es.map Prod.fst).Nodup → ∀ p ∈ es, fnd p.1 es = some p.2
  | [], _, p, h => by cases h
  | q :: es, hn, p, h => by
    rw [List.map_cons, List.nodup_cons] at hn
    rw [fnd]
    cases h with
    | head => rw [if_pos rfl]
    | tail _ h => rw [if_neg (fun e => hn.1 (by rw [e]; exact List.mem_map_of_mem h)), fnd_self hn.2 p h]
end Go.Proofs.YtoicninkfmfnbaaGreat
