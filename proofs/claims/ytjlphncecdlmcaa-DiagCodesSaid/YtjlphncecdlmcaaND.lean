/- Of the walks of this seat: contracts of functions of the given program, proved over the abstract values of the texts Vm. Conditions: as each theorem says. -/
import Derived.Test.YtjlphncecdlmcaaNC
import Derived.Test.YtjlphncecdlmcaaVm36
set_option linter.unusedVariables false
set_option linter.unusedSimpArgs false
namespace Go.Proofs.Ytjlphncecdlmcaa
open Go.Vm
attribute [local go_sem] eq_self decide_true decide_false AH.put_ne
attribute [local go_sem_proc] Nat.reduceBEq Nat.reduceAdd Nat.reduceSub Nat.reduceMul Nat.reduceEqDiff Nat.reduceLeDiff Nat.reduceLT Int.reduceLE Int.reduceLT Int.reduceToNat Int.reduceAdd Int.reduceEq Int.reduceNeg
attribute [local go_sem] List.drop_zero toNat_succ Nat.sub_zero Int.toNat_natCast Option.map_some Int.natCast_nonneg decide_eq_true_eq decide_eq_false_iff_not
def SymAt (N k : Nat) (P X Y S : List Nt) : Prop := ∀ (a m b : Int) (L : List Nt) (H : AH), a = (P.length : Nat) → m = (P.length + X.length : Nat) → b = (P.length + X.length + Y.length : Nat) → L = P ++ X ++ Y ++ S → L.length = N → H k = some (ntO L) →
    ACalls Try.prog 139 [.msl k 2 0 N, .int .i64 a, .int .i64 m, .int .i64 b, cmpV] H (fun o H' => o = .ret unitV ∧ H' = H.put k (ntO (P ++ stb (X ++ Y) ++ S)))
abbrev symQ (H : AH) (k : Nat) (R : List Nt) : AExit → A → AH → Prop := Body [] fun o H' => o = Out.ret unitV ∧ H' = H.put k (ntO R)
def Sup (a : A) : A → Prop
  | [] => True
  | (t, v) :: r => a.get t = some v ∧ Sup a r
theorem sup_get {a : A} : ∀ (a' : A), Sup a a' → ∀ t v, a'.get t = some v → a.get t = some v
  | [], _, t, v, h => by cases h
  | (u, w) :: r, hs, t, v, h => by
    simp only [A.get] at h
    split at h
    · rename_i e; subst e; rw [← h]; exact hs.1
    · exact sup_get r hs.2 t v h
theorem sym_T3 {P X Y S : List Nt} {N k : Nat} {b mid e : Int} {H G : AH} (hs : N ≤ 1000) (hmid : mid = (P.length : Nat)) (he : e = (P.length + X.length : Nat)) (hb : b = (P.length + X.length + Y.length : Nat)) (hl : (P ++ X ++ Y ++ S).length = N) (hk : G k = some (ntO (P ++ X ++ Y ++ S))) (hG : ∀ o, G.put k o = H.put k o) (hSX : SrN X) (hSY : SrN Y) (ih : 0 < X.length → 0 < Y.length → SymAt N k P X Y S) :
    AM Try.prog Try.f139.ntmps k139_39 (symQ H k (P ++ stb (X ++ Y) ++ S)) [(0, .msl k 2 0 N), (3, .int .i64 b), (4, cmpV), (18, .int .i64 mid), (24, .int .i64 e)] G := by
  rcases Nat.eq_zero_or_pos X.length with h1 | h1
  · have c1 : ¬ mid < e := by omega
    obtain rfl := List.eq_nil_of_length_eq_zero h1
    repeat' (first | with_reducible (first | refine am_seq ?_ | refine am_block ?_) | ((with_reducible apply am_cond); (case hb => rfl); all_goals (intro hc; (try simp only [reduceCtorEq, bD, beq_iff_eq] at hc); (try (exfalso; omega)))) | ((first | with_reducible (first | refine am_reg ?_ | refine am_skip ?_ | refine am_exit ?_ | refine am_ret ?_ | refine vc_intro ?_ | refine need_elems (by assumption) ?_ | refine vlen_acc (by assumption) ?_ | refine need_bytes (by assumption) ?_ | refine need_lk ?_) | ((with_reducible (first | apply gd_not | apply gd_of | apply gq_not | apply gq_of | apply pickB_of)) <;> intro hc <;> (try simp -implicitDefEqProofs (disch := omega) only [go_sem, hc, c1]) <;> (try simp only [reduceCtorEq, bD, beq_iff_eq] at hc) <;> (try (exfalso; omega))) | done) <;> (try simp -implicitDefEqProofs (disch := omega) only [go_sem, c1])))
    all_goals exact ⟨rfl, by rw [List.nil_append, hSY, ← hG, put_self]; rw [hk, List.append_nil]⟩
  · have c1 : mid < e := by omega
    rcases Nat.eq_zero_or_pos Y.length with h2 | h2
    · have c2 : ¬ e < b := by omega
      obtain rfl := List.eq_nil_of_length_eq_zero h2
      repeat' (first | with_reducible (first | refine am_seq ?_ | refine am_block ?_) | ((with_reducible apply am_cond); (case hb => rfl); all_goals (intro hc; (try simp only [reduceCtorEq, bD, beq_iff_eq] at hc); (try (exfalso; omega)))) | ((first | with_reducible (first | refine am_reg ?_ | refine am_skip ?_ | refine am_exit ?_ | refine am_ret ?_ | refine vc_intro ?_ | refine need_elems (by assumption) ?_ | refine vlen_acc (by assumption) ?_ | refine need_bytes (by assumption) ?_ | refine need_lk ?_) | ((with_reducible (first | apply gd_not | apply gd_of | apply gq_not | apply gq_of | apply pickB_of)) <;> intro hc <;> (try simp -implicitDefEqProofs (disch := omega) only [go_sem, hc, c1, c2]) <;> (try simp only [reduceCtorEq, bD, beq_iff_eq] at hc) <;> (try (exfalso; omega))) | done) <;> (try simp -implicitDefEqProofs (disch := omega) only [go_sem, c1, c2])))
      all_goals exact ⟨rfl, by rw [List.append_nil, hSX, ← hG, put_self]; rw [hk, List.append_nil]⟩
    · have c2 : e < b := by omega
      have h3 := ih h1 h2 mid e b _ G hmid he hb rfl hl hk
      repeat' (first | with_reducible (first | refine am_seq ?_ | refine am_block ?_) | ((with_reducible apply am_cond); (case hb => rfl); all_goals (intro hc; (try simp only [reduceCtorEq, bD, beq_iff_eq] at hc); (try (exfalso; omega)))) | ((first | with_reducible (first | refine am_reg ?_ | refine am_skip ?_ | refine am_exit ?_ | refine am_ret ?_ | refine vc_intro ?_ | refine need_elems (by assumption) ?_ | refine vlen_acc (by assumption) ?_ | refine need_bytes (by assumption) ?_ | refine call_turn (h3) ?_ | refine need_lk ?_) | ((with_reducible (first | apply gd_not | apply gd_of | apply gq_not | apply gq_of | apply pickB_of)) <;> intro hc <;> (try simp -implicitDefEqProofs (disch := omega) only [go_sem, hc, c1, c2]) <;> (try simp only [reduceCtorEq, bD, beq_iff_eq] at hc) <;> (try (exfalso; omega))) | done) <;> (try simp -implicitDefEqProofs (disch := omega) only [go_sem, c1, c2])))
      all_goals exact ⟨rfl, hG _⟩
theorem sym_T2 {P X1 Y1 X2 Y2 S : List Nt} {N k : Nat} {a b mid s e : Int} {H G : AH} (hs : N ≤ 1000) (ha : a = (P.length : Nat)) (hst : s = (P.length + X1.length : Nat)) (hmid : mid = (P.length + X1.length + Y1.length : Nat)) (he : e = (P.length + X1.length + Y1.length + X2.length : Nat)) (hb : b = (P.length + X1.length + Y1.length + X2.length + Y2.length : Nat)) (hl : (P ++ X1 ++ Y1 ++ (X2 ++ Y2 ++ S)).length = N) (hk : G k = some (ntO (P ++ X1 ++ Y1 ++ (X2 ++ Y2 ++ S)))) (hG : ∀ o, G.put k o = H.put k o)
    (hS1 : SrN X1) (hS2 : SrN Y1) (hS3 : SrN X2) (hS4 : SrN Y2) (ih1 : 0 < X1.length → 0 < Y1.length → SymAt N k P X1 Y1 (X2 ++ Y2 ++ S)) (ih2 : 0 < X2.length → 0 < Y2.length → SymAt N k (P ++ stb (X1 ++ Y1)) X2 Y2 S) :
    AM Try.prog Try.f139.ntmps k139_40 (symQ H k (P ++ stb (X1 ++ Y1) ++ stb (X2 ++ Y2) ++ S)) [(0, .msl k 2 0 N), (1, .int .i64 a), (3, .int .i64 b), (4, cmpV), (18, .int .i64 mid), (20, .int .i64 s), (24, .int .i64 e)] G := by
  have hl2 : (stb (X1 ++ Y1)).length = X1.length + Y1.length := by rw [stb_length, List.length_append]
  have t3 := fun (G : AH) (hk : G k = some (ntO (P ++ stb (X1 ++ Y1) ++ X2 ++ Y2 ++ S))) (hG : ∀ o, G.put k o = H.put k o) => sym_T3 (P := P ++ stb (X1 ++ Y1)) (X := X2) (Y := Y2) (S := S) (b := b) (mid := mid) (e := e) (H := H) (G := G) hs (by rw [List.length_append]; omega) (by rw [List.length_append]; omega) (by rw [List.length_append]; omega) (by rw [← hl]; simp only [List.length_append]; omega) hk hG hS3 hS4 ih2
  rcases Nat.eq_zero_or_pos X1.length with h1 | h1
  · have c1 : ¬ a < s := by omega
    obtain rfl := List.eq_nil_of_length_eq_zero h1
    have e9 : stb ([] ++ Y1) = Y1 := hS2
    have t4 := t3 G (by rw [hk, e9]; simp only [List.append_nil, List.append_assoc]) hG
    repeat' (first | (((with_reducible refine AM.sub t4 ?_); exact sup_get _ ⟨rfl, rfl, rfl, rfl, rfl, trivial⟩)) | with_reducible (first | refine am_seq ?_ | refine am_block ?_) | ((with_reducible apply am_cond); (case hb => rfl); all_goals (intro hc; (try simp only [reduceCtorEq, bD, beq_iff_eq] at hc); (try (exfalso; omega)))) | ((first | with_reducible (first | refine am_reg ?_ | refine am_skip ?_ | refine am_exit ?_ | refine am_ret ?_ | refine vc_intro ?_ | refine need_elems (by assumption) ?_ | refine vlen_acc (by assumption) ?_ | refine need_bytes (by assumption) ?_ | refine need_lk ?_) | ((with_reducible (first | apply gd_not | apply gd_of | apply gq_not | apply gq_of | apply pickB_of)) <;> intro hc <;> (try simp -implicitDefEqProofs (disch := omega) only [go_sem, hc, c1]) <;> (try simp only [reduceCtorEq, bD, beq_iff_eq] at hc) <;> (try (exfalso; omega))) | done) <;> (try simp -implicitDefEqProofs (disch := omega) only [go_sem, c1])))
  · have c1 : a < s := by omega
    rcases Nat.eq_zero_or_pos Y1.length with h2 | h2
    · have c2 : ¬ s < mid := by omega
      obtain rfl := List.eq_nil_of_length_eq_zero h2
      have e9 : stb (X1 ++ []) = X1 := by rw [List.append_nil]; exact hS1
      have t4 := t3 G (by rw [hk, e9]; simp only [List.append_nil, List.append_assoc]) hG
      repeat' (first | (((with_reducible refine AM.sub t4 ?_); exact sup_get _ ⟨rfl, rfl, rfl, rfl, rfl, trivial⟩)) | with_reducible (first | refine am_seq ?_ | refine am_block ?_) | ((with_reducible apply am_cond); (case hb => rfl); all_goals (intro hc; (try simp only [reduceCtorEq, bD, beq_iff_eq] at hc); (try (exfalso; omega)))) | ((first | with_reducible (first | refine am_reg ?_ | refine am_skip ?_ | refine am_exit ?_ | refine am_ret ?_ | refine vc_intro ?_ | refine need_elems (by assumption) ?_ | refine vlen_acc (by assumption) ?_ | refine need_bytes (by assumption) ?_ | refine need_lk ?_) | ((with_reducible (first | apply gd_not | apply gd_of | apply gq_not | apply gq_of | apply pickB_of)) <;> intro hc <;> (try simp -implicitDefEqProofs (disch := omega) only [go_sem, hc, c1, c2]) <;> (try simp only [reduceCtorEq, bD, beq_iff_eq] at hc) <;> (try (exfalso; omega))) | done) <;> (try simp -implicitDefEqProofs (disch := omega) only [go_sem, c1, c2])))
    · have c2 : s < mid := by omega
      have h3 := ih1 h1 h2 a s mid _ G ha hst hmid rfl hl hk
      have t4 := t3 (G.put k (ntO (P ++ stb (X1 ++ Y1) ++ (X2 ++ Y2 ++ S)))) (by rw [AH.put_same]; simp only [List.append_assoc]) (fun o => (AH.put_put ..).trans (hG o))
      repeat' (first | (((with_reducible refine AM.sub t4 ?_); exact sup_get _ ⟨rfl, rfl, rfl, rfl, rfl, trivial⟩)) | with_reducible (first | refine am_seq ?_ | refine am_block ?_) | ((with_reducible apply am_cond); (case hb => rfl); all_goals (intro hc; (try simp only [reduceCtorEq, bD, beq_iff_eq] at hc); (try (exfalso; omega)))) | ((first | with_reducible (first | refine am_reg ?_ | refine am_skip ?_ | refine am_exit ?_ | refine am_ret ?_ | refine vc_intro ?_ | refine need_elems (by assumption) ?_ | refine vlen_acc (by assumption) ?_ | refine need_bytes (by assumption) ?_ | refine call_turn (h3) ?_ | refine need_lk ?_) | ((with_reducible (first | apply gd_not | apply gd_of | apply gq_not | apply gq_of | apply pickB_of)) <;> intro hc <;> (try simp -implicitDefEqProofs (disch := omega) only [go_sem, hc, c1, c2]) <;> (try simp only [reduceCtorEq, bD, beq_iff_eq] at hc) <;> (try (exfalso; omega))) | done) <;> (try simp -implicitDefEqProofs (disch := omega) only [go_sem, c1, c2])))
theorem sym_T1 {P X1 Y1 X2 Y2 S : List Nt} {N k : Nat} {a m b mid n s : Int} {H : AH} (hs : N ≤ 1000) (ha : a = (P.length : Nat)) (hst : s = (P.length + X1.length : Nat)) (hm : m = (P.length + X1.length + X2.length : Nat)) (hmid : mid = (P.length + X1.length + Y1.length : Nat)) (hn : n = mid + m) (hb : b = (P.length + X1.length + X2.length + Y1.length + Y2.length : Nat)) (hl : (P ++ X1 ++ X2 ++ Y1 ++ (Y2 ++ S)).length = N) (hk : H k = some (ntO (P ++ X1 ++ X2 ++ Y1 ++ (Y2 ++ S))))
    (hS1 : SrN X1) (hS2 : SrN Y1) (hS3 : SrN X2) (hS4 : SrN Y2) (ih1 : 0 < X1.length → 0 < Y1.length → SymAt N k P X1 Y1 (X2 ++ Y2 ++ S)) (ih2 : 0 < X2.length → 0 < Y2.length → SymAt N k (P ++ stb (X1 ++ Y1)) X2 Y2 S) :
    AM Try.prog Try.f139.ntmps k139_42 (symQ H k (P ++ stb (X1 ++ Y1) ++ stb (X2 ++ Y2) ++ S)) [(0, .msl k 2 0 N), (1, .int .i64 a), (2, .int .i64 m), (3, .int .i64 b), (4, cmpV), (18, .int .i64 mid), (19, .int .i64 n), (20, .int .i64 s)] H := by
  have hlen : P.length + X1.length + X2.length + Y1.length + Y2.length + S.length = N := by rw [← hl]; simp; omega
  have he : n - s = (P.length + X1.length + X2.length + Y1.length : Nat) := by omega
  generalize hee : n - s = e at he
  have t2 := fun (G : AH) (hk : G k = some (ntO (P ++ X1 ++ Y1 ++ (X2 ++ Y2 ++ S)))) (hG : ∀ o, G.put k o = H.put k o) => sym_T2 (P := P) (X1 := X1) (Y1 := Y1) (X2 := X2) (Y2 := Y2) (S := S) (a := a) (b := b) (mid := mid) (s := s) (e := e) (H := H) (G := G) hs ha hst hmid (by omega) (by omega) (by rw [← hl]; simp; omega) hk hG hS1 hS2 hS3 hS4 ih1 ih2
  rcases Nat.eq_zero_or_pos X2.length with h1 | h1
  · have c1 : ¬ s < m := by omega
    obtain rfl := List.eq_nil_of_length_eq_zero h1
    have t4 := t2 H (by rw [hk]; simp only [List.append_nil, List.nil_append, List.append_assoc]) (fun o => rfl)
    repeat' (first | (((with_reducible refine AM.sub t4 ?_); exact sup_get _ ⟨rfl, rfl, rfl, rfl, rfl, rfl, rfl, trivial⟩)) | with_reducible (first | refine am_seq ?_ | refine am_block ?_) | ((with_reducible apply am_cond); (case hb => rfl); all_goals (intro hc; (try simp only [reduceCtorEq, bD, beq_iff_eq] at hc); (try (exfalso; omega)))) | ((first | with_reducible (first | refine am_reg ?_ | refine am_skip ?_ | refine am_exit ?_ | refine am_ret ?_ | refine vc_intro ?_ | refine need_elems (by assumption) ?_ | refine vlen_acc (by assumption) ?_ | refine need_bytes (by assumption) ?_ | refine need_lk ?_) | ((with_reducible (first | apply gd_not | apply gd_of | apply gq_not | apply gq_of | apply pickB_of)) <;> intro hc <;> (try simp -implicitDefEqProofs (disch := omega) only [go_sem, hc, wrap_id, hee, c1]) <;> (try simp only [reduceCtorEq, bD, beq_iff_eq] at hc) <;> (try (exfalso; omega))) | done) <;> (try simp -implicitDefEqProofs (disch := omega) only [go_sem, wrap_id, hee, c1])))
  · have c1 : s < m := by omega
    rcases Nat.eq_zero_or_pos Y1.length with h2 | h2
    · have c2 : ¬ m < e := by omega
      obtain rfl := List.eq_nil_of_length_eq_zero h2
      have t4 := t2 H (by rw [hk]; simp only [List.append_nil, List.nil_append, List.append_assoc]) (fun o => rfl)
      repeat' (first | (((with_reducible refine AM.sub t4 ?_); exact sup_get _ ⟨rfl, rfl, rfl, rfl, rfl, rfl, rfl, trivial⟩)) | with_reducible (first | refine am_seq ?_ | refine am_block ?_) | ((with_reducible apply am_cond); (case hb => rfl); all_goals (intro hc; (try simp only [reduceCtorEq, bD, beq_iff_eq] at hc); (try (exfalso; omega)))) | ((first | with_reducible (first | refine am_reg ?_ | refine am_skip ?_ | refine am_exit ?_ | refine am_ret ?_ | refine vc_intro ?_ | refine need_elems (by assumption) ?_ | refine vlen_acc (by assumption) ?_ | refine need_bytes (by assumption) ?_ | refine need_lk ?_) | ((with_reducible (first | apply gd_not | apply gd_of | apply gq_not | apply gq_of | apply pickB_of)) <;> intro hc <;> (try simp -implicitDefEqProofs (disch := omega) only [go_sem, hc, wrap_id, hee, c1, c2]) <;> (try simp only [reduceCtorEq, bD, beq_iff_eq] at hc) <;> (try (exfalso; omega))) | done) <;> (try simp -implicitDefEqProofs (disch := omega) only [go_sem, wrap_id, hee, c1, c2])))
    · have c2 : m < e := by omega
      have h3 := rot_calls (P := P ++ X1) (A := X2) (B := Y1) (S := Y2 ++ S) (a := s) (m := m) (b := e) (c := cmpV) (H := H) (by rw [List.length_append]; omega) (by rw [List.length_append]; omega) (by rw [List.length_append]; omega) h1 h2 rfl hl hs hk
      have t4 := t2 (H.put k (ntO (P ++ X1 ++ Y1 ++ X2 ++ (Y2 ++ S)))) (by rw [AH.put_same]; simp only [List.append_assoc]) (fun o => AH.put_put ..)
      repeat' (first | (((with_reducible refine AM.sub t4 ?_); exact sup_get _ ⟨rfl, rfl, rfl, rfl, rfl, rfl, rfl, trivial⟩)) | with_reducible (first | refine am_seq ?_ | refine am_block ?_) | ((with_reducible apply am_cond); (case hb => rfl); all_goals (intro hc; (try simp only [reduceCtorEq, bD, beq_iff_eq] at hc); (try (exfalso; omega)))) | ((first | with_reducible (first | refine am_reg ?_ | refine am_skip ?_ | refine am_exit ?_ | refine am_ret ?_ | refine vc_intro ?_ | refine need_elems (by assumption) ?_ | refine vlen_acc (by assumption) ?_ | refine need_bytes (by assumption) ?_ | refine call_turn (h3) ?_ | refine need_lk ?_) | ((with_reducible (first | apply gd_not | apply gd_of | apply gq_not | apply gq_of | apply pickB_of)) <;> intro hc <;> (try simp -implicitDefEqProofs (disch := omega) only [go_sem, hc, wrap_id, hee, c1, c2]) <;> (try simp only [reduceCtorEq, bD, beq_iff_eq] at hc) <;> (try (exfalso; omega))) | done) <;> (try simp -implicitDefEqProofs (disch := omega) only [go_sem, wrap_id, hee, c1, c2])))
end Go.Proofs.Ytjlphncecdlmcaa
namespace Go.Proofs.Ytjlphncecdlmcaa
open Go.Vm
attribute [local go_sem] eq_self decide_true decide_false AH.put_ne
attribute [local go_sem_proc] Nat.reduceBEq Nat.reduceAdd Nat.reduceSub Nat.reduceMul Nat.reduceEqDiff Nat.reduceLeDiff Nat.reduceLT Int.reduceLE Int.reduceLT Int.reduceToNat Int.reduceAdd Int.reduceEq Int.reduceNeg
attribute [local go_sem] List.drop_zero toNat_succ Nat.sub_zero Int.toNat_natCast Option.map_some Int.natCast_nonneg decide_eq_true_eq decide_eq_false_iff_not
theorem take_get {l : List Nt} {n : Nat} {u : Nt} (h : l[n]? = some u) : l.take (n + 1) = l.take n ++ [u] := by
  obtain ⟨hn, rfl⟩ := List.getElem?_eq_some_iff.1 h
  exact List.take_succ_eq_append_getElem hn
theorem drop_get {l : List Nt} {n : Nat} {u : Nt} (h : l[n]? = some u) : l.drop n = u :: l.drop (n + 1) := by
  obtain ⟨hn, rfl⟩ := List.getElem?_eq_some_iff.1 h
  exact List.drop_eq_getElem_cons hn
theorem mid_at {X Y : List Nt} {s s0 r0 d : Nat} (hX : SrN X) (hY : SrN Y) (h1 : s0 ≤ s) (h2 : s ≤ r0) (h3 : r0 ≤ X.length) (h4 : r0 ≤ d) (h5 : d ≤ Y.length + s0) (hs0 : s0 = 0 ∨ s0 + Y.length = d) (hr0 : r0 = d ∨ r0 = X.length)
    (hlo : s = s0 ∨ ∃ u v, X[s - 1]? = some u ∧ Y[d - s]? = some v ∧ ¬ (v.err = true ∧ u.err = false)) (hhi : s = r0 ∨ ∃ u v, X[s]? = some u ∧ Y[d - 1 - s]? = some v ∧ v.err = true ∧ u.err = false) :
    stb (X.take s ++ Y.take (d - s)) ++ stb (X.drop s ++ Y.drop (d - s)) = stb (X ++ Y) := by
  rw [mid_ok (X1 := X.take s) (X2 := X.drop s) (Y1 := Y.take (d - s)) (Y2 := Y.drop (d - s))]
  · rw [List.take_append_drop, List.append_assoc, List.take_append_drop]
  · rw [List.take_append_drop]; exact hX
  · rw [List.take_append_drop]; exact hY
  · by_cases hs : s = s0
    · rcases hs0 with h | h
      · left; rw [hs, h]; rfl
      · right; left; exact List.drop_eq_nil_of_le (by omega)
    · obtain ⟨u, v, g1, g2, g3⟩ := hlo.resolve_left hs
      refine .inr (.inr ⟨X.take (s - 1), u, v, Y.drop (d - s + 1), ?_, drop_get g2, g3⟩)
      have := take_get g1
      rwa [show s - 1 + 1 = s by omega] at this
  · by_cases hr : s = r0
    · rcases hr0 with h | h
      · right; left; rw [show d - s = 0 by omega]; rfl
      · left; exact List.drop_eq_nil_of_le (by omega)
    · obtain ⟨u, v, g1, g2, g3, g4⟩ := hhi.resolve_left hr
      refine .inr (.inr ⟨u, X.drop (s + 1), Y.take (d - 1 - s), v, drop_get g1, ?_, g3, g4⟩)
      have := take_get g2
      rwa [show d - 1 - s + 1 = d - s by omega] at this
theorem sym_L {P X Y S L : List Nt} {N k d s0 r0 : Nat} {a m b mid n pp si ri : Int} {H : AH} (hX : 2 ≤ X.length) (hY : 2 ≤ Y.length) (hs : N ≤ 1000) (hSX : SrN X) (hSY : SrN Y)
    (ih : ∀ P' X' Y' S' : List Nt, X'.length + Y'.length < X.length + Y.length → 0 < X'.length → 0 < Y'.length → SrN X' → SrN Y' → SymAt N k P' X' Y' S')
    (hd : d = (X.length + Y.length) / 2) (h0 : s0 ≤ r0) (h3 : r0 ≤ X.length) (h4 : r0 ≤ d) (h5 : d ≤ Y.length + s0) (hs0 : s0 = 0 ∨ s0 + Y.length = d) (hr0 : r0 = d ∨ r0 = X.length)
    (ha : a = (P.length : Nat)) (hm : m = (P.length + X.length : Nat)) (hb : b = (P.length + X.length + Y.length : Nat)) (hmid : mid = (P.length + d : Nat)) (hn : n = mid + m) (hpp : pp = n - 1) (hsi : si = (P.length + s0 : Nat)) (hri : ri = (P.length + r0 : Nat))
    (hL : L = P ++ X ++ Y ++ S) (hN : L.length = N) (hk : H k = some (ntO L)) :
    AM Try.prog Try.f139.ntmps (.loop k139_35) (BQ 8 (SQ Try.prog Try.f139.ntmps k139_42 (symQ H k (P ++ stb (X ++ Y) ++ S))))
      [(0, .msl k 2 0 N), (1, .int .i64 a), (2, .int .i64 m), (3, .int .i64 b), (4, cmpV), (18, .int .i64 mid), (19, .int .i64 n), (20, .int .i64 si), (21, .int .i64 ri), (22, .int .i64 pp)] H := by
  have hlen : P.length + X.length + Y.length + S.length = N := by rw [hL] at hN; simp at hN; omega
  refine am_loop (fun q st H' => ∃ s r : Nat, s0 ≤ s ∧ s ≤ r ∧ r ≤ r0 ∧ q = r - s ∧ (s = s0 ∨ ∃ u v, X[s - 1]? = some u ∧ Y[d - s]? = some v ∧ ¬ (v.err = true ∧ u.err = false)) ∧ (r = r0 ∨ ∃ u v, X[r]? = some u ∧ Y[d - 1 - r]? = some v ∧ v.err = true ∧ u.err = false) ∧
      st = [(0, .msl k 2 0 N), (1, .int .i64 a), (2, .int .i64 m), (3, .int .i64 b), (4, cmpV), (18, .int .i64 mid), (19, .int .i64 n), (20, .int .i64 ((P.length + s : Nat) : Int)), (21, .int .i64 ((P.length + r : Nat) : Int)), (22, .int .i64 pp)] ∧ H' = H) ?_ (r0 - s0) ⟨s0, r0, by omega, by omega, by omega, rfl, .inl rfl, .inl rfl, by rw [hsi, hri], rfl⟩
  rintro q st G ⟨s, r, hs1, hsr, hr1, rfl, hlo, hhi, rfl, rfl⟩
  by_cases hlt : s < r
  · have hc1 : ((P.length + s : Nat) : Int) < ((P.length + r : Nat) : Int) := by omega
    have hh := half (i := P.length + s) (j := P.length + r) (c := P.length + (s + r) / 2) (by omega) (by omega)
    have ht1 : s ≤ (s + r) / 2 := by omega
    have ht2 : (s + r) / 2 < r := by omega
    generalize (s + r) / 2 = t at *
    have htX : t < X.length := by omega
    have htY : d - 1 - t < Y.length := by omega
    have g1 : L[P.length + t]? = some X[t] := by
      rw [hL, List.append_assoc, List.getElem?_append_left (by rw [List.length_append]; omega), List.getElem?_append_right (by omega), show P.length + t - P.length = t by omega, List.getElem?_eq_getElem htX]
    have g2 : L[P.length + X.length + (d - 1 - t)]? = some Y[d - 1 - t] := by
      rw [hL, List.append_assoc, List.getElem?_append_right (by rw [List.length_append]; omega), List.length_append, show P.length + X.length + (d - 1 - t) - (P.length + X.length) = d - 1 - t by omega, List.getElem?_append_left htY, List.getElem?_eq_getElem htY]
    have p1 := ntsF_pick g1
    have p2 := ntsF_pick g2
    have ei : pp - ((P.length + t : Nat) : Int) = ((P.length + X.length + (d - 1 - t) : Nat) : Int) := by omega
    have hX9 : X[t]? = some X[t] := List.getElem?_eq_getElem htX
    have hY9 : Y[d - 1 - t]? = some Y[d - 1 - t] := List.getElem?_eq_getElem htY
    generalize X[t] = u at *
    generalize Y[d - 1 - t] = v at *
    have hcm := enc1_calls v u
    by_cases hxy : tagI v - tagI u < 0
    · repeat' (first | with_reducible (first | refine am_seq ?_ | refine am_block ?_) | ((with_reducible apply am_cond); (case hb => rfl); all_goals (intro hc; (try simp only [reduceCtorEq, bD, beq_iff_eq] at hc); (try (exfalso; omega)))) | ((first | with_reducible (first | refine am_reg ?_ | refine am_drw ?_ | refine am_skip ?_ | refine am_exit ?_ | refine am_ret ?_ | refine vc_intro ?_ | refine need_elems (by assumption) ?_ | refine vlen_acc (by assumption) ?_ | refine need_bytes (by assumption) ?_ | refine call_of (hcm) ?_ | refine qcall_of (hcm) ?_ | refine need_lk ?_) | ((with_reducible (first | apply gd_not | apply gd_of | apply gq_not | apply gq_of | apply pickB_of)) <;> intro hc <;> (try simp -implicitDefEqProofs (disch := omega) only [go_sem, hc, hh, wrap_id, hc1, ei, p1, p2, hxy, ntsF_len, hN, ent_enc1, true_and, List.nil_append, List.append_nil, List.cons_append, Bool.not_true]) <;> (try simp only [reduceCtorEq, bD, beq_iff_eq] at hc) <;> (try (exfalso; omega))) | done) <;> (try simp -implicitDefEqProofs (disch := omega) only [go_sem, hh, wrap_id, hc1, ei, p1, p2, hxy, ntsF_len, hN, ent_enc1, true_and, List.nil_append, List.append_nil, List.cons_append, Bool.not_true])))
      obtain ⟨t1, t2⟩ := (tag_lt _ _).1 hxy
      all_goals exact ⟨t - s, by omega, s, t, by omega, by omega, by omega, rfl, hlo, .inr ⟨u, v, hX9, hY9, t1, t2⟩, rfl⟩
    · repeat' (first | with_reducible (first | refine am_seq ?_ | refine am_block ?_) | ((with_reducible apply am_cond); (case hb => rfl); all_goals (intro hc; (try simp only [reduceCtorEq, bD, beq_iff_eq] at hc); (try (exfalso; omega)))) | ((first | with_reducible (first | refine am_reg ?_ | refine am_drw ?_ | refine am_skip ?_ | refine am_exit ?_ | refine am_ret ?_ | refine vc_intro ?_ | refine need_elems (by assumption) ?_ | refine vlen_acc (by assumption) ?_ | refine need_bytes (by assumption) ?_ | refine call_of (hcm) ?_ | refine qcall_of (hcm) ?_ | refine need_lk ?_) | ((with_reducible (first | apply gd_not | apply gd_of | apply gq_not | apply gq_of | apply pickB_of)) <;> intro hc <;> (try simp -implicitDefEqProofs (disch := omega) only [go_sem, hc, hh, wrap_id, hc1, ei, p1, p2, hxy, ntsF_len, hN, ent_enc1, true_and, List.nil_append, List.append_nil, List.cons_append, Bool.not_false]) <;> (try simp only [reduceCtorEq, bD, beq_iff_eq] at hc) <;> (try (exfalso; omega))) | done) <;> (try simp -implicitDefEqProofs (disch := omega) only [go_sem, hh, wrap_id, hc1, ei, p1, p2, hxy, ntsF_len, hN, ent_enc1, true_and, List.nil_append, List.append_nil, List.cons_append, Bool.not_false])))
      all_goals exact ⟨r - (t + 1), by omega, t + 1, r, by omega, by omega, by omega, rfl, .inr ⟨u, v, hX9, by rw [show d - (t + 1) = d - 1 - t by omega]; exact hY9, fun h => hxy ((tag_lt _ _).2 h)⟩, hhi, rfl⟩
  · have e : r = s := by omega
    subst e
    have hcl : ¬ ((P.length + r : Nat) : Int) < ((P.length + r : Nat) : Int) := by omega
    have hfin := mid_at hSX hSY hs1 hr1 h3 h4 h5 hs0 hr0 hlo hhi
    have l1 : (X.take r).length = r := by rw [List.length_take]; omega
    have l2 : (Y.take (d - r)).length = d - r := by rw [List.length_take]; omega
    have l3 : (X.drop r).length = X.length - r := List.length_drop
    have l4 : (Y.drop (d - r)).length = Y.length - (d - r) := List.length_drop
    have eL : L = P ++ X.take r ++ X.drop r ++ Y.take (d - r) ++ (Y.drop (d - r) ++ S) := by
      have q : ∀ A B C D : List Nt, P ++ (A ++ B) ++ (C ++ D) ++ S = P ++ A ++ B ++ C ++ (D ++ S) := by intros; simp only [List.append_assoc]
      have q2 := q (X.take r) (X.drop r) (Y.take (d - r)) (Y.drop (d - r))
      rw [List.take_append_drop, List.take_append_drop] at q2
      rw [hL]; exact q2
    have x1 : SrN (X.take r ++ X.drop r) := by rw [List.take_append_drop]; exact hSX
    have y1 : SrN (Y.take (d - r) ++ Y.drop (d - r)) := by rw [List.take_append_drop]; exact hSY
    have t1 := sym_T1 (P := P) (X1 := X.take r) (X2 := X.drop r) (Y1 := Y.take (d - r)) (Y2 := Y.drop (d - r)) (S := S) (a := a) (m := m) (b := b) (mid := mid) (n := n) (s := ((P.length + r : Nat) : Int)) (H := G) hs ha (by omega) (by omega) (by omega) hn (by omega) (by rw [← eL]; exact hN) (by rw [← eL]; exact hk)
      (srn_left x1) (srn_left y1) (srn_right x1) (srn_right y1) (fun a b => ih _ _ _ _ (by omega) a b (srn_left x1) (srn_left y1)) (fun a b => ih _ _ _ _ (by omega) a b (srn_right x1) (srn_right y1))
    rw [List.append_assoc P, hfin] at t1
    repeat' (first | (((with_reducible refine AM.sub t1 ?_); exact sup_get _ ⟨rfl, rfl, rfl, rfl, rfl, rfl, rfl, rfl, trivial⟩)) | with_reducible (first | refine am_seq ?_ | refine am_block ?_) | ((with_reducible apply am_cond); (case hb => rfl); all_goals (intro hc; (try simp only [reduceCtorEq, bD, beq_iff_eq] at hc); (try (exfalso; omega)))) | ((first | with_reducible (first | refine am_reg ?_ | refine am_drw ?_ | refine am_skip ?_ | refine am_exit ?_ | refine am_ret ?_ | refine vc_intro ?_ | refine need_elems (by assumption) ?_ | refine vlen_acc (by assumption) ?_ | refine need_bytes (by assumption) ?_ | refine need_lk ?_) | ((with_reducible (first | apply gd_not | apply gd_of | apply gq_not | apply gq_of | apply pickB_of)) <;> intro hc <;> (try simp -implicitDefEqProofs (disch := omega) only [go_sem, hc, hcl]) <;> (try simp only [reduceCtorEq, bD, beq_iff_eq] at hc) <;> (try (exfalso; omega))) | done) <;> (try simp -implicitDefEqProofs (disch := omega) only [go_sem, hcl])))
theorem sym_C {P X Y S : List Nt} {N k : Nat} (hX : 2 ≤ X.length) (hY : 2 ≤ Y.length) (hs : N ≤ 1000) (hSX : SrN X) (hSY : SrN Y)
    (ih : ∀ P' X' Y' S' : List Nt, X'.length + Y'.length < X.length + Y.length → 0 < X'.length → 0 < Y'.length → SrN X' → SrN Y' → SymAt N k P' X' Y' S') : SymAt N k P X Y S := by
  intro a m b L H ha hm hb hL hN hk
  have hlen : P.length + X.length + Y.length + S.length = N := by rw [hL] at hN; simp at hN; omega
  have e1 : ¬ m - a = 1 := by omega
  have e2 : ¬ b - m = 1 := by omega
  have hmid := half (i := P.length) (j := P.length + X.length + Y.length) (c := P.length + (X.length + Y.length) / 2) (by omega) (by omega)
  rw [← ha, ← hb] at hmid
  by_cases hgt : (X.length + Y.length) / 2 < X.length
  · have hc : ((P.length + (X.length + Y.length) / 2 : Nat) : Int) < m := by omega
    refine acalls Try.func139 c139 r139 (by simp [Try.ntmps139]) ?_
    repeat' (first | with_reducible (first | refine am_seq ?_ | refine am_block ?_) | ((with_reducible apply am_cond); (case hb => rfl); all_goals (intro hc; (try simp only [reduceCtorEq, bD, beq_iff_eq] at hc); (try (exfalso; omega)))) | ((first | with_reducible (first | refine am_reg ?_ | refine am_drw ?_ | refine am_skip ?_ | refine am_exit ?_ | refine am_ret ?_ | refine vc_intro ?_ | refine need_elems (by assumption) ?_ | refine vlen_acc (by assumption) ?_ | refine need_bytes (by assumption) ?_ | refine need_lk ?_) | ((with_reducible (first | apply gd_not | apply gd_of | apply gq_not | apply gq_of | apply pickB_of)) <;> intro hc <;> (try simp -implicitDefEqProofs (disch := omega) only [go_sem, hc, wrap_id, e1, e2, hmid, hc]) <;> (try simp only [reduceCtorEq, bD, beq_iff_eq] at hc) <;> (try (exfalso; omega))) | done) <;> (try simp -implicitDefEqProofs (disch := omega) only [go_sem, wrap_id, e1, e2, hmid, hc])))
    all_goals exact sym_L (s0 := (X.length + Y.length) / 2 - Y.length) (r0 := (X.length + Y.length) / 2) hX hY hs hSX hSY ih rfl (by omega) (by omega) (by omega) (by omega) (by omega) (by omega) ha hm hb rfl rfl rfl (by omega) (by omega) hL hN hk
  · have hc : ¬ ((P.length + (X.length + Y.length) / 2 : Nat) : Int) < m := by omega
    refine acalls Try.func139 c139 r139 (by simp [Try.ntmps139]) ?_
    repeat' (first | with_reducible (first | refine am_seq ?_ | refine am_block ?_) | ((with_reducible apply am_cond); (case hb => rfl); all_goals (intro hc; (try simp only [reduceCtorEq, bD, beq_iff_eq] at hc); (try (exfalso; omega)))) | ((first | with_reducible (first | refine am_reg ?_ | refine am_drw ?_ | refine am_skip ?_ | refine am_exit ?_ | refine am_ret ?_ | refine vc_intro ?_ | refine need_elems (by assumption) ?_ | refine vlen_acc (by assumption) ?_ | refine need_bytes (by assumption) ?_ | refine need_lk ?_) | ((with_reducible (first | apply gd_not | apply gd_of | apply gq_not | apply gq_of | apply pickB_of)) <;> intro hc <;> (try simp -implicitDefEqProofs (disch := omega) only [go_sem, hc, wrap_id, e1, e2, hmid, hc]) <;> (try simp only [reduceCtorEq, bD, beq_iff_eq] at hc) <;> (try (exfalso; omega))) | done) <;> (try simp -implicitDefEqProofs (disch := omega) only [go_sem, wrap_id, e1, e2, hmid, hc])))
    all_goals exact sym_L (s0 := 0) (r0 := X.length) hX hY hs hSX hSY ih rfl (by omega) (by omega) (by omega) (by omega) (by omega) (by omega) ha hm hb rfl rfl rfl (by omega) (by omega) hL hN hk
theorem sym_calls {N k : Nat} (hs : N ≤ 1000) : ∀ (n : Nat) (P X Y S : List Nt), X.length + Y.length = n → 0 < X.length → 0 < Y.length → SrN X → SrN Y → SymAt N k P X Y S := by
  intro n
  induction n using Nat.strongRecOn with
  | _ n ih =>
    intro P X Y S hn hX hY hSX hSY
    by_cases h1 : X.length = 1
    · obtain ⟨x, rfl⟩ := List.length_eq_one_iff.1 h1
      intro a m b L H ha hm hb hL hN hk
      exact sym_A ha hm hb hY hSY (by rw [hL, List.append_assoc P]; rfl) hN hs hk
    · by_cases h2 : Y.length = 1
      · obtain ⟨y, rfl⟩ := List.length_eq_one_iff.1 h2
        intro a m b L H ha hm hb hL hN hk
        exact sym_B ha hm hb (by omega) hSX (by rw [hL, List.append_assoc]; rfl) hN hs hk
      · exact sym_C (by omega) (by omega) hs hSX hSY fun P' X' Y' S' hl h1' h2' h3' h4' => ih _ (by omega) P' X' Y' S' rfl h1' h2' h3' h4'
end Go.Proofs.Ytjlphncecdlmcaa
namespace Go.Proofs.Ytjlphncecdlmcaa
open Go.Vm
attribute [local go_sem] eq_self decide_true decide_false AH.put_ne
attribute [local go_sem_proc] Nat.reduceBEq Nat.reduceAdd Nat.reduceSub Nat.reduceMul Nat.reduceEqDiff Nat.reduceLeDiff Nat.reduceLT Int.reduceLE Int.reduceLT Int.reduceToNat Int.reduceAdd Int.reduceEq Int.reduceNeg
attribute [local go_sem] List.drop_zero toNat_succ Nat.sub_zero Int.toNat_natCast Option.map_some Int.natCast_nonneg decide_eq_true_eq decide_eq_false_iff_not
/- slices.stableCmpFunc[flange/diag.Note] -/
abbrev k114_0 : MC :=
 .cond (.t 13) (.skip) (.exit 0)
abbrev k114_1 : MC :=
 .reg [
 ⟨some 20, none, .val (.mv (.t 8))⟩,
 ⟨some 21, none, .val (.mv (.t 6))⟩,
 ⟨some 22, none, .val (.bin .add .num (.t 20) (.t 21))⟩,
 ⟨some 8, none, .val (.mv (.t 22))⟩] [0, 1, 2, 6, 7, 8]
abbrev k114_2 : MC :=
 (.seq (.reg [
 ⟨some 19, none, .val (.mv (.t 8))⟩,
 ⟨some 7, none, .val (.mv (.t 19))⟩] [0, 1, 2, 6, 7, 8]) k114_1)
abbrev k114_3 : MC :=
 .block 1 ((.seq (.reg [
 ⟨some 14, none, .val (.mv (.t 0))⟩,
 ⟨some 15, none, .val (.mv (.t 7))⟩,
 ⟨some 16, none, .val (.mv (.t 8))⟩,
 ⟨some 17, none, .val (.mv (.t 2))⟩,
 ⟨some 18, none, .call 138 [(.t 14), (.t 15), (.t 16), (.t 17)]⟩] [0, 1, 2, 6, 8]) k114_2))
abbrev k114_4 : MC :=
 (.seq ((.seq (.reg [
 ⟨some 11, none, .val (.mv (.t 8))⟩,
 ⟨some 12, none, .val (.mv (.t 1))⟩,
 ⟨some 13, none, .val (.bin .leq .num (.t 11) (.t 12))⟩] [0, 1, 2, 6, 7, 8, 13]) k114_0)) k114_3)
abbrev k114_5 : MC :=
 .cond (.t 30) (.skip) (.exit 2)
abbrev k114_6 : MC :=
 .cond (.t 35) (.skip) (.exit 4)
abbrev k114_7 : MC :=
 .reg [
 ⟨some 45, none, .val (.mv (.t 8))⟩,
 ⟨some 46, none, .val (.mv (.t 6))⟩,
 ⟨some 47, none, .val (.bin .mul .num (.c (.int .i64 2)) (.t 46))⟩,
 ⟨some 48, none, .val (.bin .add .num (.t 45) (.t 47))⟩,
 ⟨some 8, none, .val (.mv (.t 48))⟩] [0, 1, 2, 6, 7, 8]
abbrev k114_8 : MC :=
 (.seq (.reg [
 ⟨some 44, none, .val (.mv (.t 8))⟩,
 ⟨some 7, none, .val (.mv (.t 44))⟩] [0, 1, 2, 6, 7, 8]) k114_7)
abbrev k114_9 : MC :=
 .block 5 ((.seq (.reg [
 ⟨some 36, none, .val (.mv (.t 0))⟩,
 ⟨some 37, none, .val (.mv (.t 7))⟩,
 ⟨some 38, none, .val (.mv (.t 7))⟩,
 ⟨some 39, none, .val (.mv (.t 6))⟩,
 ⟨some 40, none, .val (.bin .add .num (.t 38) (.t 39))⟩,
 ⟨some 41, none, .val (.mv (.t 8))⟩,
 ⟨some 42, none, .val (.mv (.t 2))⟩,
 ⟨some 43, none, .call 139 [(.t 36), (.t 37), (.t 40), (.t 41), (.t 42)]⟩] [0, 1, 2, 6, 8]) k114_8))
abbrev k114_10 : MC :=
 (.seq ((.seq (.reg [
 ⟨some 33, none, .val (.mv (.t 8))⟩,
 ⟨some 34, none, .val (.mv (.t 1))⟩,
 ⟨some 35, none, .val (.bin .leq .num (.t 33) (.t 34))⟩] [0, 1, 2, 6, 7, 8, 35]) k114_6)) k114_9)
abbrev k114_11 : MC :=
 .cond (.t 54) (.reg [
 ⟨some 55, none, .val (.mv (.t 0))⟩,
 ⟨some 56, none, .val (.mv (.t 7))⟩,
 ⟨some 57, none, .val (.mv (.t 9))⟩,
 ⟨some 58, none, .val (.mv (.t 1))⟩,
 ⟨some 59, none, .val (.mv (.t 2))⟩,
 ⟨some 60, none, .call 139 [(.t 55), (.t 56), (.t 57), (.t 58), (.t 59)]⟩] [0, 1, 2, 6]) (.skip)
abbrev k114_12 : MC :=
 (.seq (.reg [
 ⟨some 52, none, .val (.mv (.t 9))⟩,
 ⟨some 53, none, .val (.mv (.t 1))⟩,
 ⟨some 54, none, .val (.bin .lss .num (.t 52) (.t 53))⟩] [0, 1, 2, 6, 7, 9, 54]) k114_11)
abbrev k114_13 : MC :=
 .reg [
 ⟨some 61, none, .val (.mv (.t 6))⟩,
 ⟨some 62, none, .val (.bin .mul .num (.t 61) (.c (.int .i64 2)))⟩,
 ⟨some 6, none, .val (.mv (.t 62))⟩] [0, 1, 2, 6]
abbrev k114_14 : MC :=
 (.seq ((.seq (.reg [
 ⟨some 49, none, .val (.mv (.t 7))⟩,
 ⟨some 50, none, .val (.mv (.t 6))⟩,
 ⟨some 51, none, .val (.bin .add .num (.t 49) (.t 50))⟩,
 ⟨some 9, none, .val (.mv (.t 51))⟩] [0, 1, 2, 6, 7, 9]) k114_12)) k114_13)
abbrev k114_15 : MC :=
 (.seq (.block 4 (.loop k114_10)) k114_14)
abbrev k114_16 : MC :=
 .block 3 ((.seq (.reg [
 ⟨some 31, none, .val (.mv (.t 6))⟩,
 ⟨some 32, none, .val (.bin .mul .num (.c (.int .i64 2)) (.t 31))⟩,
 ⟨some 7, none, .val (.mv (.c (.int .i64 0)))⟩,
 ⟨some 8, none, .val (.mv (.t 32))⟩] [0, 1, 2, 6, 7, 8]) k114_15))
abbrev k114_17 : MC :=
 (.seq ((.seq (.reg [
 ⟨some 28, none, .val (.mv (.t 6))⟩,
 ⟨some 29, none, .val (.mv (.t 1))⟩,
 ⟨some 30, none, .val (.bin .lss .num (.t 28) (.t 29))⟩] [0, 1, 2, 6, 30]) k114_5)) k114_16)
abbrev k114_18 : MC :=
 .block 2 (.loop k114_17)
abbrev k114_19 : MC :=
 (.seq (.reg [
 ⟨some 23, none, .val (.mv (.t 0))⟩,
 ⟨some 24, none, .val (.mv (.t 7))⟩,
 ⟨some 25, none, .val (.mv (.t 1))⟩,
 ⟨some 26, none, .val (.mv (.t 2))⟩,
 ⟨some 27, none, .call 138 [(.t 23), (.t 24), (.t 25), (.t 26)]⟩] [0, 1, 2, 6]) k114_18)
abbrev k114_20 : MC :=
 (.seq (.block 0 (.loop k114_4)) k114_19)
abbrev k114_21 : MC :=
 (.seq (.reg [
 ⟨some 10, none, .val (.mv (.t 6))⟩,
 ⟨some 7, none, .val (.mv (.c (.int .i64 0)))⟩,
 ⟨some 8, none, .val (.mv (.t 10))⟩] [0, 1, 2, 6, 7, 8]) k114_20)
abbrev k114 : MC :=
 (.seq (.reg [
 ⟨some 6, none, .val (.mv (.c (.int .i64 20)))⟩] [0, 1, 2, 6]) k114_21)
theorem c114 : Try.f114.body.bind (mcOf Try.prog (List.contains [] ·) (List.getD [([], [0, 1, 2, 6]), ([], [0, 1, 2, 6, 7, 8]), ([], [0, 1, 2, 6, 7, 8, 13]), ([], [0, 1, 2, 6, 8]), ([], [0, 1, 2, 6, 7, 8]), ([], [0, 1, 2, 6, 7, 8]), ([], [0, 1, 2, 6]), ([], [0, 1, 2, 6, 30]), ([], [0, 1, 2, 6, 7, 8]), ([], [0, 1, 2, 6, 7, 8, 35]), ([], [0, 1, 2, 6, 8]), ([], [0, 1, 2, 6, 7, 8]), ([], [0, 1, 2, 6, 7, 8]), ([], [0, 1, 2, 6, 7, 9]), ([], [0, 1, 2, 6, 7, 9, 54]), ([], [0, 1, 2, 6]), ([], [0, 1, 2, 6])] · ([], [])) 63) = some k114 := by kernel_rfl
theorem r114 : rvsOf Try.prog Try.f114.results.toList = some [] := by kernel_rfl
/- slices.SortStableFunc[[]flange/diag.Note,flange/diag.Note] -/
abbrev k85 : MC :=
 .reg [
 ⟨some 4, none, .val (.mv (.t 0))⟩,
 ⟨some 5, none, .val (.mv (.t 0))⟩,
 ⟨some 6, none, .val (.len .sl (.t 5))⟩,
 ⟨some 7, none, .val (.mv (.t 1))⟩,
 ⟨some 8, none, .call 114 [(.t 4), (.t 6), (.t 7)]⟩] []
theorem c85 : Try.f85.body.bind (mcOf Try.prog (List.contains [] ·) (List.getD [([], [])] · ([], [])) 9) = some k85 := by kernel_rfl
theorem r85 : rvsOf Try.prog Try.f85.results.toList = some [] := by kernel_rfl
theorem stb_stb (A B : List Nt) : stb (stb A ++ stb B) = stb (A ++ B) := by
  simp only [stb, ers_app, wns_app, ers_ers, wns_wns, ers_wns, wns_ers, List.append_nil, List.nil_append]
theorem stable_calls {L : List Nt} {N k : Nat} {n : Int} {H : AH} (hN : L.length = N) (hn : n = (N : Nat)) (hs : N < 40) (hk : H k = some (ntO L)) :
    ACalls Try.prog 114 [.msl k 2 0 N, .int .i64 n, cmpV] H (fun o H' => o = .ret unitV ∧ H' = H.put k (ntO (stb L))) := by
  by_cases hc : N < 20
  · have c1 : ¬ (20 : Int) ≤ n := by omega
    have c2 : ¬ (20 : Int) < n := by omega
    have h1 := ins_calls (N := N) (P := []) (A := L) (S := []) (L := L) (a := 0) (b := n) (H := H) rfl (by rw [hn, hN]; simp) (by simp) hN (by omega) hk
    rw [List.nil_append, List.append_nil] at h1
    refine acalls Try.func114 c114 r114 (by simp [Try.ntmps114]) ?_
    repeat' (first | with_reducible (first | refine am_seq ?_ | refine am_block ?_) | ((with_reducible apply am_cond); (case hb => rfl); all_goals (intro hc; (try simp only [reduceCtorEq, bD, beq_iff_eq] at hc); (try (exfalso; omega)))) | ((first | with_reducible (first | refine am_reg ?_ | refine am_skip ?_ | refine am_exit ?_ | refine am_ret ?_ | refine vc_intro ?_ | refine need_elems (by assumption) ?_ | refine vlen_acc (by assumption) ?_ | refine need_bytes (by assumption) ?_ | refine need_lk ?_) | done) <;> (try simp -implicitDefEqProofs (disch := omega) only [go_sem, wrap_id])))
    refine am_loop (fun _ st H' => st = [(0, .msl k 2 0 N), (1, .int .i64 n), (2, cmpV), (6, .int .i64 20), (7, .int .i64 0), (8, .int .i64 20)] ∧ H' = H) ?_ 0 ⟨rfl, rfl⟩
    rintro _ st G ⟨rfl, rfl⟩
    repeat' (first | with_reducible (first | refine am_seq ?_ | refine am_block ?_) | ((with_reducible apply am_cond); (case hb => rfl); all_goals (intro hc; (try simp only [reduceCtorEq, bD, beq_iff_eq] at hc); (try (exfalso; omega)))) | ((first | with_reducible (first | refine am_reg ?_ | refine am_skip ?_ | refine am_exit ?_ | refine am_ret ?_ | refine vc_intro ?_ | refine need_elems (by assumption) ?_ | refine vlen_acc (by assumption) ?_ | refine need_bytes (by assumption) ?_ | refine call_turn (h1) ?_ | refine need_lk ?_) | done) <;> (try simp -implicitDefEqProofs (disch := omega) only [go_sem, wrap_id, c1])))
    refine am_loop (fun _ st H' => st = [(0, .msl k 2 0 N), (1, .int .i64 n), (2, cmpV), (6, .int .i64 20)] ∧ H' = G.put k (ntO (stb L))) ?_ 0 ⟨rfl, rfl⟩
    rintro _ st H' ⟨rfl, rfl⟩
    repeat' (first | with_reducible (first | refine am_seq ?_ | refine am_block ?_) | ((with_reducible apply am_cond); (case hb => rfl); all_goals (intro hc; (try simp only [reduceCtorEq, bD, beq_iff_eq] at hc); (try (exfalso; omega)))) | ((first | with_reducible (first | refine am_reg ?_ | refine am_skip ?_ | refine am_exit ?_ | refine am_ret ?_ | refine vc_intro ?_ | refine need_elems (by assumption) ?_ | refine vlen_acc (by assumption) ?_ | refine need_bytes (by assumption) ?_ | refine need_lk ?_) | done) <;> (try simp -implicitDefEqProofs (disch := omega) only [go_sem, wrap_id, c2])))
    all_goals first | rfl | exact ⟨rfl, rfl⟩
  · obtain ⟨A, B, rfl, hA⟩ : ∃ A B : List Nt, L = A ++ B ∧ A.length = 20 := ⟨L.take 20, L.drop 20, (List.take_append_drop _ _).symm, by rw [List.length_take]; omega⟩
    rw [List.length_append] at hN
    have c1 : (20 : Int) ≤ n := by omega
    have c2 : ¬ (40 : Int) ≤ n := by omega
    have c4 : ¬ (40 : Int) < n := by omega
    have h1 := ins_calls (N := N) (P := []) (A := A) (S := B) (L := A ++ B) (a := 0) (b := 20) (H := H) rfl (by rw [hA] <;> rfl) rfl (by rw [List.length_append]; exact hN) (by omega) hk
    have h2 := ins_calls (N := N) (P := stb A) (A := B) (S := []) (L := stb A ++ B) (a := 20) (b := n) (H := H.put k (ntO (stb A ++ B))) (by rw [stb_length, hA] <;> rfl) (by rw [stb_length]; omega) (by rw [List.append_nil]) (by rw [List.length_append, stb_length]; exact hN) (by omega) (AH.put_same _ _ _)
    rw [List.nil_append] at h1
    rw [List.append_nil, AH.put_put] at h2
    by_cases hc3 : N = 20
    · have c3 : ¬ (20 : Int) < n := by omega
      have hB : B = [] := List.eq_nil_of_length_eq_zero (by omega)
      subst hB
      refine acalls Try.func114 c114 r114 (by simp [Try.ntmps114]) ?_
      repeat' (first | with_reducible (first | refine am_seq ?_ | refine am_block ?_) | ((with_reducible apply am_cond); (case hb => rfl); all_goals (intro hc; (try simp only [reduceCtorEq, bD, beq_iff_eq] at hc); (try (exfalso; omega)))) | ((first | with_reducible (first | refine am_reg ?_ | refine am_skip ?_ | refine am_exit ?_ | refine am_ret ?_ | refine vc_intro ?_ | refine need_elems (by assumption) ?_ | refine vlen_acc (by assumption) ?_ | refine need_bytes (by assumption) ?_ | refine need_lk ?_) | done) <;> (try simp -implicitDefEqProofs (disch := omega) only [go_sem, wrap_id])))
      refine am_loop (fun q st H' => (q = 1 ∧ st = [(0, .msl k 2 0 N), (1, .int .i64 n), (2, cmpV), (6, .int .i64 20), (7, .int .i64 0), (8, .int .i64 20)] ∧ H' = H) ∨ (q = 0 ∧ st = [(0, .msl k 2 0 N), (1, .int .i64 n), (2, cmpV), (6, .int .i64 20), (7, .int .i64 20), (8, .int .i64 40)] ∧ H' = H.put k (ntO (stb A ++ [])))) ?_ 1 (.inl ⟨rfl, rfl, rfl⟩)
      rintro q st G (⟨rfl, rfl, rfl⟩ | ⟨rfl, rfl, rfl⟩)
      · repeat' (first | with_reducible (first | refine am_seq ?_ | refine am_block ?_) | ((with_reducible apply am_cond); (case hb => rfl); all_goals (intro hc; (try simp only [reduceCtorEq, bD, beq_iff_eq] at hc); (try (exfalso; omega)))) | ((first | with_reducible (first | refine am_reg ?_ | refine am_skip ?_ | refine am_exit ?_ | refine am_ret ?_ | refine vc_intro ?_ | refine need_elems (by assumption) ?_ | refine vlen_acc (by assumption) ?_ | refine need_bytes (by assumption) ?_ | refine call_turn (h1) ?_ | refine need_lk ?_) | done) <;> (try simp -implicitDefEqProofs (disch := omega) only [go_sem, wrap_id, c1])))
        all_goals first | exact ⟨0, by omega, .inr rfl⟩ | exact ⟨0, by omega, .inr ⟨rfl, rfl⟩⟩ | exact ⟨0, by omega, .inr ⟨rfl, rfl, rfl⟩⟩
      · repeat' (first | with_reducible (first | refine am_seq ?_ | refine am_block ?_) | ((with_reducible apply am_cond); (case hb => rfl); all_goals (intro hc; (try simp only [reduceCtorEq, bD, beq_iff_eq] at hc); (try (exfalso; omega)))) | ((first | with_reducible (first | refine am_reg ?_ | refine am_skip ?_ | refine am_exit ?_ | refine am_ret ?_ | refine vc_intro ?_ | refine need_elems (by assumption) ?_ | refine vlen_acc (by assumption) ?_ | refine need_bytes (by assumption) ?_ | refine call_turn (h2) ?_ | refine need_lk ?_) | done) <;> (try simp -implicitDefEqProofs (disch := omega) only [go_sem, wrap_id, c2])))
        refine am_loop (fun _ st H' => st = [(0, .msl k 2 0 N), (1, .int .i64 n), (2, cmpV), (6, .int .i64 20)] ∧ H' = H.put k (ntO (stb A ++ stb []))) ?_ 0 ⟨rfl, rfl⟩
        rintro _ st H' ⟨rfl, rfl⟩
        repeat' (first | with_reducible (first | refine am_seq ?_ | refine am_block ?_) | ((with_reducible apply am_cond); (case hb => rfl); all_goals (intro hc; (try simp only [reduceCtorEq, bD, beq_iff_eq] at hc); (try (exfalso; omega)))) | ((first | with_reducible (first | refine am_reg ?_ | refine am_skip ?_ | refine am_exit ?_ | refine am_ret ?_ | refine vc_intro ?_ | refine need_elems (by assumption) ?_ | refine vlen_acc (by assumption) ?_ | refine need_bytes (by assumption) ?_ | refine need_lk ?_) | done) <;> (try simp -implicitDefEqProofs (disch := omega) only [go_sem, wrap_id, c3])))
        all_goals exact ⟨rfl, by rw [List.append_nil, show stb ([] : List Nt) = [] from rfl, List.append_nil]⟩
    · have c3 : (20 : Int) < n := by omega
      have h3 := sym_calls (N := N) (k := k) (by omega) _ [] (stb A) (stb B) [] rfl (by rw [stb_length]; omega) (by rw [stb_length]; omega) (srn_stb A) (srn_stb B) 0 20 n (stb A ++ stb B) (H.put k (ntO (stb A ++ stb B))) rfl (by rw [stb_length, hA] <;> rfl) (by rw [stb_length, stb_length]; simp; omega) (by simp) (by rw [List.length_append, stb_length, stb_length]; exact hN) (AH.put_same _ _ _)
      rw [List.nil_append, List.append_nil, stb_stb, AH.put_put] at h3
      refine acalls Try.func114 c114 r114 (by simp [Try.ntmps114]) ?_
      repeat' (first | with_reducible (first | refine am_seq ?_ | refine am_block ?_) | ((with_reducible apply am_cond); (case hb => rfl); all_goals (intro hc; (try simp only [reduceCtorEq, bD, beq_iff_eq] at hc); (try (exfalso; omega)))) | ((first | with_reducible (first | refine am_reg ?_ | refine am_skip ?_ | refine am_exit ?_ | refine am_ret ?_ | refine vc_intro ?_ | refine need_elems (by assumption) ?_ | refine vlen_acc (by assumption) ?_ | refine need_bytes (by assumption) ?_ | refine need_lk ?_) | done) <;> (try simp -implicitDefEqProofs (disch := omega) only [go_sem, wrap_id])))
      refine am_loop (fun q st H' => (q = 1 ∧ st = [(0, .msl k 2 0 N), (1, .int .i64 n), (2, cmpV), (6, .int .i64 20), (7, .int .i64 0), (8, .int .i64 20)] ∧ H' = H) ∨ (q = 0 ∧ st = [(0, .msl k 2 0 N), (1, .int .i64 n), (2, cmpV), (6, .int .i64 20), (7, .int .i64 20), (8, .int .i64 40)] ∧ H' = H.put k (ntO (stb A ++ B)))) ?_ 1 (.inl ⟨rfl, rfl, rfl⟩)
      rintro q st G (⟨rfl, rfl, rfl⟩ | ⟨rfl, rfl, rfl⟩)
      · repeat' (first | with_reducible (first | refine am_seq ?_ | refine am_block ?_) | ((with_reducible apply am_cond); (case hb => rfl); all_goals (intro hc; (try simp only [reduceCtorEq, bD, beq_iff_eq] at hc); (try (exfalso; omega)))) | ((first | with_reducible (first | refine am_reg ?_ | refine am_skip ?_ | refine am_exit ?_ | refine am_ret ?_ | refine vc_intro ?_ | refine need_elems (by assumption) ?_ | refine vlen_acc (by assumption) ?_ | refine need_bytes (by assumption) ?_ | refine call_turn (h1) ?_ | refine need_lk ?_) | done) <;> (try simp -implicitDefEqProofs (disch := omega) only [go_sem, wrap_id, c1])))
        all_goals first | exact ⟨0, by omega, .inr rfl⟩ | exact ⟨0, by omega, .inr ⟨rfl, rfl⟩⟩ | exact ⟨0, by omega, .inr ⟨rfl, rfl, rfl⟩⟩
      · repeat' (first | with_reducible (first | refine am_seq ?_ | refine am_block ?_) | ((with_reducible apply am_cond); (case hb => rfl); all_goals (intro hc; (try simp only [reduceCtorEq, bD, beq_iff_eq] at hc); (try (exfalso; omega)))) | ((first | with_reducible (first | refine am_reg ?_ | refine am_skip ?_ | refine am_exit ?_ | refine am_ret ?_ | refine vc_intro ?_ | refine need_elems (by assumption) ?_ | refine vlen_acc (by assumption) ?_ | refine need_bytes (by assumption) ?_ | refine call_turn (h2) ?_ | refine need_lk ?_) | done) <;> (try simp -implicitDefEqProofs (disch := omega) only [go_sem, wrap_id, c2])))
        refine am_loop (fun q st H' => (q = 1 ∧ st = [(0, .msl k 2 0 N), (1, .int .i64 n), (2, cmpV), (6, .int .i64 20)] ∧ H' = H.put k (ntO (stb A ++ stb B))) ∨ (q = 0 ∧ st = [(0, .msl k 2 0 N), (1, .int .i64 n), (2, cmpV), (6, .int .i64 40)] ∧ H' = H.put k (ntO (stb (A ++ B))))) ?_ 1 (.inl ⟨rfl, rfl, rfl⟩)
        rintro q st H' (⟨rfl, rfl, rfl⟩ | ⟨rfl, rfl, rfl⟩)
        · repeat' (first | with_reducible (first | refine am_seq ?_ | refine am_block ?_) | ((with_reducible apply am_cond); (case hb => rfl); all_goals (intro hc; (try simp only [reduceCtorEq, bD, beq_iff_eq] at hc); (try (exfalso; omega)))) | ((first | with_reducible (first | refine am_reg ?_ | refine am_skip ?_ | refine am_exit ?_ | refine am_ret ?_ | refine vc_intro ?_ | refine need_elems (by assumption) ?_ | refine vlen_acc (by assumption) ?_ | refine need_bytes (by assumption) ?_ | refine need_lk ?_) | done) <;> (try simp -implicitDefEqProofs (disch := omega) only [go_sem, wrap_id, c3])))
          refine am_loop (fun _ st H' => st = [(0, .msl k 2 0 N), (1, .int .i64 n), (2, cmpV), (6, .int .i64 20), (7, .int .i64 0), (8, .int .i64 40)] ∧ H' = H.put k (ntO (stb A ++ stb B))) ?_ 0 ⟨rfl, rfl⟩
          rintro _ st H' ⟨rfl, rfl⟩
          repeat' (first | with_reducible (first | refine am_seq ?_ | refine am_block ?_) | ((with_reducible apply am_cond); (case hb => rfl); all_goals (intro hc; (try simp only [reduceCtorEq, bD, beq_iff_eq] at hc); (try (exfalso; omega)))) | ((first | with_reducible (first | refine am_reg ?_ | refine am_skip ?_ | refine am_exit ?_ | refine am_ret ?_ | refine vc_intro ?_ | refine need_elems (by assumption) ?_ | refine vlen_acc (by assumption) ?_ | refine need_bytes (by assumption) ?_ | refine call_turn (h3) ?_ | refine need_lk ?_) | done) <;> (try simp -implicitDefEqProofs (disch := omega) only [go_sem, wrap_id, c2, c3])))
          all_goals first | exact ⟨0, by omega, .inr rfl⟩ | exact ⟨0, by omega, .inr ⟨rfl, rfl⟩⟩ | exact ⟨0, by omega, .inr ⟨rfl, rfl, rfl⟩⟩
        · repeat' (first | with_reducible (first | refine am_seq ?_ | refine am_block ?_) | ((with_reducible apply am_cond); (case hb => rfl); all_goals (intro hc; (try simp only [reduceCtorEq, bD, beq_iff_eq] at hc); (try (exfalso; omega)))) | ((first | with_reducible (first | refine am_reg ?_ | refine am_skip ?_ | refine am_exit ?_ | refine am_ret ?_ | refine vc_intro ?_ | refine need_elems (by assumption) ?_ | refine vlen_acc (by assumption) ?_ | refine need_bytes (by assumption) ?_ | refine need_lk ?_) | done) <;> (try simp -implicitDefEqProofs (disch := omega) only [go_sem, wrap_id, c4])))
          all_goals first | rfl | exact ⟨rfl, rfl⟩
theorem sortst_calls {L : List Nt} {N k : Nat} {H : AH} (hN : L.length = N) (hs : N < 40) (hk : H k = some (ntO L)) :
    ACalls Try.prog 85 [.msl k 2 0 N, cmpV] H (fun o H' => o = .ret unitV ∧ H' = H.put k (ntO (stb L))) := by
  refine acalls Try.func85 c85 r85 (by simp [Try.ntmps85]) ?_
  have h := stable_calls hN rfl hs hk
  repeat' (first | with_reducible (first | refine am_seq ?_ | refine am_block ?_) | ((with_reducible apply am_cond); (case hb => rfl); all_goals (intro hc; (try simp only [reduceCtorEq, bD, beq_iff_eq] at hc); (try (exfalso; omega)))) | ((first | with_reducible (first | refine am_reg ?_ | refine am_skip ?_ | refine am_exit ?_ | refine am_ret ?_ | refine vc_intro ?_ | refine need_elems (by assumption) ?_ | refine vlen_acc (by assumption) ?_ | refine need_bytes (by assumption) ?_ | refine call_turn (h) ?_ | refine need_lk ?_) | done) <;> (try simp -implicitDefEqProofs (disch := omega) only [go_sem, wrap_id])))
  all_goals first | rfl | exact ⟨rfl, rfl⟩
end Go.Proofs.Ytjlphncecdlmcaa
