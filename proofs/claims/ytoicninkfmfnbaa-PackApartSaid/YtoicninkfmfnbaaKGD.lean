/- Of the walks of this seat: contracts of functions of the given program, proved over the abstract values of the texts Vm. Conditions: as each theorem says. -/
import Derived.Test.YtoicninkfmfnbaaKGC
import Derived.Test.YtoicninkfmfnbaaVm36
set_option linter.unusedVariables false
set_option linter.unusedSimpArgs false
namespace Go.Proofs.Ytoicninkfmfnbaa
open Go.Vm Go.Sort
attribute [local go_sem] List.drop_zero toNat_succ Nat.sub_zero Int.toNat_natCast Option.map_some Int.natCast_nonneg decide_eq_true_eq decide_eq_false_iff_not
inductive Sm : Vl → Rv → Prop where
  | mk (v : Vl) (m : Rv) (hK : v.kind = m.K) (hB : v.isB.1 = (decide (m.K = 2) && m.B)) (hS : v.isT.1 = m.S) (hl : v.items.length = m.L.length) (hk : v.keys = m.Keys) (hN : m.K = 3 → v.isI.1 = m.N)
    (hP : m.K = 4 → v.isP.1 = m.N ∧ v.isP.2.1 = m.M) (hi : ∀ i (h : i < v.items.length) (h2 : i < m.L.length), Sm v.items[i] m.L[i]) : Sm v m
theorem isI_kind (v : Vl) : v.isI.2 = decide (v.kind = 3) := by cases v <;> rfl
theorem fnd_some {k : List UInt8} : ∀ {es : List (List UInt8 × Vl)}, k ∈ es.map Prod.fst → ∃ x, fnd k es = some x
  | [], h => by simp at h
  | p :: es, h => by
    rw [fnd]
    split
    · exact ⟨_, rfl⟩
    · rename_i hne
      rw [List.map_cons, List.mem_cons] at h
      rcases h with h | h
      · exact absurd h.symm hne
      · exact fnd_some h
theorem kys_mem (es : List (List UInt8 × Vl)) (k : List UInt8) : k ∈ kys es ↔ k ∈ es.map Prod.fst := (List.mergeSort_perm _ _).mem_iff
theorem items_keys {v : Vl} (h7 : v.kind = 7) : v.items.length = v.keys.length := by
  cases v <;> first | (simp [Vl.kind] at h7; done) | simp [Vl.items, Vl.keys]
theorem Ok.items {v : Vl} (h : v.Ok) : ∀ x ∈ v.items, x.Ok := by
  intro x hx
  cases h with
  | list l h1 h2 => exact h2 x hx
  | map es h1 h2 h3 h4 =>
    obtain ⟨k, hk, rfl⟩ := List.mem_map.1 hx
    obtain ⟨y, hy⟩ := fnd_some ((kys_mem es k).1 hk)
    rw [look, hy]
    have : ∀ (es : List (List UInt8 × Vl)), (∀ p ∈ es, p.2.Ok) → fnd k es = some y → y.Ok := by
      intro es
      induction es with
      | nil => intro _ h; cases h
      | cons p es ih =>
        intro ho h
        rw [fnd] at h
        split at h
        · cases h; exact ho p List.mem_cons_self
        · exact ih (fun q hq => ho q (List.mem_cons_of_mem _ hq)) h
    exact this es h4 hy
  | _ => simp [Vl.items] at hx
theorem items_len {v : Vl} (h : v.Ok) : v.items.length * 16 ≤ 100000000000000 := by
  cases h with
  | list l h1 h2 => exact h1
  | map es h1 h2 h3 h4 => rw [Vl.items, List.length_map, kys_length]; exact h1
  | _ => simp [Vl.items]
theorem nodr_lec {H G : AH} {g : Nat} (hg : H g = some .nodr) (hl : H.lec G) : G g = some .nodr := hl _ _ hg (by intros; simp)
end Go.Proofs.Ytoicninkfmfnbaa
namespace Go.Proofs.Ytoicninkfmfnbaa
open Go.Vm Go.Sort
attribute [local go_sem] List.drop_zero toNat_succ Nat.sub_zero Int.toNat_natCast Option.map_some Int.natCast_nonneg decide_eq_true_eq decide_eq_false_iff_not
end Go.Proofs.Ytoicninkfmfnbaa
namespace Go.Proofs.Ytoicninkfmfnbaa
open Go.Vm Go.Sort
attribute [local go_sem] eq_self decide_true decide_false AH.put_ne
attribute [local go_sem_proc] Nat.reduceBEq Nat.reduceAdd Nat.reduceSub Nat.reduceMul Nat.reduceEqDiff Nat.reduceLeDiff Nat.reduceLT Int.reduceLE Int.reduceLT Int.reduceToNat Int.reduceAdd Int.reduceEq Int.reduceNeg
attribute [local go_sem] List.drop_zero toNat_succ Nat.sub_zero Int.toNat_natCast Option.map_some Int.natCast_nonneg decide_eq_true_eq decide_eq_false_iff_not
/- (flange/value.Value).Deep -/
abbrev k21_0 : MC :=
 .reg [
 ⟨some 13, none, .val (.mv (.t 3))⟩,
 ⟨some 14, none, .val (.load true 1 (.t 5))⟩,
 ⟨some 15, none, .call 21 [(.t 14)]⟩,
 ⟨some 16, none, .val (.mx true (.t 13) (.t 15))⟩,
 ⟨some 3, none, .val (.mv (.t 16))⟩] [3, 7, 8, 9]
abbrev k21_1 : MC :=
 .reg [
 ⟨some 17, none, .val (.bin .add .num (.t 9) (.c (.int .i64 1)))⟩,
 ⟨some 9, none, .val (.mv (.t 17))⟩] [3, 7, 8, 9]
abbrev k21_2 : MC :=
 (.seq (.block 1 ((.seq (.reg [
 ⟨some 11, none, .val (.iaddr 1 (.t 7) (.t 9))⟩,
 ⟨some 12, none, .val (.load true 1 (.t 11))⟩,
 ⟨some 5, none, .zalloc [.nilIface]⟩,
 ⟨none, none, .store 1 (.t 5) (.t 12)⟩] [3, 5, 7, 8, 9]) k21_0))) k21_1)
abbrev k21_3 : MC :=
 (.seq (.cond (.t 10) (.skip) (.exit 0)) k21_2)
abbrev k21_4 : MC :=
 (.seq (.reg [
 ⟨some 10, none, .val (.bin .lss .num (.t 9) (.t 8))⟩] [3, 7, 8, 9, 10]) k21_3)
abbrev k21_5 : MC :=
 .block 0 (.loop k21_4)
abbrev k21_6 : MC :=
 (.seq (.reg [
 ⟨some 18, none, .val (.mv (.t 3))⟩,
 ⟨some 19, none, .val (.bin .add .num (.t 18) (.c (.int .i64 1)))⟩,
 ⟨some 2, none, .val (.mv (.t 19))⟩] [2]) (.ret))
abbrev k21_7 : MC :=
 (.seq ((.seq (.reg [
 ⟨some 6, none, .val (.load true 1 (.t 1))⟩,
 ⟨some 7, none, .call 50 [(.t 6)]⟩,
 ⟨some 8, none, .val (.len .sl (.t 7))⟩,
 ⟨some 9, none, .val (.mv (.c (.int .i64 0)))⟩] [3, 7, 8, 9]) k21_5)) k21_6)
abbrev k21_8 : MC :=
 (.seq (.reg [
 ⟨some 3, none, .val (.mv (.c (.int .i64 0)))⟩] [1, 3]) k21_7)
abbrev k21 : MC :=
 (.seq (.reg [
 ⟨some 1, none, .boxi (.t 0)⟩,
 ⟨some 2, none, .val (.mv (.c (.int .i64 0)))⟩] [1]) k21_8)
theorem c21 : Try.f21.body.bind (mcOf Try.prog (List.contains [1] ·) (List.getD [([], [1]), ([], [1, 3]), ([], [3, 7, 8, 9]), ([], [3, 7, 8, 9, 10]), ([], [3, 5, 7, 8, 9]), ([], [3, 7, 8, 9]), ([], [3, 7, 8, 9]), ([], [2])] · ([], [])) 20) = some k21 := by kernel_rfl
theorem r21 : rvsOf Try.prog Try.f21.results.toList = some [.tmp 2] := by kernel_rfl
theorem vdeep_calls : ∀ (m : Rv) (v : Vl), Sm v m → v.Ok → ∀ (g : Nat) (H : AH), H g = some .nodr → ACalls Try.prog 21 [.agg [vV v]] H (fun o H' => o = .ret (.int .i64 (deepI m)) ∧ H' = H) := by
  refine Rv.ind fun m ih v hs ho g H hg => ?_
  refine ACalls.drop ?_
  have hil := items_len ho
  cases hs with
  | mk _ _ hK hB hS hl hk hN hP hi =>
  refine acalls Try.func21 c21 r21 (by simp [Try.ntmps21]) ?_
  repeat' (first | with_reducible (first | refine am_seq ?_ | refine am_block ?_) | ((with_reducible apply am_cond); (case hb => rfl); all_goals (intro hc; (try simp only [reduceCtorEq, bD, beq_iff_eq] at hc); (try (exfalso; omega)))) | ((first | with_reducible (first | refine am_reg ?_ | refine am_skip ?_ | refine am_exit ?_ | refine am_ret ?_ | refine vc_intro ?_ | refine need_elems (by assumption) ?_ | refine vlen_acc (by assumption) ?_ | refine need_bytes (by assumption) ?_ | refine call_of (items_calls ho hg) ?_ | refine qcall_of (items_calls ho hg) ?_ | refine call_turn (items_calls ho hg) ?_ | refine need_lk ?_) | ((with_reducible refine alloc_intro (fun ko hko => ?_)) <;> (try have hne := fresh_ne (by assumption) hko) <;> (try have hnk := fresh_ne hk hko) <;> (try have hnk2 := fresh_ne hk2 hko) <;> (try simp only [AH.put_none] at hko)) | done) <;> (try simp -implicitDefEqProofs (disch := omega) only [go_sem, vE_length])))
  refine am_loop (fun n a H' => ∃ i : Nat, i + n = m.L.length ∧ a = [(3, .int .i64 (deepL (m.L.take i))), (7, .sl 1 (vE v.items) .no), (8, .int .i64 v.items.length), (9, .int .i64 i)] ∧ H' g = some .nodr ∧ H.le H') ?_ m.L.length ⟨0, by omega, rfl, hg, AH.le_refl _⟩
  rintro n a H' ⟨i, hin, rfl, hg', hle⟩
  by_cases hlt : i < m.L.length
  · have hlt1 : i < v.items.length := by omega
    have hc1 := ih m.L[i] (List.getElem_mem hlt) v.items[i] (hi i hlt1 hlt) (Ok.items ho _ (List.getElem_mem hlt1))
    repeat' (first | with_reducible (first | refine am_seq ?_ | refine am_block ?_) | ((with_reducible apply am_cond); (case hb => rfl); all_goals (intro hc; (try simp only [reduceCtorEq, bD, beq_iff_eq] at hc); (try (exfalso; omega)))) | ((first | with_reducible (first | refine am_reg ?_ | refine am_skip ?_ | refine am_exit ?_ | refine am_ret ?_ | refine vc_intro ?_ | refine need_elems (by assumption) ?_ | refine vlen_acc (by assumption) ?_ | refine need_bytes (by assumption) ?_ | refine call_turn (hc1 _ _ (look_put hg' hko)) ?_ | refine need_lk ?_) | ((with_reducible refine alloc_intro (fun ko hko => ?_)) <;> (try have hne := fresh_ne (by assumption) hko) <;> (try have hnk := fresh_ne hk hko) <;> (try have hnk2 := fresh_ne hk2 hko) <;> (try simp only [AH.put_none] at hko)) | done) <;> (try simp -implicitDefEqProofs (disch := omega) only [go_sem, wrap_id, hl, vE_length, vE_get hlt1])))
    all_goals exact ⟨n - 1, by omega, i + 1, by omega, by rw [deepL_take hlt]; rfl, by first | exact hg' | exact look_put hg' hko, AH.le_put hle (none_of_le hle hko) _⟩
  · have e : m.L.take i = m.L := List.take_of_length_le (by omega)
    repeat' (first | with_reducible (first | refine am_seq ?_ | refine am_block ?_) | ((with_reducible apply am_cond); (case hb => rfl); all_goals (intro hc; (try simp only [reduceCtorEq, bD, beq_iff_eq] at hc); (try (exfalso; omega)))) | ((first | with_reducible (first | refine am_reg ?_ | refine am_skip ?_ | refine am_exit ?_ | refine am_ret ?_ | refine vc_intro ?_ | refine need_elems (by assumption) ?_ | refine vlen_acc (by assumption) ?_ | refine need_bytes (by assumption) ?_ | refine need_lk ?_) | ((with_reducible refine alloc_intro (fun ko hko => ?_)) <;> (try have hne := fresh_ne (by assumption) hko) <;> (try have hnk := fresh_ne hk hko) <;> (try have hnk2 := fresh_ne hk2 hko) <;> (try simp only [AH.put_none] at hko)) | done) <;> (try simp -implicitDefEqProofs (disch := omega) only [go_sem, wrap_id, vE_length, hl, e])))
    all_goals (rw [deepI_eq]; (refine drop_end (by (first | exact fun _ _ h => h | (intro s x h; first | exact no_sub _ h | exact nil_no _ h | exact AccP.sub (by assumption) _ _ h | (refine agg_sub rfl ?_ x h; repeat (first | exact .nil | refine .cons (fun _ h => h) ?_ | refine .cons (fun _ h => nil_no _ h) ?_ | refine .cons (fun _ h => no_sub _ h) ?_ | refine .cons (fun _ h => AccP.sub (by assumption) _ _ h) ?_)) | (refine tuple_sub ?_ x h; repeat (first | exact .nil | refine .cons (fun _ h => h) ?_ | refine .cons (fun _ h => nil_no _ h) ?_ | refine .cons (fun _ h => no_sub _ h) ?_ | refine .cons (fun _ h => AccP.sub (by assumption) _ _ h) ?_ | refine .cons (fun _ h => agg_sub rfl (by repeat (first | exact .nil | refine .cons (fun _ h => h) ?_ | refine .cons (fun _ h => nil_no _ h) ?_ | refine .cons (fun _ h => no_sub _ h) ?_ | refine .cons (fun _ h => AccP.sub (by assumption) _ _ h) ?_)) _ h) ?_))))) (by (repeat (first | exact AH.le_refl _ | assumption | exact AccP.le (by assumption) | refine AH.le_put ?_ (by first | assumption | exact none_of_le (by assumption) (by assumption) | exact And.right (by assumption) | exact And.right (And.right (by assumption))) _ | refine AH.le_trans ?_ (AccP.le (by assumption)))))))
def allM (q : Rv → Bool) : Rv → Bool
  | .mk K B N M S L Ks => q (.mk K B N M S L Ks) && (L.map fun x => allM q x).all id
termination_by r => SizeOf.sizeOf r
decreasing_by
  have := List.sizeOf_lt_of_mem ‹_ ∈ L›; simp only [Rv.mk.sizeOf_spec]; omega
theorem allM_eq (q : Rv → Bool) (r : Rv) : allM q r = (q r && r.L.all (allM q)) := by cases r; rw [allM, List.all_map]; rfl
def shortB (k : List UInt8) : Bool := decide (k.length ≤ 256)
def fitsQ (r : Rv) : Bool := shortB r.S && r.Keys.all shortB && decide (r.L.length ≤ 64)
def rightM (m : Rv) : Bool := decide (deepI m ≤ 8) && allM fitsQ m
end Go.Proofs.Ytoicninkfmfnbaa
namespace Go.Proofs.Ytoicninkfmfnbaa
open Go.Vm Go.Sort
attribute [local go_sem] eq_self decide_true decide_false AH.put_ne
attribute [local go_sem_proc] Nat.reduceBEq Nat.reduceAdd Nat.reduceSub Nat.reduceMul Nat.reduceEqDiff Nat.reduceLeDiff Nat.reduceLT Int.reduceLE Int.reduceLT Int.reduceToNat Int.reduceAdd Int.reduceEq Int.reduceNeg
attribute [local go_sem] List.drop_zero toNat_succ Nat.sub_zero Int.toNat_natCast Option.map_some Int.natCast_nonneg decide_eq_true_eq decide_eq_false_iff_not
/- flange/value.short -/
abbrev k57_0 : MC :=
 (.seq (.reg [
 ⟨some 3, none, .val (.mv (.t 0))⟩,
 ⟨some 4, none, .val (.len .str (.t 3))⟩,
 ⟨some 5, none, .val (.bin .leq .num (.t 4) (.c (.int .i64 256)))⟩,
 ⟨some 2, none, .val (.mv (.t 5))⟩] [2]) (.ret))
abbrev k57 : MC :=
 (.seq (.reg [
 ⟨some 2, none, .val (.mv (.c (.bool false)))⟩] [0]) k57_0)
theorem c57 : Try.f57.body.bind (mcOf Try.prog (List.contains [] ·) (List.getD [([], [0]), ([], [2])] · ([], [])) 6) = some k57 := by kernel_rfl
theorem r57 : rvsOf Try.prog Try.f57.results.toList = some [.tmp 2] := by kernel_rfl
/- (flange/value.Value).fits$1 -/
abbrev k56_0 : MC :=
 (.seq (.reg [
 ⟨some 3, none, .val (.mv (.t 0))⟩,
 ⟨some 4, none, .call 57 [(.t 3)]⟩,
 ⟨some 5, none, .val (.not (.t 4))⟩,
 ⟨some 2, none, .val (.mv (.t 5))⟩] [2]) (.ret))
abbrev k56 : MC :=
 (.seq (.reg [
 ⟨some 2, none, .val (.mv (.c (.bool false)))⟩] [0]) k56_0)
theorem c56 : Try.f56.body.bind (mcOf Try.prog (List.contains [] ·) (List.getD [([], [0]), ([], [2])] · ([], [])) 6) = some k56 := by kernel_rfl
theorem r56 : rvsOf Try.prog Try.f56.results.toList = some [.tmp 2] := by kernel_rfl
/- slices.ContainsFunc[[]string,string] -/
abbrev k55_0 : MC :=
 (.seq (.reg [
 ⟨some 5, none, .val (.mv (.t 0))⟩,
 ⟨some 6, none, .val (.mv (.t 1))⟩,
 ⟨some 7, none, .call 73 [(.t 5), (.t 6)]⟩,
 ⟨some 8, none, .val (.bin .geq .num (.t 7) (.c (.int .i64 0)))⟩,
 ⟨some 4, none, .val (.mv (.t 8))⟩] [4]) (.ret))
abbrev k55 : MC :=
 (.seq (.reg [
 ⟨some 4, none, .val (.mv (.c (.bool false)))⟩] [0, 1]) k55_0)
theorem c55 : Try.f55.body.bind (mcOf Try.prog (List.contains [] ·) (List.getD [([], [0, 1]), ([], [4])] · ([], [])) 9) = some k55 := by kernel_rfl
theorem r55 : rvsOf Try.prog Try.f55.results.toList = some [.tmp 4] := by kernel_rfl
/- slices.IndexFunc[[]string,string] -/
abbrev k73_0 : MC :=
 .cond (.t 16) ((.seq (.reg [
 ⟨some 17, none, .val (.mv (.t 5))⟩,
 ⟨some 4, none, .val (.mv (.t 17))⟩] [4]) (.ret))) (.skip)
abbrev k73_1 : MC :=
 (.seq (.reg [
 ⟨some 11, none, .val (.mv (.t 1))⟩,
 ⟨some 12, none, .val (.mv (.t 0))⟩,
 ⟨some 13, none, .val (.mv (.t 5))⟩,
 ⟨some 14, none, .val (.iaddr 1 (.t 12) (.t 13))⟩,
 ⟨some 15, none, .val (.load false 1 (.t 14))⟩,
 ⟨some 16, none, .callv (.t 11) [(.t 15)]⟩] [0, 1, 5, 7, 8, 16]) k73_0)
abbrev k73_2 : MC :=
 .reg [
 ⟨some 18, none, .val (.bin .add .num (.t 8) (.c (.int .i64 1)))⟩,
 ⟨some 8, none, .val (.mv (.t 18))⟩] [0, 1, 7, 8]
abbrev k73_3 : MC :=
 (.seq (.block 1 ((.seq (.reg [
 ⟨some 10, none, .val (.mv (.t 8))⟩,
 ⟨some 5, none, .val (.mv (.t 10))⟩] [0, 1, 5, 7, 8]) k73_1))) k73_2)
abbrev k73_4 : MC :=
 (.seq (.cond (.t 9) (.skip) (.exit 0)) k73_3)
abbrev k73_5 : MC :=
 (.seq (.reg [
 ⟨some 9, none, .val (.bin .lss .num (.t 8) (.t 7))⟩] [0, 1, 7, 8, 9]) k73_4)
abbrev k73_6 : MC :=
 .block 0 (.loop k73_5)
abbrev k73_7 : MC :=
 (.seq (.reg [
 ⟨some 4, none, .val (.mv (.c (.int .i64 (-1))))⟩] [4]) (.ret))
abbrev k73_8 : MC :=
 (.seq ((.seq (.reg [
 ⟨some 6, none, .val (.mv (.t 0))⟩,
 ⟨some 7, none, .val (.len .sl (.t 6))⟩,
 ⟨some 8, none, .val (.mv (.c (.int .i64 0)))⟩] [0, 1, 7, 8]) k73_6)) k73_7)
abbrev k73 : MC :=
 (.seq (.reg [
 ⟨some 4, none, .val (.mv (.c (.int .i64 0)))⟩] [0, 1]) k73_8)
theorem c73 : Try.f73.body.bind (mcOf Try.prog (List.contains [] ·) (List.getD [([], [0, 1]), ([], [0, 1, 7, 8]), ([], [0, 1, 7, 8, 9]), ([], [0, 1, 5, 7, 8]), ([], [0, 1, 5, 7, 8, 16]), ([], [4]), ([], [0, 1, 7, 8]), ([], [4])] · ([], [])) 19) = some k73 := by kernel_rfl
theorem r73 : rvsOf Try.prog Try.f73.results.toList = some [.tmp 4] := by kernel_rfl
/- (flange/value.Value).fits -/
abbrev k23_0 : MC :=
 (.seq (.reg [
 ⟨some 14, none, .val (.mv (.t 3))⟩,
 ⟨some 15, none, .call 57 [(.t 14)]⟩,
 ⟨some 16, none, .val (.mv (.t 15))⟩,
 ⟨some 17, (some (16, true)), .val (.mv (.t 5))⟩,
 ⟨some 18, (some (16, true)), .val (.not (.t 17))⟩,
 ⟨some 19, none, .val (.pick (.t 16) (.t 18) (.c (.bool false)))⟩,
 ⟨some 20, none, .val (.mv (.t 19))⟩,
 ⟨some 21, (some (20, true)), .val (.load true 1 (.t 1))⟩,
 ⟨some 22, (some (20, true)), .call 50 [(.t 21)]⟩,
 ⟨some 23, (some (20, true)), .val (.len .sl (.t 22))⟩,
 ⟨some 24, (some (20, true)), .val (.bin .leq .num (.t 23) (.c (.int .i64 64)))⟩,
 ⟨some 25, none, .val (.pick (.t 20) (.t 24) (.c (.bool false)))⟩,
 ⟨some 2, none, .val (.mv (.t 25))⟩] [2]) (.ret))
abbrev k23_1 : MC :=
 (.seq (.reg [
 ⟨some 11, none, .val (.load true 1 (.t 1))⟩,
 ⟨some 12, none, .call 51 [(.t 11)]⟩,
 ⟨some 13, none, .call 55 [(.t 12), (.c (.func (.func 56) [] []))]⟩,
 ⟨some 5, none, .val (.mv (.t 13))⟩] [1, 3, 5]) k23_0)
abbrev k23_2 : MC :=
 (.seq (.reg [
 ⟨some 7, none, .val (.load true 1 (.t 1))⟩,
 ⟨some 8, none, .call 47 [(.t 7)]⟩,
 ⟨some 6, none, .val (.mv (.t 8))⟩,
 ⟨some 9, none, .val (.ext (.t 6) 0)⟩,
 ⟨some 10, none, .val (.ext (.t 6) 1)⟩,
 ⟨some 3, none, .val (.mv (.t 9))⟩,
 ⟨some 4, none, .val (.mv (.t 10))⟩] [1, 3]) k23_1)
abbrev k23 : MC :=
 (.seq (.reg [
 ⟨some 1, none, .boxi (.t 0)⟩,
 ⟨some 2, none, .val (.mv (.c (.bool false)))⟩] [1]) k23_2)
theorem c23 : Try.f23.body.bind (mcOf Try.prog (List.contains [1] ·) (List.getD [([], [1]), ([], [1, 3]), ([], [1, 3, 5]), ([], [2])] · ([], [])) 26) = some k23 := by kernel_rfl
theorem r23 : rvsOf Try.prog Try.f23.results.toList = some [.tmp 2] := by kernel_rfl
def ff : List Bool → Option Nat
  | [] => none
  | b :: l => if b then (ff l).map (· + 1) else some 0
def ffI (l : List Bool) : Int := ((ff l).map fun (i : Nat) => (i : Int)).getD (-1)
theorem ffI_all (l : List Bool) : 0 ≤ ffI l ↔ l.all id = false := by
  have : ∀ l, (ff l).isSome = true ↔ l.all id = false := by
    intro l
    induction l with
    | nil => simp [ff]
    | cons b l ih => cases b <;> simp [ff, ih]
  rw [← this l, ffI]
  cases ff l <;> simp
theorem short_calls (k : List UInt8) (H : AH) : ACalls Try.prog 57 [.str k] H (fun o H' => o = .ret (.bool (shortB k)) ∧ H' = H) := by
  refine ACalls.drop ?_
  refine acalls Try.func57 c57 r57 (by simp [Try.ntmps57]) ?_
  repeat' (first | with_reducible (first | refine am_seq ?_ | refine am_block ?_) | ((with_reducible apply am_cond); (case hb => rfl); all_goals (intro hc; (try simp only [reduceCtorEq, bD, beq_iff_eq] at hc); (try (exfalso; omega)))) | ((first | with_reducible (first | refine am_reg ?_ | refine am_skip ?_ | refine am_exit ?_ | refine am_ret ?_ | refine vc_intro ?_ | refine need_elems (by assumption) ?_ | refine vlen_acc (by assumption) ?_ | refine need_bytes (by assumption) ?_ | refine need_lk ?_) | done) <;> (try simp -implicitDefEqProofs (disch := omega) only [go_sem])))
  all_goals refine end_eq (congrArg V.bool ?_) (AH.le_refl _)
  all_goals (rw [shortB, Bool.eq_iff_iff, decide_eq_true_eq, decide_eq_true_eq]; omega)
theorem fits1_calls (k : List UInt8) (H : AH) : ACalls Try.prog 56 [.str k] H (fun o H' => o = .ret (.bool (!shortB k)) ∧ H' = H) := by
  refine ACalls.drop ?_
  refine acalls Try.func56 c56 r56 (by simp [Try.ntmps56]) ?_
  repeat' (first | with_reducible (first | refine am_seq ?_ | refine am_block ?_) | ((with_reducible apply am_cond); (case hb => rfl); all_goals (intro hc; (try simp only [reduceCtorEq, bD, beq_iff_eq] at hc); (try (exfalso; omega)))) | ((first | with_reducible (first | refine am_reg ?_ | refine am_skip ?_ | refine am_exit ?_ | refine am_ret ?_ | refine vc_intro ?_ | refine need_elems (by assumption) ?_ | refine vlen_acc (by assumption) ?_ | refine need_bytes (by assumption) ?_ | refine call_of (short_calls _) ?_ | refine qcall_of (short_calls _) ?_ | refine need_lk ?_) | done) <;> (try simp -implicitDefEqProofs (disch := omega) only [go_sem])))
  all_goals (refine drop_end (by (first | exact fun _ _ h => h | (intro s x h; first | exact no_sub _ h | exact nil_no _ h | exact AccP.sub (by assumption) _ _ h | (refine agg_sub rfl ?_ x h; repeat (first | exact .nil | refine .cons (fun _ h => h) ?_ | refine .cons (fun _ h => nil_no _ h) ?_ | refine .cons (fun _ h => no_sub _ h) ?_ | refine .cons (fun _ h => AccP.sub (by assumption) _ _ h) ?_)) | (refine tuple_sub ?_ x h; repeat (first | exact .nil | refine .cons (fun _ h => h) ?_ | refine .cons (fun _ h => nil_no _ h) ?_ | refine .cons (fun _ h => no_sub _ h) ?_ | refine .cons (fun _ h => AccP.sub (by assumption) _ _ h) ?_ | refine .cons (fun _ h => agg_sub rfl (by repeat (first | exact .nil | refine .cons (fun _ h => h) ?_ | refine .cons (fun _ h => nil_no _ h) ?_ | refine .cons (fun _ h => no_sub _ h) ?_ | refine .cons (fun _ h => AccP.sub (by assumption) _ _ h) ?_)) _ h) ?_))))) (by (repeat (first | exact AH.le_refl _ | assumption | exact AccP.le (by assumption) | refine AH.le_put ?_ (by first | assumption | exact none_of_le (by assumption) (by assumption) | exact And.right (by assumption) | exact And.right (And.right (by assumption))) _ | refine AH.le_trans ?_ (AccP.le (by assumption))))))
theorem ent_fits1 : entered Try.prog 56 = true := by kernel_rfl
theorem idxs_calls {ks : List (List UInt8)} {t : Tok} (hl : ks.length < 1000000000000000000) (H : AH) : ACalls Try.prog 73 [.sl 1 (strE ks) t, .func (.func 56) [] []] H (fun o H' => o = .ret (.int .i64 (ffI (ks.map shortB))) ∧ H' = H) := by
  refine ACalls.drop ?_
  refine acalls Try.func73 c73 r73 (by simp [Try.ntmps73]) ?_
  repeat' (first | with_reducible (first | refine am_seq ?_ | refine am_block ?_) | ((with_reducible apply am_cond); (case hb => rfl); all_goals (intro hc; (try simp only [reduceCtorEq, bD, beq_iff_eq] at hc); (try (exfalso; omega)))) | ((first | with_reducible (first | refine am_reg ?_ | refine am_skip ?_ | refine am_exit ?_ | refine am_ret ?_ | refine vc_intro ?_ | refine need_elems (by assumption) ?_ | refine vlen_acc (by assumption) ?_ | refine need_bytes (by assumption) ?_ | refine need_lk ?_) | done) <;> (try simp -implicitDefEqProofs (disch := omega) only [go_sem, strE_len])))
  refine am_loop (fun n a H' => ∃ i : Nat, i + n = ks.length ∧ a = [(0, .sl 1 (strE ks) t), (1, .func (.func 56) [] []), (7, .int .i64 ks.length), (8, .int .i64 i)] ∧ H' = H ∧ ff (ks.map shortB) = (ff ((ks.drop i).map shortB)).map (· + i)) ?_ ks.length ⟨0, by omega, rfl, rfl, by simp⟩
  rintro n a H' ⟨i, hin, rfl, rfl, hd⟩
  by_cases hlt : i < ks.length
  · rw [List.drop_eq_getElem_cons hlt, List.map_cons, ff] at hd
    have hc1 := fits1_calls ks[i]
    cases hs : shortB ks[i] with
    | true =>
      rw [hs] at hd hc1
      repeat' (first | with_reducible (first | refine am_seq ?_ | refine am_block ?_) | ((with_reducible apply am_cond); (case hb => rfl); all_goals (intro hc; (try simp only [reduceCtorEq, bD, beq_iff_eq] at hc); (try (exfalso; omega)))) | ((first | with_reducible (first | refine am_reg ?_ | refine am_skip ?_ | refine am_exit ?_ | refine am_ret ?_ | refine vc_intro ?_ | refine need_elems (by assumption) ?_ | refine vlen_acc (by assumption) ?_ | refine need_bytes (by assumption) ?_ | refine call_of (hc1) ?_ | refine qcall_of (hc1) ?_ | refine need_lk ?_) | done) <;> (try simp -implicitDefEqProofs (disch := omega) only [go_sem, wrap_id, strE_len, strE_get hlt, Bool.not_true, ent_fits1, true_and, List.nil_append, List.append_nil, List.cons_append])))
      all_goals exact ⟨n - 1, by omega, i + 1, by omega, rfl, by rw [hd, if_pos rfl, Option.map_map]; congr 1; funext x; simp only [Function.comp]; omega⟩
    | false =>
      rw [hs] at hd hc1
      repeat' (first | with_reducible (first | refine am_seq ?_ | refine am_block ?_) | ((with_reducible apply am_cond); (case hb => rfl); all_goals (intro hc; (try simp only [reduceCtorEq, bD, beq_iff_eq] at hc); (try (exfalso; omega)))) | ((first | with_reducible (first | refine am_reg ?_ | refine am_skip ?_ | refine am_exit ?_ | refine am_ret ?_ | refine vc_intro ?_ | refine need_elems (by assumption) ?_ | refine vlen_acc (by assumption) ?_ | refine need_bytes (by assumption) ?_ | refine call_of (hc1) ?_ | refine qcall_of (hc1) ?_ | refine need_lk ?_) | done) <;> (try simp -implicitDefEqProofs (disch := omega) only [go_sem, wrap_id, strE_len, strE_get hlt, Bool.not_false, ent_fits1, true_and, List.nil_append, List.append_nil, List.cons_append])))
      all_goals exact end_eq (by simp [ffI, hd]) (AH.le_refl _)
  · rw [List.drop_eq_nil_of_le (by omega), List.map_nil, ff, Option.map_none] at hd
    repeat' (first | with_reducible (first | refine am_seq ?_ | refine am_block ?_) | ((with_reducible apply am_cond); (case hb => rfl); all_goals (intro hc; (try simp only [reduceCtorEq, bD, beq_iff_eq] at hc); (try (exfalso; omega)))) | ((first | with_reducible (first | refine am_reg ?_ | refine am_skip ?_ | refine am_exit ?_ | refine am_ret ?_ | refine vc_intro ?_ | refine need_elems (by assumption) ?_ | refine vlen_acc (by assumption) ?_ | refine need_bytes (by assumption) ?_ | refine need_lk ?_) | done) <;> (try simp -implicitDefEqProofs (disch := omega) only [go_sem, strE_len])))
    all_goals exact end_eq (by simp [ffI, hd]) (AH.le_refl _)
theorem cons_calls {ks : List (List UInt8)} {t : Tok} (hl : ks.length < 1000000000000000000) (H : AH) : ACalls Try.prog 55 [.sl 1 (strE ks) t, .func (.func 56) [] []] H (fun o H' => o = .ret (.bool (!ks.all shortB)) ∧ H' = H) := by
  refine ACalls.drop ?_
  refine acalls Try.func55 c55 r55 (by simp [Try.ntmps55]) ?_
  have h := ffI_all (ks.map shortB)
  rw [List.all_map] at h
  have h' : ks.all (id ∘ shortB) = ks.all shortB := rfl
  rw [h'] at h
  cases ha : ks.all shortB with
  | true =>
    have hn : ¬ 0 ≤ ffI (ks.map shortB) := by rw [h, ha]; simp
    repeat' (first | with_reducible (first | refine am_seq ?_ | refine am_block ?_) | ((with_reducible apply am_cond); (case hb => rfl); all_goals (intro hc; (try simp only [reduceCtorEq, bD, beq_iff_eq] at hc); (try (exfalso; omega)))) | ((first | with_reducible (first | refine am_reg ?_ | refine am_skip ?_ | refine am_exit ?_ | refine am_ret ?_ | refine vc_intro ?_ | refine need_elems (by assumption) ?_ | refine vlen_acc (by assumption) ?_ | refine need_bytes (by assumption) ?_ | refine call_of (idxs_calls hl) ?_ | refine qcall_of (idxs_calls hl) ?_ | refine need_lk ?_) | done) <;> (try simp -implicitDefEqProofs (disch := omega) only [go_sem, hn])))
    all_goals (refine drop_end (by (first | exact fun _ _ h => h | (intro s x h; first | exact no_sub _ h | exact nil_no _ h | exact AccP.sub (by assumption) _ _ h | (refine agg_sub rfl ?_ x h; repeat (first | exact .nil | refine .cons (fun _ h => h) ?_ | refine .cons (fun _ h => nil_no _ h) ?_ | refine .cons (fun _ h => no_sub _ h) ?_ | refine .cons (fun _ h => AccP.sub (by assumption) _ _ h) ?_)) | (refine tuple_sub ?_ x h; repeat (first | exact .nil | refine .cons (fun _ h => h) ?_ | refine .cons (fun _ h => nil_no _ h) ?_ | refine .cons (fun _ h => no_sub _ h) ?_ | refine .cons (fun _ h => AccP.sub (by assumption) _ _ h) ?_ | refine .cons (fun _ h => agg_sub rfl (by repeat (first | exact .nil | refine .cons (fun _ h => h) ?_ | refine .cons (fun _ h => nil_no _ h) ?_ | refine .cons (fun _ h => no_sub _ h) ?_ | refine .cons (fun _ h => AccP.sub (by assumption) _ _ h) ?_)) _ h) ?_))))) (by (repeat (first | exact AH.le_refl _ | assumption | exact AccP.le (by assumption) | refine AH.le_put ?_ (by first | assumption | exact none_of_le (by assumption) (by assumption) | exact And.right (by assumption) | exact And.right (And.right (by assumption))) _ | refine AH.le_trans ?_ (AccP.le (by assumption))))))
  | false =>
    have hn : 0 ≤ ffI (ks.map shortB) := h.2 ha
    repeat' (first | with_reducible (first | refine am_seq ?_ | refine am_block ?_) | ((with_reducible apply am_cond); (case hb => rfl); all_goals (intro hc; (try simp only [reduceCtorEq, bD, beq_iff_eq] at hc); (try (exfalso; omega)))) | ((first | with_reducible (first | refine am_reg ?_ | refine am_skip ?_ | refine am_exit ?_ | refine am_ret ?_ | refine vc_intro ?_ | refine need_elems (by assumption) ?_ | refine vlen_acc (by assumption) ?_ | refine need_bytes (by assumption) ?_ | refine call_of (idxs_calls hl) ?_ | refine qcall_of (idxs_calls hl) ?_ | refine need_lk ?_) | done) <;> (try simp -implicitDefEqProofs (disch := omega) only [go_sem, hn])))
    all_goals (refine drop_end (by (first | exact fun _ _ h => h | (intro s x h; first | exact no_sub _ h | exact nil_no _ h | exact AccP.sub (by assumption) _ _ h | (refine agg_sub rfl ?_ x h; repeat (first | exact .nil | refine .cons (fun _ h => h) ?_ | refine .cons (fun _ h => nil_no _ h) ?_ | refine .cons (fun _ h => no_sub _ h) ?_ | refine .cons (fun _ h => AccP.sub (by assumption) _ _ h) ?_)) | (refine tuple_sub ?_ x h; repeat (first | exact .nil | refine .cons (fun _ h => h) ?_ | refine .cons (fun _ h => nil_no _ h) ?_ | refine .cons (fun _ h => no_sub _ h) ?_ | refine .cons (fun _ h => AccP.sub (by assumption) _ _ h) ?_ | refine .cons (fun _ h => agg_sub rfl (by repeat (first | exact .nil | refine .cons (fun _ h => h) ?_ | refine .cons (fun _ h => nil_no _ h) ?_ | refine .cons (fun _ h => no_sub _ h) ?_ | refine .cons (fun _ h => AccP.sub (by assumption) _ _ h) ?_)) _ h) ?_))))) (by (repeat (first | exact AH.le_refl _ | assumption | exact AccP.le (by assumption) | refine AH.le_put ?_ (by first | assumption | exact none_of_le (by assumption) (by assumption) | exact And.right (by assumption) | exact And.right (And.right (by assumption))) _ | refine AH.le_trans ?_ (AccP.le (by assumption))))))
theorem keys_len {v : Vl} (h : v.Ok) : v.keys.length * 16 ≤ 100000000000000 := by
  cases h with
  | map es h1 h2 h3 h4 => rw [Vl.keys, kys_length]; exact h1
  | _ => simp [Vl.keys]
theorem fits_calls {m : Rv} {v : Vl} (hs : Sm v m) (ho : v.Ok) {g : Nat} {H : AH} (hg : H g = some .nodr) : ACalls Try.prog 23 [.agg [vV v]] H (fun o H' => o = .ret (.bool (fitsQ m)) ∧ H' = H) := by
  refine ACalls.drop ?_
  have hkl := keys_len ho
  cases hs with
  | mk _ _ hK hB hS hl hk hN hP hi =>
  have h3 := short_calls v.isT.1
  have h4 := cons_calls (ks := v.keys) (t := .no) (by omega)
  rw [hS] at h3
  unfold fitsQ
  refine acalls Try.func23 c23 r23 (by simp [Try.ntmps23]) ?_
  cases hq : shortB m.S with
  | false =>
    rw [hq] at h3
    repeat' (first | with_reducible (first | refine am_seq ?_ | refine am_block ?_) | ((with_reducible apply am_cond); (case hb => rfl); all_goals (intro hc; (try simp only [reduceCtorEq, bD, beq_iff_eq] at hc); (try (exfalso; omega)))) | ((first | with_reducible (first | refine am_reg ?_ | refine am_skip ?_ | refine am_exit ?_ | refine am_ret ?_ | refine vc_intro ?_ | refine need_elems (by assumption) ?_ | refine vlen_acc (by assumption) ?_ | refine need_bytes (by assumption) ?_ | refine call_of (text_calls v) ?_ | refine qcall_of (text_calls v) ?_ | refine call_turn (keys_calls ho hg) ?_ | refine call_of (h3) ?_ | refine qcall_of (h3) ?_ | refine call_of (h4) ?_ | refine qcall_of (h4) ?_ | refine call_turn (items_calls ho hg) ?_ | refine need_lk ?_) | ((with_reducible (first | apply gd_not | apply gd_of | apply gq_not | apply gq_of | apply pickB_of)) <;> intro hc <;> (try simp -implicitDefEqProofs (disch := omega) only [go_sem, hc, hS, vE_length, Bool.not_true, Bool.not_false]) <;> (try simp only [reduceCtorEq, bD, beq_iff_eq] at hc) <;> (try (exfalso; omega))) | ((with_reducible refine alloc_intro (fun ko hko => ?_)) <;> (try have hne := fresh_ne (by assumption) hko) <;> (try have hnk := fresh_ne hk hko) <;> (try have hnk2 := fresh_ne hk2 hko) <;> (try simp only [AH.put_none] at hko)) | done) <;> (try simp -implicitDefEqProofs (disch := omega) only [go_sem, hS, vE_length, Bool.not_true, Bool.not_false])))
    all_goals (refine drop_end (by (first | exact fun _ _ h => h | (intro s x h; first | exact no_sub _ h | exact nil_no _ h | exact AccP.sub (by assumption) _ _ h | (refine agg_sub rfl ?_ x h; repeat (first | exact .nil | refine .cons (fun _ h => h) ?_ | refine .cons (fun _ h => nil_no _ h) ?_ | refine .cons (fun _ h => no_sub _ h) ?_ | refine .cons (fun _ h => AccP.sub (by assumption) _ _ h) ?_)) | (refine tuple_sub ?_ x h; repeat (first | exact .nil | refine .cons (fun _ h => h) ?_ | refine .cons (fun _ h => nil_no _ h) ?_ | refine .cons (fun _ h => no_sub _ h) ?_ | refine .cons (fun _ h => AccP.sub (by assumption) _ _ h) ?_ | refine .cons (fun _ h => agg_sub rfl (by repeat (first | exact .nil | refine .cons (fun _ h => h) ?_ | refine .cons (fun _ h => nil_no _ h) ?_ | refine .cons (fun _ h => no_sub _ h) ?_ | refine .cons (fun _ h => AccP.sub (by assumption) _ _ h) ?_)) _ h) ?_))))) (by (repeat (first | exact AH.le_refl _ | assumption | exact AccP.le (by assumption) | refine AH.le_put ?_ (by first | assumption | exact none_of_le (by assumption) (by assumption) | exact And.right (by assumption) | exact And.right (And.right (by assumption))) _ | refine AH.le_trans ?_ (AccP.le (by assumption))))))
  | true =>
    rw [hq] at h3
    rw [hk] at h4
    cases hr : m.Keys.all shortB with
    | false =>
      rw [hr] at h4
      repeat' (first | with_reducible (first | refine am_seq ?_ | refine am_block ?_) | ((with_reducible apply am_cond); (case hb => rfl); all_goals (intro hc; (try simp only [reduceCtorEq, bD, beq_iff_eq] at hc); (try (exfalso; omega)))) | ((first | with_reducible (first | refine am_reg ?_ | refine am_skip ?_ | refine am_exit ?_ | refine am_ret ?_ | refine vc_intro ?_ | refine need_elems (by assumption) ?_ | refine vlen_acc (by assumption) ?_ | refine need_bytes (by assumption) ?_ | refine call_of (text_calls v) ?_ | refine qcall_of (text_calls v) ?_ | refine call_turn (keys_calls ho hg) ?_ | refine call_of (h3) ?_ | refine qcall_of (h3) ?_ | refine call_of (h4) ?_ | refine qcall_of (h4) ?_ | refine call_turn (items_calls ho hg) ?_ | refine need_lk ?_) | ((with_reducible (first | apply gd_not | apply gd_of | apply gq_not | apply gq_of | apply pickB_of)) <;> intro hc <;> (try simp -implicitDefEqProofs (disch := omega) only [go_sem, hc, hS, hk, vE_length, Bool.not_true, Bool.not_false]) <;> (try simp only [reduceCtorEq, bD, beq_iff_eq] at hc) <;> (try (exfalso; omega))) | ((with_reducible refine alloc_intro (fun ko hko => ?_)) <;> (try have hne := fresh_ne (by assumption) hko) <;> (try have hnk := fresh_ne hk hko) <;> (try have hnk2 := fresh_ne hk2 hko) <;> (try simp only [AH.put_none] at hko)) | done) <;> (try simp -implicitDefEqProofs (disch := omega) only [go_sem, hS, hk, vE_length, Bool.not_true, Bool.not_false])))
      all_goals (refine drop_end (by (first | exact fun _ _ h => h | (intro s x h; first | exact no_sub _ h | exact nil_no _ h | exact AccP.sub (by assumption) _ _ h | (refine agg_sub rfl ?_ x h; repeat (first | exact .nil | refine .cons (fun _ h => h) ?_ | refine .cons (fun _ h => nil_no _ h) ?_ | refine .cons (fun _ h => no_sub _ h) ?_ | refine .cons (fun _ h => AccP.sub (by assumption) _ _ h) ?_)) | (refine tuple_sub ?_ x h; repeat (first | exact .nil | refine .cons (fun _ h => h) ?_ | refine .cons (fun _ h => nil_no _ h) ?_ | refine .cons (fun _ h => no_sub _ h) ?_ | refine .cons (fun _ h => AccP.sub (by assumption) _ _ h) ?_ | refine .cons (fun _ h => agg_sub rfl (by repeat (first | exact .nil | refine .cons (fun _ h => h) ?_ | refine .cons (fun _ h => nil_no _ h) ?_ | refine .cons (fun _ h => no_sub _ h) ?_ | refine .cons (fun _ h => AccP.sub (by assumption) _ _ h) ?_)) _ h) ?_))))) (by (repeat (first | exact AH.le_refl _ | assumption | exact AccP.le (by assumption) | refine AH.le_put ?_ (by first | assumption | exact none_of_le (by assumption) (by assumption) | exact And.right (by assumption) | exact And.right (And.right (by assumption))) _ | refine AH.le_trans ?_ (AccP.le (by assumption))))))
    | true =>
      rw [hr] at h4
      repeat' (first | with_reducible (first | refine am_seq ?_ | refine am_block ?_) | ((with_reducible apply am_cond); (case hb => rfl); all_goals (intro hc; (try simp only [reduceCtorEq, bD, beq_iff_eq] at hc); (try (exfalso; omega)))) | ((first | with_reducible (first | refine am_reg ?_ | refine am_skip ?_ | refine am_exit ?_ | refine am_ret ?_ | refine vc_intro ?_ | refine need_elems (by assumption) ?_ | refine vlen_acc (by assumption) ?_ | refine need_bytes (by assumption) ?_ | refine call_of (text_calls v) ?_ | refine qcall_of (text_calls v) ?_ | refine call_turn (keys_calls ho hg) ?_ | refine call_of (h3) ?_ | refine qcall_of (h3) ?_ | refine call_of (h4) ?_ | refine qcall_of (h4) ?_ | refine call_turn (items_calls ho hg) ?_ | refine need_lk ?_) | ((with_reducible (first | apply gd_not | apply gd_of | apply gq_not | apply gq_of | apply pickB_of)) <;> intro hc <;> (try simp -implicitDefEqProofs (disch := omega) only [go_sem, hc, hS, hk, hl, vE_length, Bool.not_true, Bool.not_false]) <;> (try simp only [reduceCtorEq, bD, beq_iff_eq] at hc) <;> (try (exfalso; omega))) | ((with_reducible refine alloc_intro (fun ko hko => ?_)) <;> (try have hne := fresh_ne (by assumption) hko) <;> (try have hnk := fresh_ne hk hko) <;> (try have hnk2 := fresh_ne hk2 hko) <;> (try simp only [AH.put_none] at hko)) | done) <;> (try simp -implicitDefEqProofs (disch := omega) only [go_sem, hS, hk, hl, vE_length, Bool.not_true, Bool.not_false])))
      all_goals refine end_eq (congrArg V.bool ?_) (AH.le_refl _)
      all_goals (rw [Bool.true_and, Bool.true_and, Bool.eq_iff_iff, decide_eq_true_eq, decide_eq_true_eq]; omega)
end Go.Proofs.Ytoicninkfmfnbaa
namespace Go.Proofs.Ytoicninkfmfnbaa
open Go.Vm Go.Sort
attribute [local go_sem] eq_self decide_true decide_false AH.put_ne
attribute [local go_sem_proc] Nat.reduceBEq Nat.reduceAdd Nat.reduceSub Nat.reduceMul Nat.reduceEqDiff Nat.reduceLeDiff Nat.reduceLT Int.reduceLE Int.reduceLT Int.reduceToNat Int.reduceAdd Int.reduceEq Int.reduceNeg
attribute [local go_sem] List.drop_zero toNat_succ Nat.sub_zero Int.toNat_natCast Option.map_some Int.natCast_nonneg decide_eq_true_eq decide_eq_false_iff_not
/- (flange/value.Value).each -/
abbrev k22_0 : MC :=
 (.seq (.reg [
 ⟨some 5, none, .val (.load false 1 (.t 3))⟩,
 ⟨some 6, none, .val (.load true 1 (.t 2))⟩,
 ⟨some 7, none, .callv (.t 5) [(.t 6)]⟩,
 ⟨some 8, none, .val (.mv (.t 7))⟩,
 ⟨some 9, (some (8, true)), .val (.load true 1 (.t 2))⟩,
 ⟨some 10, (some (8, true)), .call 50 [(.t 9)]⟩,
 ⟨some 11, (some (8, true)), .val (.mkfn (.func 54) [] [(.t 3)])⟩,
 ⟨some 12, (some (8, true)), .call 53 [(.t 10), (.t 11)]⟩,
 ⟨some 13, (some (8, true)), .val (.not (.t 12))⟩,
 ⟨some 14, none, .val (.pick (.t 8) (.t 13) (.c (.bool false)))⟩,
 ⟨some 4, none, .val (.mv (.t 14))⟩] [4]) (.ret))
abbrev k22 : MC :=
 (.seq (.reg [
 ⟨some 2, none, .boxi (.t 0)⟩,
 ⟨some 3, none, .box (.t 1)⟩,
 ⟨some 4, none, .val (.mv (.c (.bool false)))⟩] [2, 3]) k22_0)
theorem c22 : Try.f22.body.bind (mcOf Try.prog (List.contains [2] ·) (List.getD [([], [2, 3]), ([], [4])] · ([], [])) 15) = some k22 := by kernel_rfl
theorem r22 : rvsOf Try.prog Try.f22.results.toList = some [.tmp 4] := by kernel_rfl
/- (flange/value.Value).each$1 -/
abbrev k54_0 : MC :=
 (.seq (.reg [
 ⟨some 4, none, .val (.load true 1 (.t 2))⟩,
 ⟨some 5, none, .val (.load false 1 (.t 1))⟩,
 ⟨some 6, none, .call 22 [(.t 4), (.t 5)]⟩,
 ⟨some 7, none, .val (.not (.t 6))⟩,
 ⟨some 3, none, .val (.mv (.t 7))⟩] [3]) (.ret))
abbrev k54 : MC :=
 (.seq (.reg [
 ⟨some 2, none, .boxi (.t 0)⟩,
 ⟨some 3, none, .val (.mv (.c (.bool false)))⟩] [1, 2]) k54_0)
theorem c54 : Try.f54.body.bind (mcOf Try.prog (List.contains [2] ·) (List.getD [([], [1, 2]), ([], [3])] · ([], [])) 8) = some k54 := by kernel_rfl
theorem r54 : rvsOf Try.prog Try.f54.results.toList = some [.tmp 3] := by kernel_rfl
/- slices.ContainsFunc[[]flange/value.Value,flange/value.Value] -/
abbrev k53_0 : MC :=
 (.seq (.reg [
 ⟨some 5, none, .val (.mv (.t 0))⟩,
 ⟨some 6, none, .val (.mv (.t 1))⟩,
 ⟨some 7, none, .call 72 [(.t 5), (.t 6)]⟩,
 ⟨some 8, none, .val (.bin .geq .num (.t 7) (.c (.int .i64 0)))⟩,
 ⟨some 4, none, .val (.mv (.t 8))⟩] [4]) (.ret))
abbrev k53 : MC :=
 (.seq (.reg [
 ⟨some 4, none, .val (.mv (.c (.bool false)))⟩] [0, 1]) k53_0)
theorem c53 : Try.f53.body.bind (mcOf Try.prog (List.contains [] ·) (List.getD [([], [0, 1]), ([], [4])] · ([], [])) 9) = some k53 := by kernel_rfl
theorem r53 : rvsOf Try.prog Try.f53.results.toList = some [.tmp 4] := by kernel_rfl
/- slices.IndexFunc[[]flange/value.Value,flange/value.Value] -/
abbrev k72_0 : MC :=
 .cond (.t 16) ((.seq (.reg [
 ⟨some 17, none, .val (.mv (.t 5))⟩,
 ⟨some 4, none, .val (.mv (.t 17))⟩] [4]) (.ret))) (.skip)
abbrev k72_1 : MC :=
 (.seq (.reg [
 ⟨some 11, none, .val (.mv (.t 1))⟩,
 ⟨some 12, none, .val (.mv (.t 0))⟩,
 ⟨some 13, none, .val (.mv (.t 5))⟩,
 ⟨some 14, none, .val (.iaddr 1 (.t 12) (.t 13))⟩,
 ⟨some 15, none, .val (.load true 1 (.t 14))⟩,
 ⟨some 16, none, .callv (.t 11) [(.t 15)]⟩] [0, 1, 5, 7, 8, 16]) k72_0)
abbrev k72_2 : MC :=
 .reg [
 ⟨some 18, none, .val (.bin .add .num (.t 8) (.c (.int .i64 1)))⟩,
 ⟨some 8, none, .val (.mv (.t 18))⟩] [0, 1, 7, 8]
abbrev k72_3 : MC :=
 (.seq (.block 1 ((.seq (.reg [
 ⟨some 10, none, .val (.mv (.t 8))⟩,
 ⟨some 5, none, .val (.mv (.t 10))⟩] [0, 1, 5, 7, 8]) k72_1))) k72_2)
abbrev k72_4 : MC :=
 (.seq (.cond (.t 9) (.skip) (.exit 0)) k72_3)
abbrev k72_5 : MC :=
 (.seq (.reg [
 ⟨some 9, none, .val (.bin .lss .num (.t 8) (.t 7))⟩] [0, 1, 7, 8, 9]) k72_4)
abbrev k72_6 : MC :=
 .block 0 (.loop k72_5)
abbrev k72_7 : MC :=
 (.seq (.reg [
 ⟨some 4, none, .val (.mv (.c (.int .i64 (-1))))⟩] [4]) (.ret))
abbrev k72_8 : MC :=
 (.seq ((.seq (.reg [
 ⟨some 6, none, .val (.mv (.t 0))⟩,
 ⟨some 7, none, .val (.len .sl (.t 6))⟩,
 ⟨some 8, none, .val (.mv (.c (.int .i64 0)))⟩] [0, 1, 7, 8]) k72_6)) k72_7)
abbrev k72 : MC :=
 (.seq (.reg [
 ⟨some 4, none, .val (.mv (.c (.int .i64 0)))⟩] [0, 1]) k72_8)
theorem c72 : Try.f72.body.bind (mcOf Try.prog (List.contains [] ·) (List.getD [([], [0, 1]), ([], [0, 1, 7, 8]), ([], [0, 1, 7, 8, 9]), ([], [0, 1, 5, 7, 8]), ([], [0, 1, 5, 7, 8, 16]), ([], [4]), ([], [0, 1, 7, 8]), ([], [4])] · ([], [])) 19) = some k72 := by kernel_rfl
theorem r72 : rvsOf Try.prog Try.f72.results.toList = some [.tmp 4] := by kernel_rfl
/- (flange/value.Value).Right -/
abbrev k9_0 : MC :=
 (.seq (.reg [
 ⟨some 3, none, .val (.load true 1 (.t 1))⟩,
 ⟨some 4, none, .call 21 [(.t 3)]⟩,
 ⟨some 5, none, .val (.bin .leq .num (.t 4) (.c (.int .i64 8)))⟩,
 ⟨some 6, none, .val (.mv (.t 5))⟩,
 ⟨some 7, (some (6, true)), .val (.load true 1 (.t 1))⟩,
 ⟨some 8, (some (6, true)), .call 22 [(.t 7), (.c (.func (.func 23) [] []))]⟩,
 ⟨some 9, none, .val (.pick (.t 6) (.t 8) (.c (.bool false)))⟩,
 ⟨some 2, none, .val (.mv (.t 9))⟩] [2]) (.ret))
abbrev k9 : MC :=
 (.seq (.reg [
 ⟨some 1, none, .boxi (.t 0)⟩,
 ⟨some 2, none, .val (.mv (.c (.bool false)))⟩] [1]) k9_0)
theorem c9 : Try.f9.body.bind (mcOf Try.prog (List.contains [1] ·) (List.getD [([], [1]), ([], [2])] · ([], [])) 10) = some k9 := by kernel_rfl
theorem r9 : rvsOf Try.prog Try.f9.results.toList = some [.tmp 2] := by kernel_rfl
theorem ent_each1 : entered Try.prog 54 = true := by kernel_rfl
section
variable {f : Nat} {q : Rv → Bool}
abbrev EachAt (f : Nat) (q : Rv → Bool) (m : Rv) : Prop := ∀ (v : Vl), Sm v m → v.Ok → ∀ (g : Nat) (H : AH), H g = some .nodr → ACalls Try.prog 22 [.agg [vV v], .func (.func f) [] []] H (fun o H' => o = .ret (.bool (allM q m)) ∧ H' = H)
theorem each1_calls {m : Rv} (ih : EachAt f q m) {v : Vl} (hs : Sm v m) (ho : v.Ok) {g kb : Nat} {H : AH} (hg : H g = some .nodr) (hk : H kb = some (.cells [.func (.func f) [] []])) :
    ACalls Try.prog 54 [.agg [vV v], .ptr kb 0] H (fun o H' => o = .ret (.bool (!allM q m)) ∧ H' = H) := by
  refine ACalls.drop ?_
  refine acalls Try.func54 c54 r54 (by simp [Try.ntmps54]) ?_
  repeat' (first | with_reducible (first | refine am_seq ?_ | refine am_block ?_) | ((with_reducible apply am_cond); (case hb => rfl); all_goals (intro hc; (try simp only [reduceCtorEq, bD, beq_iff_eq] at hc); (try (exfalso; omega)))) | ((first | with_reducible (first | refine am_reg ?_ | refine am_skip ?_ | refine am_exit ?_ | refine am_ret ?_ | refine vc_intro ?_ | refine need_elems (by assumption) ?_ | refine vlen_acc (by assumption) ?_ | refine need_bytes (by assumption) ?_ | refine call_turn (ih v hs ho _ _ hg) ?_ | refine need_lk ?_) | ((with_reducible refine alloc_intro (fun ko hko => ?_)) <;> (try have hne := fresh_ne (by assumption) hko) <;> (try have hnk := fresh_ne hk hko) <;> (try have hnk2 := fresh_ne hk2 hko) <;> (try simp only [AH.put_none] at hko)) | done) <;> (try simp -implicitDefEqProofs (disch := omega) only [go_sem, hk])))
  all_goals (refine drop_end (by (first | exact fun _ _ h => h | (intro s x h; first | exact no_sub _ h | exact nil_no _ h | exact AccP.sub (by assumption) _ _ h | (refine agg_sub rfl ?_ x h; repeat (first | exact .nil | refine .cons (fun _ h => h) ?_ | refine .cons (fun _ h => nil_no _ h) ?_ | refine .cons (fun _ h => no_sub _ h) ?_ | refine .cons (fun _ h => AccP.sub (by assumption) _ _ h) ?_)) | (refine tuple_sub ?_ x h; repeat (first | exact .nil | refine .cons (fun _ h => h) ?_ | refine .cons (fun _ h => nil_no _ h) ?_ | refine .cons (fun _ h => no_sub _ h) ?_ | refine .cons (fun _ h => AccP.sub (by assumption) _ _ h) ?_ | refine .cons (fun _ h => agg_sub rfl (by repeat (first | exact .nil | refine .cons (fun _ h => h) ?_ | refine .cons (fun _ h => nil_no _ h) ?_ | refine .cons (fun _ h => no_sub _ h) ?_ | refine .cons (fun _ h => AccP.sub (by assumption) _ _ h) ?_)) _ h) ?_))))) (by (repeat (first | exact AH.le_refl _ | assumption | exact AccP.le (by assumption) | refine AH.le_put ?_ (by first | assumption | exact none_of_le (by assumption) (by assumption) | exact And.right (by assumption) | exact And.right (And.right (by assumption))) _ | refine AH.le_trans ?_ (AccP.le (by assumption))))))
theorem idxv_calls {m : Rv} {v : Vl} (ih : ∀ x ∈ m.L, EachAt f q x) (hl : v.items.length = m.L.length) (hi : ∀ i (h : i < v.items.length) (h2 : i < m.L.length), Sm v.items[i] m.L[i]) (ho : v.Ok) {g kb : Nat} {H : AH} (hg : H g = some .nodr) (hk : H kb = some (.cells [.func (.func f) [] []])) :
    ACalls Try.prog 72 [.sl 1 (vE v.items) .no, .func (.func 54) [] [.ptr kb 0]] H (fun o H' => o = .ret (.int .i64 (ffI (m.L.map (allM q)))) ∧ H' = H) := by
  refine ACalls.drop ?_
  have hil := items_len ho
  refine acalls Try.func72 c72 r72 (by simp [Try.ntmps72]) ?_
  repeat' (first | with_reducible (first | refine am_seq ?_ | refine am_block ?_) | ((with_reducible apply am_cond); (case hb => rfl); all_goals (intro hc; (try simp only [reduceCtorEq, bD, beq_iff_eq] at hc); (try (exfalso; omega)))) | ((first | with_reducible (first | refine am_reg ?_ | refine am_skip ?_ | refine am_exit ?_ | refine am_ret ?_ | refine vc_intro ?_ | refine need_elems (by assumption) ?_ | refine vlen_acc (by assumption) ?_ | refine need_bytes (by assumption) ?_ | refine need_lk ?_) | done) <;> (try simp -implicitDefEqProofs (disch := omega) only [go_sem, vE_length])))
  refine am_loop (fun n a H' => ∃ i : Nat, i + n = m.L.length ∧ a = [(0, .sl 1 (vE v.items) .no), (1, .func (.func 54) [] [.ptr kb 0]), (7, .int .i64 v.items.length), (8, .int .i64 i)] ∧ H' = H ∧ ff (m.L.map (allM q)) = (ff ((m.L.drop i).map (allM q))).map (· + i)) ?_ m.L.length ⟨0, by omega, rfl, rfl, by simp⟩
  rintro n a H' ⟨i, hin, rfl, rfl, hd⟩
  by_cases hlt : i < m.L.length
  · have hlt1 : i < v.items.length := by omega
    rw [List.drop_eq_getElem_cons hlt, List.map_cons, ff] at hd
    have hc1 := each1_calls (ih m.L[i] (List.getElem_mem hlt)) (hi i hlt1 hlt) (Ok.items ho _ (List.getElem_mem hlt1)) hg hk
    cases hq : allM q m.L[i] with
    | true =>
      rw [hq] at hd hc1
      repeat' (first | with_reducible (first | refine am_seq ?_ | refine am_block ?_) | ((with_reducible apply am_cond); (case hb => rfl); all_goals (intro hc; (try simp only [reduceCtorEq, bD, beq_iff_eq] at hc); (try (exfalso; omega)))) | ((first | with_reducible (first | refine am_reg ?_ | refine am_skip ?_ | refine am_exit ?_ | refine am_ret ?_ | refine vc_intro ?_ | refine need_elems (by assumption) ?_ | refine vlen_acc (by assumption) ?_ | refine need_bytes (by assumption) ?_ | refine call_turn (hc1) ?_ | refine need_lk ?_) | done) <;> (try simp -implicitDefEqProofs (disch := omega) only [go_sem, wrap_id, hl, vE_length, vE_get hlt1, Bool.not_true, ent_each1, true_and, List.nil_append, List.append_nil, List.cons_append])))
      all_goals exact ⟨n - 1, by omega, i + 1, by omega, rfl, by rw [hd, if_pos rfl, Option.map_map]; congr 1; funext x; simp only [Function.comp]; omega⟩
    | false =>
      rw [hq] at hd hc1
      repeat' (first | with_reducible (first | refine am_seq ?_ | refine am_block ?_) | ((with_reducible apply am_cond); (case hb => rfl); all_goals (intro hc; (try simp only [reduceCtorEq, bD, beq_iff_eq] at hc); (try (exfalso; omega)))) | ((first | with_reducible (first | refine am_reg ?_ | refine am_skip ?_ | refine am_exit ?_ | refine am_ret ?_ | refine vc_intro ?_ | refine need_elems (by assumption) ?_ | refine vlen_acc (by assumption) ?_ | refine need_bytes (by assumption) ?_ | refine call_turn (hc1) ?_ | refine need_lk ?_) | done) <;> (try simp -implicitDefEqProofs (disch := omega) only [go_sem, wrap_id, hl, vE_length, vE_get hlt1, Bool.not_false, ent_each1, true_and, List.nil_append, List.append_nil, List.cons_append])))
      all_goals exact end_eq (by simp [ffI, hd]) (AH.le_refl _)
  · rw [List.drop_eq_nil_of_le (by omega), List.map_nil, ff, Option.map_none] at hd
    repeat' (first | with_reducible (first | refine am_seq ?_ | refine am_block ?_) | ((with_reducible apply am_cond); (case hb => rfl); all_goals (intro hc; (try simp only [reduceCtorEq, bD, beq_iff_eq] at hc); (try (exfalso; omega)))) | ((first | with_reducible (first | refine am_reg ?_ | refine am_skip ?_ | refine am_exit ?_ | refine am_ret ?_ | refine vc_intro ?_ | refine need_elems (by assumption) ?_ | refine vlen_acc (by assumption) ?_ | refine need_bytes (by assumption) ?_ | refine need_lk ?_) | done) <;> (try simp -implicitDefEqProofs (disch := omega) only [go_sem, vE_length, hl])))
    all_goals exact end_eq (by simp [ffI, hd]) (AH.le_refl _)
theorem conv_calls {m : Rv} {v : Vl} (ih : ∀ x ∈ m.L, EachAt f q x) (hl : v.items.length = m.L.length) (hi : ∀ i (h : i < v.items.length) (h2 : i < m.L.length), Sm v.items[i] m.L[i]) (ho : v.Ok) {g kb : Nat} {H : AH} (hg : H g = some .nodr) (hk : H kb = some (.cells [.func (.func f) [] []])) :
    ACalls Try.prog 53 [.sl 1 (vE v.items) .no, .func (.func 54) [] [.ptr kb 0]] H (fun o H' => o = .ret (.bool (!m.L.all (allM q))) ∧ H' = H) := by
  refine ACalls.drop ?_
  have h := ffI_all (m.L.map (allM q))
  rw [List.all_map] at h
  have h' : m.L.all (id ∘ allM q) = m.L.all (allM q) := rfl
  rw [h'] at h
  refine acalls Try.func53 c53 r53 (by simp [Try.ntmps53]) ?_
  cases ha : m.L.all (allM q) with
  | true =>
    have hn : ¬ 0 ≤ ffI (m.L.map (allM q)) := by rw [h, ha]; simp
    repeat' (first | with_reducible (first | refine am_seq ?_ | refine am_block ?_) | ((with_reducible apply am_cond); (case hb => rfl); all_goals (intro hc; (try simp only [reduceCtorEq, bD, beq_iff_eq] at hc); (try (exfalso; omega)))) | ((first | with_reducible (first | refine am_reg ?_ | refine am_skip ?_ | refine am_exit ?_ | refine am_ret ?_ | refine vc_intro ?_ | refine need_elems (by assumption) ?_ | refine vlen_acc (by assumption) ?_ | refine need_bytes (by assumption) ?_ | refine call_turn (idxv_calls ih hl hi ho hg hk) ?_ | refine need_lk ?_) | done) <;> (try simp -implicitDefEqProofs (disch := omega) only [go_sem, hn])))
    all_goals (refine drop_end (by (first | exact fun _ _ h => h | (intro s x h; first | exact no_sub _ h | exact nil_no _ h | exact AccP.sub (by assumption) _ _ h | (refine agg_sub rfl ?_ x h; repeat (first | exact .nil | refine .cons (fun _ h => h) ?_ | refine .cons (fun _ h => nil_no _ h) ?_ | refine .cons (fun _ h => no_sub _ h) ?_ | refine .cons (fun _ h => AccP.sub (by assumption) _ _ h) ?_)) | (refine tuple_sub ?_ x h; repeat (first | exact .nil | refine .cons (fun _ h => h) ?_ | refine .cons (fun _ h => nil_no _ h) ?_ | refine .cons (fun _ h => no_sub _ h) ?_ | refine .cons (fun _ h => AccP.sub (by assumption) _ _ h) ?_ | refine .cons (fun _ h => agg_sub rfl (by repeat (first | exact .nil | refine .cons (fun _ h => h) ?_ | refine .cons (fun _ h => nil_no _ h) ?_ | refine .cons (fun _ h => no_sub _ h) ?_ | refine .cons (fun _ h => AccP.sub (by assumption) _ _ h) ?_)) _ h) ?_))))) (by (repeat (first | exact AH.le_refl _ | assumption | exact AccP.le (by assumption) | refine AH.le_put ?_ (by first | assumption | exact none_of_le (by assumption) (by assumption) | exact And.right (by assumption) | exact And.right (And.right (by assumption))) _ | refine AH.le_trans ?_ (AccP.le (by assumption))))))
  | false =>
    have hn : 0 ≤ ffI (m.L.map (allM q)) := h.2 ha
    repeat' (first | with_reducible (first | refine am_seq ?_ | refine am_block ?_) | ((with_reducible apply am_cond); (case hb => rfl); all_goals (intro hc; (try simp only [reduceCtorEq, bD, beq_iff_eq] at hc); (try (exfalso; omega)))) | ((first | with_reducible (first | refine am_reg ?_ | refine am_skip ?_ | refine am_exit ?_ | refine am_ret ?_ | refine vc_intro ?_ | refine need_elems (by assumption) ?_ | refine vlen_acc (by assumption) ?_ | refine need_bytes (by assumption) ?_ | refine call_turn (idxv_calls ih hl hi ho hg hk) ?_ | refine need_lk ?_) | done) <;> (try simp -implicitDefEqProofs (disch := omega) only [go_sem, hn])))
    all_goals (refine drop_end (by (first | exact fun _ _ h => h | (intro s x h; first | exact no_sub _ h | exact nil_no _ h | exact AccP.sub (by assumption) _ _ h | (refine agg_sub rfl ?_ x h; repeat (first | exact .nil | refine .cons (fun _ h => h) ?_ | refine .cons (fun _ h => nil_no _ h) ?_ | refine .cons (fun _ h => no_sub _ h) ?_ | refine .cons (fun _ h => AccP.sub (by assumption) _ _ h) ?_)) | (refine tuple_sub ?_ x h; repeat (first | exact .nil | refine .cons (fun _ h => h) ?_ | refine .cons (fun _ h => nil_no _ h) ?_ | refine .cons (fun _ h => no_sub _ h) ?_ | refine .cons (fun _ h => AccP.sub (by assumption) _ _ h) ?_ | refine .cons (fun _ h => agg_sub rfl (by repeat (first | exact .nil | refine .cons (fun _ h => h) ?_ | refine .cons (fun _ h => nil_no _ h) ?_ | refine .cons (fun _ h => no_sub _ h) ?_ | refine .cons (fun _ h => AccP.sub (by assumption) _ _ h) ?_)) _ h) ?_))))) (by (repeat (first | exact AH.le_refl _ | assumption | exact AccP.le (by assumption) | refine AH.le_put ?_ (by first | assumption | exact none_of_le (by assumption) (by assumption) | exact And.right (by assumption) | exact And.right (And.right (by assumption))) _ | refine AH.le_trans ?_ (AccP.le (by assumption))))))
theorem each_calls (he : entered Try.prog f = true) (hp : ∀ (m : Rv) (v : Vl), Sm v m → v.Ok → ∀ (g : Nat) (H : AH), H g = some .nodr → ACalls Try.prog f [.agg [vV v]] H (fun o H' => o = .ret (.bool (q m)) ∧ H' = H)) : ∀ m : Rv, EachAt f q m := by
  refine Rv.ind fun m ih v hs ho g H hg => ?_
  refine ACalls.drop ?_
  have hp1 := hp m v hs ho
  cases hs with
  | mk _ _ hK hB hS hl hk hN hP hi =>
  rw [allM_eq]
  have hcv := fun {kb : Nat} {H : AH} (hg : H g = some .nodr) (hk : H kb = some (.cells [.func (.func f) [] []])) => conv_calls (kb := kb) (H := H) ih hl hi ho hg hk
  refine acalls Try.func22 c22 r22 (by simp [Try.ntmps22]) ?_
  cases hq : q m with
  | false =>
    rw [hq] at hp1
    repeat' (first | with_reducible (first | refine am_seq ?_ | refine am_block ?_) | ((with_reducible apply am_cond); (case hb => rfl); all_goals (intro hc; (try simp only [reduceCtorEq, bD, beq_iff_eq] at hc); (try (exfalso; omega)))) | ((first | with_reducible (first | refine am_reg ?_ | refine am_skip ?_ | refine am_exit ?_ | refine am_ret ?_ | refine vc_intro ?_ | refine need_elems (by assumption) ?_ | refine vlen_acc (by assumption) ?_ | refine need_bytes (by assumption) ?_ | refine call_turn (hp1 _ _ (look_put hg (by assumption))) ?_ | refine need_lk ?_) | ((with_reducible (first | apply gd_not | apply gd_of | apply gq_not | apply gq_of | apply pickB_of)) <;> intro hc <;> (try simp -implicitDefEqProofs (disch := omega) only [go_sem, hc, he, true_and, List.nil_append, List.append_nil, List.cons_append, AH.put_same]) <;> (try simp only [reduceCtorEq, bD, beq_iff_eq] at hc) <;> (try (exfalso; omega))) | ((with_reducible refine alloc_intro (fun ko hko => ?_)) <;> (try have hne := fresh_ne (by assumption) hko) <;> (try have hnk := fresh_ne hk hko) <;> (try have hnk2 := fresh_ne hk2 hko) <;> (try simp only [AH.put_none] at hko)) | done) <;> (try simp -implicitDefEqProofs (disch := omega) only [go_sem, he, true_and, List.nil_append, List.append_nil, List.cons_append, AH.put_same])))
    all_goals exact drop_end (fun _ _ h => h) (AH.le_put (AH.le_refl _) hko _)
  | true =>
    rw [hq] at hp1
    cases ha : m.L.all (allM q) with
    | false =>
      rw [ha] at hcv
      repeat' (first | with_reducible (first | refine am_seq ?_ | refine am_block ?_) | ((with_reducible apply am_cond); (case hb => rfl); all_goals (intro hc; (try simp only [reduceCtorEq, bD, beq_iff_eq] at hc); (try (exfalso; omega)))) | ((first | with_reducible (first | refine am_reg ?_ | refine am_skip ?_ | refine am_exit ?_ | refine am_ret ?_ | refine vc_intro ?_ | refine need_elems (by assumption) ?_ | refine vlen_acc (by assumption) ?_ | refine need_bytes (by assumption) ?_ | refine call_turn (hp1 _ _ (look_put hg (by assumption))) ?_ | refine call_turn (items_calls ho (look_put hg (by assumption))) ?_ | refine call_turn (hcv (look_put hg (by assumption)) (AH.put_same _ _ _)) ?_ | refine need_lk ?_) | ((with_reducible (first | apply gd_not | apply gd_of | apply gq_not | apply gq_of | apply pickB_of)) <;> intro hc <;> (try simp -implicitDefEqProofs (disch := omega) only [go_sem, hc, he, true_and, List.nil_append, List.append_nil, List.cons_append, AH.put_same, Bool.not_true, Bool.not_false]) <;> (try simp only [reduceCtorEq, bD, beq_iff_eq] at hc) <;> (try (exfalso; omega))) | ((with_reducible refine alloc_intro (fun ko hko => ?_)) <;> (try have hne := fresh_ne (by assumption) hko) <;> (try have hnk := fresh_ne hk hko) <;> (try have hnk2 := fresh_ne hk2 hko) <;> (try simp only [AH.put_none] at hko)) | done) <;> (try simp -implicitDefEqProofs (disch := omega) only [go_sem, he, true_and, List.nil_append, List.append_nil, List.cons_append, AH.put_same, Bool.not_true, Bool.not_false])))
      all_goals exact drop_end (fun _ _ h => h) (AH.le_put (AH.le_refl _) hko _)
    | true =>
      rw [ha] at hcv
      repeat' (first | with_reducible (first | refine am_seq ?_ | refine am_block ?_) | ((with_reducible apply am_cond); (case hb => rfl); all_goals (intro hc; (try simp only [reduceCtorEq, bD, beq_iff_eq] at hc); (try (exfalso; omega)))) | ((first | with_reducible (first | refine am_reg ?_ | refine am_skip ?_ | refine am_exit ?_ | refine am_ret ?_ | refine vc_intro ?_ | refine need_elems (by assumption) ?_ | refine vlen_acc (by assumption) ?_ | refine need_bytes (by assumption) ?_ | refine call_turn (hp1 _ _ (look_put hg (by assumption))) ?_ | refine call_turn (items_calls ho (look_put hg (by assumption))) ?_ | refine call_turn (hcv (look_put hg (by assumption)) (AH.put_same _ _ _)) ?_ | refine need_lk ?_) | ((with_reducible (first | apply gd_not | apply gd_of | apply gq_not | apply gq_of | apply pickB_of)) <;> intro hc <;> (try simp -implicitDefEqProofs (disch := omega) only [go_sem, hc, he, true_and, List.nil_append, List.append_nil, List.cons_append, AH.put_same, Bool.not_true, Bool.not_false]) <;> (try simp only [reduceCtorEq, bD, beq_iff_eq] at hc) <;> (try (exfalso; omega))) | ((with_reducible refine alloc_intro (fun ko hko => ?_)) <;> (try have hne := fresh_ne (by assumption) hko) <;> (try have hnk := fresh_ne hk hko) <;> (try have hnk2 := fresh_ne hk2 hko) <;> (try simp only [AH.put_none] at hko)) | done) <;> (try simp -implicitDefEqProofs (disch := omega) only [go_sem, he, true_and, List.nil_append, List.append_nil, List.cons_append, AH.put_same, Bool.not_true, Bool.not_false])))
      all_goals exact drop_end (fun _ _ h => h) (AH.le_put (AH.le_refl _) hko _)
end
theorem ent_fits : entered Try.prog 23 = true := by kernel_rfl
theorem right_calls {m : Rv} {v : Vl} (hs : Sm v m) (ho : v.Ok) {g : Nat} {H : AH} (hg : H g = some .nodr) : ACalls Try.prog 9 [.agg [vV v]] H (fun o H' => o = .ret (.bool (rightM m)) ∧ H' = H) := by
  refine ACalls.drop ?_
  have he := each_calls (f := 23) (q := fitsQ) ent_fits (fun m v hs ho g H hg => fits_calls hs ho hg) m v hs ho
  refine acalls Try.func9 c9 r9 (by simp [Try.ntmps9]) ?_
  by_cases hd : deepI m ≤ 8
  · repeat' (first | with_reducible (first | refine am_seq ?_ | refine am_block ?_) | ((with_reducible apply am_cond); (case hb => rfl); all_goals (intro hc; (try simp only [reduceCtorEq, bD, beq_iff_eq] at hc); (try (exfalso; omega)))) | ((first | with_reducible (first | refine am_reg ?_ | refine am_skip ?_ | refine am_exit ?_ | refine am_ret ?_ | refine vc_intro ?_ | refine need_elems (by assumption) ?_ | refine vlen_acc (by assumption) ?_ | refine need_bytes (by assumption) ?_ | refine call_turn (vdeep_calls m v hs ho _ _ hg) ?_ | refine call_turn (he _ _ hg) ?_ | refine need_lk ?_) | ((with_reducible (first | apply gd_not | apply gd_of | apply gq_not | apply gq_of | apply pickB_of)) <;> intro hc <;> (try simp -implicitDefEqProofs (disch := omega) only [go_sem, hc, hd]) <;> (try simp only [reduceCtorEq, bD, beq_iff_eq] at hc) <;> (try (exfalso; omega))) | ((with_reducible refine alloc_intro (fun ko hko => ?_)) <;> (try have hne := fresh_ne (by assumption) hko) <;> (try have hnk := fresh_ne hk hko) <;> (try have hnk2 := fresh_ne hk2 hko) <;> (try simp only [AH.put_none] at hko)) | done) <;> (try simp -implicitDefEqProofs (disch := omega) only [go_sem, hd])))
    all_goals (rw [rightM, decide_eq_true hd, Bool.true_and]; (refine drop_end (by (first | exact fun _ _ h => h | (intro s x h; first | exact no_sub _ h | exact nil_no _ h | exact AccP.sub (by assumption) _ _ h | (refine agg_sub rfl ?_ x h; repeat (first | exact .nil | refine .cons (fun _ h => h) ?_ | refine .cons (fun _ h => nil_no _ h) ?_ | refine .cons (fun _ h => no_sub _ h) ?_ | refine .cons (fun _ h => AccP.sub (by assumption) _ _ h) ?_)) | (refine tuple_sub ?_ x h; repeat (first | exact .nil | refine .cons (fun _ h => h) ?_ | refine .cons (fun _ h => nil_no _ h) ?_ | refine .cons (fun _ h => no_sub _ h) ?_ | refine .cons (fun _ h => AccP.sub (by assumption) _ _ h) ?_ | refine .cons (fun _ h => agg_sub rfl (by repeat (first | exact .nil | refine .cons (fun _ h => h) ?_ | refine .cons (fun _ h => nil_no _ h) ?_ | refine .cons (fun _ h => no_sub _ h) ?_ | refine .cons (fun _ h => AccP.sub (by assumption) _ _ h) ?_)) _ h) ?_))))) (by (repeat (first | exact AH.le_refl _ | assumption | exact AccP.le (by assumption) | refine AH.le_put ?_ (by first | assumption | exact none_of_le (by assumption) (by assumption) | exact And.right (by assumption) | exact And.right (And.right (by assumption))) _ | refine AH.le_trans ?_ (AccP.le (by assumption)))))))
  · repeat' (first | with_reducible (first | refine am_seq ?_ | refine am_block ?_) | ((with_reducible apply am_cond); (case hb => rfl); all_goals (intro hc; (try simp only [reduceCtorEq, bD, beq_iff_eq] at hc); (try (exfalso; omega)))) | ((first | with_reducible (first | refine am_reg ?_ | refine am_skip ?_ | refine am_exit ?_ | refine am_ret ?_ | refine vc_intro ?_ | refine need_elems (by assumption) ?_ | refine vlen_acc (by assumption) ?_ | refine need_bytes (by assumption) ?_ | refine call_turn (vdeep_calls m v hs ho _ _ hg) ?_ | refine call_turn (he _ _ hg) ?_ | refine need_lk ?_) | ((with_reducible (first | apply gd_not | apply gd_of | apply gq_not | apply gq_of | apply pickB_of)) <;> intro hc <;> (try simp -implicitDefEqProofs (disch := omega) only [go_sem, hc, hd]) <;> (try simp only [reduceCtorEq, bD, beq_iff_eq] at hc) <;> (try (exfalso; omega))) | ((with_reducible refine alloc_intro (fun ko hko => ?_)) <;> (try have hne := fresh_ne (by assumption) hko) <;> (try have hnk := fresh_ne hk hko) <;> (try have hnk2 := fresh_ne hk2 hko) <;> (try simp only [AH.put_none] at hko)) | done) <;> (try simp -implicitDefEqProofs (disch := omega) only [go_sem, hd])))
    all_goals (rw [rightM, decide_eq_false hd, Bool.false_and]; (refine drop_end (by (first | exact fun _ _ h => h | (intro s x h; first | exact no_sub _ h | exact nil_no _ h | exact AccP.sub (by assumption) _ _ h | (refine agg_sub rfl ?_ x h; repeat (first | exact .nil | refine .cons (fun _ h => h) ?_ | refine .cons (fun _ h => nil_no _ h) ?_ | refine .cons (fun _ h => no_sub _ h) ?_ | refine .cons (fun _ h => AccP.sub (by assumption) _ _ h) ?_)) | (refine tuple_sub ?_ x h; repeat (first | exact .nil | refine .cons (fun _ h => h) ?_ | refine .cons (fun _ h => nil_no _ h) ?_ | refine .cons (fun _ h => no_sub _ h) ?_ | refine .cons (fun _ h => AccP.sub (by assumption) _ _ h) ?_ | refine .cons (fun _ h => agg_sub rfl (by repeat (first | exact .nil | refine .cons (fun _ h => h) ?_ | refine .cons (fun _ h => nil_no _ h) ?_ | refine .cons (fun _ h => no_sub _ h) ?_ | refine .cons (fun _ h => AccP.sub (by assumption) _ _ h) ?_)) _ h) ?_))))) (by (repeat (first | exact AH.le_refl _ | assumption | exact AccP.le (by assumption) | refine AH.le_put ?_ (by first | assumption | exact none_of_le (by assumption) (by assumption) | exact And.right (by assumption) | exact And.right (And.right (by assumption))) _ | refine AH.le_trans ?_ (AccP.le (by assumption)))))))
end Go.Proofs.Ytoicninkfmfnbaa
