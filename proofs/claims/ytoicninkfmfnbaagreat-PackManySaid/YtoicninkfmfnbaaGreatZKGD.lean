/- Of the walks of this seat: contracts of functions of the given program, proved over the abstract values of the texts Vm. Conditions: as each theorem says. -/
import Derived.Test.YtoicninkfmfnbaaGreatZKGC
import Derived.Test.YtoicninkfmfnbaaGreatVm37
set_option linter.unusedVariables false
set_option linter.unusedSimpArgs false
namespace Go.Proofs.YtoicninkfmfnbaaGreat
open Go.Vm Go.Sort
attribute [local go_sem] List.drop_zero toNat_succ Nat.sub_zero Int.toNat_natCast Option.map_some Int.natCast_nonneg decide_eq_true_eq decide_eq_false_iff_not
inductive Sm : Vl → Rv → Prop where
  | mk (v : Vl) (m : Rv) (hK : v.kind = m.K) (hB : v.isB.1 = (decide (m.K = 2) && m.B)) (hS : v.isT.1 = m.S) (hl : v.items.length = m.L.length) (hk : v.keys = m.Keys) (hN : m.K = 3 → v.isI.1 = m.N)
    (hP : m.K = 4 → v.isP.1 = m.N ∧ v.isP.2.1 = m.M) (hi : ∀ i (h : i < v.items.length) (h2 : i < m.L.length), Sm v.items[i] m.L[i]) : Sm v m
theorem isI_kind (v : Vl) : v.isI.2 = decide (v.kind = 3) := by cases v <;> rfl
theorem fnd_some {k : List UInt8} : ∀ {es : List (List UInt8 × Vl)}, k ∈ es.map Prod.fst → ∃ x, fnd k es = some x
  | [], h => by simp at h
  | p :: es, h => by
    rw [fnd]
    split
    · exact ⟨_, rfl⟩
    · rename_i hne
      rw [List.map_cons, List.mem_cons] at h
      rcases h with h | h
      · exact absurd h.symm hne
      · exact fnd_some h
theorem kys_mem (es : List (List UInt8 × Vl)) (k : List UInt8) : k ∈ kys es ↔ k ∈ es.map Prod.fst := (List.mergeSort_perm _ _).mem_iff
theorem items_keys {v : Vl} (h7 : v.kind = 7) : v.items.length = v.keys.length := by
  cases v <;> first | (simp [Vl.kind] at h7; done) | simp [Vl.items, Vl.keys]
theorem Ok.items {v : Vl} (h : v.Ok) : ∀ x ∈ v.items, x.Ok := by
  intro x hx
  cases h with
  | list l h1 h2 => exact h2 x hx
  | map es h1 h2 h3 h4 =>
    obtain ⟨k, hk, rfl⟩ := List.mem_map.1 hx
    obtain ⟨y, hy⟩ := fnd_some ((kys_mem es k).1 hk)
    rw [look, hy]
    have : ∀ (es : List (List UInt8 × Vl)), (∀ p ∈ es, p.2.Ok) → fnd k es = some y → y.Ok := by
      intro es
      induction es with
      | nil => intro _ h; cases h
      | cons p es ih =>
        intro ho h
        rw [fnd] at h
        split at h
        · cases h; exact ho p List.mem_cons_self
        · exact ih (fun q hq => ho q (List.mem_cons_of_mem _ hq)) h
    exact this es h4 hy
  | _ => simp [Vl.items] at hx
theorem items_len {v : Vl} (h : v.Ok) : v.items.length * 16 ≤ 100000000000000 := by
  cases h with
  | list l h1 h2 => exact h1
  | map es h1 h2 h3 h4 => rw [Vl.items, List.length_map, kys_length]; exact h1
  | _ => simp [Vl.items]
theorem nodr_lec {H G : AH} {g : Nat} (hg : H g = some .nodr) (hl : H.lec G) : G g = some .nodr := hl _ _ hg (by intros; simp)
end Go.Proofs.YtoicninkfmfnbaaGreat
namespace Go.Proofs.YtoicninkfmfnbaaGreat
open Go.Vm Go.Sort
attribute [local go_sem] List.drop_zero toNat_succ Nat.sub_zero Int.toNat_natCast Option.map_some Int.natCast_nonneg decide_eq_true_eq decide_eq_false_iff_not
end Go.Proofs.YtoicninkfmfnbaaGreat
namespace Go.Proofs.YtoicninkfmfnbaaGreat
open Go.Vm Go.Sort
attribute [local go_sem] eq_self decide_true decide_false AH.put_ne
attribute [local go_sem_proc] Nat.reduceBEq Nat.reduceAdd Nat.reduceSub Nat.reduceMul Nat.reduceEqDiff Nat.reduceLeDiff Nat.reduceLT Int.reduceLE Int.reduceLT Int.reduceToNat Int.reduceAdd Int.reduceEq Int.reduceNeg
attribute [local go_sem] List.drop_zero toNat_succ Nat.sub_zero Int.toNat_natCast Option.map_some Int.natCast_nonneg decide_eq_true_eq decide_eq_false_iff_not
/- (flange/value.Value).Deep -/
abbrev k45_0 : MC :=
 .reg [
 mv 13 3,
 vl 14 (.load true 1 (.t 5)),
 ⟨some 15, none, .call 45 [(.t 14)]⟩,
 vl 16 (.mx true (.t 13) (.t 15)),
 mv 3 16] [3, 7, 8, 9]
abbrev k45_1 : MC :=
 .reg [
 vl 17 (.bin .add .num (.t 9) (.c (.int .i64 1))),
 mv 9 17] [3, 7, 8, 9]
abbrev k45_2 : MC :=
 (.seq (.block 1 ((.seq (.reg [
 vl 11 (.iaddr 1 (.t 7) (.t 9)),
 vl 12 (.load true 1 (.t 11)),
 ⟨some 5, none, .zalloc [.nilIface]⟩,
 ⟨none, none, .store 1 (.t 5) (.t 12)⟩] [3, 5, 7, 8, 9]) k45_0))) k45_1)
abbrev k45_3 : MC :=
 (.seq (.cond (.t 10) (.skip) (.exit 0)) k45_2)
abbrev k45_4 : MC :=
 (.seq (.reg [
 vl 10 (.bin .lss .num (.t 9) (.t 8))] [3, 7, 8, 9, 10]) k45_3)
abbrev k45_5 : MC :=
 .block 0 (.loop k45_4)
abbrev k45_6 : MC :=
 (.seq (.reg [
 mv 18 3,
 vl 19 (.bin .add .num (.t 18) (.c (.int .i64 1))),
 mv 2 19] [2]) (.ret))
abbrev k45_7 : MC :=
 (.seq ((.seq (.reg [
 vl 6 (.load true 1 (.t 1)),
 ⟨some 7, none, .call 39 [(.t 6)]⟩,
 vl 8 (.len .sl (.t 7)),
 vl 9 (.mv (.c (.int .i64 0)))] [3, 7, 8, 9]) k45_5)) k45_6)
abbrev k45_8 : MC :=
 (.seq (.reg [
 vl 3 (.mv (.c (.int .i64 0)))] [1, 3]) k45_7)
abbrev k45 : MC :=
 (.seq (.reg [
 ⟨some 1, none, .boxi (.t 0)⟩,
 vl 2 (.mv (.c (.int .i64 0)))] [1]) k45_8)
theorem c45 : Tryz.f45.body.bind (mcOf Tryz.prog (List.contains [1] ·) (List.getD [([], [1]), ([], [1, 3]), ([], [3, 7, 8, 9]), ([], [3, 7, 8, 9, 10]), ([], [3, 5, 7, 8, 9]), ([], [3, 7, 8, 9]), ([], [3, 7, 8, 9]), ([], [2])] · ([], [])) 20) = some k45 := by kernel_rfl
theorem r45 : rvsOf Tryz.prog Tryz.f45.results.toList = some [.tmp 2] := by kernel_rfl
theorem vdeep_calls : ∀ (m : Rv) (v : Vl), Sm v m → v.Ok → ∀ (g : Nat) (H : AH), H g = some .nodr → ACalls Tryz.prog 45 [.agg [vV v]] H (fun o H' => o = .ret (.int .i64 (deepI m)) ∧ H' = H) := by
  refine Rv.ind fun m ih v hs ho g H hg => ?_
  refine ACalls.drop ?_
  have hil := items_len ho
  cases hs with
  | mk _ _ hK hB hS hl hk hN hP hi =>
  refine acalls Tryz.func45 c45 r45 (by simp [Tryz.ntmps45]) ?_
  repeat' (first | with_reducible refine go0 ?_ | (with_reducible refine am_cnd ?_ ?_ <;> intro hc <;> try (exfalso; omega)) | ((first | with_reducible (first | refine go1 ?_ | refine vc_intro ?_ | refine need_el ?_ | refine vlen_a ?_ | refine need_by ?_ | refine call_of (items_calls ho hg) ?_ | refine qcall_of (items_calls ho hg) ?_ | refine call_turn (items_calls ho hg) ?_ | refine need_lk ?_) | ((with_reducible refine alloc_intro (fun ko hko => ?_)) <;> (try have hne := fresh_ne (by assumption) hko) <;> (try have hnk := fresh_ne hk hko) <;> (try simp only [AH.put_none] at hko)) | done) <;> (try simp -implicitDefEqProofs (disch := omega) only [go_sem, vE_length])))
  refine am_loop (fun n a H' => ∃ i : Nat, i + n = m.L.length ∧ a = [(3, .int .i64 (deepL (m.L.take i))), (7, .sl 1 (vE v.items) .no), (8, .int .i64 v.items.length), (9, .int .i64 i)] ∧ H' g = some .nodr ∧ H.le H') ?_ m.L.length ⟨0, by omega, rfl, hg, AH.le_refl _⟩
  rintro n a H' ⟨i, hin, rfl, hg', hle⟩
  by_cases hlt : i < m.L.length
  · have hlt1 : i < v.items.length := by omega
    have hc1 := ih m.L[i] (List.getElem_mem hlt) v.items[i] (hi i hlt1 hlt) (Ok.items ho _ (List.getElem_mem hlt1))
    repeat' (first | with_reducible refine go0 ?_ | (with_reducible refine am_cnd ?_ ?_ <;> intro hc <;> try (exfalso; omega)) | ((first | with_reducible (first | refine go1 ?_ | refine vc_intro ?_ | refine need_el ?_ | refine vlen_a ?_ | refine need_by ?_ | refine call_turn (hc1 _ _ (look_put hg' hko)) ?_ | refine need_lk ?_) | ((with_reducible refine alloc_intro (fun ko hko => ?_)) <;> (try have hne := fresh_ne (by assumption) hko) <;> (try have hnk := fresh_ne hk hko) <;> (try simp only [AH.put_none] at hko)) | done) <;> (try simp -implicitDefEqProofs (disch := omega) only [go_sem, wrap_id, hl, vE_length, vE_get hlt1])))
    all_goals exact ⟨n - 1, by omega, i + 1, by omega, by rw [deepL_take hlt]; rfl, by first | exact hg' | exact look_put hg' hko, AH.le_put hle (none_of_le hle hko) _⟩
  · have e : m.L.take i = m.L := List.take_of_length_le (by omega)
    repeat' (first | with_reducible refine go0 ?_ | (with_reducible refine am_cnd ?_ ?_ <;> intro hc <;> try (exfalso; omega)) | ((first | with_reducible (first | refine go1 ?_ | refine vc_intro ?_ | refine need_el ?_ | refine vlen_a ?_ | refine need_by ?_ | refine need_lk ?_) | ((with_reducible refine alloc_intro (fun ko hko => ?_)) <;> (try have hne := fresh_ne (by assumption) hko) <;> (try have hnk := fresh_ne hk hko) <;> (try simp only [AH.put_none] at hko)) | done) <;> (try simp -implicitDefEqProofs (disch := omega) only [go_sem, wrap_id, vE_length, hl, e])))
    all_goals (rw [deepI_eq]; (refine drop_end (by (first | exact fun _ _ h => h | (intro s x h; first | exact no_sub _ h | exact nil_no _ h | exact AccP.sub (by assumption) _ _ h | (refine agg_sub rfl ?_ x h; repeat (first | exact .nil | refine .cons (fun _ h => h) ?_ | refine .cons (fun _ h => nil_no _ h) ?_ | refine .cons (fun _ h => no_sub _ h) ?_ | refine .cons (fun _ h => AccP.sub (by assumption) _ _ h) ?_)) | (refine tuple_sub ?_ x h; repeat (first | exact .nil | refine .cons (fun _ h => h) ?_ | refine .cons (fun _ h => nil_no _ h) ?_ | refine .cons (fun _ h => no_sub _ h) ?_ | refine .cons (fun _ h => AccP.sub (by assumption) _ _ h) ?_ | refine .cons (fun _ h => agg_sub rfl (by repeat (first | exact .nil | refine .cons (fun _ h => h) ?_ | refine .cons (fun _ h => nil_no _ h) ?_ | refine .cons (fun _ h => no_sub _ h) ?_ | refine .cons (fun _ h => AccP.sub (by assumption) _ _ h) ?_)) _ h) ?_))))) (by (repeat (first | exact AH.le_refl _ | assumption | exact AccP.le (by assumption) | refine AH.le_put ?_ (by first | assumption | exact none_of_le (by assumption) (by assumption) | exact And.right (by assumption) | exact And.right (And.right (by assumption))) _ | refine AH.le_trans ?_ (AccP.le (by assumption)))))))
theorem all_take {α : Type} {p : α → Bool} {l : List α} {i : Nat} (h : i < l.length) : (l.take (i + 1)).all p = ((l.take i).all p && p l[i]) := by
  rw [List.take_succ_eq_append_getElem h, List.all_append]; simp
theorem all_bad {α : Type} {p : α → Bool} {l : List α} {i : Nat} (h : i < l.length) (hp : p l[i] = false) : l.all p = false := by
  rw [List.all_eq_false]; exact ⟨l[i], List.getElem_mem h, by rw [hp]; simp⟩
def allM (q : Rv → Bool) : Rv → Bool
  | .mk K B N M S L Ks => q (.mk K B N M S L Ks) && (L.map fun x => allM q x).all id
termination_by r => SizeOf.sizeOf r
decreasing_by
  have := List.sizeOf_lt_of_mem ‹_ ∈ L›; simp only [Rv.mk.sizeOf_spec]; omega
theorem allM_eq (q : Rv → Bool) (r : Rv) : allM q r = (q r && r.L.all (allM q)) := by cases r; rw [allM, List.all_map]; rfl
def shortB (k : List UInt8) : Bool := decide (k.length ≤ 256)
def fitsQ (r : Rv) : Bool := shortB r.S && r.Keys.all shortB && decide (r.L.length ≤ 64)
def rightM (m : Rv) : Bool := decide (deepI m ≤ 8) && allM fitsQ m
end Go.Proofs.YtoicninkfmfnbaaGreat
namespace Go.Proofs.YtoicninkfmfnbaaGreat
open Go.Vm Go.Sort
attribute [local go_sem] eq_self decide_true decide_false AH.put_ne
attribute [local go_sem_proc] Nat.reduceBEq Nat.reduceAdd Nat.reduceSub Nat.reduceMul Nat.reduceEqDiff Nat.reduceLeDiff Nat.reduceLT Int.reduceLE Int.reduceLT Int.reduceToNat Int.reduceAdd Int.reduceEq Int.reduceNeg
attribute [local go_sem] List.drop_zero toNat_succ Nat.sub_zero Int.toNat_natCast Option.map_some Int.natCast_nonneg decide_eq_true_eq decide_eq_false_iff_not
/- flange/value.short -/
abbrev k75_0 : MC :=
 (.seq (.reg [
 mv 3 0,
 vl 4 (.len .str (.t 3)),
 vl 5 (.bin .leq .num (.t 4) (.c (.int .i64 256))),
 mv 2 5] [2]) (.ret))
abbrev k75 : MC :=
 (.seq (.reg [
 vl 2 (.mv (.c (.bool false)))] [0]) k75_0)
theorem c75 : Tryz.f75.body.bind (mcOf Tryz.prog (List.contains [] ·) (List.getD [([], [0]), ([], [2])] · ([], [])) 6) = some k75 := by kernel_rfl
theorem r75 : rvsOf Tryz.prog Tryz.f75.results.toList = some [.tmp 2] := by kernel_rfl
/- (flange/value.Value).fits$1 -/
abbrev k74_0 : MC :=
 (.seq (.reg [
 mv 3 0,
 ⟨some 4, none, .call 75 [(.t 3)]⟩,
 vl 5 (.not (.t 4)),
 mv 2 5] [2]) (.ret))
abbrev k74 : MC :=
 (.seq (.reg [
 vl 2 (.mv (.c (.bool false)))] [0]) k74_0)
theorem c74 : Tryz.f74.body.bind (mcOf Tryz.prog (List.contains [] ·) (List.getD [([], [0]), ([], [2])] · ([], [])) 6) = some k74 := by kernel_rfl
theorem r74 : rvsOf Tryz.prog Tryz.f74.results.toList = some [.tmp 2] := by kernel_rfl
/- slices.ContainsFunc[[]string,string] -/
abbrev k73_0 : MC :=
 (.seq (.reg [
 mv 5 0,
 mv 6 1,
 ⟨some 7, none, .call 89 [(.t 5), (.t 6)]⟩,
 vl 8 (.bin .geq .num (.t 7) (.c (.int .i64 0))),
 mv 4 8] [4]) (.ret))
abbrev k73 : MC :=
 (.seq (.reg [
 vl 4 (.mv (.c (.bool false)))] [0, 1]) k73_0)
theorem c73 : Tryz.f73.body.bind (mcOf Tryz.prog (List.contains [] ·) (List.getD [([], [0, 1]), ([], [4])] · ([], [])) 9) = some k73 := by kernel_rfl
theorem r73 : rvsOf Tryz.prog Tryz.f73.results.toList = some [.tmp 4] := by kernel_rfl
/- slices.IndexFunc[[]string,string] -/
abbrev k89_0 : MC :=
 .cond (.t 16) ((.seq (.reg [
 mv 17 5,
 mv 4 17] [4]) (.ret))) (.skip)
abbrev k89_1 : MC :=
 (.seq (.reg [
 mv 11 1,
 mv 12 0,
 mv 13 5,
 vl 14 (.iaddr 1 (.t 12) (.t 13)),
 vl 15 (.load false 1 (.t 14)),
 ⟨some 16, none, .callv (.t 11) [(.t 15)]⟩] [0, 1, 5, 7, 8, 16]) k89_0)
abbrev k89_2 : MC :=
 .reg [
 vl 18 (.bin .add .num (.t 8) (.c (.int .i64 1))),
 mv 8 18] [0, 1, 7, 8]
abbrev k89_3 : MC :=
 (.seq (.block 1 ((.seq (.reg [
 mv 10 8,
 mv 5 10] [0, 1, 5, 7, 8]) k89_1))) k89_2)
abbrev k89_4 : MC :=
 (.seq (.cond (.t 9) (.skip) (.exit 0)) k89_3)
abbrev k89_5 : MC :=
 (.seq (.reg [
 vl 9 (.bin .lss .num (.t 8) (.t 7))] [0, 1, 7, 8, 9]) k89_4)
abbrev k89_6 : MC :=
 .block 0 (.loop k89_5)
abbrev k89_7 : MC :=
 (.seq (.reg [
 vl 4 (.mv (.c (.int .i64 (-1))))] [4]) (.ret))
abbrev k89_8 : MC :=
 (.seq ((.seq (.reg [
 mv 6 0,
 vl 7 (.len .sl (.t 6)),
 vl 8 (.mv (.c (.int .i64 0)))] [0, 1, 7, 8]) k89_6)) k89_7)
abbrev k89 : MC :=
 (.seq (.reg [
 vl 4 (.mv (.c (.int .i64 0)))] [0, 1]) k89_8)
theorem c89 : Tryz.f89.body.bind (mcOf Tryz.prog (List.contains [] ·) (List.getD [([], [0, 1]), ([], [0, 1, 7, 8]), ([], [0, 1, 7, 8, 9]), ([], [0, 1, 5, 7, 8]), ([], [0, 1, 5, 7, 8, 16]), ([], [4]), ([], [0, 1, 7, 8]), ([], [4])] · ([], [])) 19) = some k89 := by kernel_rfl
theorem r89 : rvsOf Tryz.prog Tryz.f89.results.toList = some [.tmp 4] := by kernel_rfl
/- (flange/value.Value).fits -/
abbrev k47_0 : MC :=
 (.seq (.reg [
 mv 14 3,
 ⟨some 15, none, .call 75 [(.t 14)]⟩,
 mv 16 15,
 ⟨some 17, (some (16, true)), .val (.mv (.t 5))⟩,
 ⟨some 18, (some (16, true)), .val (.not (.t 17))⟩,
 vl 19 (.pick (.t 16) (.t 18) (.c (.bool false))),
 mv 20 19,
 ⟨some 21, (some (20, true)), .val (.load true 1 (.t 1))⟩,
 ⟨some 22, (some (20, true)), .call 39 [(.t 21)]⟩,
 ⟨some 23, (some (20, true)), .val (.len .sl (.t 22))⟩,
 ⟨some 24, (some (20, true)), .val (.bin .leq .num (.t 23) (.c (.int .i64 64)))⟩,
 vl 25 (.pick (.t 20) (.t 24) (.c (.bool false))),
 mv 2 25] [2]) (.ret))
abbrev k47_1 : MC :=
 (.seq (.reg [
 vl 11 (.load true 1 (.t 1)),
 ⟨some 12, none, .call 40 [(.t 11)]⟩,
 ⟨some 13, none, .call 73 [(.t 12), (.c (.func (.func 74) [] []))]⟩,
 mv 5 13] [1, 3, 5]) k47_0)
abbrev k47_2 : MC :=
 (.seq (.reg [
 vl 7 (.load true 1 (.t 1)),
 ⟨some 8, none, .call 38 [(.t 7)]⟩,
 mv 6 8,
 vl 9 (.ext (.t 6) 0),
 vl 10 (.ext (.t 6) 1),
 mv 3 9,
 mv 4 10] [1, 3]) k47_1)
abbrev k47 : MC :=
 (.seq (.reg [
 ⟨some 1, none, .boxi (.t 0)⟩,
 vl 2 (.mv (.c (.bool false)))] [1]) k47_2)
theorem c47 : Tryz.f47.body.bind (mcOf Tryz.prog (List.contains [1] ·) (List.getD [([], [1]), ([], [1, 3]), ([], [1, 3, 5]), ([], [2])] · ([], [])) 26) = some k47 := by kernel_rfl
theorem r47 : rvsOf Tryz.prog Tryz.f47.results.toList = some [.tmp 2] := by kernel_rfl
def ff : List Bool → Option Nat
  | [] => none
  | b :: l => if b then (ff l).map (· + 1) else some 0
def ffI (l : List Bool) : Int := ((ff l).map fun (i : Nat) => (i : Int)).getD (-1)
theorem ffI_all (l : List Bool) : 0 ≤ ffI l ↔ l.all id = false := by
  have : ∀ l, (ff l).isSome = true ↔ l.all id = false := by
    intro l
    induction l with
    | nil => simp [ff]
    | cons b l ih => cases b <;> simp [ff, ih]
  rw [← this l, ffI]
  cases ff l <;> simp
theorem short_calls (k : List UInt8) (H : AH) : ACalls Tryz.prog 75 [.str k] H (fun o H' => o = .ret (.bool (shortB k)) ∧ H' = H) := by
  refine ACalls.drop ?_
  refine acalls Tryz.func75 c75 r75 (by simp [Tryz.ntmps75]) ?_
  repeat' (first | with_reducible refine go0 ?_ | (with_reducible refine am_cnd ?_ ?_ <;> intro hc <;> try (exfalso; omega)) | ((first | with_reducible (first | refine go1 ?_ | refine vc_intro ?_ | refine need_el ?_ | refine vlen_a ?_ | refine need_by ?_ | refine need_lk ?_) | done) <;> (try simp -implicitDefEqProofs (disch := omega) only [go_sem])))
  all_goals refine end_eq (congrArg V.bool ?_) (AH.le_refl _)
  all_goals (rw [shortB, Bool.eq_iff_iff, decide_eq_true_eq, decide_eq_true_eq]; omega)
theorem fits1_calls (k : List UInt8) (H : AH) : ACalls Tryz.prog 74 [.str k] H (fun o H' => o = .ret (.bool (!shortB k)) ∧ H' = H) := by
  refine ACalls.drop ?_
  refine acalls Tryz.func74 c74 r74 (by simp [Tryz.ntmps74]) ?_
  repeat' (first | with_reducible refine go0 ?_ | (with_reducible refine am_cnd ?_ ?_ <;> intro hc <;> try (exfalso; omega)) | ((first | with_reducible (first | refine go1 ?_ | refine vc_intro ?_ | refine need_el ?_ | refine vlen_a ?_ | refine need_by ?_ | refine call_of (short_calls _) ?_ | refine qcall_of (short_calls _) ?_ | refine need_lk ?_) | done) <;> (try simp -implicitDefEqProofs (disch := omega) only [go_sem])))
  all_goals (refine drop_end (by (first | exact fun _ _ h => h | (intro s x h; first | exact no_sub _ h | exact nil_no _ h | exact AccP.sub (by assumption) _ _ h | (refine agg_sub rfl ?_ x h; repeat (first | exact .nil | refine .cons (fun _ h => h) ?_ | refine .cons (fun _ h => nil_no _ h) ?_ | refine .cons (fun _ h => no_sub _ h) ?_ | refine .cons (fun _ h => AccP.sub (by assumption) _ _ h) ?_)) | (refine tuple_sub ?_ x h; repeat (first | exact .nil | refine .cons (fun _ h => h) ?_ | refine .cons (fun _ h => nil_no _ h) ?_ | refine .cons (fun _ h => no_sub _ h) ?_ | refine .cons (fun _ h => AccP.sub (by assumption) _ _ h) ?_ | refine .cons (fun _ h => agg_sub rfl (by repeat (first | exact .nil | refine .cons (fun _ h => h) ?_ | refine .cons (fun _ h => nil_no _ h) ?_ | refine .cons (fun _ h => no_sub _ h) ?_ | refine .cons (fun _ h => AccP.sub (by assumption) _ _ h) ?_)) _ h) ?_))))) (by (repeat (first | exact AH.le_refl _ | assumption | exact AccP.le (by assumption) | refine AH.le_put ?_ (by first | assumption | exact none_of_le (by assumption) (by assumption) | exact And.right (by assumption) | exact And.right (And.right (by assumption))) _ | refine AH.le_trans ?_ (AccP.le (by assumption))))))
theorem ent_fits1 : entered Tryz.prog 74 = true := by kernel_rfl
theorem idxs_calls {ks : List (List UInt8)} {t : Tok} (hl : ks.length < 1000000000000000000) (H : AH) : ACalls Tryz.prog 89 [.sl 1 (strE ks) t, .func (.func 74) [] []] H (fun o H' => o = .ret (.int .i64 (ffI (ks.map shortB))) ∧ H' = H) := by
  refine ACalls.drop ?_
  refine acalls Tryz.func89 c89 r89 (by simp [Tryz.ntmps89]) ?_
  repeat' (first | with_reducible refine go0 ?_ | (with_reducible refine am_cnd ?_ ?_ <;> intro hc <;> try (exfalso; omega)) | ((first | with_reducible (first | refine go1 ?_ | refine vc_intro ?_ | refine need_el ?_ | refine vlen_a ?_ | refine need_by ?_ | refine need_lk ?_) | done) <;> (try simp -implicitDefEqProofs (disch := omega) only [go_sem, strE_len])))
  refine am_loop (fun n a H' => ∃ i : Nat, i + n = ks.length ∧ a = [(0, .sl 1 (strE ks) t), (1, .func (.func 74) [] []), (7, .int .i64 ks.length), (8, .int .i64 i)] ∧ H' = H ∧ ff (ks.map shortB) = (ff ((ks.drop i).map shortB)).map (· + i)) ?_ ks.length ⟨0, by omega, rfl, rfl, by simp⟩
  rintro n a H' ⟨i, hin, rfl, rfl, hd⟩
  by_cases hlt : i < ks.length
  · rw [List.drop_eq_getElem_cons hlt, List.map_cons, ff] at hd
    have hc1 := fits1_calls ks[i]
    cases hs : shortB ks[i] with
    | true =>
      rw [hs] at hd hc1
      repeat' (first | with_reducible refine go0 ?_ | (with_reducible refine am_cnd ?_ ?_ <;> intro hc <;> try (exfalso; omega)) | ((first | with_reducible (first | refine go1 ?_ | refine vc_intro ?_ | refine need_el ?_ | refine vlen_a ?_ | refine need_by ?_ | refine call_of (hc1) ?_ | refine qcall_of (hc1) ?_ | refine need_lk ?_) | done) <;> (try simp -implicitDefEqProofs (disch := omega) only [go_sem, wrap_id, strE_len, strE_get hlt, Bool.not_true, ent_fits1, true_and, List.nil_append, List.append_nil, List.cons_append])))
      all_goals exact ⟨n - 1, by omega, i + 1, by omega, rfl, by rw [hd, if_pos rfl, Option.map_map]; congr 1; funext x; simp only [Function.comp]; omega⟩
    | false =>
      rw [hs] at hd hc1
      repeat' (first | with_reducible refine go0 ?_ | (with_reducible refine am_cnd ?_ ?_ <;> intro hc <;> try (exfalso; omega)) | ((first | with_reducible (first | refine go1 ?_ | refine vc_intro ?_ | refine need_el ?_ | refine vlen_a ?_ | refine need_by ?_ | refine call_of (hc1) ?_ | refine qcall_of (hc1) ?_ | refine need_lk ?_) | done) <;> (try simp -implicitDefEqProofs (disch := omega) only [go_sem, wrap_id, strE_len, strE_get hlt, Bool.not_false, ent_fits1, true_and, List.nil_append, List.append_nil, List.cons_append])))
      all_goals exact end_eq (by simp [ffI, hd]) (AH.le_refl _)
  · rw [List.drop_eq_nil_of_le (by omega), List.map_nil, ff, Option.map_none] at hd
    repeat' (first | with_reducible refine go0 ?_ | (with_reducible refine am_cnd ?_ ?_ <;> intro hc <;> try (exfalso; omega)) | ((first | with_reducible (first | refine go1 ?_ | refine vc_intro ?_ | refine need_el ?_ | refine vlen_a ?_ | refine need_by ?_ | refine need_lk ?_) | done) <;> (try simp -implicitDefEqProofs (disch := omega) only [go_sem, strE_len])))
    all_goals exact end_eq (by simp [ffI, hd]) (AH.le_refl _)
theorem cons_calls {ks : List (List UInt8)} {t : Tok} (hl : ks.length < 1000000000000000000) (H : AH) : ACalls Tryz.prog 73 [.sl 1 (strE ks) t, .func (.func 74) [] []] H (fun o H' => o = .ret (.bool (!ks.all shortB)) ∧ H' = H) := by
  refine ACalls.drop ?_
  refine acalls Tryz.func73 c73 r73 (by simp [Tryz.ntmps73]) ?_
  have h := ffI_all (ks.map shortB)
  rw [List.all_map] at h
  have h' : ks.all (id ∘ shortB) = ks.all shortB := rfl
  rw [h'] at h
  cases ha : ks.all shortB with
  | true =>
    have hn : ¬ 0 ≤ ffI (ks.map shortB) := by rw [h, ha]; simp
    repeat' (first | with_reducible refine go0 ?_ | (with_reducible refine am_cnd ?_ ?_ <;> intro hc <;> try (exfalso; omega)) | ((first | with_reducible (first | refine go1 ?_ | refine vc_intro ?_ | refine need_el ?_ | refine vlen_a ?_ | refine need_by ?_ | refine call_of (idxs_calls hl) ?_ | refine qcall_of (idxs_calls hl) ?_ | refine need_lk ?_) | done) <;> (try simp -implicitDefEqProofs (disch := omega) only [go_sem, hn])))
    all_goals (refine drop_end (by (first | exact fun _ _ h => h | (intro s x h; first | exact no_sub _ h | exact nil_no _ h | exact AccP.sub (by assumption) _ _ h | (refine agg_sub rfl ?_ x h; repeat (first | exact .nil | refine .cons (fun _ h => h) ?_ | refine .cons (fun _ h => nil_no _ h) ?_ | refine .cons (fun _ h => no_sub _ h) ?_ | refine .cons (fun _ h => AccP.sub (by assumption) _ _ h) ?_)) | (refine tuple_sub ?_ x h; repeat (first | exact .nil | refine .cons (fun _ h => h) ?_ | refine .cons (fun _ h => nil_no _ h) ?_ | refine .cons (fun _ h => no_sub _ h) ?_ | refine .cons (fun _ h => AccP.sub (by assumption) _ _ h) ?_ | refine .cons (fun _ h => agg_sub rfl (by repeat (first | exact .nil | refine .cons (fun _ h => h) ?_ | refine .cons (fun _ h => nil_no _ h) ?_ | refine .cons (fun _ h => no_sub _ h) ?_ | refine .cons (fun _ h => AccP.sub (by assumption) _ _ h) ?_)) _ h) ?_))))) (by (repeat (first | exact AH.le_refl _ | assumption | exact AccP.le (by assumption) | refine AH.le_put ?_ (by first | assumption | exact none_of_le (by assumption) (by assumption) | exact And.right (by assumption) | exact And.right (And.right (by assumption))) _ | refine AH.le_trans ?_ (AccP.le (by assumption))))))
  | false =>
    have hn : 0 ≤ ffI (ks.map shortB) := h.2 ha
    repeat' (first | with_reducible refine go0 ?_ | (with_reducible refine am_cnd ?_ ?_ <;> intro hc <;> try (exfalso; omega)) | ((first | with_reducible (first | refine go1 ?_ | refine vc_intro ?_ | refine need_el ?_ | refine vlen_a ?_ | refine need_by ?_ | refine call_of (idxs_calls hl) ?_ | refine qcall_of (idxs_calls hl) ?_ | refine need_lk ?_) | done) <;> (try simp -implicitDefEqProofs (disch := omega) only [go_sem, hn])))
    all_goals (refine drop_end (by (first | exact fun _ _ h => h | (intro s x h; first | exact no_sub _ h | exact nil_no _ h | exact AccP.sub (by assumption) _ _ h | (refine agg_sub rfl ?_ x h; repeat (first | exact .nil | refine .cons (fun _ h => h) ?_ | refine .cons (fun _ h => nil_no _ h) ?_ | refine .cons (fun _ h => no_sub _ h) ?_ | refine .cons (fun _ h => AccP.sub (by assumption) _ _ h) ?_)) | (refine tuple_sub ?_ x h; repeat (first | exact .nil | refine .cons (fun _ h => h) ?_ | refine .cons (fun _ h => nil_no _ h) ?_ | refine .cons (fun _ h => no_sub _ h) ?_ | refine .cons (fun _ h => AccP.sub (by assumption) _ _ h) ?_ | refine .cons (fun _ h => agg_sub rfl (by repeat (first | exact .nil | refine .cons (fun _ h => h) ?_ | refine .cons (fun _ h => nil_no _ h) ?_ | refine .cons (fun _ h => no_sub _ h) ?_ | refine .cons (fun _ h => AccP.sub (by assumption) _ _ h) ?_)) _ h) ?_))))) (by (repeat (first | exact AH.le_refl _ | assumption | exact AccP.le (by assumption) | refine AH.le_put ?_ (by first | assumption | exact none_of_le (by assumption) (by assumption) | exact And.right (by assumption) | exact And.right (And.right (by assumption))) _ | refine AH.le_trans ?_ (AccP.le (by assumption))))))
theorem keys_len {v : Vl} (h : v.Ok) : v.keys.length * 16 ≤ 100000000000000 := by
  cases h with
  | map es h1 h2 h3 h4 => rw [Vl.keys, kys_length]; exact h1
  | _ => simp [Vl.keys]
theorem fits_calls {m : Rv} {v : Vl} (hs : Sm v m) (ho : v.Ok) {g : Nat} {H : AH} (hg : H g = some .nodr) : ACalls Tryz.prog 47 [.agg [vV v]] H (fun o H' => o = .ret (.bool (fitsQ m)) ∧ H' = H) := by
  refine ACalls.drop ?_
  have hkl := keys_len ho
  cases hs with
  | mk _ _ hK hB hS hl hk hN hP hi =>
  have h3 := short_calls v.isT.1
  have h4 := cons_calls (ks := v.keys) (t := .no) (by omega)
  rw [hS] at h3
  unfold fitsQ
  refine acalls Tryz.func47 c47 r47 (by simp [Tryz.ntmps47]) ?_
  cases hq : shortB m.S with
  | false =>
    rw [hq] at h3
    repeat' (first | with_reducible refine go0 ?_ | (with_reducible refine am_cnd ?_ ?_ <;> intro hc <;> try (exfalso; omega)) | ((first | with_reducible (first | refine go1 ?_ | refine vc_intro ?_ | refine need_el ?_ | refine vlen_a ?_ | refine need_by ?_ | refine call_of (text_calls v) ?_ | refine qcall_of (text_calls v) ?_ | refine call_turn (keys_calls ho hg) ?_ | refine call_of (h3) ?_ | refine qcall_of (h3) ?_ | refine call_of (h4) ?_ | refine qcall_of (h4) ?_ | refine call_turn (items_calls ho hg) ?_ | refine need_lk ?_) | ((with_reducible (first | apply gd_not | apply gd_of | apply gq_not | apply gq_of | apply pickB_of)) <;> intro hc <;> (try simp -implicitDefEqProofs (disch := omega) only [go_sem, hc, hS, vE_length, Bool.not_true, Bool.not_false]) <;> (try simp only [reduceCtorEq, bD, beq_iff_eq] at hc) <;> (try (exfalso; omega))) | ((with_reducible refine alloc_intro (fun ko hko => ?_)) <;> (try have hne := fresh_ne (by assumption) hko) <;> (try have hnk := fresh_ne hk hko) <;> (try simp only [AH.put_none] at hko)) | done) <;> (try simp -implicitDefEqProofs (disch := omega) only [go_sem, hS, vE_length, Bool.not_true, Bool.not_false])))
    all_goals (refine drop_end (by (first | exact fun _ _ h => h | (intro s x h; first | exact no_sub _ h | exact nil_no _ h | exact AccP.sub (by assumption) _ _ h | (refine agg_sub rfl ?_ x h; repeat (first | exact .nil | refine .cons (fun _ h => h) ?_ | refine .cons (fun _ h => nil_no _ h) ?_ | refine .cons (fun _ h => no_sub _ h) ?_ | refine .cons (fun _ h => AccP.sub (by assumption) _ _ h) ?_)) | (refine tuple_sub ?_ x h; repeat (first | exact .nil | refine .cons (fun _ h => h) ?_ | refine .cons (fun _ h => nil_no _ h) ?_ | refine .cons (fun _ h => no_sub _ h) ?_ | refine .cons (fun _ h => AccP.sub (by assumption) _ _ h) ?_ | refine .cons (fun _ h => agg_sub rfl (by repeat (first | exact .nil | refine .cons (fun _ h => h) ?_ | refine .cons (fun _ h => nil_no _ h) ?_ | refine .cons (fun _ h => no_sub _ h) ?_ | refine .cons (fun _ h => AccP.sub (by assumption) _ _ h) ?_)) _ h) ?_))))) (by (repeat (first | exact AH.le_refl _ | assumption | exact AccP.le (by assumption) | refine AH.le_put ?_ (by first | assumption | exact none_of_le (by assumption) (by assumption) | exact And.right (by assumption) | exact And.right (And.right (by assumption))) _ | refine AH.le_trans ?_ (AccP.le (by assumption))))))
  | true =>
    rw [hq] at h3
    rw [hk] at h4
    cases hr : m.Keys.all shortB with
    | false =>
      rw [hr] at h4
      repeat' (first | with_reducible refine go0 ?_ | (with_reducible refine am_cnd ?_ ?_ <;> intro hc <;> try (exfalso; omega)) | ((first | with_reducible (first | refine go1 ?_ | refine vc_intro ?_ | refine need_el ?_ | refine vlen_a ?_ | refine need_by ?_ | refine call_of (text_calls v) ?_ | refine qcall_of (text_calls v) ?_ | refine call_turn (keys_calls ho hg) ?_ | refine call_of (h3) ?_ | refine qcall_of (h3) ?_ | refine call_of (h4) ?_ | refine qcall_of (h4) ?_ | refine call_turn (items_calls ho hg) ?_ | refine need_lk ?_) | ((with_reducible (first | apply gd_not | apply gd_of | apply gq_not | apply gq_of | apply pickB_of)) <;> intro hc <;> (try simp -implicitDefEqProofs (disch := omega) only [go_sem, hc, hS, hk, vE_length, Bool.not_true, Bool.not_false]) <;> (try simp only [reduceCtorEq, bD, beq_iff_eq] at hc) <;> (try (exfalso; omega))) | ((with_reducible refine alloc_intro (fun ko hko => ?_)) <;> (try have hne := fresh_ne (by assumption) hko) <;> (try have hnk := fresh_ne hk hko) <;> (try simp only [AH.put_none] at hko)) | done) <;> (try simp -implicitDefEqProofs (disch := omega) only [go_sem, hS, hk, vE_length, Bool.not_true, Bool.not_false])))
      all_goals (refine drop_end (by (first | exact fun _ _ h => h | (intro s x h; first | exact no_sub _ h | exact nil_no _ h | exact AccP.sub (by assumption) _ _ h | (refine agg_sub rfl ?_ x h; repeat (first | exact .nil | refine .cons (fun _ h => h) ?_ | refine .cons (fun _ h => nil_no _ h) ?_ | refine .cons (fun _ h => no_sub _ h) ?_ | refine .cons (fun _ h => AccP.sub (by assumption) _ _ h) ?_)) | (refine tuple_sub ?_ x h; repeat (first | exact .nil | refine .cons (fun _ h => h) ?_ | refine .cons (fun _ h => nil_no _ h) ?_ | refine .cons (fun _ h => no_sub _ h) ?_ | refine .cons (fun _ h => AccP.sub (by assumption) _ _ h) ?_ | refine .cons (fun _ h => agg_sub rfl (by repeat (first | exact .nil | refine .cons (fun _ h => h) ?_ | refine .cons (fun _ h => nil_no _ h) ?_ | refine .cons (fun _ h => no_sub _ h) ?_ | refine .cons (fun _ h => AccP.sub (by assumption) _ _ h) ?_)) _ h) ?_))))) (by (repeat (first | exact AH.le_refl _ | assumption | exact AccP.le (by assumption) | refine AH.le_put ?_ (by first | assumption | exact none_of_le (by assumption) (by assumption) | exact And.right (by assumption) | exact And.right (And.right (by assumption))) _ | refine AH.le_trans ?_ (AccP.le (by assumption))))))
    | true =>
      rw [hr] at h4
      repeat' (first | with_reducible refine go0 ?_ | (with_reducible refine am_cnd ?_ ?_ <;> intro hc <;> try (exfalso; omega)) | ((first | with_reducible (first | refine go1 ?_ | refine vc_intro ?_ | refine need_el ?_ | refine vlen_a ?_ | refine need_by ?_ | refine call_of (text_calls v) ?_ | refine qcall_of (text_calls v) ?_ | refine call_turn (keys_calls ho hg) ?_ | refine call_of (h3) ?_ | refine qcall_of (h3) ?_ | refine call_of (h4) ?_ | refine qcall_of (h4) ?_ | refine call_turn (items_calls ho hg) ?_ | refine need_lk ?_) | ((with_reducible (first | apply gd_not | apply gd_of | apply gq_not | apply gq_of | apply pickB_of)) <;> intro hc <;> (try simp -implicitDefEqProofs (disch := omega) only [go_sem, hc, hS, hk, hl, vE_length, Bool.not_true, Bool.not_false]) <;> (try simp only [reduceCtorEq, bD, beq_iff_eq] at hc) <;> (try (exfalso; omega))) | ((with_reducible refine alloc_intro (fun ko hko => ?_)) <;> (try have hne := fresh_ne (by assumption) hko) <;> (try have hnk := fresh_ne hk hko) <;> (try simp only [AH.put_none] at hko)) | done) <;> (try simp -implicitDefEqProofs (disch := omega) only [go_sem, hS, hk, hl, vE_length, Bool.not_true, Bool.not_false])))
      all_goals refine end_eq (congrArg V.bool ?_) (AH.le_refl _)
      all_goals (rw [Bool.true_and, Bool.true_and, Bool.eq_iff_iff, decide_eq_true_eq, decide_eq_true_eq]; omega)
end Go.Proofs.YtoicninkfmfnbaaGreat
namespace Go.Proofs.YtoicninkfmfnbaaGreat
open Go.Vm Go.Sort
attribute [local go_sem] eq_self decide_true decide_false AH.put_ne
attribute [local go_sem_proc] Nat.reduceBEq Nat.reduceAdd Nat.reduceSub Nat.reduceMul Nat.reduceEqDiff Nat.reduceLeDiff Nat.reduceLT Int.reduceLE Int.reduceLT Int.reduceToNat Int.reduceAdd Int.reduceEq Int.reduceNeg
attribute [local go_sem] List.drop_zero toNat_succ Nat.sub_zero Int.toNat_natCast Option.map_some Int.natCast_nonneg decide_eq_true_eq decide_eq_false_iff_not
/- (flange/value.Value).each -/
abbrev k46_0 : MC :=
 (.seq (.reg [
 vl 5 (.load false 1 (.t 3)),
 vl 6 (.load true 1 (.t 2)),
 ⟨some 7, none, .callv (.t 5) [(.t 6)]⟩,
 mv 8 7,
 ⟨some 9, (some (8, true)), .val (.load true 1 (.t 2))⟩,
 ⟨some 10, (some (8, true)), .call 39 [(.t 9)]⟩,
 ⟨some 11, (some (8, true)), .val (.mkfn (.func 72) [] [(.t 3)])⟩,
 ⟨some 12, (some (8, true)), .call 71 [(.t 10), (.t 11)]⟩,
 ⟨some 13, (some (8, true)), .val (.not (.t 12))⟩,
 vl 14 (.pick (.t 8) (.t 13) (.c (.bool false))),
 mv 4 14] [4]) (.ret))
abbrev k46 : MC :=
 (.seq (.reg [
 ⟨some 2, none, .boxi (.t 0)⟩,
 ⟨some 3, none, .box (.t 1)⟩,
 vl 4 (.mv (.c (.bool false)))] [2, 3]) k46_0)
theorem c46 : Tryz.f46.body.bind (mcOf Tryz.prog (List.contains [2] ·) (List.getD [([], [2, 3]), ([], [4])] · ([], [])) 15) = some k46 := by kernel_rfl
theorem r46 : rvsOf Tryz.prog Tryz.f46.results.toList = some [.tmp 4] := by kernel_rfl
/- (flange/value.Value).each$1 -/
abbrev k72_0 : MC :=
 (.seq (.reg [
 vl 4 (.load true 1 (.t 2)),
 vl 5 (.load false 1 (.t 1)),
 ⟨some 6, none, .call 46 [(.t 4), (.t 5)]⟩,
 vl 7 (.not (.t 6)),
 mv 3 7] [3]) (.ret))
abbrev k72 : MC :=
 (.seq (.reg [
 ⟨some 2, none, .boxi (.t 0)⟩,
 vl 3 (.mv (.c (.bool false)))] [1, 2]) k72_0)
theorem c72 : Tryz.f72.body.bind (mcOf Tryz.prog (List.contains [2] ·) (List.getD [([], [1, 2]), ([], [3])] · ([], [])) 8) = some k72 := by kernel_rfl
theorem r72 : rvsOf Tryz.prog Tryz.f72.results.toList = some [.tmp 3] := by kernel_rfl
/- slices.ContainsFunc[[]flange/value.Value,flange/value.Value] -/
abbrev k71_0 : MC :=
 (.seq (.reg [
 mv 5 0,
 mv 6 1,
 ⟨some 7, none, .call 88 [(.t 5), (.t 6)]⟩,
 vl 8 (.bin .geq .num (.t 7) (.c (.int .i64 0))),
 mv 4 8] [4]) (.ret))
abbrev k71 : MC :=
 (.seq (.reg [
 vl 4 (.mv (.c (.bool false)))] [0, 1]) k71_0)
theorem c71 : Tryz.f71.body.bind (mcOf Tryz.prog (List.contains [] ·) (List.getD [([], [0, 1]), ([], [4])] · ([], [])) 9) = some k71 := by kernel_rfl
theorem r71 : rvsOf Tryz.prog Tryz.f71.results.toList = some [.tmp 4] := by kernel_rfl
/- slices.IndexFunc[[]flange/value.Value,flange/value.Value] -/
abbrev k88_0 : MC :=
 .cond (.t 16) ((.seq (.reg [
 mv 17 5,
 mv 4 17] [4]) (.ret))) (.skip)
abbrev k88_1 : MC :=
 (.seq (.reg [
 mv 11 1,
 mv 12 0,
 mv 13 5,
 vl 14 (.iaddr 1 (.t 12) (.t 13)),
 vl 15 (.load true 1 (.t 14)),
 ⟨some 16, none, .callv (.t 11) [(.t 15)]⟩] [0, 1, 5, 7, 8, 16]) k88_0)
abbrev k88_2 : MC :=
 .reg [
 vl 18 (.bin .add .num (.t 8) (.c (.int .i64 1))),
 mv 8 18] [0, 1, 7, 8]
abbrev k88_3 : MC :=
 (.seq (.block 1 ((.seq (.reg [
 mv 10 8,
 mv 5 10] [0, 1, 5, 7, 8]) k88_1))) k88_2)
abbrev k88_4 : MC :=
 (.seq (.cond (.t 9) (.skip) (.exit 0)) k88_3)
abbrev k88_5 : MC :=
 (.seq (.reg [
 vl 9 (.bin .lss .num (.t 8) (.t 7))] [0, 1, 7, 8, 9]) k88_4)
abbrev k88_6 : MC :=
 .block 0 (.loop k88_5)
abbrev k88_7 : MC :=
 (.seq (.reg [
 vl 4 (.mv (.c (.int .i64 (-1))))] [4]) (.ret))
abbrev k88_8 : MC :=
 (.seq ((.seq (.reg [
 mv 6 0,
 vl 7 (.len .sl (.t 6)),
 vl 8 (.mv (.c (.int .i64 0)))] [0, 1, 7, 8]) k88_6)) k88_7)
abbrev k88 : MC :=
 (.seq (.reg [
 vl 4 (.mv (.c (.int .i64 0)))] [0, 1]) k88_8)
theorem c88 : Tryz.f88.body.bind (mcOf Tryz.prog (List.contains [] ·) (List.getD [([], [0, 1]), ([], [0, 1, 7, 8]), ([], [0, 1, 7, 8, 9]), ([], [0, 1, 5, 7, 8]), ([], [0, 1, 5, 7, 8, 16]), ([], [4]), ([], [0, 1, 7, 8]), ([], [4])] · ([], [])) 19) = some k88 := by kernel_rfl
theorem r88 : rvsOf Tryz.prog Tryz.f88.results.toList = some [.tmp 4] := by kernel_rfl
/- (flange/value.Value).Right -/
abbrev k21_0 : MC :=
 (.seq (.reg [
 vl 3 (.load true 1 (.t 1)),
 ⟨some 4, none, .call 45 [(.t 3)]⟩,
 vl 5 (.bin .leq .num (.t 4) (.c (.int .i64 8))),
 mv 6 5,
 ⟨some 7, (some (6, true)), .val (.load true 1 (.t 1))⟩,
 ⟨some 8, (some (6, true)), .call 46 [(.t 7), (.c (.func (.func 47) [] []))]⟩,
 vl 9 (.pick (.t 6) (.t 8) (.c (.bool false))),
 mv 2 9] [2]) (.ret))
abbrev k21 : MC :=
 (.seq (.reg [
 ⟨some 1, none, .boxi (.t 0)⟩,
 vl 2 (.mv (.c (.bool false)))] [1]) k21_0)
theorem c21 : Tryz.f21.body.bind (mcOf Tryz.prog (List.contains [1] ·) (List.getD [([], [1]), ([], [2])] · ([], [])) 10) = some k21 := by kernel_rfl
theorem r21 : rvsOf Tryz.prog Tryz.f21.results.toList = some [.tmp 2] := by kernel_rfl
theorem ent_each1 : entered Tryz.prog 72 = true := by kernel_rfl
section
variable {f : Nat} {q : Rv → Bool}
abbrev EachAt (f : Nat) (q : Rv → Bool) (m : Rv) : Prop := ∀ (v : Vl), Sm v m → v.Ok → ∀ (g : Nat) (H : AH), H g = some .nodr → ACalls Tryz.prog 46 [.agg [vV v], .func (.func f) [] []] H (fun o H' => o = .ret (.bool (allM q m)) ∧ H' = H)
theorem each1_calls {m : Rv} (ih : EachAt f q m) {v : Vl} (hs : Sm v m) (ho : v.Ok) {g kb : Nat} {H : AH} (hg : H g = some .nodr) (hk : H kb = some (.cells [.func (.func f) [] []])) :
    ACalls Tryz.prog 72 [.agg [vV v], .ptr kb 0] H (fun o H' => o = .ret (.bool (!allM q m)) ∧ H' = H) := by
  refine ACalls.drop ?_
  refine acalls Tryz.func72 c72 r72 (by simp [Tryz.ntmps72]) ?_
  repeat' (first | with_reducible refine go0 ?_ | (with_reducible refine am_cnd ?_ ?_ <;> intro hc <;> try (exfalso; omega)) | ((first | with_reducible (first | refine go1 ?_ | refine vc_intro ?_ | refine need_el ?_ | refine vlen_a ?_ | refine need_by ?_ | refine call_turn (ih v hs ho _ _ hg) ?_ | refine need_lk ?_) | ((with_reducible refine alloc_intro (fun ko hko => ?_)) <;> (try have hne := fresh_ne (by assumption) hko) <;> (try have hnk := fresh_ne hk hko) <;> (try simp only [AH.put_none] at hko)) | done) <;> (try simp -implicitDefEqProofs (disch := omega) only [go_sem, hk])))
  all_goals (refine drop_end (by (first | exact fun _ _ h => h | (intro s x h; first | exact no_sub _ h | exact nil_no _ h | exact AccP.sub (by assumption) _ _ h | (refine agg_sub rfl ?_ x h; repeat (first | exact .nil | refine .cons (fun _ h => h) ?_ | refine .cons (fun _ h => nil_no _ h) ?_ | refine .cons (fun _ h => no_sub _ h) ?_ | refine .cons (fun _ h => AccP.sub (by assumption) _ _ h) ?_)) | (refine tuple_sub ?_ x h; repeat (first | exact .nil | refine .cons (fun _ h => h) ?_ | refine .cons (fun _ h => nil_no _ h) ?_ | refine .cons (fun _ h => no_sub _ h) ?_ | refine .cons (fun _ h => AccP.sub (by assumption) _ _ h) ?_ | refine .cons (fun _ h => agg_sub rfl (by repeat (first | exact .nil | refine .cons (fun _ h => h) ?_ | refine .cons (fun _ h => nil_no _ h) ?_ | refine .cons (fun _ h => no_sub _ h) ?_ | refine .cons (fun _ h => AccP.sub (by assumption) _ _ h) ?_)) _ h) ?_))))) (by (repeat (first | exact AH.le_refl _ | assumption | exact AccP.le (by assumption) | refine AH.le_put ?_ (by first | assumption | exact none_of_le (by assumption) (by assumption) | exact And.right (by assumption) | exact And.right (And.right (by assumption))) _ | refine AH.le_trans ?_ (AccP.le (by assumption))))))
theorem idxv_calls {m : Rv} {v : Vl} (ih : ∀ x ∈ m.L, EachAt f q x) (hl : v.items.length = m.L.length) (hi : ∀ i (h : i < v.items.length) (h2 : i < m.L.length), Sm v.items[i] m.L[i]) (ho : v.Ok) {g kb : Nat} {H : AH} (hg : H g = some .nodr) (hk : H kb = some (.cells [.func (.func f) [] []])) :
    ACalls Tryz.prog 88 [.sl 1 (vE v.items) .no, .func (.func 72) [] [.ptr kb 0]] H (fun o H' => o = .ret (.int .i64 (ffI (m.L.map (allM q)))) ∧ H' = H) := by
  refine ACalls.drop ?_
  have hil := items_len ho
  refine acalls Tryz.func88 c88 r88 (by simp [Tryz.ntmps88]) ?_
  repeat' (first | with_reducible refine go0 ?_ | (with_reducible refine am_cnd ?_ ?_ <;> intro hc <;> try (exfalso; omega)) | ((first | with_reducible (first | refine go1 ?_ | refine vc_intro ?_ | refine need_el ?_ | refine vlen_a ?_ | refine need_by ?_ | refine need_lk ?_) | done) <;> (try simp -implicitDefEqProofs (disch := omega) only [go_sem, vE_length])))
  refine am_loop (fun n a H' => ∃ i : Nat, i + n = m.L.length ∧ a = [(0, .sl 1 (vE v.items) .no), (1, .func (.func 72) [] [.ptr kb 0]), (7, .int .i64 v.items.length), (8, .int .i64 i)] ∧ H' = H ∧ ff (m.L.map (allM q)) = (ff ((m.L.drop i).map (allM q))).map (· + i)) ?_ m.L.length ⟨0, by omega, rfl, rfl, by simp⟩
  rintro n a H' ⟨i, hin, rfl, rfl, hd⟩
  by_cases hlt : i < m.L.length
  · have hlt1 : i < v.items.length := by omega
    rw [List.drop_eq_getElem_cons hlt, List.map_cons, ff] at hd
    have hc1 := each1_calls (ih m.L[i] (List.getElem_mem hlt)) (hi i hlt1 hlt) (Ok.items ho _ (List.getElem_mem hlt1)) hg hk
    cases hq : allM q m.L[i] with
    | true =>
      rw [hq] at hd hc1
      repeat' (first | with_reducible refine go0 ?_ | (with_reducible refine am_cnd ?_ ?_ <;> intro hc <;> try (exfalso; omega)) | ((first | with_reducible (first | refine go1 ?_ | refine vc_intro ?_ | refine need_el ?_ | refine vlen_a ?_ | refine need_by ?_ | refine call_turn (hc1) ?_ | refine need_lk ?_) | done) <;> (try simp -implicitDefEqProofs (disch := omega) only [go_sem, wrap_id, hl, vE_length, vE_get hlt1, Bool.not_true, ent_each1, true_and, List.nil_append, List.append_nil, List.cons_append])))
      all_goals exact ⟨n - 1, by omega, i + 1, by omega, rfl, by rw [hd, if_pos rfl, Option.map_map]; congr 1; funext x; simp only [Function.comp]; omega⟩
    | false =>
      rw [hq] at hd hc1
      repeat' (first | with_reducible refine go0 ?_ | (with_reducible refine am_cnd ?_ ?_ <;> intro hc <;> try (exfalso; omega)) | ((first | with_reducible (first | refine go1 ?_ | refine vc_intro ?_ | refine need_el ?_ | refine vlen_a ?_ | refine need_by ?_ | refine call_turn (hc1) ?_ | refine need_lk ?_) | done) <;> (try simp -implicitDefEqProofs (disch := omega) only [go_sem, wrap_id, hl, vE_length, vE_get hlt1, Bool.not_false, ent_each1, true_and, List.nil_append, List.append_nil, List.cons_append])))
      all_goals exact end_eq (by simp [ffI, hd]) (AH.le_refl _)
  · rw [List.drop_eq_nil_of_le (by omega), List.map_nil, ff, Option.map_none] at hd
    repeat' (first | with_reducible refine go0 ?_ | (with_reducible refine am_cnd ?_ ?_ <;> intro hc <;> try (exfalso; omega)) | ((first | with_reducible (first | refine go1 ?_ | refine vc_intro ?_ | refine need_el ?_ | refine vlen_a ?_ | refine need_by ?_ | refine need_lk ?_) | done) <;> (try simp -implicitDefEqProofs (disch := omega) only [go_sem, vE_length, hl])))
    all_goals exact end_eq (by simp [ffI, hd]) (AH.le_refl _)
theorem conv_calls {m : Rv} {v : Vl} (ih : ∀ x ∈ m.L, EachAt f q x) (hl : v.items.length = m.L.length) (hi : ∀ i (h : i < v.items.length) (h2 : i < m.L.length), Sm v.items[i] m.L[i]) (ho : v.Ok) {g kb : Nat} {H : AH} (hg : H g = some .nodr) (hk : H kb = some (.cells [.func (.func f) [] []])) :
    ACalls Tryz.prog 71 [.sl 1 (vE v.items) .no, .func (.func 72) [] [.ptr kb 0]] H (fun o H' => o = .ret (.bool (!m.L.all (allM q))) ∧ H' = H) := by
  refine ACalls.drop ?_
  have h := ffI_all (m.L.map (allM q))
  rw [List.all_map] at h
  have h' : m.L.all (id ∘ allM q) = m.L.all (allM q) := rfl
  rw [h'] at h
  refine acalls Tryz.func71 c71 r71 (by simp [Tryz.ntmps71]) ?_
  cases ha : m.L.all (allM q) with
  | true =>
    have hn : ¬ 0 ≤ ffI (m.L.map (allM q)) := by rw [h, ha]; simp
    repeat' (first | with_reducible refine go0 ?_ | (with_reducible refine am_cnd ?_ ?_ <;> intro hc <;> try (exfalso; omega)) | ((first | with_reducible (first | refine go1 ?_ | refine vc_intro ?_ | refine need_el ?_ | refine vlen_a ?_ | refine need_by ?_ | refine call_turn (idxv_calls ih hl hi ho hg hk) ?_ | refine need_lk ?_) | done) <;> (try simp -implicitDefEqProofs (disch := omega) only [go_sem, hn])))
    all_goals (refine drop_end (by (first | exact fun _ _ h => h | (intro s x h; first | exact no_sub _ h | exact nil_no _ h | exact AccP.sub (by assumption) _ _ h | (refine agg_sub rfl ?_ x h; repeat (first | exact .nil | refine .cons (fun _ h => h) ?_ | refine .cons (fun _ h => nil_no _ h) ?_ | refine .cons (fun _ h => no_sub _ h) ?_ | refine .cons (fun _ h => AccP.sub (by assumption) _ _ h) ?_)) | (refine tuple_sub ?_ x h; repeat (first | exact .nil | refine .cons (fun _ h => h) ?_ | refine .cons (fun _ h => nil_no _ h) ?_ | refine .cons (fun _ h => no_sub _ h) ?_ | refine .cons (fun _ h => AccP.sub (by assumption) _ _ h) ?_ | refine .cons (fun _ h => agg_sub rfl (by repeat (first | exact .nil | refine .cons (fun _ h => h) ?_ | refine .cons (fun _ h => nil_no _ h) ?_ | refine .cons (fun _ h => no_sub _ h) ?_ | refine .cons (fun _ h => AccP.sub (by assumption) _ _ h) ?_)) _ h) ?_))))) (by (repeat (first | exact AH.le_refl _ | assumption | exact AccP.le (by assumption) | refine AH.le_put ?_ (by first | assumption | exact none_of_le (by assumption) (by assumption) | exact And.right (by assumption) | exact And.right (And.right (by assumption))) _ | refine AH.le_trans ?_ (AccP.le (by assumption))))))
  | false =>
    have hn : 0 ≤ ffI (m.L.map (allM q)) := h.2 ha
    repeat' (first | with_reducible refine go0 ?_ | (with_reducible refine am_cnd ?_ ?_ <;> intro hc <;> try (exfalso; omega)) | ((first | with_reducible (first | refine go1 ?_ | refine vc_intro ?_ | refine need_el ?_ | refine vlen_a ?_ | refine need_by ?_ | refine call_turn (idxv_calls ih hl hi ho hg hk) ?_ | refine need_lk ?_) | done) <;> (try simp -implicitDefEqProofs (disch := omega) only [go_sem, hn])))
    all_goals (refine drop_end (by (first | exact fun _ _ h => h | (intro s x h; first | exact no_sub _ h | exact nil_no _ h | exact AccP.sub (by assumption) _ _ h | (refine agg_sub rfl ?_ x h; repeat (first | exact .nil | refine .cons (fun _ h => h) ?_ | refine .cons (fun _ h => nil_no _ h) ?_ | refine .cons (fun _ h => no_sub _ h) ?_ | refine .cons (fun _ h => AccP.sub (by assumption) _ _ h) ?_)) | (refine tuple_sub ?_ x h; repeat (first | exact .nil | refine .cons (fun _ h => h) ?_ | refine .cons (fun _ h => nil_no _ h) ?_ | refine .cons (fun _ h => no_sub _ h) ?_ | refine .cons (fun _ h => AccP.sub (by assumption) _ _ h) ?_ | refine .cons (fun _ h => agg_sub rfl (by repeat (first | exact .nil | refine .cons (fun _ h => h) ?_ | refine .cons (fun _ h => nil_no _ h) ?_ | refine .cons (fun _ h => no_sub _ h) ?_ | refine .cons (fun _ h => AccP.sub (by assumption) _ _ h) ?_)) _ h) ?_))))) (by (repeat (first | exact AH.le_refl _ | assumption | exact AccP.le (by assumption) | refine AH.le_put ?_ (by first | assumption | exact none_of_le (by assumption) (by assumption) | exact And.right (by assumption) | exact And.right (And.right (by assumption))) _ | refine AH.le_trans ?_ (AccP.le (by assumption))))))
theorem each_calls (he : entered Tryz.prog f = true) (hp : ∀ (m : Rv) (v : Vl), Sm v m → v.Ok → ∀ (g : Nat) (H : AH), H g = some .nodr → ACalls Tryz.prog f [.agg [vV v]] H (fun o H' => o = .ret (.bool (q m)) ∧ H' = H)) : ∀ m : Rv, EachAt f q m := by
  refine Rv.ind fun m ih v hs ho g H hg => ?_
  refine ACalls.drop ?_
  have hp1 := hp m v hs ho
  cases hs with
  | mk _ _ hK hB hS hl hk hN hP hi =>
  rw [allM_eq]
  have hcv := fun {kb : Nat} {H : AH} (hg : H g = some .nodr) (hk : H kb = some (.cells [.func (.func f) [] []])) => conv_calls (kb := kb) (H := H) ih hl hi ho hg hk
  refine acalls Tryz.func46 c46 r46 (by simp [Tryz.ntmps46]) ?_
  cases hq : q m with
  | false =>
    rw [hq] at hp1
    repeat' (first | with_reducible refine go0 ?_ | (with_reducible refine am_cnd ?_ ?_ <;> intro hc <;> try (exfalso; omega)) | ((first | with_reducible (first | refine go1 ?_ | refine vc_intro ?_ | refine need_el ?_ | refine vlen_a ?_ | refine need_by ?_ | refine call_turn (hp1 _ _ (look_put hg (by assumption))) ?_ | refine need_lk ?_) | ((with_reducible (first | apply gd_not | apply gd_of | apply gq_not | apply gq_of | apply pickB_of)) <;> intro hc <;> (try simp -implicitDefEqProofs (disch := omega) only [go_sem, hc, he, true_and, List.nil_append, List.append_nil, List.cons_append, AH.put_same]) <;> (try simp only [reduceCtorEq, bD, beq_iff_eq] at hc) <;> (try (exfalso; omega))) | ((with_reducible refine alloc_intro (fun ko hko => ?_)) <;> (try have hne := fresh_ne (by assumption) hko) <;> (try have hnk := fresh_ne hk hko) <;> (try simp only [AH.put_none] at hko)) | done) <;> (try simp -implicitDefEqProofs (disch := omega) only [go_sem, he, true_and, List.nil_append, List.append_nil, List.cons_append, AH.put_same])))
    all_goals exact drop_end (fun _ _ h => h) (AH.le_put (AH.le_refl _) hko _)
  | true =>
    rw [hq] at hp1
    cases ha : m.L.all (allM q) with
    | false =>
      rw [ha] at hcv
      repeat' (first | with_reducible refine go0 ?_ | (with_reducible refine am_cnd ?_ ?_ <;> intro hc <;> try (exfalso; omega)) | ((first | with_reducible (first | refine go1 ?_ | refine vc_intro ?_ | refine need_el ?_ | refine vlen_a ?_ | refine need_by ?_ | refine call_turn (hp1 _ _ (look_put hg (by assumption))) ?_ | refine call_turn (items_calls ho (look_put hg (by assumption))) ?_ | refine call_turn (hcv (look_put hg (by assumption)) (AH.put_same _ _ _)) ?_ | refine need_lk ?_) | ((with_reducible (first | apply gd_not | apply gd_of | apply gq_not | apply gq_of | apply pickB_of)) <;> intro hc <;> (try simp -implicitDefEqProofs (disch := omega) only [go_sem, hc, he, true_and, List.nil_append, List.append_nil, List.cons_append, AH.put_same, Bool.not_true, Bool.not_false]) <;> (try simp only [reduceCtorEq, bD, beq_iff_eq] at hc) <;> (try (exfalso; omega))) | ((with_reducible refine alloc_intro (fun ko hko => ?_)) <;> (try have hne := fresh_ne (by assumption) hko) <;> (try have hnk := fresh_ne hk hko) <;> (try simp only [AH.put_none] at hko)) | done) <;> (try simp -implicitDefEqProofs (disch := omega) only [go_sem, he, true_and, List.nil_append, List.append_nil, List.cons_append, AH.put_same, Bool.not_true, Bool.not_false])))
      all_goals exact drop_end (fun _ _ h => h) (AH.le_put (AH.le_refl _) hko _)
    | true =>
      rw [ha] at hcv
      repeat' (first | with_reducible refine go0 ?_ | (with_reducible refine am_cnd ?_ ?_ <;> intro hc <;> try (exfalso; omega)) | ((first | with_reducible (first | refine go1 ?_ | refine vc_intro ?_ | refine need_el ?_ | refine vlen_a ?_ | refine need_by ?_ | refine call_turn (hp1 _ _ (look_put hg (by assumption))) ?_ | refine call_turn (items_calls ho (look_put hg (by assumption))) ?_ | refine call_turn (hcv (look_put hg (by assumption)) (AH.put_same _ _ _)) ?_ | refine need_lk ?_) | ((with_reducible (first | apply gd_not | apply gd_of | apply gq_not | apply gq_of | apply pickB_of)) <;> intro hc <;> (try simp -implicitDefEqProofs (disch := omega) only [go_sem, hc, he, true_and, List.nil_append, List.append_nil, List.cons_append, AH.put_same, Bool.not_true, Bool.not_false]) <;> (try simp only [reduceCtorEq, bD, beq_iff_eq] at hc) <;> (try (exfalso; omega))) | ((with_reducible refine alloc_intro (fun ko hko => ?_)) <;> (try have hne := fresh_ne (by assumption) hko) <;> (try have hnk := fresh_ne hk hko) <;> (try simp only [AH.put_none] at hko)) | done) <;> (try simp -implicitDefEqProofs (disch := omega) only [go_sem, he, true_and, List.nil_append, List.append_nil, List.cons_append, AH.put_same, Bool.not_true, Bool.not_false])))
      all_goals exact drop_end (fun _ _ h => h) (AH.le_put (AH.le_refl _) hko _)
end
theorem ent_fits : entered Tryz.prog 47 = true := by kernel_rfl
theorem right_calls {m : Rv} {v : Vl} (hs : Sm v m) (ho : v.Ok) {g : Nat} {H : AH} (hg : H g = some .nodr) : ACalls Tryz.prog 21 [.agg [vV v]] H (fun o H' => o = .ret (.bool (rightM m)) ∧ H' = H) := by
  refine ACalls.drop ?_
  have he := each_calls (f := 47) (q := fitsQ) ent_fits (fun m v hs ho g H hg => fits_calls hs ho hg) m v hs ho
  refine acalls Tryz.func21 c21 r21 (by simp [Tryz.ntmps21]) ?_
  by_cases hd : deepI m ≤ 8
  · repeat' (first | with_reducible refine go0 ?_ | (with_reducible refine am_cnd ?_ ?_ <;> intro hc <;> try (exfalso; omega)) | ((first | with_reducible (first | refine go1 ?_ | refine vc_intro ?_ | refine need_el ?_ | refine vlen_a ?_ | refine need_by ?_ | refine call_turn (vdeep_calls m v hs ho _ _ hg) ?_ | refine call_turn (he _ _ hg) ?_ | refine need_lk ?_) | ((with_reducible (first | apply gd_not | apply gd_of | apply gq_not | apply gq_of | apply pickB_of)) <;> intro hc <;> (try simp -implicitDefEqProofs (disch := omega) only [go_sem, hc, hd]) <;> (try simp only [reduceCtorEq, bD, beq_iff_eq] at hc) <;> (try (exfalso; omega))) | ((with_reducible refine alloc_intro (fun ko hko => ?_)) <;> (try have hne := fresh_ne (by assumption) hko) <;> (try simp only [AH.put_none] at hko)) | done) <;> (try simp -implicitDefEqProofs (disch := omega) only [go_sem, hd])))
    all_goals (rw [rightM, decide_eq_true hd, Bool.true_and]; (refine drop_end (by (first | exact fun _ _ h => h | (intro s x h; first | exact no_sub _ h | exact nil_no _ h | exact AccP.sub (by assumption) _ _ h | (refine agg_sub rfl ?_ x h; repeat (first | exact .nil | refine .cons (fun _ h => h) ?_ | refine .cons (fun _ h => nil_no _ h) ?_ | refine .cons (fun _ h => no_sub _ h) ?_ | refine .cons (fun _ h => AccP.sub (by assumption) _ _ h) ?_)) | (refine tuple_sub ?_ x h; repeat (first | exact .nil | refine .cons (fun _ h => h) ?_ | refine .cons (fun _ h => nil_no _ h) ?_ | refine .cons (fun _ h => no_sub _ h) ?_ | refine .cons (fun _ h => AccP.sub (by assumption) _ _ h) ?_ | refine .cons (fun _ h => agg_sub rfl (by repeat (first | exact .nil | refine .cons (fun _ h => h) ?_ | refine .cons (fun _ h => nil_no _ h) ?_ | refine .cons (fun _ h => no_sub _ h) ?_ | refine .cons (fun _ h => AccP.sub (by assumption) _ _ h) ?_)) _ h) ?_))))) (by (repeat (first | exact AH.le_refl _ | assumption | exact AccP.le (by assumption) | refine AH.le_put ?_ (by first | assumption | exact none_of_le (by assumption) (by assumption) | exact And.right (by assumption) | exact And.right (And.right (by assumption))) _ | refine AH.le_trans ?_ (AccP.le (by assumption)))))))
  · repeat' (first | with_reducible refine go0 ?_ | (with_reducible refine am_cnd ?_ ?_ <;> intro hc <;> try (exfalso; omega)) | ((first | with_reducible (first | refine go1 ?_ | refine vc_intro ?_ | refine need_el ?_ | refine vlen_a ?_ | refine need_by ?_ | refine call_turn (vdeep_calls m v hs ho _ _ hg) ?_ | refine call_turn (he _ _ hg) ?_ | refine need_lk ?_) | ((with_reducible (first | apply gd_not | apply gd_of | apply gq_not | apply gq_of | apply pickB_of)) <;> intro hc <;> (try simp -implicitDefEqProofs (disch := omega) only [go_sem, hc, hd]) <;> (try simp only [reduceCtorEq, bD, beq_iff_eq] at hc) <;> (try (exfalso; omega))) | ((with_reducible refine alloc_intro (fun ko hko => ?_)) <;> (try have hne := fresh_ne (by assumption) hko) <;> (try simp only [AH.put_none] at hko)) | done) <;> (try simp -implicitDefEqProofs (disch := omega) only [go_sem, hd])))
    all_goals (rw [rightM, decide_eq_false hd, Bool.false_and]; (refine drop_end (by (first | exact fun _ _ h => h | (intro s x h; first | exact no_sub _ h | exact nil_no _ h | exact AccP.sub (by assumption) _ _ h | (refine agg_sub rfl ?_ x h; repeat (first | exact .nil | refine .cons (fun _ h => h) ?_ | refine .cons (fun _ h => nil_no _ h) ?_ | refine .cons (fun _ h => no_sub _ h) ?_ | refine .cons (fun _ h => AccP.sub (by assumption) _ _ h) ?_)) | (refine tuple_sub ?_ x h; repeat (first | exact .nil | refine .cons (fun _ h => h) ?_ | refine .cons (fun _ h => nil_no _ h) ?_ | refine .cons (fun _ h => no_sub _ h) ?_ | refine .cons (fun _ h => AccP.sub (by assumption) _ _ h) ?_ | refine .cons (fun _ h => agg_sub rfl (by repeat (first | exact .nil | refine .cons (fun _ h => h) ?_ | refine .cons (fun _ h => nil_no _ h) ?_ | refine .cons (fun _ h => no_sub _ h) ?_ | refine .cons (fun _ h => AccP.sub (by assumption) _ _ h) ?_)) _ h) ?_))))) (by (repeat (first | exact AH.le_refl _ | assumption | exact AccP.le (by assumption) | refine AH.le_put ?_ (by first | assumption | exact none_of_le (by assumption) (by assumption) | exact And.right (by assumption) | exact And.right (And.right (by assumption))) _ | refine AH.le_trans ?_ (AccP.le (by assumption)))))))
end Go.Proofs.YtoicninkfmfnbaaGreat
