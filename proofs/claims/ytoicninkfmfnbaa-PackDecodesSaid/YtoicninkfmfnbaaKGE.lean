/- Of the walks of this seat: contracts of functions of the given program, proved over the abstract values of the texts Vm. Conditions: as each theorem says. -/
import Derived.Test.YtoicninkfmfnbaaKGD
set_option linter.unusedVariables false
set_option linter.unusedSimpArgs false
namespace Go.Proofs.Ytoicninkfmfnbaa
open Go.Vm Go.Sort
/-! The order of keys. -/
theorem lt_irr (a : List UInt8) : ¬ a < a := List.lt_irrefl a
theorem lt_tr {a b c : List UInt8} (h : a < b) (k : b < c) : a < c := List.lt_trans h k
theorem lt_of {a b : List UInt8} (h : ¬ a < b) (hne : a ≠ b) : b < a := by
  rcases List.le_total a b with h1 | h1
  · exact Classical.byContradiction fun h2 => hne (List.le_antisymm h1 h)
  · exact Classical.byContradiction fun h2 => hne (List.le_antisymm h2 h)
theorem kys_of {es : List (List UInt8 × Vl)} {ks : List (List UInt8)} (hp : (es.map Prod.fst).Perm ks) (hs : ks.Pairwise (· < ·)) : kys es = ks := by
  rw [kys, mergeSort_of_perm hp]
  refine List.mergeSort_of_pairwise (hs.imp fun {a b} h => ?_)
  simp only [leB, decide_eq_true_eq]
  exact fun h2 => lt_irr _ (lt_tr h h2)
end Go.Proofs.Ytoicninkfmfnbaa
namespace Go.Proofs.Ytoicninkfmfnbaa
open Go.Vm Go.Sort
theorem fnd_isSome (k : List UInt8) : ∀ es : List (List UInt8 × Vl), (fnd k es).isSome = true ↔ k ∈ es.map Prod.fst
  | [] => by simp [fnd]
  | p :: es => by
    rw [fnd, List.map_cons, List.mem_cons]
    split
    · rename_i h; simp [h]
    · rename_i h
      rw [fnd_isSome k es]
      constructor
      · exact .inr
      · rintro (h2 | h2)
        · exact absurd h2.symm h
        · exact h2
theorem fnd_of_mem {k : List UInt8} {x : Vl} : ∀ {es : List (List UInt8 × Vl)}, (es.map Prod.fst).Nodup → (k, x) ∈ es → fnd k es = some x
  | [], _, h => by simp at h
  | p :: es, hn, h => by
    rw [List.map_cons, List.nodup_cons] at hn
    rw [fnd]
    rcases List.mem_cons.1 h with h | h
    · subst h; simp
    · rw [if_neg]
      · exact fnd_of_mem hn.2 h
      · intro e; exact hn.1 (by rw [e]; exact List.mem_map_of_mem (f := Prod.fst) h)
theorem mkR_spec : ∀ (l acc : List (List UInt8 × Vl)), (acc.map Prod.fst).Nodup → mkR acc l = if ((acc ++ l).map Prod.fst).Nodup then some (acc ++ l) else none
  | [], acc, h => by rw [mkR, List.append_nil, if_pos h]
  | p :: l, acc, h => by
    rw [mkR]
    by_cases hp : (fnd p.1 acc).isSome = true
    · rw [if_pos hp, if_neg]
      intro hn
      rw [List.map_append, List.nodup_append] at hn
      exact hn.2.2 p.1 ((fnd_isSome _ _).1 hp) p.1 (by simp) rfl
    · have hn : ((acc ++ [p]).map Prod.fst).Nodup := by
        rw [List.map_append, List.nodup_append]
        refine ⟨h, by simp, fun a ha b hb e => ?_⟩
        simp at hb; subst hb; subst e
        exact hp ((fnd_isSome _ _).2 ha)
      have := mkR_spec l (acc ++ [p]) hn
      rw [if_neg hp, this, List.append_assoc]; rfl
theorem mapR_ok {ks : List (List UInt8)} {l : List Vl} (hl : ks.length = l.length) (hn : ks.Nodup) : mapR ks l = (.map (ks.zip l), 0) := by
  have := mkR_spec (ks.zip l) [] List.nodup_nil
  rw [List.nil_append, List.map_fst_zip (by omega), if_pos hn] at this
  unfold mapR
  rw [if_neg (by simpa using hl), this]
theorem mapR_twice {ks : List (List UInt8)} {l : List Vl} (hl : ks.length = l.length) (hn : ¬ ks.Nodup) : mapR ks l = (.nul, 9) := by
  have := mkR_spec (ks.zip l) [] List.nodup_nil
  rw [List.nil_append, List.map_fst_zip (by omega), if_neg hn] at this
  unfold mapR
  rw [if_neg (by simpa using hl), this]
end Go.Proofs.Ytoicninkfmfnbaa
