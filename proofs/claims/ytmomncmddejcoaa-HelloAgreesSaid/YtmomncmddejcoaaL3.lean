/- Of the walks of this seat: contracts of functions of the given program, proved over the abstract values of the texts Vm. Conditions: as each theorem says. -/
import Derived.Test.YtmomncmddejcoaaL2
set_option linter.unusedVariables false
set_option linter.unusedSimpArgs false
namespace Go.Proofs.Ytmomncmddejcoaa
open Go.Vm
theorem filter_at {α : Type} (p : α → Bool) : ∀ (l : List α) (i : Nat) (h : i < l.length), p l[i] = true → (l.filter p)[((l.take i).filter p).length]? = some l[i]
  | [], i, h, _ => by simp at h
  | x :: l, 0, _, hp => by simp at hp; simp [hp]
  | x :: l, i + 1, h, hp => by
    have ih := filter_at p l i (by simpa using h) (by simpa using hp)
    by_cases hx : p x = true
    · simp [hx, ih]
    · simp [hx, ih]
theorem both_at {sa sb : List (List UInt8)} {i : Nat} (h : i < sa.length) (hm : sa[i] ∈ sb) : (bothL sa sb)[(bothL (sa.take i) sb).length]? = some sa[i] :=
  by
  unfold bothL
  exact filter_at _ sa i h (by simpa using hm)
theorem both_step (sa sb : List (List UInt8)) (i : Nat) (h : i < sa.length) : bothL (sa.take (i + 1)) sb = bothL (sa.take i) sb ++ (if sa[i] ∈ sb then [sa[i]] else []) := by
  rw [List.take_add_one, get_of_lt h, Option.toList_some]
  unfold bothL
  rw [List.filter_append]
  congr 1
  by_cases hm : sa[i] ∈ sb <;> simp [hm]
theorem both_le (sa sb : List (List UInt8)) (i : Nat) : (bothL (sa.take i) sb).length ≤ i := by
  unfold bothL
  exact Nat.le_trans (List.length_filter_le _ _) (by simp; omega)
theorem ok_nodup {s : List (List UInt8)} (h : okS s = true) : s.Nodup := by
  simp only [okS, Bool.and_eq_true] at h
  exact (rise_pair less_tr s h.1).imp (fun {a b} hab e => by subst e; rw [less_irr] at hab; cases hab)
theorem nodup_not_take {s : List (List UInt8)} (h : s.Nodup) {j : Nat} (hj : j < s.length) : s[j] ∉ s.take j := by
  intro hm
  obtain ⟨k, hk, e⟩ := List.mem_iff_getElem.1 hm
  simp only [List.length_take] at hk
  rw [List.getElem_take] at e
  have := List.pairwise_iff_getElem.1 h k j (by omega) hj (by omega)
  exact this e
end Go.Proofs.Ytmomncmddejcoaa
