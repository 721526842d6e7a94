/- The order of alarms: when they ring, then names. -/
import Derived.Test.YtjlphncecdlmcaaC2
import Derived.Sort.LotA
import Derived.Shelf.SlSortCmp.Insertion
set_option linter.unusedVariables false
set_option linter.unusedSimpArgs false
namespace Go.Proofs.Ytjlphncecdlmcaa
open Go.Vm Go.Sort
theorem bl_irrefl : ∀ x : List UInt8, Op.bytesLess x x = false
  | [] => rfl
  | a :: x => by simp [Op.bytesLess, bl_irrefl x]
theorem bl_trans : ∀ x y z : List UInt8, Op.bytesLess x y = true → Op.bytesLess y z = true → Op.bytesLess x z = true
  | [], [], _, h, _ => by simp [Op.bytesLess] at h
  | _ :: _, [], _, h, _ => by simp [Op.bytesLess] at h
  | _, _ :: _, [], _, h => by simp [Op.bytesLess] at h
  | [], _ :: _, _ :: _, _, _ => rfl
  | a :: x, b :: y, c :: z, h, h' => by
    simp only [Op.bytesLess, Bool.or_eq_true, decide_eq_true_eq, Bool.and_eq_true, beq_iff_eq] at h h' ⊢
    rcases h with h | ⟨rfl, h⟩ <;> rcases h' with h' | ⟨rfl, h'⟩
    · exact .inl (UInt8.lt_trans h h')
    · exact .inl h
    · exact .inl h'
    · exact .inr ⟨rfl, bl_trans x y z h h'⟩
theorem bl_total : ∀ x y : List UInt8, Op.bytesLess x y = false → Op.bytesLess y x = false → x = y
  | [], [], _, _ => rfl
  | [], _ :: _, h, _ => by simp [Op.bytesLess] at h
  | _ :: _, [], _, h => by simp [Op.bytesLess] at h
  | a :: x, b :: y, h, h' => by
    simp only [Op.bytesLess, Bool.or_eq_false_iff, decide_eq_false_iff_not, Bool.and_eq_false_iff, beq_eq_false_iff_ne] at h h'
    have e : a = b := by
      have h1 := h.1; have h2 := h'.1
      exact UInt8.le_antisymm (UInt8.not_lt.1 h2) (UInt8.not_lt.1 h1)
    subst e
    rw [bl_total x y (by simpa using h.2) (by simpa using h'.2)]
/-- Whether x rings ahead of y. -/
def before (t : List UInt8 → Int) (x y : List UInt8) : Prop := t x < t y ∨ t x = t y ∧ Op.bytesLess x y = true
theorem alC_neg (l : List (List UInt8 × Int)) (x y : List UInt8) : ltOf (alC l) x y = true ↔ before (fun n => (alF n l).getD 0) x y := by
  have key : ∀ a b : Int, (orI [cmpI a b, cmpS x y] < 0) ↔ (a < b ∨ a = b ∧ Op.bytesLess x y = true) := by
    intro a b
    simp only [orI, cmpI, cmpS]
    by_cases h1 : a < b
    · simp [h1]
    · by_cases h2 : b < a
      · have : ¬ a = b := by omega
        simp [h1, h2, this]
      · have e : a = b := by omega
        subst e
        by_cases h3 : Op.bytesLess x y = true
        · simp [h3]
        · by_cases h4 : x = y
          · subst h4; simp [bl_irrefl]
          · simp [h3, h4]
  unfold ltOf
  rw [decide_eq_true_eq]
  exact key _ _
theorem alC_swo (l : List (List UInt8 × Int)) : SWO (ltOf (alC l)) where
  irrefl x := by
    rw [Bool.eq_false_iff]; intro h
    rcases (alC_neg l x x).1 h with h | ⟨_, h⟩
    · exact absurd h (Int.lt_irrefl _)
    · rw [bl_irrefl] at h; cases h
  trans x y z h1 h2 := by
    have h1 := (alC_neg l x y).1 h1; have h2 := (alC_neg l y z).1 h2
    refine (alC_neg l x z).2 ?_
    simp only [before] at *
    rcases h1 with h1 | ⟨e1, h1⟩ <;> rcases h2 with h2 | ⟨e2, h2⟩
    · exact .inl (by omega)
    · exact .inl (by omega)
    · exact .inl (by omega)
    · exact .inr ⟨by omega, bl_trans _ _ _ h1 h2⟩
  ntrans x y z h1 h2 := by
    rw [Bool.eq_false_iff] at *
    intro h
    have h1 := fun q => h1 ((alC_neg l x y).2 q); have h2 := fun q => h2 ((alC_neg l y z).2 q); have h := (alC_neg l x z).1 h
    simp only [before] at *
    by_cases g1 : Op.bytesLess x y = true
    · have : (alF y l).getD 0 < (alF x l).getD 0 := by
        apply Decidable.byContradiction; intro q; refine h1 ?_
        by_cases q2 : (alF x l).getD 0 < (alF y l).getD 0
        · exact .inl q2
        · exact .inr ⟨by omega, g1⟩
      by_cases g2 : (alF y l).getD 0 < (alF z l).getD 0
      · exact h2 (.inl g2)
      · rcases h with h | ⟨h, _⟩ <;> omega
    · have a1 : (alF y l).getD 0 ≤ (alF x l).getD 0 := by
        apply Decidable.byContradiction; intro q; exact h1 (.inl (by omega))
      have a2 : (alF z l).getD 0 ≤ (alF y l).getD 0 := by
        apply Decidable.byContradiction; intro q; exact h2 (.inl (by omega))
      rcases h with h | ⟨e, h⟩
      · omega
      · by_cases g2 : Op.bytesLess y z = true
        · exact h2 (.inr ⟨by omega, g2⟩)
        · by_cases g3 : x = y
          · subst g3; exact g2 h
          · have g4 : Op.bytesLess y x = true := by
              cases q : Op.bytesLess y x
              · exact absurd (bl_total x y (by simpa using g1) q) g3
              · rfl
            exact g2 (bl_trans _ _ _ g4 h)
theorem alC_total (l : List (List UInt8 × Int)) (x y : List UInt8) (h1 : ltOf (alC l) x y = false) (h2 : ltOf (alC l) y x = false) : x = y := by
  rw [Bool.eq_false_iff] at *
  have h1 := fun q => h1 ((alC_neg l x y).2 q); have h2 := fun q => h2 ((alC_neg l y x).2 q)
  simp only [before] at *
  have e : (alF x l).getD 0 = (alF y l).getD 0 := by
    have q1 : ¬ (alF x l).getD 0 < (alF y l).getD 0 := fun q => h1 (.inl q)
    have q2 : ¬ (alF y l).getD 0 < (alF x l).getD 0 := fun q => h2 (.inl q)
    omega
  exact bl_total x y (by rw [Bool.eq_false_iff]; exact fun q => h1 (.inr ⟨e, q⟩)) (by rw [Bool.eq_false_iff]; exact fun q => h2 (.inr ⟨e.symm, q⟩))
/-- The names, by when they ring. -/
def alN (l : List (List UInt8 × Int)) : List (List UInt8) := (l.map Prod.fst).mergeSort fun x y => !(ltOf (alC l)) y x
theorem sort_perm (l : List (List UInt8 × Int)) {d : List (List UInt8)} (h : d.Perm (l.map Prod.fst)) : (d.mergeSort fun x y => !(ltOf (alC l)) y x) = alN l := by
  have hS := alC_swo l
  have tr : ∀ a b c : List UInt8, (!(ltOf (alC l)) b a) = true → (!(ltOf (alC l)) c b) = true → (!(ltOf (alC l)) c a) = true := by
    intro a b c h1 h2
    simp only [Bool.not_eq_true'] at h1 h2 ⊢
    exact hS.ntrans c b a h2 h1
  have to : ∀ a b : List UInt8, (!(ltOf (alC l)) b a || !(ltOf (alC l)) a b) = true := by
    intro a b
    cases q : ltOf (alC l) b a
    · rfl
    · cases q2 : ltOf (alC l) a b
      · rfl
      · have := hS.trans a b a q2 q; rw [hS.irrefl] at this; cases this
  refine List.Perm.eq_of_pairwise (le := fun x y => (!(ltOf (alC l)) y x) = true) ?_ (List.pairwise_mergeSort tr to d) (List.pairwise_mergeSort tr to _) ((List.mergeSort_perm _ _).trans (h.trans (List.mergeSort_perm _ _).symm))
  intro a b _ _ h1 h2
  simp only [Bool.not_eq_true'] at h1 h2
  exact alC_total l a b h2 h1
end Go.Proofs.Ytjlphncecdlmcaa
