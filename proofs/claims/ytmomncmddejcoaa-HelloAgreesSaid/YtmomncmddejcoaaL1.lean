/- Plain laws of things that rise: two of them with the same members are the same. -/
import Derived.Test.YtmomncmddejcoaaA11
set_option linter.unusedVariables false
set_option linter.unusedSimpArgs false
namespace Go.Proofs.Ytmomncmddejcoaa
open Go.Vm
theorem rise_pair {α : Type} {lt : α → α → Bool} (tr : ∀ a b c, lt a b = true → lt b c = true → lt a c = true) : ∀ (l : List α), rise lt l = true → l.Pairwise (fun a b => lt a b = true)
  | [], _ => .nil
  | [_], _ => by simp
  | a :: b :: l, h => by
    simp only [rise, Bool.and_eq_true] at h
    have ih := rise_pair tr (b :: l) h.2
    refine List.Pairwise.cons ?_ ih
    intro c hc
    rcases List.mem_cons.1 hc with rfl | hc
    · exact h.1
    · exact tr _ _ _ h.1 (List.rel_of_pairwise_cons ih hc)
theorem same_of_pair {α : Type} {lt : α → α → Bool} (irr : ∀ a, lt a a = false) (tr : ∀ a b c, lt a b = true → lt b c = true → lt a c = true) : ∀ (l m : List α), l.Pairwise (fun a b => lt a b = true) → m.Pairwise (fun a b => lt a b = true) → (∀ x, x ∈ l ↔ x ∈ m) → l = m
  | [], [], _, _, _ => rfl
  | [], b :: m, _, _, h => by have := (h b).2 (by simp); simp at this
  | a :: l, [], _, _, h => by have := (h a).1 (by simp); simp at this
  | a :: l, b :: m, h1, h2, h => by
    have no : ∀ x y, lt x y = true → lt y x = true → False := fun x y p q => by
      have := tr _ _ _ p q
      rw [irr] at this
      cases this
    have hab : a = b := by
      rcases List.mem_cons.1 ((h a).1 (by simp)) with e | e
      · exact e
      · rcases List.mem_cons.1 ((h b).2 (by simp)) with e' | e'
        · exact e'.symm
        · exact (no _ _ (List.rel_of_pairwise_cons h1 e') (List.rel_of_pairwise_cons h2 e)).elim
    subst hab
    congr 1
    refine same_of_pair irr tr l m (List.Pairwise.of_cons h1) (List.Pairwise.of_cons h2) fun x => ?_
    constructor
    · intro hx
      rcases List.mem_cons.1 ((h x).1 (by simp [hx])) with e | e
      · subst e; have := List.rel_of_pairwise_cons h1 hx; rw [irr] at this; cases this
      · exact e
    · intro hx
      rcases List.mem_cons.1 ((h x).2 (by simp [hx])) with e | e
      · subst e; have := List.rel_of_pairwise_cons h2 hx; rw [irr] at this; cases this
      · exact e
theorem both_comm {α : Type} [DecidableEq α] {lt : α → α → Bool} (irr : ∀ a, lt a a = false) (tr : ∀ a b c, lt a b = true → lt b c = true → lt a c = true) {l m : List α} (hl : rise lt l = true) (hm : rise lt m = true) : bothL l m = bothL m l := by
  refine same_of_pair irr tr _ _ ((rise_pair tr l hl).filter _) ((rise_pair tr m hm).filter _) fun x => ?_
  simp [bothL, and_comm]
theorem less_irr : ∀ a, Op.bytesLess a a = false
  | [] => rfl
  | a :: x => by simp [Op.bytesLess, less_irr x]
theorem less_tr : ∀ a b c, Op.bytesLess a b = true → Op.bytesLess b c = true → Op.bytesLess a c = true
  | _, [], _, h, _ => by simp [Op.bytesLess] at h
  | _, _ :: _, [], _, h => by simp [Op.bytesLess] at h
  | [], _ :: _, _ :: _, _, _ => rfl
  | a :: x, b :: y, c :: z, h1, h2 => by
    simp only [Op.bytesLess, Bool.or_eq_true, Bool.and_eq_true, decide_eq_true_eq, beq_iff_eq] at *
    rcases h1 with h1 | ⟨rfl, h1⟩
    · rcases h2 with h2 | ⟨rfl, h2⟩
      · exact .inl (UInt8.lt_trans h1 h2)
      · exact .inl h1
    · rcases h2 with h2 | ⟨rfl, h2⟩
      · exact .inl h2
      · exact .inr ⟨rfl, less_tr x y z h1 h2⟩
theorem ltI_irr (a : Int) : ltI a a = false := by simp [ltI]
theorem ltI_tr (a b c : Int) (h1 : ltI a b = true) (h2 : ltI b c = true) : ltI a c = true := by
  simp only [ltI, decide_eq_true_eq] at *; omega
theorem wrong_zero {vs : List Int} {ss : List (List UInt8)} (h : wrong vs ss = 0) : vs.length ≤ 16 ∧ ss.length ≤ 16 ∧ vs ≠ [] ∧ okV vs = true ∧ okS ss = true := by
  unfold wrong at h
  split at h
  · omega
  · rename_i h1
    split at h
    · omega
    · rename_i h2
      split at h
      · omega
      · rename_i h3
        simp only [not_or, Bool.not_eq_false] at h2 h3
        exact ⟨by omega, by omega, h2.1, h2.2, h3⟩
end Go.Proofs.Ytmomncmddejcoaa
