/- Plain laws of what two hellos agree on. -/
import Derived.Test.YtmomncmddejcoaaL1
set_option linter.unusedVariables false
set_option linter.unusedSimpArgs false
namespace Go.Proofs.Ytmomncmddejcoaa
open Go.Vm
/-- The greatest version that both have. -/
def verS (va vb : List Int) : Int := (bothL va vb).foldl max 0
theorem verS_step (va vb : List Int) (i : Nat) (h : i < va.length) : verS (va.take (i + 1)) vb = if va[i] ∈ vb then max (verS (va.take i) vb) va[i] else verS (va.take i) vb := by
  rw [List.take_add_one, get_of_lt h, Option.toList_some]
  unfold verS bothL
  rw [List.filter_append, List.foldl_append]
  by_cases hm : va[i] ∈ vb <;> simp [hm]
theorem fold_last : ∀ (l : List Int) (a : Int), l.Pairwise (fun a b => ltI a b = true) → (∀ x ∈ l, a ≤ x) → ∀ h : l ≠ [], l.foldl max a = l.getLast h
  | [], _, _, _, h => (h rfl).elim
  | [x], a, _, hl, _ => by
    have := hl x (by simp)
    simp only [List.foldl_cons, List.foldl_nil, List.getLast_singleton]
    omega
  | x :: y :: l, a, hp, hl, _ => by
    have := hl x (by simp)
    rw [List.foldl_cons, show max a x = x by omega, List.getLast_cons (by simp)]
    refine fold_last (y :: l) x (List.Pairwise.of_cons hp) (fun z hz => ?_) (by simp)
    have := List.rel_of_pairwise_cons hp hz
    simp only [ltI, decide_eq_true_eq] at this
    omega
theorem ver_last {va vb : List Int} (h : okV va = true) (hne : bothL va vb ≠ []) : verS va vb = (bothL va vb).getLast hne := by
  simp only [okV, Bool.and_eq_true, List.all_eq_true] at h
  refine fold_last _ 0 ((rise_pair ltI_tr va h.1).filter _) (fun x hx => ?_) hne
  have := h.2 x ((List.mem_filter.1 hx).1)
  simp only [inV, Bool.and_eq_true, decide_eq_true_eq] at this
  omega
theorem ver_none {va vb : List Int} (h : okV va = true) : verS va vb = 0 ↔ bothL va vb = [] := by
  constructor
  · intro h0
    by_cases hne : bothL va vb = []
    · exact hne
    · rw [ver_last h hne] at h0
      have hm := (List.mem_filter.1 (List.getLast_mem hne)).1
      simp only [okV, Bool.and_eq_true, List.all_eq_true] at h
      have := h.2 _ hm
      simp only [inV, Bool.and_eq_true, decide_eq_true_eq] at this
      omega
  · intro h0
    rw [verS, h0]; rfl
theorem agree_ok {va vb : List Int} {sa sb : List (List UInt8)} (ha : wrong va sa = 0) (hb : wrong vb sb = 0) (hv : verS va vb ≠ 0) : agreeS va sa vb sb = (verS va vb, bothL sa sb, 0) := by
  obtain ⟨_, _, _, hok, _⟩ := wrong_zero ha
  have hne : bothL va vb ≠ [] := fun e => hv ((ver_none hok).2 e)
  rw [agreeS, if_neg (by simp [ha]), if_neg (by simp [hb]), if_neg hne, ver_last hok hne]
  rw [List.getLast_eq_getElem, last_get (List.length_pos_iff.2 hne)]
  rfl
theorem agree_none {va vb : List Int} {sa sb : List (List UInt8)} (ha : wrong va sa = 0) (hb : wrong vb sb = 0) (hv : verS va vb = 0) : agreeS va sa vb sb = (0, [], 8) := by
  obtain ⟨_, _, _, hok, _⟩ := wrong_zero ha
  rw [agreeS, if_neg (by simp [ha]), if_neg (by simp [hb]), if_pos ((ver_none hok).1 hv)]
theorem agree_wrong {va vb : List Int} {sa sb : List (List UInt8)} {no : Int} (h : no = if wrong va sa = 0 then wrong vb sb else wrong va sa) (hn : no ≠ 0) : agreeS va sa vb sb = (0, [], no) := by
  unfold agreeS
  by_cases h1 : wrong va sa = 0
  · rw [if_pos h1] at h
    rw [if_neg (by simp [h1]), if_pos (by omega), h]
  · rw [if_neg h1] at h
    rw [if_pos h1, h]
theorem ver_comm {va vb : List Int} (ha : okV va = true) (hb : okV vb = true) : verS vb va = verS va vb := by
  simp only [okV, Bool.and_eq_true] at ha hb
  rw [verS, verS, both_comm ltI_irr ltI_tr ha.1 hb.1]
theorem skills_comm {sa sb : List (List UInt8)} (ha : okS sa = true) (hb : okS sb = true) : bothL sb sa = bothL sa sb := by
  simp only [okS, Bool.and_eq_true] at ha hb
  rw [both_comm less_irr less_tr ha.1 hb.1]
theorem no_zero {a b no : Int} (h : no = if a = 0 then b else a) (h0 : no = 0) : a = 0 ∧ b = 0 := by
  split at h <;> omega
end Go.Proofs.Ytmomncmddejcoaa
