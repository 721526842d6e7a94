/- Plain laws of a hello's bytes. -/
import Derived.Test.YtmomncmddejcoaaH2
set_option linter.unusedVariables false
set_option linter.unusedSimpArgs false
namespace Go.Proofs.Ytmomncmddejcoaa
open Go.Vm
theorem wrong_le {va : List Int} {sa : List (List UInt8)} (h : wrong va sa = 0) : va.length ≤ 16 ∧ sa.length ≤ 16 ∧ (∀ m ∈ va, 1 ≤ m ∧ m ≤ 1000) ∧ ∀ s ∈ sa, s.length ≤ 20 := by
  unfold wrong at h
  split at h
  · omega
  · split at h
    · omega
    · split at h
      · omega
      · rename_i h1 h2 h3
        refine ⟨by omega, by omega, ?_, ?_⟩
        · intro m hm
          have h4 : okV va = true := by simpa using (fun e => h2 (.inr e) : ¬ okV va = false)
          simp only [okV, Bool.and_eq_true, List.all_eq_true, inV, decide_eq_true_eq] at h4
          exact h4.2 m hm
        · intro s hs
          have h4 : okS sa = true := by simpa using h3
          simp only [okS, Bool.and_eq_true, List.all_eq_true, named, decide_eq_true_eq] at h4
          exact (h4.2 s hs).2.2
theorem versB_le : ∀ l : List Int, (∀ m ∈ l, 1 ≤ m ∧ m ≤ 1000) → (versB l).length ≤ 10 * l.length
  | [], _ => by simp [versB]
  | m :: l, h => by
    have h1 := versB_le l (fun x hx => h x (by simp [hx]))
    have h2 := h m (by simp)
    have h3 := vb_len10 (n := m.toNat) (by omega)
    simp only [versB, List.map_cons, List.flatMap_cons, List.length_append, List.length_cons] at h1 ⊢
    omega
theorem fits_skills : ∀ (sa : List (List UInt8)) (last : Fld), last.by_ = true → last.tag ≤ 3 → fitsL last (sa.map fun s => ⟨3, true, 0, s⟩) = true
  | [], _, _, _ => rfl
  | s :: sa, last, hb, ht => by
    simp only [List.map_cons, fitsL, fitsF, rightF, behindF, hb]
    rw [fits_skills sa ⟨3, true, 0, s⟩ rfl (by simp)]
    simp; omega
theorem size_skills : ∀ (sa : List (List UInt8)), (∀ s ∈ sa, s.length ≤ 20) → sizeL (sa.map fun s => ⟨3, true, 0, s⟩) ≤ 20 * sa.length ∧ (layL (sa.map fun s => (⟨3, true, 0, s⟩ : Fld))).length ≤ 40 * sa.length
  | [], _ => by simp [sizeL, layL]
  | s :: sa, h => by
    have h1 := size_skills sa (fun x hx => h x (by simp [hx]))
    have h2 := h s (by simp)
    have h3 := layF_len (f := ⟨3, true, 0, s⟩) (by simp) (by simp) (by simp only; omega)
    simp only [sizeL, layL, List.map_cons, List.sum_cons, List.flatMap_cons, List.length_append, List.length_cons] at h1 h3 ⊢
    omega
theorem enc_hello {va : List Int} {sa : List (List UInt8)} (h : wrong va sa = 0) : (encS (helloF va sa)).2 = 0 := by
  obtain ⟨w1, w2, w3, w4⟩ := wrong_le h
  have hv := versB_le va w3
  obtain ⟨s1, s2⟩ := size_skills sa w4
  have e1 : sizeL (helloF va sa) = 0 + ((versB va).length + sizeL (sa.map fun s => ⟨3, true, 0, s⟩)) := by simp [helloF, sizeL]
  have e2 : layL (helloF va sa) = layF ⟨1, false, 1718382183, []⟩ ++ (layF ⟨2, true, 0, versB va⟩ ++ layL (sa.map fun s => ⟨3, true, 0, s⟩)) := by simp [helloF, layL]
  have f1 := layF_len (f := ⟨1, false, 1718382183, []⟩) (by simp) (by simp) (by simp)
  have f2 := layF_len (f := ⟨2, true, 0, versB va⟩) (by simp) (by simp) (by simp only; omega)
  have e3 : fitsL f0 (helloF va sa) = true := by
    simp only [helloF, fitsL]
    rw [fits_skills sa ⟨2, true, 0, versB va⟩ rfl (by simp)]
    simp [fitsF, rightF, behindF, f0]
  simp only [List.length_nil] at f1
  simp only at f2
  unfold encS
  rw [if_neg (by rw [e1]; simp only [helloF, List.length_cons, List.length_map]; omega), if_neg (by rw [e3]; simp), if_neg (by rw [e2, List.length_append, List.length_append]; omega)]
theorem encH_right {va : List Int} {sa : List (List UInt8)} (h : wrong va sa = 0) : encH va sa = ((encS (helloF va sa)).1, 0) := by
  rw [encH, if_neg (by omega), ← enc_hello h]
theorem many_skills (sa : List (List UInt8)) : ((sa.map fun s => (⟨3, true, 0, s⟩ : Fld)).filter fun f => decide (f.tag = 3) && f.by_).map (·.b) = sa := by
  induction sa with
  | nil => rfl
  | cons s sa ih => simp at ih ⊢; exact ih
theorem vers_num : ∀ l : List Int, (∀ m ∈ l, 1 ≤ m ∧ m ≤ 1000) → ((l.map Int.toNat).map fun n => ((min n 1001 : Nat) : Int)) = l
  | [], _ => rfl
  | m :: l, h => by
    have h2 := h m (by simp)
    simp only [List.map_cons]
    rw [vers_num l (fun x hx => h x (by simp [hx]))]
    congr 1; omega
theorem dec_hello {va : List Int} {sa : List (List UInt8)} (h : wrong va sa = 0) : decH (encH va sa).1 = (va, sa, 0) := by
  obtain ⟨w1, w2, w3, w4⟩ := wrong_le h
  have hv := versB_le va w3
  have hd := dec_enc (l := helloF va sa) (by
    intro f hf
    simp only [helloF, List.mem_cons, List.mem_map] at hf
    rcases hf with rfl | rfl | ⟨s, hs', rfl⟩
    · simp
    · simp only; omega
    · exact ⟨by simp, by have := w4 s hs'; simp only; omega⟩) (enc_hello h)
  have er : encH va sa = ((encS (helloF va sa)).1, 0) := encH_right h
  have e1 : (encH va sa).1 = (encS (helloF va sa)).1 := by rw [er]
  have rs : rawS (encH va sa).1 = sa := by
    rw [rawS, e1, hd]
    simp only [manyT, helloF]
    rw [List.filter_cons_of_neg (by simp), List.filter_cons_of_neg (by simp), many_skills]
  have rv : rawV (encH va sa).1 = va := by
    rw [rawV, e1, hd]
    simp only [blobT, manyT, helloF]
    rw [List.filter_cons_of_neg (by simp), List.filter_cons_of_pos (by simp)]
    simp only [List.map_cons]
    rw [versB, allS_vb _ (by
      intro x hx
      obtain ⟨m, hm, rfl⟩ := List.mem_map.1 hx
      have := w3 m hm; omega)]
    exact vers_num va w3
  rw [decH, rs, rv, if_neg (by rw [e1, hd]; simp), if_neg (by rw [er]; simp)]
theorem decH_bad {b : List UInt8} (h : (decH b).2.2 ≠ 0) : decH b = ([], [], 4) := by
  unfold decH at h ⊢
  split
  · rfl
  · split
    · rfl
    · rename_i h1 h2
      rw [if_neg h1, if_neg h2] at h; exact absurd rfl h
theorem decH_good {b : List UInt8} (h : (decH b).2.2 = 0) : wrong (decH b).1 (decH b).2.1 = 0 ∧ (encS (helloF (decH b).1 (decH b).2.1)).1 = b := by
  unfold decH at h ⊢
  split at h
  · simp at h
  · rename_i h1
    rw [if_neg h1]
    split at h
    · simp at h
    · rename_i h2
      rw [if_neg h2]
      simp only
      rw [not_or] at h2
      obtain ⟨h3, h4⟩ := h2
      have h5 : wrong (rawV b) (rawS b) = 0 := by
        apply Classical.byContradiction
        intro hw
        apply h3
        rw [encH, if_pos hw]
        exact hw
      refine ⟨h5, ?_⟩
      rw [encH_right h5] at h4
      simpa using h4
theorem rawV_le (b : List UInt8) : (rawV b).length ≤ (blobT (decS b).1 2).length := by
  have h := allL_le (blobT (decS b).1 2).length [] 0 (blobT (decS b).1 2) (by simp)
  rw [rawV, List.length_map]
  have := h.1; simp only [allS, List.length_nil] at this ⊢; omega
end Go.Proofs.Ytmomncmddejcoaa
