/- Alarms, in the order in which they ring. -/
import Derived.Test.YtjlphncecdlmcaaC8
set_option linter.unusedVariables false
set_option linter.unusedSimpArgs false
namespace Go.Proofs.Ytjlphncecdlmcaa
open Go.Vm Go.Sort
abbrev Al := List UInt8 × Int
/-- x rings ahead of y. -/
def ahd (x y : Al) : Prop := x.2 < y.2 ∨ x.2 = y.2 ∧ Op.bytesLess x.1 y.1 = true
instance (x y : Al) : Decidable (ahd x y) := by unfold ahd; infer_instance
theorem ahd_trans {x y z : Al} (h : ahd x y) (k : ahd y z) : ahd x z := by
  unfold ahd at *
  rcases h with h | ⟨e, h⟩ <;> rcases k with k | ⟨f, k⟩
  · exact .inl (by omega)
  · exact .inl (by omega)
  · exact .inl (by omega)
  · exact .inr ⟨by omega, bl_trans _ _ _ h k⟩
theorem ahd_total {x y : Al} (h : ¬ ahd x y) (hn : x.1 ≠ y.1) : ahd y x := by
  unfold ahd at *
  by_cases e : x.2 = y.2
  · refine .inr ⟨e.symm, ?_⟩
    cases q : Op.bytesLess y.1 x.1
    · refine absurd (bl_total x.1 y.1 ?_ q) hn
      rw [Bool.eq_false_iff]; exact fun g => h (.inr ⟨e, g⟩)
    · rfl
  · by_cases f : y.2 < x.2
    · exact .inl f
    · exact absurd (.inl (by omega)) h
theorem ahd_le {x y : Al} (h : ahd x y) : x.2 ≤ y.2 := by unfold ahd at h; omega
/-- l's alarms are r, in their order. -/
structure Rel (l r : List Al) : Prop where
  srt : r.Pairwise ahd
  perm : r.Perm l
  nod : (l.map Prod.fst).Nodup
theorem alF_mem {n : List UInt8} {t : Int} : ∀ {l : List Al}, (l.map Prod.fst).Nodup → (alF n l = some t ↔ (n, t) ∈ l)
  | [], _ => by simp [alF]
  | p :: l, h => by
    rw [List.map_cons, List.nodup_cons] at h
    rw [alF]
    by_cases e : n = p.1
    · rw [if_pos e]
      constructor
      · intro q; cases q; rw [e]; exact List.mem_cons_self
      · intro q
        rcases List.mem_cons.1 q with q | q
        · rw [← q]
        · have q2 : n ∈ l.map Prod.fst := List.mem_map.2 ⟨(n, t), q, rfl⟩
          exact absurd (e ▸ q2) h.1
    · rw [if_neg e, alF_mem h.2]
      constructor
      · exact fun q => List.mem_cons_of_mem _ q
      · intro q
        rcases List.mem_cons.1 q with q | q
        · exact absurd (congrArg Prod.fst q) e
        · exact q
theorem Rel.nod2 {l r : List Al} (h : Rel l r) : (r.map Prod.fst).Nodup := (h.perm.map _).nodup_iff.2 h.nod
theorem Rel.look {l r : List Al} (h : Rel l r) (n : List UInt8) : alF n l = alF n r := by
  apply Option.ext
  intro t
  rw [alF_mem h.nod, alF_mem h.nod2]
  exact (h.perm.mem_iff).symm
theorem Rel.look_mem {l r : List Al} (h : Rel l r) {x : Al} (hx : x ∈ r) : alF x.1 l = some x.2 := by
  rw [h.look, alF_mem h.nod2]; exact hx
theorem Rel.names {l r : List Al} (h : Rel l r) : alN l = r.map Prod.fst := by
  refine alN_unique (h.perm.map _) (List.pairwise_map.2 ?_)
  refine List.Pairwise.imp_of_mem ?_ h.srt
  intro x y hx hy hxy
  rw [Bool.eq_false_iff]
  intro q
  have q := (alC_neg l _ _).1 q
  unfold before at q
  simp only [h.look_mem hx, h.look_mem hy, Option.getD_some] at q
  have := ahd_trans hxy q
  unfold ahd at this
  simp only [bl_irrefl] at this
  simp at this
theorem Rel.len {l r : List Al} (h : Rel l r) : l.length = r.length := h.perm.length_eq.symm
theorem Rel.nil : Rel [] [] := ⟨.nil, .nil, .nil⟩
/-- Alarms but one. -/
def wo (n : List UInt8) (r : List Al) : List Al := r.filter fun x => decide (x.1 ≠ n)
theorem alD_wo {n : List UInt8} : ∀ {l : List Al}, (l.map Prod.fst).Nodup → alD n l = wo n l
  | [], _ => rfl
  | p :: l, h => by
    rw [List.map_cons, List.nodup_cons] at h
    by_cases e : n = p.1
    · rw [alD, if_pos e, wo, List.filter_cons]
      have : decide (p.1 ≠ n) = false := by simp [e]
      rw [this, if_neg (by simp)]
      refine (List.filter_eq_self.2 ?_).symm
      intro x hx
      simp only [ne_eq, decide_not, Bool.not_eq_true', decide_eq_false_iff_not]
      intro q; apply h.1; rw [← e, ← q]; exact List.mem_map.2 ⟨x, hx, rfl⟩
    · rw [alD, if_neg e, alD_wo h.2, wo, wo, List.filter_cons, if_pos (by simp; exact fun q => e q.symm)]
theorem Rel.drop {l r : List Al} (h : Rel l r) (n : List UInt8) : Rel (alD n l) (wo n r) := by
  rw [alD_wo h.nod]
  exact ⟨h.srt.filter _, h.perm.filter _, h.nod.sublist ((List.filter_sublist).map _)⟩
theorem alP_perm (n : List UInt8) (t : Int) : ∀ l : List Al, (alP n t l).Perm ((n, t) :: alD n l)
  | [] => .refl _
  | p :: l => by
    rw [alP, alD]
    by_cases e : n = p.1
    · rw [if_pos e, if_pos e]
    · rw [if_neg e, if_neg e]
      exact ((alP_perm n t l).cons p).trans (.swap _ _ _)
/-- An alarm goes to its place. -/
def ins (x : Al) (r : List Al) : List Al := r.takeWhile (fun y => decide (ahd y x)) ++ x :: r.dropWhile (fun y => decide (ahd y x))
theorem ins_perm (x : Al) (r : List Al) : (ins x r).Perm (x :: r) := by
  refine List.perm_middle.trans ?_
  rw [List.takeWhile_append_dropWhile]
theorem ins_srt {x : Al} {r : List Al} (h : r.Pairwise ahd) (hx : ∀ y ∈ r, y.1 ≠ x.1) : (ins x r).Pairwise ahd := by
  have e := List.takeWhile_append_dropWhile (p := fun y => decide (ahd y x)) (l := r)
  rw [← e] at h
  obtain ⟨h1, h2, h3⟩ := List.pairwise_append.1 h
  have hd : ∀ y ∈ r.dropWhile (fun y => decide (ahd y x)), ahd x y := by
    cases q : r.dropWhile (fun y => decide (ahd y x)) with
    | nil => simp
    | cons z t =>
      have hz : ¬ ahd z x := by
        have := List.head_dropWhile_not (p := fun y => decide (ahd y x)) (l := r) (by rw [q]; simp)
        simp only [q, List.head_cons] at this
        simpa using this
      have hzm : z ∈ r := (List.dropWhile_sublist _).subset (by rw [q]; exact List.mem_cons_self)
      have g := ahd_total hz (hx z hzm)
      rw [q] at h2
      intro y hy
      rcases List.mem_cons.1 hy with rfl | hy
      · exact g
      · exact ahd_trans g (List.rel_of_pairwise_cons h2 hy)
  refine List.pairwise_append.2 ⟨h1, List.pairwise_cons.2 ⟨hd, h2⟩, ?_⟩
  intro y hy z hz
  rcases List.mem_cons.1 hz with rfl | hz
  · have : ∀ (l : List Al), ∀ y ∈ l.takeWhile (fun y => decide (ahd y z)), ahd y z := by
      intro l
      induction l with
      | nil => simp
      | cons a l ih =>
        intro y hy
        rw [List.takeWhile_cons] at hy
        split at hy
        · next ha =>
          rcases List.mem_cons.1 hy with rfl | hy
          · simpa using ha
          · exact ih y hy
        · cases hy
    exact this r y hy
  · exact h3 y hy z hz
theorem Rel.put {l r : List Al} (h : Rel l r) (n : List UInt8) (t : Int) : Rel (alP n t l) (ins (n, t) (wo n r)) := by
  have hd := h.drop n
  refine ⟨ins_srt hd.srt ?_, (ins_perm _ _).trans ((hd.perm.cons _).trans (alP_perm n t l).symm), ?_⟩
  · intro y hy
    simp only [wo, List.mem_filter, decide_eq_true_eq] at hy
    exact hy.2
  · rw [((alP_perm n t l).map Prod.fst).nodup_iff, List.map_cons, List.nodup_cons]
    refine ⟨?_, hd.nod⟩
    rw [alD_wo h.nod]
    intro q
    obtain ⟨x, hx, e⟩ := List.mem_map.1 q
    simp only [wo, List.mem_filter, decide_eq_true_eq] at hx
    exact hx.2 e
/-- What rings till a tick; what is left. -/
def rng (r : List Al) (t : Int) : List Al := r.takeWhile fun x => decide (x.2 ≤ t)
def lft (r : List Al) (t : Int) : List Al := r.dropWhile fun x => decide (x.2 ≤ t)
theorem rng_lft (r : List Al) (t : Int) : rng r t ++ lft r t = r := List.takeWhile_append_dropWhile
theorem takeWhile_mapF {α β : Type} {f : α → β} {p : β → Bool} {q : α → Bool} : ∀ {l : List α}, (∀ x ∈ l, p (f x) = q x) → (l.map f).takeWhile p = (l.takeWhile q).map f
  | [], _ => rfl
  | x :: l, h => by
    rw [List.map_cons, List.takeWhile_cons, List.takeWhile_cons, h x List.mem_cons_self]
    split
    · rw [List.map_cons, takeWhile_mapF fun y hy => h y (List.mem_cons_of_mem _ hy)]
    · rfl
theorem Rel.rings {l r : List Al} (h : Rel l r) (t : Int) : alR l t = (rng r t).map Prod.fst := by
  rw [alR, h.names]
  refine takeWhile_mapF ?_
  intro x hx
  rw [h.look_mem hx]; rfl
theorem alX_rel {l r a b : List Al} (h : Rel l r) (e : a ++ b = r) : Rel (alX l (a.map Prod.fst)) b := by
  induction a generalizing l r with
  | nil => subst e; exact h
  | cons x a ih =>
    subst e
    have hd := h.drop x.1
    have nd := h.nod2
    rw [List.cons_append, List.map_cons, List.nodup_cons] at nd
    have ew : wo x.1 (x :: a ++ b) = a ++ b := by
      rw [wo, List.cons_append, List.filter_cons, if_neg (by simp)]
      refine List.filter_eq_self.2 ?_
      intro y hy
      simp only [ne_eq, decide_not, Bool.not_eq_true', decide_eq_false_iff_not]
      intro q; apply nd.1; rw [← q]; exact List.mem_map.2 ⟨y, hy, rfl⟩
    rw [ew] at hd
    exact ih hd rfl
theorem Rel.tick {l r : List Al} (h : Rel l r) (t : Int) : Rel (alX l (alR l t)) (lft r t) := by
  rw [h.rings]; exact alX_rel h (rng_lft r t)
end Go.Proofs.Ytjlphncecdlmcaa
