/- Small laws of lists as slices. -/
import Derived.Test.YtjlphncecdlmcaaVm23
set_option linter.unusedVariables false
set_option linter.unusedSimpArgs false
namespace Go.Vm
theorem byteCells_length (l : List UInt8) : (byteCells l).length = l.length := by simp [byteCells]
theorem byteCells_get (l : List UInt8) (i : Nat) : (byteCells l)[i]? = (l[i]?).map fun b => [.int .u8 b.toNat] := by simp [byteCells]
theorem byteCells_take (l : List UInt8) (n : Nat) : (byteCells l).take n = byteCells (l.take n) := by simp [byteCells]
theorem byteCells_drop (l : List UInt8) (n : Nat) : (byteCells l).drop n = byteCells (l.drop n) := by simp [byteCells]
theorem byteCells_append (l m : List UInt8) : byteCells (l ++ m) = byteCells l ++ byteCells m := by simp [byteCells]
theorem strsE_append (l m : List (List UInt8)) : strsE (l ++ m) = strsE l ++ strsE m := by simp [strsE]
theorem take_snoc {α : Type} (l : List α) (i : Nat) (h : i < l.length) : l.take (i + 1) = l.take i ++ [l[i]] := List.take_succ_eq_append_getElem h
theorem AH.put_del (H : AH) (k : Nat) (o : AObj) : (H.put k o).del k = H.del k := by
  funext i; simp only [AH.del, AH.put]; split <;> simp_all
theorem le_del_put {H H' : AH} {k j : Nat} {o : AObj} (h : H.le (H'.del k)) (hj : H' j = none) : H.le ((H'.put j o).del k) := fun i p hi => by
  have := h i p hi
  simp only [AH.del] at this ⊢
  split at this
  · cases this
  · rename_i hk
    rw [if_neg hk, AH.put_ne]; exact this
    rintro rfl; rw [this] at hj; cases hj
theorem end_same {X : V} {H : AH} : (∃ u, Out.ret X = Out.ret u ∧ ∀ (s : St) (x : Value), s.val u x → s.val X x) ∧ H.le H := drop_end (fun _ _ h => h) (AH.le_refl _)
theorem end_le {X : V} {H H' : AH} (h : H.le H') : (∃ u, Out.ret X = Out.ret u ∧ ∀ (s : St) (x : Value), s.val u x → s.val X x) ∧ H.le H' := drop_end (fun _ _ h => h) h
theorem qcall_at {P : Program} {f : Nat} {vs : List V} {v : V} {H : AH} {k : V → Prop} (h : ∀ H', H.lec H' → ACalls P f vs H' (fun o H'' => o = .ret v ∧ H'' = H')) (hk : k v) : qcall P f vs H k := ⟨v, h, hk⟩
theorem call_at {P : Program} {f : Nat} {vs : List V} {v : V} {H : AH} {kk : V → AH → Prop} {kp : AH → Prop} (h : ∀ H', H.lec H' → ACalls P f vs H' (fun o H'' => o = .ret v ∧ H'' = H')) (hk : kk v H) : ACalls P f vs H (outK kk kp) :=
  (h H (AH.lec_refl H)).mono (by rintro o H' ⟨rfl, rfl⟩; exact hk)
theorem end_eq {X Y : V} {H H' : AH} (h : Y = X) (hl : H.le H') : (∃ u, Out.ret Y = Out.ret u ∧ ∀ (s : St) (x : Value), s.val u x → s.val X x) ∧ H.le H' := by subst h; exact end_le hl
theorem le_new2 {H : AH} {a b o : Nat} {x y z w : AObj} (h : H o = none) (ha : o ≠ a) (hb : o ≠ b) : ((H.put a x).put b y).le ((((H.put o z).put a x).put b y).put o w) := by
  intro i p hi
  by_cases e : i = o
  · subst e; simp only [AH.put, if_neg ha, if_neg hb, h] at hi; cases hi
  · simp only [AH.put, if_neg e] at hi ⊢; exact hi
end Go.Vm
