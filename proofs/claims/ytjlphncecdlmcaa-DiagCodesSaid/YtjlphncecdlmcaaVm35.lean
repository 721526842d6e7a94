/- Elements of a fixed size, one behind the other in an object's cells: read, written, cut. -/
import Derived.Test.YtjlphncecdlmcaaVmQ
set_option linter.unusedVariables false
set_option linter.unusedSimpArgs false
namespace Go.Vm
theorem flat_len {sz : Nat} : ∀ es : List (List V), (∀ e ∈ es, e.length = sz) → es.flatten.length = es.length * sz
  | [], _ => by simp
  | e :: es, h => by
    rw [List.flatten_cons, List.length_append, flat_len es (fun x hx => h x (List.mem_cons_of_mem _ hx)), h e List.mem_cons_self, List.length_cons, Nat.add_mul]; omega
theorem over_app : ∀ (vs a b : List V) (o : Nat), over (a ++ b) (a.length + o) vs = a ++ over b o vs
  | [], _, _, _ => rfl
  | v :: vs, a, b, o => by
    rw [over, over, List.set_append_right _ _ (by omega), show a.length + o - a.length = o by omega, Nat.add_assoc, over_app vs a]
theorem over_head : ∀ (vs e b : List V), e.length = vs.length → over (e ++ b) 0 vs = vs ++ b
  | [], e, b, h => by
    have : e = [] := List.eq_nil_of_length_eq_zero h
    subst this; rfl
  | v :: vs, [], b, h => by cases h
  | v :: vs, x :: e, b, h => by
    have := over_app vs [v] (e ++ b) 0
    rw [over, List.cons_append, List.set_cons_zero]
    simp only [List.length_singleton, List.cons_append, List.nil_append, Nat.add_zero, Nat.zero_add] at this ⊢
    rw [this, over_head vs e b (by simpa using h)]
theorem over_flat {sz : Nat} {e' : List V} (he : e'.length = sz) : ∀ (es : List (List V)) (i : Nat), (∀ e ∈ es, e.length = sz) → i < es.length → over es.flatten (i * sz) e' = (es.set i e').flatten
  | [], i, _, h => by cases h
  | e :: es, 0, h, _ => by
    rw [Nat.zero_mul, List.flatten_cons, over_head _ _ _ (by rw [he]; exact h e List.mem_cons_self)]; rfl
  | e :: es, i + 1, h, hi => by
    have hl : e.length = sz := h e List.mem_cons_self
    rw [List.flatten_cons, Nat.add_mul, Nat.one_mul, Nat.add_comm, ← hl, over_app, hl, over_flat he es i (fun x hx => h x (List.mem_cons_of_mem _ hx)) (by simpa using hi)]
    rfl
theorem drop_flat {sz : Nat} : ∀ (es : List (List V)) (i : Nat), (∀ e ∈ es, e.length = sz) → es.flatten.drop (i * sz) = (es.drop i).flatten
  | [], i, _ => by simp
  | e :: es, 0, _ => by simp
  | e :: es, i + 1, h => by
    have hl : e.length = sz := h e List.mem_cons_self
    rw [List.flatten_cons, Nat.add_mul, Nat.one_mul, Nat.add_comm, ← List.drop_drop, List.drop_succ_cons]
    rw [List.drop_left' hl]
    exact drop_flat es i (fun x hx => h x (List.mem_cons_of_mem _ hx))
theorem pick_flat {sz : Nat} {es : List (List V)} {i : Nat} (h : ∀ e ∈ es, e.length = sz) (hi : i < es.length) : pickCells true sz es.flatten (i * sz) = some (.agg es[i]) := by
  have h1 : i * sz + sz ≤ es.flatten.length := by
    rw [flat_len es h]
    have := Nat.mul_le_mul_right sz (show i + 1 ≤ es.length from hi)
    rw [Nat.add_mul, Nat.one_mul] at this; exact this
  simp only [pickCells]
  rw [if_pos h1, drop_flat es i h, List.drop_eq_getElem_cons hi, List.flatten_cons, List.take_left' (h _ (List.getElem_mem hi))]
end Go.Vm
