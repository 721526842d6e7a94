/- Of the walks of this seat: contracts of functions of the given program, proved over the abstract values of the texts Vm. Conditions: as each theorem says. -/
import Derived.Test.YtjlphncecdlmcaaVm35
import Derived.Test.YtjlphncecdlmcaaDp
set_option linter.unusedVariables false
set_option linter.unusedSimpArgs false
/- Plain: notes in an object's cells; two of them change places. -/
namespace Go.Proofs.Ytjlphncecdlmcaa
open Go.Vm
theorem ntsE_two (l : List Nt) : ∀ e ∈ ntsE l, e.length = 2 := by
  intro e he
  obtain ⟨x, _, rfl⟩ := List.mem_map.1 he
  rfl
def ntsF (l : List Nt) : List V := (ntsE l).flatten
theorem ntsF_len (l : List Nt) : (ntsF l).length = l.length * 2 := by rw [ntsF, flat_len _ (ntsE_two l), ntsE_length]
theorem ntsF_pick {l : List Nt} {i : Nat} {x : Nt} (h : l[i]? = some x) : pickCells true 2 (ntsF l) (i * 2) = some (.agg [.bool x.err, .str x.txt]) := by
  obtain ⟨hi, rfl⟩ := List.getElem?_eq_some_iff.1 h
  have := pick_flat (ntsE_two l) (show i < (ntsE l).length by rw [ntsE_length]; exact hi)
  rw [ntsF, this]
  have e : (ntsE l)[i]'(by rw [ntsE_length]; exact hi) = ntC l[i] := by simp [ntsE]
  rw [e]; rfl
theorem ntsF_set {l : List Nt} {i : Nat} (x : Nt) (hi : i < l.length) : ((ntsF l).set (i * 2) (.bool x.err)).set (i * 2 + 1) (.str x.txt) = ntsF (l.set i x) := by
  have := over_flat (e' := ntC x) rfl (ntsE l) i (ntsE_two l) (by rw [ntsE_length]; exact hi)
  have e : (ntsE l).set i (ntC x) = ntsE (l.set i x) := by simp [ntsE, List.map_set]
  rw [e] at this
  exact this
theorem set2 (X Y Z : List Nt) (a b : Nt) : ((X ++ a :: Y ++ b :: Z).set X.length b).set (X.length + 1 + Y.length) a = X ++ b :: Y ++ a :: Z := by
  rw [List.append_assoc, List.set_append_right _ _ (Nat.le_refl _), Nat.sub_self, List.cons_append, List.set_cons_zero]
  rw [List.set_append_right _ _ (by omega), show X.length + 1 + Y.length - X.length = Y.length + 1 by omega, List.set_cons_succ, List.set_append_right _ _ (Nat.le_refl _), Nat.sub_self, List.set_cons_zero, List.append_assoc, List.cons_append]
theorem get2a (X Y Z : List Nt) (a b : Nt) : (X ++ a :: Y ++ b :: Z)[X.length]? = some a := by
  rw [List.append_assoc, List.getElem?_append_right (Nat.le_refl _), Nat.sub_self]; rfl
theorem get2b (X Y Z : List Nt) (a b : Nt) : (X ++ a :: Y ++ b :: Z)[X.length + 1 + Y.length]? = some b := by
  rw [List.append_assoc, List.getElem?_append_right (by omega), show X.length + 1 + Y.length - X.length = Y.length + 1 by omega, List.cons_append, List.getElem?_cons_succ, List.getElem?_append_right (Nat.le_refl _), Nat.sub_self]; rfl
end Go.Proofs.Ytjlphncecdlmcaa
/- Plain: notes, errors first, in their order. -/
namespace Go.Proofs.Ytjlphncecdlmcaa
open Go.Vm
def ers (l : List Nt) : List Nt := l.filter (·.err)
def wns (l : List Nt) : List Nt := l.filter (fun x => !x.err)
def stb (l : List Nt) : List Nt := ers l ++ wns l
theorem ers_app (a b : List Nt) : ers (a ++ b) = ers a ++ ers b := List.filter_append ..
theorem wns_app (a b : List Nt) : wns (a ++ b) = wns a ++ wns b := List.filter_append ..
theorem ers_all {l : List Nt} (h : ∀ x ∈ l, x.err = true) : ers l = l := List.filter_eq_self.2 h
theorem ers_none {l : List Nt} (h : ∀ x ∈ l, x.err = false) : ers l = [] := List.filter_eq_nil_iff.2 fun x hx => by simp [h x hx]
theorem wns_all {l : List Nt} (h : ∀ x ∈ l, x.err = false) : wns l = l := List.filter_eq_self.2 fun x hx => by simp [h x hx]
theorem wns_none {l : List Nt} (h : ∀ x ∈ l, x.err = true) : wns l = [] := List.filter_eq_nil_iff.2 fun x hx => by simp [h x hx]
theorem ers_mem {l : List Nt} : ∀ x ∈ ers l, x.err = true := fun _ hx => (List.mem_filter.1 hx).2
theorem wns_mem {l : List Nt} : ∀ x ∈ wns l, x.err = false := fun x hx => by have := (List.mem_filter.1 hx).2; simpa using this
theorem ers_ers (l : List Nt) : ers (ers l) = ers l := ers_all ers_mem
theorem wns_wns (l : List Nt) : wns (wns l) = wns l := wns_all wns_mem
theorem ers_wns (l : List Nt) : ers (wns l) = [] := ers_none wns_mem
theorem wns_ers (l : List Nt) : wns (ers l) = [] := wns_none ers_mem
theorem ers_stb (l : List Nt) : ers (stb l) = ers l := by rw [stb, ers_app, ers_ers, ers_wns, List.append_nil]
theorem wns_stb (l : List Nt) : wns (stb l) = wns l := by rw [stb, wns_app, wns_wns, wns_ers, List.nil_append]
theorem stb_one (l : List Nt) (h : l.length ≤ 1) : stb l = l := by
  cases l with
  | nil => rfl
  | cons x l =>
    have : l = [] := by simpa using h
    subst this
    cases hx : x.err <;> simp [stb, ers, wns, hx]
theorem stb_length (l : List Nt) : (stb l).length = l.length := by
  induction l with
  | nil => rfl
  | cons x l ih =>
    simp only [stb, ers, wns, List.length_append] at ih ⊢
    cases hx : x.err <;> simp [hx] <;> omega
theorem ins_stb {X Y T : List Nt} {x : Nt} (h : X ++ Y = stb T) (h1 : x.err = false → Y = []) (h2 : x.err = true → ∀ y ∈ Y, y.err = false) (h3 : X = [] ∨ ∃ X0 y, X = X0 ++ [y] ∧ ¬ (x.err = true ∧ y.err = false)) : X ++ x :: Y = stb (T ++ [x]) := by
  rw [stb, ers_app, wns_app]
  cases hx : x.err with
  | false =>
    obtain rfl := h1 hx
    rw [List.append_nil] at h
    have e1 : ers [x] = [] := by simp [ers, hx]
    have e2 : wns [x] = [x] := by simp [wns, hx]
    rw [e1, e2, h, stb, List.append_nil, List.append_assoc]
  | true =>
    have hY := h2 hx
    have e1 : ers [x] = [x] := by simp [ers, hx]
    have e2 : wns [x] = [] := by simp [wns, hx]
    have hX : ∀ y ∈ X, y.err = true := by
      rcases h3 with rfl | ⟨X0, y, rfl, hy⟩
      · simp
      · have hy : y.err = true := by
          cases hh : y.err with
          | true => rfl
          | false => exact absurd ⟨hx, hh⟩ hy
        -- an error among errors first: all ahead of it are errors
        have hpre : ∀ (E W A : List Nt) (B : List Nt), (∀ e ∈ E, e.err = true) → (∀ w ∈ W, w.err = false) → A ++ y :: B = E ++ W → ∀ z ∈ A, z.err = true := by
          intro E
          induction E with
          | nil =>
            intro W A B _ hW he z hz
            have : y ∈ W := by rw [← List.nil_append W, ← he]; simp
            have := hW y this
            rw [hy] at this; cases this
          | cons e E ih =>
            intro W A B hE hW he z hz
            cases A with
            | nil => cases hz
            | cons a A =>
              simp only [List.cons_append, List.cons.injEq] at he
              rcases List.mem_cons.1 hz with rfl | hz
              · rw [he.1]; exact hE e List.mem_cons_self
              · exact ih W A B (fun q hq => hE q (List.mem_cons_of_mem _ hq)) hW he.2 z hz
        intro z hz
        rcases List.mem_append.1 hz with hz | hz
        · refine hpre (ers T) (wns T) X0 Y ers_mem wns_mem ?_ z hz
          rw [← stb, ← h, List.append_assoc]; rfl
        · rw [List.mem_singleton] at hz; subst hz; exact hy
    have hE : ers T = X := by rw [← ers_stb, ← h, ers_app, ers_all hX, ers_none hY, List.append_nil]
    have hW : wns T = Y := by rw [← wns_stb, ← h, wns_app, wns_none hX, wns_all hY, List.nil_append]
    rw [e1, e2, hE, hW, List.append_nil, List.append_assoc]; rfl
end Go.Proofs.Ytjlphncecdlmcaa
/- Plain: halves that are in order, merged by turning two pieces. -/
namespace Go.Proofs.Ytjlphncecdlmcaa
open Go.Vm
def SrN (l : List Nt) : Prop := stb l = l
theorem srn_stb (l : List Nt) : SrN (stb l) := by
  unfold SrN
  rw [stb, ers_stb, wns_stb, ← stb]
theorem srn_of {l : List Nt} (h : ∃ E W, l = E ++ W ∧ (∀ x ∈ E, x.err = true) ∧ ∀ x ∈ W, x.err = false) : SrN l := by
  obtain ⟨E, W, rfl, h1, h2⟩ := h
  unfold SrN
  rw [stb, ers_app, wns_app, ers_all h1, ers_none h2, wns_none h1, wns_all h2, List.append_nil, List.nil_append]
theorem srn_after {A B : List Nt} (h : SrN (A ++ B)) (hx : ∃ x ∈ A, x.err = false) : ∀ y ∈ B, y.err = false := by
  intro y hy
  obtain ⟨x, hxA, hx⟩ := hx
  have key : ∀ (E W A B : List Nt), (∀ x ∈ E, x.err = true) → (∀ x ∈ W, x.err = false) → A ++ B = E ++ W → x ∈ A → ∀ y ∈ B, y.err = false := by
    intro E
    induction E with
    | nil =>
      intro W A B _ hW he _ y hy
      exact hW y (by rw [← List.nil_append W, ← he]; exact List.mem_append_right _ hy)
    | cons e E ih =>
      intro W A B hE hW he hxA y hy
      cases A with
      | nil => cases hxA
      | cons a A =>
        simp only [List.cons_append, List.cons.injEq] at he
        rcases List.mem_cons.1 hxA with rfl | hxA
        · have := hE e List.mem_cons_self
          rw [← he.1, hx] at this; cases this
        · exact ih W A B (fun z hz => hE z (List.mem_cons_of_mem _ hz)) hW he.2 hxA y hy
  exact key (ers (A ++ B)) (wns (A ++ B)) A B ers_mem wns_mem h.symm hxA y hy
theorem srn_ahead {A B : List Nt} (h : SrN (A ++ B)) (hx : ∃ x ∈ B, x.err = true) : ∀ y ∈ A, y.err = true := by
  intro y hy
  cases hh : y.err with
  | true => rfl
  | false =>
    obtain ⟨x, hxB, hx⟩ := hx
    have := srn_after h ⟨y, hy, hh⟩ x hxB
    rw [hx] at this; cases this
theorem srn_left {A B : List Nt} (h : SrN (A ++ B)) : SrN A := by
  by_cases hx : ∃ x ∈ B, x.err = true
  · exact srn_of ⟨A, [], (List.append_nil _).symm, srn_ahead h hx, by simp⟩
  · have hB : ∀ x ∈ B, x.err = false := fun x hxB => by
      cases hh : x.err with
      | false => rfl
      | true => exact absurd ⟨x, hxB, hh⟩ hx
    have h2 : stb (A ++ B) = A ++ B := h
    rw [stb, ers_app, wns_app, ers_none hB, wns_all hB, List.append_nil, ← List.append_assoc] at h2
    exact List.append_cancel_right h2
theorem srn_right {A B : List Nt} (h : SrN (A ++ B)) : SrN B := by
  by_cases hx : ∃ x ∈ A, x.err = false
  · exact srn_of ⟨[], B, rfl, by simp, srn_after h hx⟩
  · have hA : ∀ x ∈ A, x.err = true := fun x hxA => by
      cases hh : x.err with
      | true => rfl
      | false => exact absurd ⟨x, hxA, hh⟩ hx
    have h2 : stb (A ++ B) = A ++ B := h
    rw [stb, ers_app, wns_app, ers_all hA, wns_none hA, List.nil_append, List.append_assoc] at h2
    exact List.append_cancel_left h2
end Go.Proofs.Ytjlphncecdlmcaa
/- Plain: where two sorted pieces meet. -/
namespace Go.Proofs.Ytjlphncecdlmcaa
open Go.Vm
theorem ers_nil {l : List Nt} : ers l = [] ↔ ∀ x ∈ l, x.err = false := by
  constructor
  · intro h x hx
    cases hh : x.err with
    | false => rfl
    | true => exact absurd hh (List.filter_eq_nil_iff.1 h x hx)
  · exact ers_none
theorem wns_nil {l : List Nt} : wns l = [] ↔ ∀ x ∈ l, x.err = true := by
  constructor
  · intro h x hx
    cases hh : x.err with
    | true => rfl
    | false => exact absurd (show (!x.err) = true by rw [hh]; rfl) (List.filter_eq_nil_iff.1 h x hx)
  · exact wns_none
theorem srn_or {A B : List Nt} (h : SrN (A ++ B)) : wns A = [] ∨ ers B = [] := by
  by_cases hx : ∃ x ∈ A, x.err = false
  · exact .inr (ers_nil.2 (srn_after h hx))
  · refine .inl (wns_nil.2 fun x hxA => ?_)
    cases hh : x.err with
    | true => rfl
    | false => exact absurd ⟨x, hxA, hh⟩ hx
theorem stb_cons {x : Nt} {Y1 Y2 : List Nt} (h1 : ∀ y ∈ Y1, y.err = true ∧ x.err = false) (h2 : ∀ y ∈ Y2, ¬ (y.err = true ∧ x.err = false)) (h : SrN (Y1 ++ Y2)) : stb ([x] ++ (Y1 ++ Y2)) = Y1 ++ [x] ++ Y2 := by
  cases hx : x.err with
  | true =>
    have e : Y1 = [] := List.eq_nil_iff_forall_not_mem.2 fun y hy => by have := (h1 y hy).2; rw [hx] at this; cases this
    subst e
    have h' : stb Y2 = Y2 := h
    have e1 : ers [x] = [x] := by simp [ers, hx]
    have e2 : wns [x] = [] := by simp [wns, hx]
    rw [List.nil_append, stb, ers_app, wns_app, e1, e2, List.nil_append, List.append_assoc, ← stb, h']; rfl
  | false =>
    have hA : ∀ y ∈ Y1, y.err = true := fun y hy => (h1 y hy).1
    have hB : ∀ y ∈ Y2, y.err = false := fun y hy => by
      cases hh : y.err with
      | false => rfl
      | true => exact absurd ⟨hh, hx⟩ (h2 y hy)
    have e1 : ers [x] = [] := by simp [ers, hx]
    have e2 : wns [x] = [x] := by simp [wns, hx]
    rw [stb, ers_app, wns_app, ers_app, wns_app, e1, e2, ers_all hA, ers_none hB, wns_none hA, wns_all hB]
    simp
theorem stb_snoc {y : Nt} {X1 X2 : List Nt} (h1 : ∀ z ∈ X1, ¬ (y.err = true ∧ z.err = false)) (h2 : ∀ z ∈ X2, y.err = true ∧ z.err = false) (h : SrN (X1 ++ X2)) : stb (X1 ++ X2 ++ [y]) = X1 ++ [y] ++ X2 := by
  cases hy : y.err with
  | false =>
    have e : X2 = [] := List.eq_nil_iff_forall_not_mem.2 fun z hz => by have := (h2 z hz).1; rw [hy] at this; cases this
    subst e
    rw [List.append_nil] at h ⊢
    have h' : stb X1 = X1 := h
    have e1 : ers [y] = [] := by simp [ers, hy]
    have e2 : wns [y] = [y] := by simp [wns, hy]
    rw [List.append_nil, stb, ers_app, wns_app, e1, e2, List.append_nil, ← List.append_assoc, ← stb, h']
  | true =>
    have hB : ∀ z ∈ X2, z.err = false := fun z hz => (h2 z hz).2
    have hA : ∀ z ∈ X1, z.err = true := fun z hz => by
      cases hh : z.err with
      | true => rfl
      | false => exact absurd ⟨hy, hh⟩ (h1 z hz)
    have e1 : ers [y] = [y] := by simp [ers, hy]
    have e2 : wns [y] = [] := by simp [wns, hy]
    rw [stb, ers_app, wns_app, ers_app, wns_app, e1, e2, ers_all hA, ers_none hB, wns_none hA, wns_all hB]
    simp
theorem mid_ok {X1 X2 Y1 Y2 : List Nt} (hX : SrN (X1 ++ X2)) (hY : SrN (Y1 ++ Y2))
    (hlo : X1 = [] ∨ Y2 = [] ∨ ∃ X0 u v Y0, X1 = X0 ++ [u] ∧ Y2 = v :: Y0 ∧ ¬ (v.err = true ∧ u.err = false))
    (hhi : X2 = [] ∨ Y1 = [] ∨ ∃ u X0 Y0 v, X2 = u :: X0 ∧ Y1 = Y0 ++ [v] ∧ v.err = true ∧ u.err = false) : stb (X1 ++ Y1) ++ stb (X2 ++ Y2) = stb (X1 ++ X2 ++ Y1 ++ Y2) := by
  have hXo := srn_or hX
  have hYo := srn_or hY
  have hlo2 : (X1 = [] ∨ Y2 = []) ∨ (wns X1 = [] ∧ True) ∨ ers Y2 = [] := by
    rcases hlo with h | h | ⟨X0, u, v, Y0, rfl, rfl, h⟩
    · exact .inl (.inl h)
    · exact .inl (.inr h)
    · cases hu : u.err with
      | true =>
        refine .inr (.inl ⟨wns_nil.2 fun x hx => ?_, trivial⟩)
        rcases List.mem_append.1 hx with hx | hx
        · exact srn_ahead (srn_left hX) ⟨u, List.mem_singleton_self u, hu⟩ x hx
        · rw [List.mem_singleton] at hx; rw [hx]; exact hu
      | false =>
        have hv : v.err = false := by
          cases hh : v.err with
          | false => rfl
          | true => exact absurd ⟨hh, hu⟩ h
        refine .inr (.inr (ers_nil.2 fun y hy => ?_))
        rcases List.mem_cons.1 hy with rfl | hy
        · exact hv
        · exact srn_after (A := Y1 ++ [v]) (B := Y0) (by simpa using hY) ⟨v, by simp, hv⟩ y hy
  -- where the one ahead is no error, the one behind is none; both ways
  have hlo3 : X1 = [] ∨ Y2 = [] ∨ (ers Y2 = [] ∧ ers X2 = []) ∨ (wns X1 = [] ∧ wns Y1 = []) ∨ (wns X1 = [] ∧ ers Y2 = []) ∨ (ers X2 = [] ∧ ers Y2 = []) := by
    rcases hlo2 with (h | h) | ⟨h, _⟩ | h
    · exact .inl h
    · exact .inr (.inl h)
    · rcases hYo with g | g
      · exact .inr (.inr (.inr (.inl ⟨h, g⟩)))
      · exact .inr (.inr (.inr (.inr (.inl ⟨h, g⟩))))
    · rcases hXo with g | g
      · exact .inr (.inr (.inr (.inr (.inl ⟨g, h⟩))))
      · exact .inr (.inr (.inl ⟨h, g⟩))
  have hhi2 : X2 = [] ∨ Y1 = [] ∨ (ers X2 = [] ∧ wns Y1 = []) := by
    rcases hhi with h | h | ⟨u, X0, Y0, v, rfl, rfl, hv, hu⟩
    · exact .inl h
    · exact .inr (.inl h)
    · refine .inr (.inr ⟨ers_nil.2 fun x hx => ?_, wns_nil.2 fun y hy => ?_⟩)
      · rcases List.mem_cons.1 hx with rfl | hx
        · exact hu
        · exact srn_after (A := X1 ++ [u]) (B := X0) (by simpa using hX) ⟨u, by simp, hu⟩ x hx
      · rcases List.mem_append.1 hy with hy | hy
        · exact srn_ahead (srn_left hY) ⟨v, List.mem_singleton_self v, hv⟩ y hy
        · rw [List.mem_singleton] at hy; rw [hy]; exact hv
  have n1 : ers ([] : List Nt) = [] := rfl
  have n2 : wns ([] : List Nt) = [] := rfl
  simp only [stb, ers_app, wns_app]
  rcases hhi2 with rfl | rfl | ⟨a, b⟩ <;> rcases hlo3 with rfl | rfl | ⟨c, d⟩ | ⟨c, d⟩ | ⟨c, d⟩ | ⟨c, d⟩ <;> rcases hXo with e | e <;> rcases hYo with f | f <;> simp_all [List.append_assoc]
end Go.Proofs.Ytjlphncecdlmcaa
