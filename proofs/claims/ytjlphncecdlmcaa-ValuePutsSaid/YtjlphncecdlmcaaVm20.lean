/- What a row's arguments stand for: readings, opened to abstract values in a world of which all is held fast. -/
import Derived.Test.YtjlphncecdlmcaaVm19
import Derived.ChangeArms
import Derived.ChangeSlices
set_option linter.unusedVariables false
set_option linter.unusedSimpArgs false
namespace Go.Vm
theorem row_start {w : World} : ∀ (vs : List V) (cs : List Value) (b o : Nat), ones vs = true → (St.start w).vals vs cs → (∀ i y, cs[i]? = some y → w.cell? ⟨b, o + i, none⟩ = some y) → Holds (St.start w) (.row b o vs)
  | [], _, b, o, _, _, _ => .rowNil b o
  | v :: vs, cs, b, o, h1, h2, h3 => by
    cases h2 with
    | cons _ x _ xs k1 k2 =>
      simp only [ones, List.all_cons, Bool.and_eq_true] at h1
      refine .rowCons b o v x vs h1.1 ⟨(show w.cell? ⟨b, o, none⟩ = some x by simpa using h3 0 x rfl), fun k e h => (nomatch h)⟩ k1 (row_start vs xs b (o + 1) h1.2 k2 fun i y hy => ?_)
      have := h3 (i + 1) y (by simpa using hy)
      rw [show o + 1 + i = o + (i + 1) by omega]
      exact this
theorem els_start {w : World} (sz : Nat) : ∀ (es : List (List V)) (b o : Nat), (∀ (j : Nat) (e : List V), es[j]? = some e → e.length = sz ∧ Holds (St.start w) (.row b (o + j * sz) e)) → Holds (St.start w) (.els b o sz es)
  | [], b, o, _ => .elsNil b o sz
  | e :: es, b, o, h => by
    obtain ⟨h1, h2⟩ := h 0 e rfl
    refine .elsCons b o sz e es h1 (by simpa using h2) (els_start sz es b (o + sz) fun j e' he => ?_)
    obtain ⟨k1, k2⟩ := h (j + 1) e' (by simpa using he)
    refine ⟨k1, ?_⟩
    rw [show o + sz + j * sz = o + (j + 1) * sz by rw [Nat.succ_mul]; omega]
    exact k2
theorem get_append {m : A} {t : Nat} {v : V} : ∀ {l : A}, A.get l t = some v → A.get (l ++ m) t = some v
  | [], h => (nomatch h)
  | (u, x) :: l, h => by
    simp only [List.cons_append, A.get] at h ⊢
    split
    · rename_i e; rw [if_pos e] at h; exact h
    · rename_i e; rw [if_neg e] at h; exact get_append h
theorem add_none (b o n : Nat) : Addr.add ⟨b, o, none⟩ n = ⟨b, o + n, none⟩ := by
  unfold Addr.add
  split
  · rename_i h; subst h; rfl
  · rfl
theorem slice_start {H : Type} {enc : TypeId × Value → H} {P : Program} {w : World} {base : Nat} {spare : Nat → Bool} {held : Bool} {t e : TypeId} {sz fuel : Nat} {cs : List Value} {x : DataW H × List MemPlace} (ht : P.underlying t = some (.slice e)) (hsz : P.cellsOf e = sz) (h0 : 0 < sz) (R : List V → Prop)
    (hopen : ∀ n cs x, DataW.trod enc P w base spare held n e cs = some x → cs.length = sz → ∃ vs, vs.length = sz ∧ ones vs = true ∧ (St.start w).vals vs cs ∧ R vs)
    (h : DataW.trod enc P w base spare held fuel t cs = some x) : ∃ es : List (List V), es.length ≤ maxLen ∧ (∀ c ∈ es, R c) ∧ ∃ v, cs = [v] ∧ (St.start w).val (.sl sz es .no) v := by
  rcases DataW.trod_slice ht h with ⟨rfl, _⟩ | ⟨a, len, cap, elems, rest, n, _, rfl, _, hb, hl, hm, hlen, hel, _, _⟩
  · exact ⟨[], Nat.zero_le _, fun c hc => (nomatch hc), _, rfl, .slNil _ _ trivial⟩
  · by_cases hz : len = 0
    · subst hz
      exact ⟨[], Nat.zero_le _, fun c hc => (nomatch hc), _, rfl, .slEmp _ _ _ _ trivial⟩
    · have each : ∀ i, i < len → ∃ vs cs', vs.length = sz ∧ ones vs = true ∧ (St.start w).vals vs cs' ∧ R vs ∧ cs'.length = sz ∧ ∀ k, k < sz → w.cell? ((a.add (i * sz)).add k) = cs'[k]? := by
        intro i hi
        have h1 := hel i hi
        rw [hsz, List.getElem?_eq_getElem (by omega), Option.bind_eq_some_iff] at h1
        obtain ⟨cs', h2, h3⟩ := h1
        obtain ⟨_, k2, k3⟩ := World.cells?_some h2
        obtain ⟨vs, g1, g2, g3, g4⟩ := hopen n cs' _ h3 k2
        exact ⟨vs, cs', g1, g2, g3, g4, k2, k3⟩
      have hspot : a.spot = none := by
        obtain ⟨_, cs', _, _, _, _, k2, k3⟩ := each 0 (by omega)
        have := k3 0 h0
        rw [List.getElem?_eq_getElem (by omega)] at this
        simp only [Nat.zero_mul, Addr.add, if_true, World.cell?] at this
        split at this
        · cases hs : a.spot with
          | none => rfl
          | some q => rw [hs] at this; simp at this
        · cases this
      obtain ⟨b, o, sp⟩ := a
      simp only at hspot
      subst hspot
      refine ⟨(List.range len).map (fun i => if h : i < len then Classical.choose (each i h) else []), by simp; omega, ?_, _, rfl, ?_⟩
      · intro c hc
        simp only [List.mem_map, List.mem_range] at hc
        obtain ⟨i, hi, rfl⟩ := hc
        rw [dif_pos hi]
        obtain ⟨_, _, _, _, g, _⟩ := Classical.choose_spec (each i hi)
        exact g
      · have hl2 : ((List.range len).map (fun i => if h : i < len then Classical.choose (each i h) else [])).length = len := by simp
        have := Holds.sl (s := St.start w) sz ((List.range len).map (fun i => if h : i < len then Classical.choose (each i h) else [])) .no b o cap (els_start sz _ b o ?_) (by rw [hl2]; exact hl) trivial
        · rw [hl2] at this; exact this
        · intro j e he
          simp only [List.getElem?_map, Option.map_eq_some_iff] at he
          obtain ⟨i, hi, rfl⟩ := he
          obtain ⟨hj, rfl⟩ := List.getElem?_eq_some_iff.1 hi
          simp only [List.length_range] at hj
          simp only [List.getElem_range]
          rw [dif_pos hj]
          obtain ⟨cs', g1, g2, g3, _, g5, g6⟩ := Classical.choose_spec (each j hj)
          refine ⟨g1, row_start _ cs' b _ g2 g3 fun i y hy => ?_⟩
          have hi' : i < sz := by have := (List.getElem?_eq_some_iff.1 hy).1; omega
          have := g6 i hi'
          rw [add_none, add_none] at this
          rw [this]; exact hy
theorem ints_of : ∀ (es : List (List V)), (∀ c ∈ es, ∃ n, c = [.int .i64 n]) → ∃ l, es = intsE l
  | [], _ => ⟨[], rfl⟩
  | c :: es, h => by
    obtain ⟨n, rfl⟩ := h c (by simp)
    obtain ⟨l, rfl⟩ := ints_of es (fun c hc => h c (by simp [hc]))
    exact ⟨n :: l, rfl⟩
theorem strs_of : ∀ (es : List (List V)), (∀ c ∈ es, ∃ s : List UInt8, c = [.str s] ∧ s.length ≤ maxLen) → ∃ l, es = strsE l ∧ ∀ s ∈ l, s.length ≤ maxLen
  | [], _ => ⟨[], rfl, fun s hs => (nomatch hs)⟩
  | c :: es, h => by
    obtain ⟨n, rfl, hn⟩ := h c (by simp)
    obtain ⟨l, rfl, hl⟩ := strs_of es (fun c hc => h c (by simp [hc]))
    refine ⟨n :: l, rfl, fun s hs => ?_⟩
    rcases List.mem_cons.1 hs with rfl | hs
    · exact hn
    · exact hl s hs
section
variable {H : Type} {enc : TypeId × Value → H} {P : Program} {w : World} {base : Nat} {spare : Nat → Bool} {held : Bool} {t e : TypeId} {fuel : Nat} {cs : List Value} {x : DataW H × List MemPlace}
theorem ints_start (ht : P.underlying t = some (.slice e)) (he : P.underlying e = some (.int .i64)) (hsz : P.cellsOf e = 1) (h : DataW.trod enc P w base spare held fuel t cs = some x) :
    ∃ l : List Int, l.length ≤ maxLen ∧ ∃ v, cs = [v] ∧ (St.start w).val (.sl 1 (intsE l) .no) v := by
  obtain ⟨es, h1, h2, h3⟩ := slice_start ht hsz (by decide) (fun c => ∃ n, c = [.int .i64 n]) (fun n cs x h _ => by
    obtain ⟨m, rfl, _, _⟩ := DataW.trod_int he h
    exact ⟨[.int .i64 m], rfl, rfl, .cons _ _ _ _ (.int _ _) .nil, m, rfl⟩) h
  obtain ⟨l, rfl⟩ := ints_of es h2
  exact ⟨l, by rw [intsE_length] at h1; exact h1, h3⟩
theorem strs_start (ht : P.underlying t = some (.slice e)) (he : P.underlying e = some .string) (hsz : P.cellsOf e = 1) (h : DataW.trod enc P w base spare held fuel t cs = some x) :
    ∃ l : List (List UInt8), l.length ≤ maxLen ∧ (∀ s ∈ l, s.length ≤ maxLen) ∧ ∃ v, cs = [v] ∧ (St.start w).val (.sl 1 (strsE l) .no) v := by
  obtain ⟨es, h1, h2, h3⟩ := slice_start ht hsz (by decide) (fun c => ∃ s : List UInt8, c = [.str s] ∧ s.length ≤ maxLen) (fun n cs x h _ => by
    obtain ⟨m, rfl, _, hm⟩ := DataW.trod_string he h
    exact ⟨[.str m.data.toList], rfl, rfl, .cons _ _ _ _ (start_str w m) .nil, _, rfl, by rw [Array.length_toList]; exact hm⟩) h
  obtain ⟨l, rfl, hl⟩ := strs_of es h2
  exact ⟨l, by rw [strsE_length] at h1; exact h1, hl, h3⟩
/-- A struct of two fields, of one cell each. -/
theorem pair_start {f0 f1 : Field} (ht : P.underlying t = some (.struct #[f0, f1])) (hc : P.cellsOf t = 2) (o0 : f0.offset = 0) (o1 : f1.offset = 1) (c0 : P.cellsOf f0.type = 1) (c1 : P.cellsOf f1.type = 1) (h : DataW.trod enc P w base spare held fuel t cs = some x) :
    ∃ a b n x0 x1, cs = [a, b] ∧ DataW.trod enc P w base spare held n f0.type [a] = some x0 ∧ DataW.trod enc P w base spare held n f1.type [b] = some x1 := by
  obtain ⟨xs, n, _, _, hl, hx, hall⟩ := DataW.trod_struct ht h
  rw [hc] at hl
  match cs, hl with
  | [a, b], _ =>
    have h0 := hall 0 f0 rfl
    have h1 := hall 1 f1 rfl
    rw [o0, c0] at h0
    rw [o1, c1] at h1
    match xs, hx with
    | [x0, x1], _ => exact ⟨a, b, n, x0, x1, rfl, h0, h1⟩
end
end Go.Vm
