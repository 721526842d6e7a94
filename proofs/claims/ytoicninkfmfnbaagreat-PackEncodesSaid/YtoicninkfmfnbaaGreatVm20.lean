/- What a row's arguments stand for: readings, opened to abstract values in a world of which all is held fast. -/
import Derived.Test.YtoicninkfmfnbaaGreatVm19
import Derived.ChangeArms
import Derived.ChangeSlices
set_option linter.unusedVariables false
set_option linter.unusedSimpArgs false
namespace Go.Vm
theorem row_start {w : World} : ∀ (vs : List V) (cs : List Value) (b o : Nat), ones vs = true → (St.start w).vals vs cs → (∀ i y, cs[i]? = some y → w.cell? ⟨b, o + i, none⟩ = some y) → Holds (St.start w) (.row b o vs)
  | [], _, b, o, _, _, _ => .rowNil b o
  | v :: vs, cs, b, o, h1, h2, h3 => by
    cases h2 with
    | cons _ x _ xs k1 k2 =>
      simp only [ones, List.all_cons, Bool.and_eq_true] at h1
      refine .rowCons b o v x vs h1.1 ⟨(show w.cell? ⟨b, o, none⟩ = some x by simpa using h3 0 x rfl), fun k e h => (nomatch h)⟩ k1 (row_start vs xs b (o + 1) h1.2 k2 fun i y hy => ?_)
      have := h3 (i + 1) y (by simpa using hy)
      rw [show o + 1 + i = o + (i + 1) by omega]
      exact this
theorem els_start {w : World} (sz : Nat) : ∀ (es : List (List V)) (b o : Nat), (∀ (j : Nat) (e : List V), es[j]? = some e → e.length = sz ∧ Holds (St.start w) (.row b (o + j * sz) e)) → Holds (St.start w) (.els b o sz es)
  | [], b, o, _ => .elsNil b o sz
  | e :: es, b, o, h => by
    obtain ⟨h1, h2⟩ := h 0 e rfl
    refine .elsCons b o sz e es h1 (by simpa using h2) (els_start sz es b (o + sz) fun j e' he => ?_)
    obtain ⟨k1, k2⟩ := h (j + 1) e' (by simpa using he)
    refine ⟨k1, ?_⟩
    rw [show o + sz + j * sz = o + (j + 1) * sz by rw [Nat.succ_mul]; omega]
    exact k2
theorem add_none (b o n : Nat) : Addr.add ⟨b, o, none⟩ n = ⟨b, o + n, none⟩ := by
  unfold Addr.add
  split
  · rename_i h; subst h; rfl
  · rfl
theorem strs_of : ∀ (es : List (List V)), (∀ c ∈ es, ∃ s : List UInt8, c = [.str s] ∧ s.length ≤ maxLen) → ∃ l, es = strsE l ∧ ∀ s ∈ l, s.length ≤ maxLen
  | [], _ => ⟨[], rfl, fun s hs => (nomatch hs)⟩
  | c :: es, h => by
    obtain ⟨n, rfl, hn⟩ := h c (by simp)
    obtain ⟨l, rfl, hl⟩ := strs_of es (fun c hc => h c (by simp [hc]))
    refine ⟨n :: l, rfl, fun s hs => ?_⟩
    rcases List.mem_cons.1 hs with rfl | hs
    · exact hn
    · exact hl s hs
section
variable {H : Type} {enc : TypeId × Value → H} {P : Program} {w : World} {base : Nat} {spare : Nat → Bool} {held : Bool} {t e : TypeId} {fuel : Nat} {cs : List Value} {x : DataW H × List MemPlace}
end
end Go.Vm
