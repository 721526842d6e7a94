/- The bridge to the shelf's sort: a comparison, walked with nothing in the heap, is what the shelf asks for. -/
import Derived.Test.YtjlphncecdlmcaaVm25
import Derived.Shelf.SlSortCmp.Kit1
set_option linter.unusedVariables false
set_option linter.unusedSimpArgs false
namespace Go.Vm
open Go.Proofs Go.Sort Go.Shelf
variable {P : Program} {α : Type} [Inhabited α]
/-- The state of a world, as it is numbered, with nothing to write. -/
def St.at (s : St) (W : World) : St := ⟨W, s.blk, s.tok, fun _ => none, s.nx⟩
theorem sortWorld_heap (enc : α → Value) (w : World) (blk off m : Nat) (dk : Array α) (os : Array Obj) {c : Nat} (hc : c ≠ blk) (hl : c < w.heap.size) : (sortWorld enc w blk off m dk os).heap[c]? = w.heap[c]? := by
  simp only [sortWorld, Sort.grow, putRow, mapBlock, Sort.ahead]
  rw [Array.getElem?_append_left (by simpa using hl), Array.getElem?_modify, if_neg (by omega)]
theorem cmp_lays1 {g : Nat} {cb : List Value} {enc : α → Value} {cf : α → α → Int} {blk off size : Nat} {s : St} {H : AH} (hr : HRel s H) {encV : α → V} {caps : List V}
    (henc : ∀ (s : St) (x : α), s.val (encV x) (enc x))
    (hcall : ∀ x y, ACalls P g (encV x :: encV y :: caps) (fun _ => none) (fun o H' => o = .ret (.int .i64 (cf x y)) ∧ H' = fun _ => none))
    (hcap : ∀ W : World, (∀ c, c ≠ blk → c < s.w.heap.size → W.heap[c]? = s.w.heap[c]?) → s.w.heap.size ≤ W.heap.size → (s.at W).vals caps cb) :
    CmpLays1 P g cb.toArray enc cf blk off size s.w := by
  intro m os dk _ x y
  have hW := fun c hc hl => sortWorld_heap enc s.w blk off m dk os (c := c) hc hl
  have hWs : s.w.heap.size ≤ (sortWorld enc s.w blk off m dk os).heap.size := by
    simp only [sortWorld, Sort.grow, putRow, mapBlock, Sort.ahead, Array.size_append, Array.size_modify]; omega
  generalize sortWorld enc s.w blk off m dk os = W at *
  have hr2 : HRel (s.at W) (fun _ => none) := ⟨fun _ _ h => (by cases h), fun _ _ h => (by cases h), hr.blk, hr.tok, fun _ _ _ h => (by cases h)⟩
  have hc := hcall x y (s.at W) (enc x :: enc y :: cb) hr2 (.cons _ _ _ _ (henc _ x) (.cons _ _ _ _ (henc _ y) (hcap W hW hWs)))
  have e : (#[enc x, enc y] ++ cb.toArray) = (enc x :: enc y :: cb).toArray := by simp
  rw [e]
  refine Calls.mono hc ?_
  rintro e w' ⟨s', H', o, rfl, hx, _, ho, rfl, _⟩
  refine ⟨?_, ?_⟩
  · cases e with
    | returned z => cases ho; rfl
    | panicked ch => exact ho.elim
    | outgrown => exact ho.elim
  · exact grown_of (s := s.at W) hx
end Go.Vm
