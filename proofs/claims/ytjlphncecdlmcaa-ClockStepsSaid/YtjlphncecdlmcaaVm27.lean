/- slices.SortFunc over a slice of strings that grows and may be written: the shelf's contract, over the abstract heap. -/
import Derived.Test.YtjlphncecdlmcaaVm26
import Derived.Shelf.SlSortCmp.NoneTotal
set_option linter.unusedVariables false
set_option linter.unusedSimpArgs false
namespace Go.Vm
open Go.Proofs Go.Sort Go.Shelf
variable {P : Program}
def encS (l : List UInt8) : Value := .string ⟨l.toArray⟩
def strV (l : List (List UInt8)) : List V := l.map V.str
theorem vals_strV {s : St} : ∀ (l : List (List UInt8)), s.vals (strV l) (l.map encS)
  | [] => .nil
  | x :: l => .cons _ _ _ _ (.str x) (vals_strV l)
theorem inv_strV {s : St} : ∀ (l : List (List UInt8)) (ys : List Value), s.vals (strV l) ys → ys = l.map encS
  | [], ys, h => by cases h; rfl
  | x :: l, ys, h => by
    cases h with
    | cons _ y _ ys h1 h2 => rw [inv_strV l ys h2, inv_str h1]; rfl
theorem sort_gsl {ρ : Ren} (L : SlLaysF.n6 P ρ) {g : Nat} {caps caps' : List V} {cf : List UInt8 → List UInt8 → Int} (hO : SWO (ltOf cf)) (hT : ∀ x y, (ltOf cf) x y = false → (ltOf cf) y x = false → x = y) {k : Nat} {l : List (List UInt8)} {H : AH}
    (hk : H k = some (.gr 1 l.length (strV l))) (hsz : l.length < 4611686018427387904)
    (eg : ∀ args w, (callFunc g args).run P w = .ok (.enter g args) w)
    (hcall : ∀ x y, ACalls P g (V.str x :: V.str y :: caps') (fun _ => none) (fun o H' => o = .ret (.int .i64 (cf x y)) ∧ H' = fun _ => none))
    (hcap : ∀ (s : St) (b : Nat) (cb : List Value), HRel s H → s.role b = some (k, 0) → s.vals caps cb → ∀ W : World, (∀ c, c ≠ b → c < s.w.heap.size → W.heap[c]? = s.w.heap[c]?) → s.w.heap.size ≤ W.heap.size → (s.at W).vals caps' cb) :
    ACalls P (ρ.f 6) [.gsl k 1 l.length, .func (.func g) [] caps] H (fun o H' => o = .ret (.tuple []) ∧ H' = H.put k (.gr 1 l.length (strV (l.mergeSort fun x y => !(ltOf cf) y x)))) := by
  intro s xs hr hv
  obtain ⟨b, cap, ys, T, t1, t2, t3, t4, t5, t6, t7, t8⟩ := hr.obj k _ hk
  cases hv with
  | cons _ x _ xs h1 h2 =>
    cases h2 with
    | cons _ f _ xs h3 h4 =>
      cases h4
      cases h3 with
      | func _ _ _ fs cb h5 h6 =>
        cases h5
        cases h1 with
        | gsl _ _ _ a cap2 ht =>
          obtain ⟨st, s1, _, s3⟩ := ht
          rw [t1] at s1; cases s1
          cases s3 rfl
          have hlt : b < s.w.heap.size := (hr.role b k 0 t2).2
          have hys := inv_strV l _ t7
          have hget : ∀ j, j < l.length → ys[j]? = some (encS l.toArray[j]!) := by
            intro j hj
            have e : (ys.toList.take (l.length * 1))[j]? = (l.map encS)[j]? := by rw [hys]
            rw [List.getElem?_take, if_pos (by omega), List.getElem?_map, List.getElem?_eq_getElem hj] at e
            simpa [hj] using e
          have hH : Sort.Holds encS s.w b 0 l.toArray := by
            intro j hj
            have hj' : j < l.length := by simpa using hj
            refine ⟨by rw [obj_cell t3, Nat.zero_add]; exact hget j hj', ?_⟩
            simp [World.frozen?, t3]
          have hcmp := cmp_lays1 (P := P) (g := g) (cb := cb) (enc := encS) (cf := cf) (blk := b) (off := 0) (size := l.toArray.size) hr (encV := V.str) (caps := caps') (fun s x => .str x) hcall (hcap s b cb hr t2 h6)
          have hS := Any.slices_SortFunc_total L encS (fun _ => rfl) cf hO g cb.toArray b 0 cap l.toArray s.w eg hcmp hH hlt (by simpa using hsz) hT
          have e0 : ([Value.slice (some ⟨b, 0, none⟩) l.length cap, Value.func (.func g) #[] cb.toArray] : List Value).toArray = #[.slice (some ⟨b, 0, none⟩) l.toArray.size cap, .func (.func g) #[] cb.toArray] := by simp
          rw [e0]
          refine Calls.mono hS ?_
          rintro e w' ⟨rfl, n, os, rfl⟩
          have hl2 : (l.mergeSort fun x y => !(ltOf cf) y x).length = l.length := List.length_mergeSort _
          have e1 : l.toArray.toList.mergeSort (fun x y => !(ltOf cf) y x) = l.mergeSort fun x y => !(ltOf cf) y x := by simp
          rw [e1]
          generalize (l.mergeSort fun x y => !(ltOf cf) y x) = d at *
          have hWne := fun c hc hl => sortWorld_heap encS s.w b 0 n d.toArray os (c := c) hc hl
          have hWb : (sortWorld encS s.w b 0 n d.toArray os).heap[b]? = some (.cells (putCells encS 0 d.toArray ys) T (0, 0)) := by
            simp only [sortWorld, Sort.grow, putRow, mapBlock, Sort.ahead]
            rw [Array.getElem?_append_left (by simpa using hlt), Array.getElem?_modify, if_pos rfl, t3]
            rfl
          have hWs : s.w.heap.size ≤ (sortWorld encS s.w b 0 n d.toArray os).heap.size := by
            simp only [sortWorld, Sort.grow, putRow, mapBlock, Sort.ahead, Array.size_append, Array.size_modify]; omega
          have hWd : s.w.drawn ≤ (sortWorld encS s.w b 0 n d.toArray os).drawn := Nat.le_add_right _ _
          have hWo : (sortWorld encS s.w b 0 n d.toArray os).os = s.w.os := rfl
          have hWt : (sortWorld encS s.w b 0 n d.toArray os).tape = s.w.tape := rfl
          have hWp : (sortWorld encS s.w b 0 n d.toArray os).output = s.w.output := rfl
          generalize sortWorld encS s.w b 0 n d.toArray os = W at *
          have hx : Ext s { s with w := W } := by
            refine ⟨hWo, hWt, hWp, hWd, hWs, fun c hc h => ?_, fun c i e hc h => ?_, fun _ _ h => h, fun _ st h => ⟨st, h, .inl rfl⟩, Nat.le_refl _⟩
            · have hne : c ≠ b := fun e => by subst e; rw [t2] at h; cases h
              exact ⟨h, hWne c hne hc⟩
            · refine ⟨.inr ⟨e, Nat.le_refl _, h⟩, fun o ho => ?_⟩
              have hne : c ≠ b := fun e' => by subst e'; rw [t2] at h; cases h; omega
              exact cell_of_block (hWne c hne hc) o
          have hvals : (putCells encS 0 d.toArray ys).toList.take (l.length * 1) = d.map encS := by
            apply List.ext_getElem?
            intro j
            rw [List.getElem?_take]
            by_cases hj : j < l.length
            · rw [if_pos (by omega)]
              have hjy : j < ys.size := by omega
              have hjd : j < d.length := by omega
              simp [putCells, hjy, hjd]
            · rw [if_neg (by omega), List.getElem?_eq_none (by simp; omega)]
          refine ⟨{ s with w := W }, _, .ret (.tuple []), rfl, hx, ?_, .tuple [] [] .nil, rfl, rfl⟩
          refine ⟨fun i p hi => ?_, fun i p hi => ?_, hr.blk, hr.tok, fun c i e he => ?_⟩
          · by_cases ei : i = k
            · subst ei; rw [AH.put_same] at hi; cases hi
              exact ⟨b, cap, _, T, t1, t2, hWb, by simpa [putCells] using t4, t5, by simp [strV, hl2], by rw [hvals]; exact vals_strV d, by simp [strV, ones, V.one]⟩
            · rw [AH.put_ne _ _ ei] at hi
              refine ORel.keep hx (fun c e' he => ⟨rfl, ?_⟩) rfl (hr.obj i p hi)
              exact hWne c (fun e2 => by subst e2; rw [t2] at he; cases he; exact ei rfl) (hr.role c i e' he).2
          · show i < s.nx
            by_cases ei : i = k
            · subst ei; exact (hr.role _ _ _ t2).1
            · rw [AH.put_ne _ _ ei] at hi; exact hr.lt i p hi
          · have := hr.role c i e he
            exact ⟨this.1, Nat.lt_of_lt_of_le this.2 hWs⟩
/-- .. of a slice that is nil. -/
theorem sort_nil {ρ : Ren} (L : SlLaysF.n6 P ρ) (f : V) (H : AH) : ACalls P (ρ.f 6) [.nilSl, f] H (fun o H' => o = .ret (.tuple []) ∧ H' = H) := by
  intro s xs hr hv
  cases hv with
  | cons _ x _ xs h1 h2 =>
    cases h2 with
    | cons _ y _ xs h3 h4 =>
      cases h4
      cases h1
      have hS := AnyF.slices_SortFunc_none (P := P) (ρ := ρ) { L with } none 0 y s.w
      refine Calls.mono hS ?_
      rintro e w' ⟨rfl, rfl⟩
      exact ⟨s, H, .ret (.tuple []), rfl, Ext.refl s, hr, .tuple _ _ .nil, rfl, rfl⟩
end Go.Vm
