/- What names' closure captures, as immutable rows. -/
import Derived.Test.YtjlphncecdlmcaaVm27
import Derived.Test.YtjlphncecdlmcaaC3
set_option linter.unusedVariables false
set_option linter.unusedSimpArgs false
namespace Go.Proofs.Ytjlphncecdlmcaa
open Go.Vm
theorem ents_any {s s' : St} : ∀ {l : List (List UInt8 × Int)} {ms : List MapEntry}, Holds s (.ents (alE l) ms) → Holds s' (.ents (alE l) ms)
  | [], ms, h => by cases h; exact .entsNil
  | p :: l, ms, h => by
    cases h with
    | entsCons _ _ m _ ms h1 h2 h3 =>
      refine .entsCons _ _ _ _ _ ?_ ?_ (ents_any h3)
      · rw [inv_str h1]; exact .str _
      · rw [inv_int h2]; exact .int _ _
theorem cap_at {s : St} {H : AH} (hr : HRel s H) {b k kb ka km : Nat} {now : Int} {l : List (List UInt8 × Int)} (hb : s.role b = some (k, 0)) (h1 : H kb = some (.cells [.ptr ka 0])) (h2 : H ka = some (.cells [.int .i64 now, .map km])) (h3 : H km = some (.map (alE l)))
    (n1 : kb ≠ k) (n2 : ka ≠ k) (n3 : km ≠ k) {cb : List Value} (hv : s.vals [.ptr kb 0] cb) (W : World) (hW : ∀ c, c ≠ b → c < s.w.heap.size → W.heap[c]? = s.w.heap[c]?) (hWs : s.w.heap.size ≤ W.heap.size) :
    (s.at W).vals [.rptr [.rptr [.int .i64 now, .mapv (alE l)] 0] 0] cb := by
  obtain ⟨b1, ys1, zs1, T1, fr1, p1, p2, p3, _, p5, _⟩ := hr.obj kb _ h1
  obtain ⟨b2, ys2, zs2, T2, fr2, q1, q2, q3, _, q5, _⟩ := hr.obj ka _ h2
  obtain ⟨b3, ms, c, r1, r2, r3, r4, _⟩ := hr.obj km _ h3
  have ne : ∀ {c i : Nat}, s.role c = some (i, 0) → i ≠ k → c ≠ b := fun h hn e => by subst e; rw [hb] at h; cases h; exact hn rfl
  have g1 := hW b1 (ne p2 n1) (hr.role _ _ _ p2).2
  have g2 := hW b2 (ne q2 n2) (hr.role _ _ _ q2).2
  have g3 := hW b3 (ne r2 n3) (hr.role _ _ _ r2).2
  have imm : ∀ (b o : Nat) (y : Value), W.cell? ⟨b, o, none⟩ = some y → (s.at W).imm b o y := fun b o y h => ⟨h, fun k e he => by cases he⟩
  cases hv with
  | cons _ x _ xs hx hxs =>
    cases hxs
    obtain ⟨bb, e1, rfl⟩ := inv_ptr hx
    rw [p1] at e1; cases e1
    cases hy1 : ys1.toList with
    | nil => rw [hy1] at p5; cases p5
    | cons y1 t1 =>
      rw [hy1] at p5
      cases p5 with
      | cons _ _ _ _ w1 w2 =>
        cases w2
        obtain ⟨ba, e2, rfl⟩ := inv_ptr w1
        rw [q1] at e2; cases e2
        cases hy2 : ys2.toList with
        | nil => rw [hy2] at q5; cases q5
        | cons y2 t2 =>
          rw [hy2] at q5
          cases q5 with
          | cons _ _ _ _ v1 v2 =>
            cases v2 with
            | cons _ y3 _ _ v3 v4 =>
              cases v4
              obtain ⟨bm, e3, rfl⟩ := inv_map v3
              rw [r1] at e3; cases e3
              have c1 : W.cell? ⟨b1, 0, none⟩ = some (.pointer (some ⟨b2, 0, none⟩)) := by
                rw [obj_cell (g1.trans p3)]; rw [← Array.getElem?_toList, Array.toList_append, hy1]; rfl
              have c2 : W.cell? ⟨b2, 0, none⟩ = some y2 := by
                rw [obj_cell (g2.trans q3)]; rw [← Array.getElem?_toList, Array.toList_append, hy2]; rfl
              have c3 : W.cell? ⟨b2, 0 + 1, none⟩ = some (.map (some b3)) := by
                rw [obj_cell (g2.trans q3)]; rw [← Array.getElem?_toList, Array.toList_append, hy2]; rfl
              have hm : (s.at W).val (.mapv (alE l)) (.map (some b3)) := .mapv _ b3 ms c (Nat.lt_of_lt_of_le (hr.role _ _ _ r2).2 hWs) rfl (g3.trans r3) (ents_any r4)
              have hn : (s.at W).val (.int .i64 now) y2 := by rw [inv_int v1]; exact .int _ _
              have row2 : Holds (s.at W) (.row b2 0 [.int .i64 now, .mapv (alE l)]) := .rowCons _ _ _ _ _ rfl (imm _ _ _ c2) hn (.rowCons _ _ _ _ _ rfl (imm _ _ _ c3) hm (.rowNil _ _))
              have in2 : (s.at W).val (.rptr [.int .i64 now, .mapv (alE l)] 0) (.pointer (some ⟨b2, 0, none⟩)) := .rptr _ 0 b2 0 row2
              have row1 : Holds (s.at W) (.row b1 0 [.rptr [.int .i64 now, .mapv (alE l)] 0]) := .rowCons _ _ _ _ _ rfl (imm _ _ _ c1) in2 (.rowNil _ _)
              exact .cons _ _ _ _ (.rptr _ 0 b1 0 row1) .nil
end Go.Proofs.Ytjlphncecdlmcaa
