/- What a row's arguments stand for, of any types of plain data: truths, numbers, texts, slices and structs of them, recursive ones too. -/
import Derived.Test.YtoicninkfmfnbaaGreatVm20
import Derived.WideShapes
import Derived.Carry
set_option linter.unusedVariables false
set_option linter.unusedSimpArgs false
namespace Go.Vm
open Go.RowKit
def rd (P : Program) : Nat → TypeId → List V → Prop
  | 0, _, _ => False
  | n + 1, T, vs => match P.underlying T with
    | some .bool => ∃ b, vs = [.bool b]
    | some (.int k) => ∃ m, vs = [.int k m] ∧ (Lit.int k m).wf = true
    | some .string => ∃ s : List UInt8, vs = [.str s] ∧ s.length ≤ maxLen
    | some (.slice e) => ∃ es : List (List V), vs = [.sl (P.cellsOf e) es .no] ∧ es.length ≤ maxLen ∧ ∀ c ∈ es, rd P n e c
    | some (.struct fs) => vs.length = P.cellsOf T ∧ ∀ f ∈ fs.toList, rd P n f.type ((vs.drop f.offset).take (P.cellsOf f.type))
    | _ => False
def laidF (P : Program) : Nat → List Field → Option Nat
  | o, [] => some o
  | o, f :: fs => if f.offset = o then laidF P (o + P.cellsOf f.type) fs else none
def plainT (P : Program) (ts : List TypeId) : Bool :=
  ts.all fun T => match P.underlying T with
    | some .bool | some (.int _) | some .string => P.cellsOf T == 1
    | some (.slice e) => P.cellsOf T == 1 && (ts.contains e && decide (0 < P.cellsOf e))
    | some (.struct fs) => fs.toList.all (fun f => ts.contains f.type) && laidF P 0 fs.toList == some (P.cellsOf T)
    | _ => false
theorem laidF_le {P : Program} : ∀ (fs : List Field) (o tot : Nat), laidF P o fs = some tot → o ≤ tot
  | [], o, tot, h => by cases h; exact Nat.le_refl _
  | f :: fs, o, tot, h => by
    simp only [laidF] at h
    split at h
    · have := laidF_le fs _ _ h; omega
    · cases h
theorem laidF_off {P : Program} : ∀ (fs : List Field) (o tot : Nat), laidF P o fs = some tot → ∀ f ∈ fs, o ≤ f.offset
  | [], o, tot, h => fun f hf => (nomatch hf)
  | f :: fs, o, tot, h => by
    simp only [laidF] at h
    split at h
    · rename_i e
      intro g hg
      rcases List.mem_cons.1 hg with rfl | hg
      · omega
      · have := laidF_off fs _ _ h g hg; omega
    · cases h
theorem fields_start {P : Program} {s : St} {cs : List Value} {tot : Nat} {R : TypeId → List V → Prop} : ∀ (fs : List Field) (o : Nat), laidF P o fs = some tot → cs.length = tot →
    (∀ f ∈ fs, ((cs.drop f.offset).take (P.cellsOf f.type)).length = P.cellsOf f.type → ∃ vs, vs.length = P.cellsOf f.type ∧ ones vs = true ∧ s.vals vs ((cs.drop f.offset).take (P.cellsOf f.type)) ∧ R f.type vs) →
    ∃ vs, vs.length = tot - o ∧ ones vs = true ∧ s.vals vs (cs.drop o) ∧ ∀ f ∈ fs, R f.type ((vs.drop (f.offset - o)).take (P.cellsOf f.type))
  | [], o, hl, hc, _ => by
    cases hl
    exact ⟨[], by simp, rfl, by rw [List.drop_eq_nil_of_le (by omega)]; exact .nil, fun f hf => (nomatch hf)⟩
  | f :: fs, o, hl, hc, h => by
    simp only [laidF] at hl
    split at hl
    · rename_i e
      have hle := laidF_le fs _ _ hl
      obtain ⟨vs, l1, o1, v1, r1⟩ := h f (by simp) (by simp; omega)
      obtain ⟨us, l2, o2, v2, r2⟩ := fields_start fs _ hl hc (fun g hg => h g (by simp [hg]))
      refine ⟨vs ++ us, by simp; omega, ones_append o1 o2, ?_, ?_⟩
      · have := vals_append v1 v2
        rw [e, ← List.drop_drop, List.take_append_drop] at this
        exact this
      · intro g hg
        rcases List.mem_cons.1 hg with rfl | hg
        · rw [show g.offset - o = 0 by omega, List.drop_zero, List.take_left' l1]; exact r1
        · have ho := laidF_off fs _ _ hl g hg
          have : (vs ++ us).drop (g.offset - o) = us.drop (g.offset - (o + P.cellsOf f.type)) := by
            rw [List.drop_append, List.drop_eq_nil_of_le (by omega), List.nil_append]
            congr 1; omega
          rw [this]; exact r2 g hg
    · cases hl
/-! ### Taking readings apart -/
section
variable {P : Program} {n : Nat} {T e : TypeId} {vs : List V}
end
theorem wf_i64 {n : Int} (h : (Lit.int .i64 n).wf = true) : -9223372036854775808 ≤ n ∧ n < 9223372036854775808 := by
  simp [Lit.wf, IntKind.min, IntKind.max, IntKind.bits, IntKind.signed] at h; omega
end Go.Vm
