/- Plain: texts without secrets, cut, and of bytes that can be told; notes. -/
import Derived.Test.YtjlphncecdlmcaaVmQ
set_option linter.unusedVariables false
set_option linter.unusedSimpArgs false
namespace Go.Proofs.Ytjlphncecdlmcaa
open Go.Vm
abbrev Str := List UInt8
def pfx (p t : Str) : Bool := decide (p.length ≤ t.length) && decide (t.take p.length = p)
def bgS (t : Str) : List Str → Nat → Nat
  | [], m => m
  | s :: l, m => bgS t l (if 4 ≤ s.length ∧ pfx s t = true then max m s.length else m)
theorem bgS_le (t : Str) : ∀ (l : List Str) (m : Nat), m ≤ t.length → bgS t l m ≤ t.length
  | [], m, h => h
  | s :: l, m, h => by
    refine bgS_le t l _ ?_
    split
    · rename_i h1
      have := h1.2
      simp only [pfx, Bool.and_eq_true, decide_eq_true_eq] at this
      omega
    · exact h
def stars : Str := [42, 42, 42]
def cleanS (l : List Str) (t : Str) : Str :=
  if h : t = [] then [] else
    if 0 < bgS t l 0 then stars ++ cleanS l (t.drop (bgS t l 0)) else t.take 1 ++ cleanS l (t.drop 1)
termination_by t.length
decreasing_by all_goals (have := List.length_pos_iff.2 h; simp only [List.length_drop]; omega)
theorem cleanS_nil (l : List Str) : cleanS l [] = [] := by rw [cleanS]; simp
theorem cleanS_ne (l : List Str) (t : Str) (h : t ≠ []) : cleanS l t = if 0 < bgS t l 0 then stars ++ cleanS l (t.drop (bgS t l 0)) else t.take 1 ++ cleanS l (t.drop 1) := by
  rw [cleanS, dif_neg h]
theorem cleanS_len (l : List Str) : ∀ (n : Nat) (t : Str), t.length ≤ n → (cleanS l t).length ≤ 3 * t.length
  | 0, t, h => by
    have : t = [] := List.length_eq_zero_iff.1 (by omega)
    subst this; rw [cleanS_nil]; simp
  | n + 1, t, h => by
    rw [cleanS]
    split
    · simp
    · rename_i hne
      have hp := List.length_pos_iff.2 hne
      split
      · have := cleanS_len l n (t.drop (bgS t l 0)) (by rw [List.length_drop]; omega)
        rw [List.length_drop] at this
        rw [List.length_append]
        simp only [stars, List.length_cons, List.length_nil]
        have := bgS_le t l 0 (by omega)
        omega
      · have := cleanS_len l n (t.drop 1) (by rw [List.length_drop]; omega)
        rw [List.length_drop] at this
        rw [List.length_append, List.length_take]; omega
def pr (b : UInt8) : UInt8 := if b.toNat < 32 ∨ 126 < b.toNat then 63 else b
def cutS (b : Str) : Str := if 80 < b.length then b.take 77 ++ [46, 46, 46] else b
def textS (l : List Str) (s : Str) : Str := cutS ((cleanS l s).map pr)
structure Nt where
  err : Bool
  txt : Str
  deriving DecidableEq
def ntC (n : Nt) : List V := [.bool n.err, .str n.txt]
def ntsE (l : List Nt) : List (List V) := l.map ntC
theorem ntsE_get (l : List Nt) (i : Nat) : (ntsE l)[i]? = (l[i]?).map ntC := by simp [ntsE]
theorem ntsE_length (l : List Nt) : (ntsE l).length = l.length := by simp [ntsE]
theorem ntsE_append (l m : List Nt) : ntsE (l ++ m) = ntsE l ++ ntsE m := by simp [ntsE]
def greatN (l : List Nt) (ss : List Str) : Bool := l.any (fun n => decide (300 < n.txt.length)) || ss.any (fun s => decide (100 < s.length)) || decide (30 < l.length) || decide (20 < ss.length)
end Go.Proofs.Ytjlphncecdlmcaa
