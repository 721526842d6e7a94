/- Plain laws of messages: fields as bytes. -/
import Derived.Test.YtoicninkfmfnbaaGreatM1
import Derived.Test.YtoicninkfmfnbaaGreatVmQ
set_option linter.unusedVariables false
set_option linter.unusedSimpArgs false
namespace Go.Vm
structure Fld where
  tag : Int
  by_ : Bool
  n : Nat
  b : List UInt8
  deriving DecidableEq
abbrev fldC (f : Fld) : List V := [.int .i64 f.tag, .bool f.by_, .int .u64 f.n, .sl 1 (byteCells f.b) .no]
def fldsE (l : List Fld) : List (List V) := l.map fldC
theorem fldsE_get (l : List Fld) (i : Nat) : (fldsE l)[i]? = (l[i]?).map fldC := by simp [fldsE]
theorem fldsE_length (l : List Fld) : (fldsE l).length = l.length := by simp [fldsE]
theorem fldsE_append (l m : List Fld) : fldsE (l ++ m) = fldsE l ++ fldsE m := by simp [fldsE]
def f0 : Fld := ⟨0, false, 0, []⟩
def rightF (f : Fld) : Bool := decide (1 ≤ f.tag) && (decide (f.tag ≤ 1000) && (if f.by_ then decide (f.n = 0) else decide (f.b = [])))
def behindF (f last : Fld) : Bool := decide (last.tag < f.tag) || (decide (f.tag = last.tag) && (f.by_ && last.by_))
def fitsF (f last : Fld) : Bool := rightF f && behindF f last
def keyN (f : Fld) : Nat := 2 * f.tag.toNat + f.by_.toNat
def layF (f : Fld) : List UInt8 := vb (keyN f) ++ (if f.by_ then vb f.b.length ++ f.b else vb f.n)
def layL (l : List Fld) : List UInt8 := l.flatMap layF
def fitsL : Fld → List Fld → Bool
  | _, [] => true
  | last, f :: l => fitsF f last && fitsL f l
def sizeL (l : List Fld) : Nat := (l.map (·.b.length)).sum
def encS (l : List Fld) : List UInt8 × Int :=
  if 64 < l.length ∨ 4096 < sizeL l then ([], 3) else if fitsL f0 l = false then ([], 1) else if 4096 < (layL l).length then ([], 3) else (layL l, 0)
theorem sizeL_take (l : List Fld) (i : Nat) (h : i < l.length) : sizeL (l.take (i + 1)) = sizeL (l.take i) + l[i].b.length := by
  unfold sizeL
  rw [List.take_add_one, List.getElem?_eq_getElem h, Option.toList_some, List.map_append, List.sum_append]
  simp
theorem sizeL_le (l : List Fld) (i : Nat) : sizeL (l.take i) ≤ sizeL l := by
  unfold sizeL
  conv => rhs; rw [← List.take_append_drop i l, List.map_append, List.sum_append]
  omega
theorem size_mem {l : List Fld} {i : Nat} (h : i < l.length) : l[i].b.length ≤ sizeL l := by
  have h1 := sizeL_take l i h
  have h2 := sizeL_le l (i + 1)
  omega
theorem fits_tag {f last : Fld} (h : fitsF f last = true) : 1 ≤ f.tag ∧ f.tag ≤ 1000 := by
  simp only [fitsF, rightF, Bool.and_eq_true, decide_eq_true_eq] at h
  exact ⟨h.1.1, h.1.2.1⟩
theorem right_tag {f : Fld} (h : rightF f = true) : 1 ≤ f.tag ∧ f.tag ≤ 1000 := by
  simp only [rightF, Bool.and_eq_true, decide_eq_true_eq] at h
  exact ⟨h.1, h.2.1⟩
theorem layF_len {f : Fld} (h : 1 ≤ f.tag ∧ f.tag ≤ 1000) (hn : f.n < 18446744073709551616) (hb : f.b.length < 18446744073709551616) : (layF f).length ≤ 20 + f.b.length := by
  have hk : keyN f < 18446744073709551616 := by simp only [keyN]; cases f.by_ <;> simp <;> omega
  have h1 := vb_len10 hk
  have h2 := vb_len10 hn
  have h3 := vb_len10 hb
  unfold layF
  split <;> simp only [List.length_append] <;> omega
/-! ### Reading -/
def fieldS (r : List UInt8) : Fld × Int × Nat :=
  let k := readS r
  if k.2.2 ≠ 0 then (f0, k.2.2, k.2.1) else
  let n := readS (r.drop k.2.1)
  if n.2.2 ≠ 0 then (f0, n.2.2, k.2.1 + n.2.1) else
  if k.1 % 2 ≠ 1 then (⟨((min (k.1 / 2) 1001 : Nat) : Int), false, n.1, []⟩, 0, k.2.1 + n.2.1) else
  if r.length - (k.2.1 + n.2.1) < n.1 then (f0, 5, k.2.1 + n.2.1) else
  (⟨((min (k.1 / 2) 1001 : Nat) : Int), true, 0, (r.drop (k.2.1 + n.2.1)).take n.1⟩, 0, k.2.1 + n.2.1 + n.1)
def decL : Nat → List Fld → Fld → Nat → List UInt8 → List Fld × Int × Int
  | 0, acc, _, _, _ => (acc, acc.length, 0)
  | m + 1, acc, last, at_, r =>
    if r = [] then (acc, acc.length, 0) else
    let x := fieldS r
    if x.2.1 ≠ 0 then ([], at_, x.2.1) else if fitsF x.1 last = false then ([], at_, 1) else if acc.length = 64 then ([], at_, 3) else decL m (acc ++ [x.1]) x.1 (at_ + x.2.2) (r.drop x.2.2)
def decS (b : List UInt8) : List Fld × Int × Int := if 4096 < b.length then ([], 0, 3) else decL b.length [] f0 0 b
theorem read_cases (r : List UInt8) : ((readS r).2.2 = 0 ∧ (readS r).1 < 18446744073709551616 ∧ 0 < (readS r).2.1 ∧ (readS r).2.1 ≤ r.length ∧ vb (readS r).1 = r.take (readS r).2.1) ∨ ((readS r).1 = 0 ∧ (readS r).2.1 = 0 ∧ ((readS r).2.2 = 4 ∨ (readS r).2.2 = 5)) :=
  read_ok (b := r) (n := (readS r).1) (k := (readS r).2.1) (e := (readS r).2.2) rfl
theorem fieldS_len (r : List UInt8) : (fieldS r).2.2 ≤ r.length ∧ ((fieldS r).2.1 = 0 → 0 < (fieldS r).2.2) ∧ (fieldS r).1.n < 18446744073709551616 ∧ (fieldS r).1.b.length ≤ r.length := by
  have h1 := read_cases r
  have h2 := read_cases (r.drop (readS r).2.1)
  rw [List.length_drop] at h2
  unfold fieldS
  simp only
  split
  · rename_i hc
    exact ⟨by show (readS r).2.1 ≤ _; omega, fun e => absurd e hc, by simp [f0], by simp [f0]⟩
  · split
    · rename_i hc
      exact ⟨by show (readS r).2.1 + _ ≤ _; omega, fun e => absurd e hc, by simp [f0], by simp [f0]⟩
    · split
      · exact ⟨by show (readS r).2.1 + _ ≤ _; omega, fun _ => by show 0 < (readS r).2.1 + _; omega, by show (readS (r.drop (readS r).2.1)).1 < _; omega, by simp⟩
      · split
        · exact ⟨by show (readS r).2.1 + _ ≤ _; omega, fun e => by simp at e, by simp [f0], by simp [f0]⟩
        · exact ⟨by show (readS r).2.1 + _ + _ ≤ _; omega, fun _ => by show 0 < (readS r).2.1 + _ + _; omega, by simp, by simp only [List.length_take, List.length_drop]; omega⟩
end Go.Vm
