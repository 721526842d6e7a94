/- Whole numbers up to 2^53 come back as they are out of float64. -/
import Derived.Test.YtkldmgnhbomknaaGreatVmR
set_option linter.unusedVariables false
set_option linter.unusedSimpArgs false
namespace Go.Vm
open Ieee
theorem cut_none (neg : Bool) (n : Nat) : Toward.even.cut neg n 0 = n := by
  simp [Toward.cut]; omega
theorem cut_zero (neg : Bool) (m k : Nat) (hm : 0 < m) : Toward.zero.cut neg (m * 2 ^ k) k = m := by
  have h1 : k ≤ (m * 2 ^ k).log2 := by
    rw [Nat.le_log2 (by have := Nat.two_pow_pos k; exact Nat.ne_of_gt (Nat.mul_pos hm this))]
    exact Nat.le_mul_of_pos_left _ hm
  simp only [Toward.cut]
  rw [Nat.min_eq_left (by omega),Nat.one_shiftLeft,Nat.mul_div_cancel _ (Nat.two_pow_pos k)]
  rfl
theorem word_read (neg : Bool) (rung : Nat) (h1 : 4503599627370496 ≤ rung) (h2 : rung < 9218868437227405312) : double.read (double.word neg rung) = .number neg (4503599627370496 + rung % 4503599627370496) (-1074 + ((rung / 4503599627370496 - 1 : Nat) : Int)) := by
  have e1 : double.signWeight = 9223372036854775808 := by decide
  have e2 : double.binade = 4503599627370496 := by decide
  have e3 : double.infRung = 9218868437227405312 := by decide
  have e4 : double.leastPlace = -1074 := by decide
  have hw : double.word neg rung / 9223372036854775808 % 2 = neg.toNat ∧ double.word neg rung % 9223372036854775808 = rung := by
    cases neg <;> simp only [Format.word,e1] <;> simp <;> omega
  simp only [Format.read,e1,e2,e3,e4,hw.1,hw.2]
  rw [if_neg (by omega),if_pos (by omega)]
  cases neg <;> rfl
theorem read_near (neg : Bool) (m : Nat) (hm : 0 < m) (hs : m < 2 ^ 53) : double.read (double.nearest neg m 0) = .number neg (m * 2 ^ (52 - m.log2)) (-((52 - m.log2 : Nat) : Int)) := by
  have hl : m.log2 < 53 := (Nat.log2_lt (by omega)).2 hs
  have l1 : 2 ^ m.log2 ≤ m := Nat.log2_self_le (by omega)
  have l2 : m < 2 ^ (m.log2 + 1) := Nat.lt_log2_self
  have e2 : double.binade = 4503599627370496 := by decide
  have e3 : double.infRung = 9218868437227405312 := by decide
  have e4 : double.leastPlace = -1074 := by decide
  have e5 : double.fractionBits = 52 := by decide
  simp only [Format.nearest]
  rw [if_neg (by omega)]
  simp only [e2,e3,e4,e5]
  generalize m.log2 = L at *
  have p1 : 2 ^ L * 2 ^ (52 - L) = 4503599627370496 := by rw [← Nat.pow_add,show L + (52 - L) = 52 by omega]
  have p2 : 2 ^ (L + 1) * 2 ^ (52 - L) = 9007199254740992 := by rw [← Nat.pow_add,show L + 1 + (52 - L) = 53 by omega]
  have q1 : 4503599627370496 ≤ m * 2 ^ (52 - L) := by rw [← p1]; exact Nat.mul_le_mul_right _ l1
  have q2 : m * 2 ^ (52 - L) < 9007199254740992 := by rw [← p2]; exact Nat.mul_lt_mul_of_pos_right l2 (Nat.two_pow_pos _)
  have h1 : max (0 + (L : Int) - ((52 : Nat) : Int)) (-1074) = (L : Int) - 52 := by omega
  rw [h1]
  have h2 : (0 - ((L : Int) - 52)).toNat = 52 - L := by omega
  have h3 : ((L : Int) - 52 - 0).toNat = 0 := by omega
  have h4 : ((L : Int) - 52 - -1074).toNat = L + 1022 := by omega
  rw [h2,h3,h4,cut_none,Nat.shiftLeft_eq]
  generalize m * 2 ^ (52 - L) = M at *
  rw [Nat.min_eq_left (by omega),word_read _ _ (by omega) (by omega)]
  have h5 : ((L + 1022) * 4503599627370496 + M) % 4503599627370496 = M - 4503599627370496 := by omega
  have h6 : ((L + 1022) * 4503599627370496 + M) / 4503599627370496 - 1 = L + 1022 := by omega
  rw [h5,h6,show 4503599627370496 + (M - 4503599627370496) = M by omega,show (-1074 : Int) + ((L + 1022 : Nat) : Int) = -((52 - L : Nat) : Int) by omega]
theorem near_toInt (n : Int) (h1 : -9007199254740992 ≤ n) (h2 : n ≤ 9007199254740992) : (FloatKind.f64.decode (FloatKind.f64.nearest n)).toInt .zero = some n := by
  by_cases hz : n = 0
  · subst hz; decide
  by_cases ha : n = 9007199254740992
  · subst ha; decide
  by_cases hb : n = -9007199254740992
  · subst hb; decide
  have hr := read_near (decide (n < 0)) n.natAbs (by omega) (by omega)
  have e : FloatKind.f64.decode (FloatKind.f64.nearest n) = _ := hr
  rw [e]
  simp only [Datum.toInt,Datum.integral]
  have hl : n.natAbs.log2 < 53 := (Nat.log2_lt (by omega)).2 (by omega)
  rw [show (-((52 - n.natAbs.log2 : Nat) : Int)).toNat = 0 by omega,show (- -((52 - n.natAbs.log2 : Nat) : Int)).toNat = 52 - n.natAbs.log2 by omega,Nat.shiftLeft_zero,cut_zero _ _ _ (by omega)]
  simp only [signed,Nat.shiftLeft_zero,decide_eq_true_eq]
  split <;> (congr 1; omega)
theorem near_back (n : Int) (h1 : -9007199254740992 ≤ n) (h2 : n ≤ 9007199254740992) : floatToIntVal .f64 (FloatKind.f64.nearest n) .i64 = some n := by
  unfold floatToIntVal
  rw [near_toInt n h1 h2]
  have e1 : IntKind.i64.min = -9223372036854775808 := by decide
  have e2 : IntKind.i64.max = 9223372036854775807 := by decide
  simp only [e1,e2]
  rw [if_pos (by omega)]
end Go.Vm
