/- Plain laws of numbers as bytes. -/
import Derived.Test.YtkldmgnhbomknaaGreatVm18
set_option linter.unusedVariables false
set_option linter.unusedSimpArgs false
namespace Go.Vm
def vb (n : Nat) : List UInt8 := if h : n < 128 then [UInt8.ofNat n] else UInt8.ofNat (n % 128 + 128) :: vb (n / 128)
termination_by n
theorem vb_lt {n : Nat} (h : n < 128) : vb n = [UInt8.ofNat n] := by rw [vb,dif_pos h]
theorem vb_ge {n : Nat} (h : ¬ n < 128) : vb n = UInt8.ofNat (n % 128 + 128) :: vb (n / 128) := by rw [vb,dif_neg h]
theorem vb_len : ∀ (k n : Nat),n < 128 ^ k → (vb n).length ≤ max k 1
  | 0,n,h => by
    have : n = 0 := by simpa using h
    subst this; rw [vb_lt (by omega)]; simp
  | k + 1,n,h => by
    by_cases hn : n < 128
    · rw [vb_lt hn]; simp
    · rw [vb_ge hn]
      have hk : k ≠ 0 := by intro e; subst e; simp at h; omega
      have := vb_len k (n / 128) (by rw [Nat.pow_succ] at h; omega)
      simp only [List.length_cons]; omega
theorem vb_len10 {n : Nat} (h : n < 18446744073709551616) : (vb n).length ≤ 10 := by
  have := vb_len 10 n (by omega); omega
theorem vb_pos (n : Nat) : 0 < (vb n).length := by rw [vb]; split <;> simp
theorem u8_wrap (n : Int) : IntKind.u8.wrap n = n % 256 := by simp [IntKind.wrap,IntKind.bits,IntKind.signed]
theorem u64_wrap (n : Int) : IntKind.u64.wrap n = n % 18446744073709551616 := by simp [IntKind.wrap,IntKind.bits,IntKind.signed]
theorem u64_id {n : Int} (h : 0 ≤ n) (h2 : n < 18446744073709551616) : IntKind.u64.wrap n = n := by rw [u64_wrap]; omega
theorem u8_id {n : Int} (h : 0 ≤ n) (h2 : n < 256) : IntKind.u8.wrap n = n := by rw [u8_wrap]; omega
theorem or128' (n : Nat) : IntKind.u8.wrap (BitVec.ofInt 8 (IntKind.u8.wrap (n : Int)) ||| BitVec.ofInt 8 128).toNat = ((UInt8.ofNat (n % 128 + 128)).toNat : Int) := by
  have h : ∀ m : Fin 256,IntKind.u8.wrap (BitVec.ofInt 8 ((m.val : Nat) : Int) ||| BitVec.ofInt 8 128).toNat = ((UInt8.ofNat (m.val % 128 + 128)).toNat : Int) := by decide +kernel
  have := h ⟨n % 256,Nat.mod_lt _ (by omega)⟩
  simp only [u8_wrap (n : Int)]
  rw [show (n : Int) % 256 = ((n % 256 : Nat) : Int) by omega]
  rw [this]
  rw [show n % 256 % 128 + 128 = n % 128 + 128 by omega]
theorem or128 (n : Nat) : IntKind.u8.wrap (bitI .or .u8 (IntKind.u8.wrap (n : Int)) 128) = ((UInt8.ofNat (n % 128 + 128)).toNat : Int) := or128' n
theorem byte_cast {n : Nat} (h : n < 256) : IntKind.u8.wrap (n : Int) = ((UInt8.ofNat n).toNat : Int) := by
  rw [u8_wrap]
  simp
theorem shr7 (n : Nat) : Int.fdiv (n : Int) (2 ^ min 7 64) = ((n / 128 : Nat) : Int) := by
  show Int.fdiv (n : Int) (2 ^ 7) = _
  rw [Int.fdiv_eq_ediv_of_nonneg _ (by decide)]
  show (n : Int) / 128 = _
  omega
theorem tdiv128 (n : Nat) : Int.tdiv (n : Int) 128 = ((n / 128 : Nat) : Int) := by rw [Int.tdiv_eq_ediv_of_nonneg (by omega)]; omega
theorem tmod128 (n : Nat) : Int.tmod (n : Int) 128 = ((n % 128 : Nat) : Int) := by rw [Int.tmod_eq_emod_of_nonneg (by omega)]; omega
theorem tdiv2 (n : Nat) : Int.tdiv (n : Int) 2 = ((n / 2 : Nat) : Int) := by rw [Int.tdiv_eq_ediv_of_nonneg (by omega)]; omega
theorem tmod2 (n : Nat) : Int.tmod (n : Int) 2 = ((n % 2 : Nat) : Int) := by rw [Int.tmod_eq_emod_of_nonneg (by omega)]; omega
theorem ofNat_toNat {n : Nat} (h : n < 256) : ((UInt8.ofNat n).toNat : Int) = n := by simp; omega
theorem orAdd0 {acc c i : Nat} (h : acc < 128 ^ i) (hi : i ≤ 9) (hc : c * 128 ^ i < 18446744073709551616) : (BitVec.ofInt 64 (acc : Int) ||| BitVec.ofInt 64 (IntKind.u64.wrap ((c : Int) * 2 ^ min (7 * (i : Int)).toNat 64))).toNat = acc + c * 128 ^ i := by
  have e1 : min (7 * (i : Int)).toNat 64 = 7 * i := by omega
  have e2 : (128 : Nat) ^ i = 2 ^ (7 * i) := by rw [Nat.pow_mul]
  rw [e1]
  have e3 : (c : Int) * 2 ^ (7 * i) = ((c * 128 ^ i : Nat) : Int) := by rw [e2]; simp
  rw [e3,u64_id (n := ((c * 128 ^ i : Nat) : Int)) (by omega) (by omega)]
  have h64 : (128 : Nat) ^ i ≤ 128 ^ 9 := Nat.pow_le_pow_right (by omega) hi
  have o1 : ∀ n : Nat,n < 18446744073709551616 → BitVec.ofInt 64 (n : Int) = BitVec.ofNat 64 n := by intro n _; simp
  rw [o1 _ (by omega),o1 _ hc,← BitVec.ofNat_or,BitVec.toNat_ofNat]
  have e4 : acc ||| c * 128 ^ i = acc + c * 128 ^ i := by
    rw [e2] at h ⊢
    rw [Nat.or_comm,← Nat.shiftLeft_eq,← Nat.shiftLeft_add_eq_or_of_lt h,Nat.add_comm]
  have h5 := @Nat.or_lt_two_pow acc (c * 128 ^ i) 64 (by omega) (by omega)
  rw [Nat.mod_eq_of_lt h5,e4]
theorem orAdd {acc c i : Nat} (h : acc < 128 ^ i) (hi : i ≤ 9) (hc : c * 128 ^ i < 18446744073709551616) : IntKind.u64.wrap (bitI .or .u64 (acc : Int) (IntKind.u64.wrap ((c : Int) * 2 ^ min (7 * (i : Int)).toNat 64))) = ((acc + c * 128 ^ i : Nat) : Int) := by
  have e : bitI .or .u64 (acc : Int) (IntKind.u64.wrap ((c : Int) * 2 ^ min (7 * (i : Int)).toNat 64)) = acc + c * 128 ^ i := orAdd0 h hi hc
  have hlt : bitI .or .u64 (acc : Int) (IntKind.u64.wrap ((c : Int) * 2 ^ min (7 * (i : Int)).toNat 64)) < 2 ^ 64 := BitVec.isLt _
  rw [e] at hlt ⊢
  exact u64_id (by omega) (by omega)
theorem byteCells_append (l m : List UInt8) : byteCells (l ++ m) = byteCells l ++ byteCells m := by simp [byteCells]
theorem byteCells_length (l : List UInt8) : (byteCells l).length = l.length := by simp [byteCells]
theorem byteCells_get (l : List UInt8) (i : Nat) : (byteCells l)[i]? = (l[i]?).map fun b => [.int .u8 (b.toNat : Int)] := by simp [byteCells]
theorem byteCells_drop (l : List UInt8) (i : Nat) : (byteCells l).drop i = byteCells (l.drop i) := by simp [byteCells,List.map_drop]
theorem byteCells_take (l : List UInt8) (i : Nat) : (byteCells l).take i = byteCells (l.take i) := by simp [byteCells,List.map_take]
/-! ### Reading -/
def rl (acc i : Nat) : List UInt8 → Nat × Nat × Int
  | [] => (0,0,5)
  | c :: cs => if c.toNat < 128 then (if (c.toNat = 0 ∧ 0 < i) ∨ (i = 9 ∧ c.toNat ≠ 1) then (0,0,4) else (acc + c.toNat * 128 ^ i,i + 1,0))
    else if i = 9 then (0,0,4) else rl (acc + (c.toNat - 128) * 128 ^ i) (i + 1) cs
def readS (b : List UInt8) : Nat × Nat × Int := rl 0 0 b
def valP : List UInt8 → Nat
  | [] => 0
  | c :: cs => (c.toNat - 128) + 128 * valP cs
def big (l : List UInt8) : Prop := ∀ c ∈ l,128 ≤ c.toNat
theorem u8_lt (c : UInt8) : c.toNat < 256 := UInt8.toNat_lt c
theorem valP_lt : ∀ (l : List UInt8),valP l < 128 ^ l.length
  | [] => by simp [valP]
  | c :: cs => by
    have := valP_lt cs
    have h1 := u8_lt c
    simp only [valP,List.length_cons,Nat.pow_succ]; omega
theorem valP_snoc (l : List UInt8) (c : UInt8) : valP (l ++ [c]) = valP l + (c.toNat - 128) * 128 ^ l.length := by
  induction l with
  | nil => simp [valP]
  | cons d l ih =>
    simp only [List.cons_append,valP,ih,List.length_cons,Nat.pow_succ]
    rw [Nat.mul_add,← Nat.mul_assoc,Nat.mul_comm 128,Nat.mul_comm 128,Nat.mul_assoc,Nat.mul_comm 128 (128 ^ l.length)]
    omega
theorem vb_pre {m : Nat} (hm : 0 < m) : ∀ (l : List UInt8),big l → vb (valP l + m * 128 ^ l.length) = l ++ vb m
  | [],_ => by simp [valP]
  | c :: cs,h => by
    have h1 := h c (by simp)
    have h2 := u8_lt c
    have ih := vb_pre hm cs (fun d hd => h d (by simp [hd]))
    have e : valP (c :: cs) + m * 128 ^ (c :: cs).length = (c.toNat - 128) + 128 * (valP cs + m * 128 ^ cs.length) := by
      simp only [valP,List.length_cons,Nat.pow_succ]
      rw [Nat.mul_add,Nat.mul_comm (128 ^ cs.length) 128,← Nat.mul_assoc m,Nat.mul_comm m 128,Nat.mul_assoc]
      omega
    have hp : 0 < m * 128 ^ cs.length := Nat.mul_pos hm (Nat.pow_pos (by omega))
    rw [e,vb_ge (by omega),show (c.toNat - 128 + 128 * (valP cs + m * 128 ^ cs.length)) % 128 + 128 = c.toNat by omega,
      show (c.toNat - 128 + 128 * (valP cs + m * 128 ^ cs.length)) / 128 = valP cs + m * 128 ^ cs.length by omega,ih]
    simp
theorem vb_end (l : List UInt8) (h : big l) (c : UInt8) (hc : c.toNat < 128) : vb (valP l + c.toNat * 128 ^ l.length) = l ++ [c] ↔ ¬ (c.toNat = 0 ∧ 0 < l.length) := by
  by_cases h0 : c.toNat = 0
  · by_cases hl : 0 < l.length
    · refine ⟨fun e => ?_,fun hn => absurd ⟨h0,hl⟩ hn⟩
      have := vb_len l.length (valP l) (valP_lt l)
      rw [h0] at e
      simp only [Nat.zero_mul,Nat.add_zero] at e
      rw [e] at this
      simp at this; omega
    · have : l = [] := List.eq_nil_of_length_eq_zero (by omega)
      subst this
      simp only [valP,List.length_nil,Nat.pow_zero,Nat.mul_one,Nat.zero_add,List.nil_append]
      rw [vb_lt hc]; simp
  · rw [vb_pre (by omega) l h,vb_lt hc]
    simp [h0]
theorem rl_vb : ∀ (n : Nat) (l r : List UInt8),big l → valP l + n * 128 ^ l.length < 18446744073709551616 → (l.length = 0 ∨ 0 < n) → rl (valP l) l.length (vb n ++ r) = (valP l + n * 128 ^ l.length,l.length + (vb n).length,0) := by
  intro n
  induction n using Nat.strongRecOn with
  | _ n ih =>
    intro l r hl hlt h0
    have hle : l.length ≤ 9 := by
      rcases h0 with h0 | h0
      · omega
      · apply Classical.byContradiction
        intro hc
        have : 128 ^ 10 ≤ 128 ^ l.length := Nat.pow_le_pow_right (by omega) (by omega)
        have : 1 * 128 ^ l.length ≤ n * 128 ^ l.length := Nat.mul_le_mul_right _ h0
        omega
    by_cases hn : n < 128
    · have e : (UInt8.ofNat n).toNat = n := by simp; omega
      rw [vb_lt hn]
      simp only [List.cons_append,List.nil_append,rl,e,hn,if_true,List.length_cons,List.length_nil]
      rw [if_neg]
      rintro (⟨h1,h2⟩ | ⟨h1,h2⟩)
      · omega
      · rw [h1] at hlt
        have : n ≤ 1 := by
          apply Classical.byContradiction
          intro hc
          have : 2 * 128 ^ 9 ≤ n * 128 ^ 9 := Nat.mul_le_mul_right _ (by omega)
          omega
        omega
    · rw [vb_ge hn]
      have e : (UInt8.ofNat (n % 128 + 128)).toNat = n % 128 + 128 := by simp; omega
      have h9 : l.length ≠ 9 := by
        intro h9
        rw [h9] at hlt
        have : 128 * 128 ^ 9 ≤ n * 128 ^ 9 := Nat.mul_le_mul_right _ (by omega)
        omega
      simp only [List.cons_append,rl,e]
      rw [if_neg (by omega),if_neg h9]
      have hv := valP_snoc l (UInt8.ofNat (n % 128 + 128))
      rw [e] at hv
      have e2 : valP l + n * 128 ^ l.length = valP (l ++ [UInt8.ofNat (n % 128 + 128)]) + n / 128 * 128 ^ (l ++ [UInt8.ofNat (n % 128 + 128)]).length := by
        rw [hv]
        simp only [List.length_append,List.length_cons,List.length_nil,Nat.zero_add,Nat.pow_succ]
        rw [show n % 128 + 128 - 128 = n % 128 by omega,← Nat.mul_assoc,Nat.mul_right_comm,Nat.add_assoc,← Nat.add_mul]
        congr 2
        omega
      rw [← hv]
      have hb : big (l ++ [UInt8.ofNat (n % 128 + 128)]) := by
        intro c hc
        rcases List.mem_append.1 hc with hc | hc
        · exact hl c hc
        · rw [List.mem_singleton] at hc; subst hc; rw [e]; omega
      have := ih (n / 128) (by omega) (l ++ [UInt8.ofNat (n % 128 + 128)]) r hb (by rw [← e2]; exact hlt) (.inr (by omega))
      rw [List.length_append,List.length_singleton] at this e2
      rw [this,e2,List.length_cons]
      simp only [Prod.mk.injEq,and_true,true_and]
      omega
theorem read_vb {n : Nat} (h : n < 18446744073709551616) (r : List UInt8) : readS (vb n ++ r) = (n,(vb n).length,0) := by
  have := rl_vb n [] r (by intro c hc; simp at hc) (by simpa [valP] using h) (.inl rfl)
  simpa [valP,readS] using this
theorem rl_ok : ∀ (cs l : List UInt8) (n k : Nat) (e : Int),big l → l.length ≤ 9 → rl (valP l) l.length cs = (n,k,e) → (e = 0 ∧ n < 18446744073709551616 ∧ l.length < k ∧ k ≤ l.length + cs.length ∧ vb n = l ++ cs.take (k - l.length)) ∨ (n = 0 ∧ k = 0 ∧ (e = 4 ∨ e = 5))
  | [],l,n,k,e,_,_,h => by
    simp only [rl,Prod.mk.injEq] at h
    obtain ⟨rfl,rfl,rfl⟩ := h
    exact .inr ⟨rfl,rfl,.inr rfl⟩
  | c :: cs,l,n,k,e,hb,hl,h => by
    simp only [rl] at h
    split at h
    · rename_i hc
      split at h
      · simp only [Prod.mk.injEq] at h
        obtain ⟨rfl,rfl,rfl⟩ := h
        exact .inr ⟨rfl,rfl,.inl rfl⟩
      · rename_i hn
        simp only [Prod.mk.injEq] at h
        obtain ⟨rfl,rfl,rfl⟩ := h
        refine .inl ⟨rfl,?_,by omega,by simp,?_⟩
        · have h1 := valP_lt l
          by_cases h9 : l.length = 9
          · have : c.toNat = 1 := by
              apply Classical.byContradiction
              intro h2; exact hn (.inr ⟨h9,h2⟩)
            rw [h9] at h1
            rw [this,h9]
            omega
          · have h2 : 128 ^ l.length ≤ 128 ^ 8 := Nat.pow_le_pow_right (by omega) (by omega)
            have h3 : c.toNat * 128 ^ l.length ≤ 127 * 128 ^ l.length := Nat.mul_le_mul_right _ (by omega)
            omega
        · rw [show l.length + 1 - l.length = 1 by omega]
          simp only [List.take_succ_cons,List.take_zero]
          exact (vb_end l hb c hc).2 (fun h => hn (.inl h))
    · rename_i hc
      split at h
      · simp only [Prod.mk.injEq] at h
        obtain ⟨rfl,rfl,rfl⟩ := h
        exact .inr ⟨rfl,rfl,.inl rfl⟩
      · rename_i h9
        rw [← valP_snoc,show l.length + 1 = (l ++ [c]).length by simp] at h
        have hb' : big (l ++ [c]) := by
          intro d hd
          rcases List.mem_append.1 hd with hd | hd
          · exact hb d hd
          · rw [List.mem_singleton] at hd; subst hd; omega
        rcases rl_ok cs (l ++ [c]) n k e hb' (by simp; omega) h with ⟨h1,h2,h3,h4,h5⟩ | h1
        · refine .inl ⟨h1,h2,by simp at h3; omega,by simp at h4 ⊢; omega,?_⟩
          rw [h5]
          simp only [List.length_append,List.length_singleton,List.append_assoc,List.singleton_append] at h3 ⊢
          rw [show k - l.length = (k - (l.length + 1)) + 1 by omega,List.take_succ_cons]
        · exact .inr h1
theorem read_ok {b : List UInt8} {n k : Nat} {e : Int} (h : readS b = (n,k,e)) : (e = 0 ∧ n < 18446744073709551616 ∧ 0 < k ∧ k ≤ b.length ∧ vb n = b.take k) ∨ (n = 0 ∧ k = 0 ∧ (e = 4 ∨ e = 5)) := by
  have := rl_ok b [] n k e (by intro c hc; simp at hc) (by simp) (by simpa [valP,readS] using h)
  simpa using this
end Go.Vm
