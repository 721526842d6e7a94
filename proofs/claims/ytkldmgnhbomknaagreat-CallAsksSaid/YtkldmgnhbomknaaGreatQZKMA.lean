/- Contracts of functions of the given program. Conditions: as each theorem says. -/
import Derived.Test.YtkldmgnhbomknaaGreatM1
import Derived.Test.YtkldmgnhbomknaaGreatVmQ
import Derived.Test.YtkldmgnhbomknaaGreatProg
import Derived.KernelRfl
import Derived.Test.YtkldmgnhbomknaaGreatVmV
import Derived.Test.YtkldmgnhbomknaaGreatMMB
set_option linter.unusedVariables false
set_option linter.unusedSimpArgs false
namespace Go.Proofs.YtkldmgnhbomknaaGreat.Msg
open Go.Vm
attribute [local go_sem] eq_self decide_true decide_false AH.put_ne
attribute [local go_sem_proc] Nat.reduceBEq Nat.reduceAdd Nat.reduceSub Nat.reduceMul Nat.reduceEqDiff Nat.reduceLeDiff Nat.reduceLT Int.reduceLE Int.reduceLT Int.reduceToNat Int.reduceAdd Int.reduceEq Int.reduceNeg
attribute [local go_sem] byteCells_get byteCells_length Int.toNat_natCast Option.map_some Int.natCast_nonneg decide_eq_true_eq decide_eq_false_iff_not
/- flange/varint.Append -/
abbrev k90_0 : MC :=
 .cond (.t 6) (.skip) (.exit 0)
abbrev k90_1 : MC :=
 .reg [
 mv 13 1,
 vl 14 (.bin .shr .num (.t 13) (.c (.int .u64 7))),
 mv 1 14] [0,1]
abbrev k90_2 : MC :=
 .block 1 ((.seq (.reg [
 mv 7 0,
 mv 8 1,
 vl 9 (.i2i .u8 (.t 8)),
 vl 10 (.bin .or .num (.t 9) (.c (.int .u8 128))),
 ⟨some 11,none,.bslice 1 1 [(.int .u8 0)] [(0,1,(.t 10))]⟩,
 ⟨some 12,none,.app 1 1 (.t 7) (.t 11)⟩,
 mv 0 12] [0,1]) k90_1))
abbrev k90_3 : MC :=
 (.seq ((.seq (.reg [
 mv 5 1,
 vl 6 (.bin .geq .num (.t 5) (.c (.int .u64 128)))] [0,1,6]) k90_0)) k90_2)
abbrev k90_4 : MC :=
 (.seq (.reg [
 mv 15 0,
 mv 16 1,
 vl 17 (.i2i .u8 (.t 16)),
 ⟨some 18,none,.bslice 1 1 [(.int .u8 0)] [(0,1,(.t 17))]⟩,
 ⟨some 19,none,.app 1 1 (.t 15) (.t 18)⟩,
 mv 4 19] [4]) (.ret))
abbrev k90_5 : MC :=
 (.seq (.block 0 (.loop k90_3)) k90_4)
abbrev k90 : MC :=
 (.seq (.reg [
 vl 4 (.mv (.c .nilSl))] [0,1]) k90_5)
theorem c90 : Tryz.f90.body.bind (mcOf Tryz.prog (List.contains [] ·) (List.getD [([],[0,1]),([],[0,1,6]),([],[0,1]),([],[0,1]),([],[4])] · ([],[])) 20) = some k90 := by kernel_rfl
theorem r90 : rvsOf Tryz.prog Tryz.f90.results.toList = some [.tmp 4] := by kernel_rfl
/- flange/varint.end -/
abbrev k123_0 : MC :=
 .cond (.t 12) ((.seq (.reg [
 vl 4 (.mv (.c (.int .i64 4)))] [4]) (.ret))) (.skip)
abbrev k123_1 : MC :=
 .cond (.t 5) ((.seq (.reg [
 vl 4 (.mv (.c (.int .i64 4)))] [4]) (.ret))) ((.seq (.reg [
 mv 13 1,
 vl 14 (.bin .eql .num (.t 13) (.c (.int .i64 9))),
 mv 15 14,
 ⟨some 16,(some (15,true)),.val (.mv (.t 0))⟩,
 ⟨some 17,(some (15,true)),.val (.bin .neq .num (.t 16) (.c (.int .u8 1)))⟩,
 vl 18 (.pick (.t 15) (.t 17) (.c (.bool false))),
 mv 12 18] [12]) k123_0))
abbrev k123_2 : MC :=
 (.seq (.reg [
 vl 4 (.mv (.c (.int .i64 0)))] [4]) (.ret))
abbrev k123_3 : MC :=
 (.seq (.block 0 ((.seq (.reg [
 mv 6 0,
 vl 7 (.bin .eql .num (.t 6) (.c (.int .u8 0))),
 mv 8 7,
 ⟨some 9,(some (8,true)),.val (.mv (.t 1))⟩,
 ⟨some 10,(some (8,true)),.val (.bin .gtr .num (.t 9) (.c (.int .i64 0)))⟩,
 vl 11 (.pick (.t 8) (.t 10) (.c (.bool false))),
 mv 5 11] [0,1,5]) k123_1))) k123_2)
abbrev k123 : MC :=
 (.seq (.reg [
 vl 4 (.mv (.c (.int .i64 0)))] [0,1]) k123_3)
theorem c123 : Tryz.f123.body.bind (mcOf Tryz.prog (List.contains [] ·) (List.getD [([],[0,1]),([],[0,1,5]),([],[4]),([],[12]),([],[4]),([],[4])] · ([],[])) 19) = some k123 := by kernel_rfl
theorem r123 : rvsOf Tryz.prog Tryz.f123.results.toList = some [.tmp 4] := by kernel_rfl
/- flange/varint.Read -/
abbrev k108_0 : MC :=
 .cond (.t 22) ((.seq (.reg [
 mv 23 8,
 vl 2 (.mv (.c (.int .u64 0))),
 vl 3 (.mv (.c (.int .i64 0))),
 mv 4 23] [2,3,4]) (.ret))) (.skip)
abbrev k108_1 : MC :=
 (.seq (.reg [
 mv 21 8,
 vl 22 (.bin .neq .num (.t 21) (.c (.int .i64 0)))] [5,6,7,8,22]) k108_0)
abbrev k108_2 : MC :=
 (.seq (.reg [
 mv 24 5,
 mv 25 7,
 vl 26 (.i2i .u64 (.t 25)),
 mv 27 6,
 vl 28 (.bin .mul .num (.c (.int .i64 7)) (.t 27)),
 vl 29 (.bin .shl .num (.t 26) (.t 28)),
 vl 30 (.bin .or .num (.t 24) (.t 29)),
 mv 31 6,
 vl 32 (.bin .add .num (.t 31) (.c (.int .i64 1))),
 mv 2 30,
 mv 3 32,
 vl 4 (.mv (.c (.int .i64 0)))] [2,3,4]) (.ret))
abbrev k108_3 : MC :=
 .cond (.t 17) ((.seq ((.seq (.reg [
 mv 18 7,
 mv 19 6,
 ⟨some 20,none,.call 123 [(.t 18),(.t 19)]⟩,
 mv 8 20] [5,6,7,8]) k108_1)) k108_2)) (.skip)
abbrev k108_4 : MC :=
 .cond (.t 34) ((.seq (.reg [
 vl 2 (.mv (.c (.int .u64 0))),
 vl 3 (.mv (.c (.int .i64 0))),
 vl 4 (.mv (.c (.int .i64 4)))] [2,3,4]) (.ret))) (.skip)
abbrev k108_5 : MC :=
 .reg [
 mv 35 5,
 mv 36 7,
 vl 37 (.bin .sub .num (.t 36) (.c (.int .u8 128))),
 vl 38 (.i2i .u64 (.t 37)),
 mv 39 6,
 vl 40 (.bin .mul .num (.c (.int .i64 7)) (.t 39)),
 vl 41 (.bin .shl .num (.t 38) (.t 40)),
 vl 42 (.bin .or .num (.t 35) (.t 41)),
 mv 5 42] [5,9,10,11]
abbrev k108_6 : MC :=
 (.seq ((.seq (.reg [
 mv 33 6,
 vl 34 (.bin .eql .num (.t 33) (.c (.int .i64 9)))] [5,6,7,9,10,11,34]) k108_4)) k108_5)
abbrev k108_7 : MC :=
 (.seq ((.seq (.reg [
 mv 16 7,
 vl 17 (.bin .lss .num (.t 16) (.c (.int .u8 128)))] [5,6,7,9,10,11,17]) k108_3)) k108_6)
abbrev k108_8 : MC :=
 .reg [
 vl 43 (.bin .add .num (.t 11) (.c (.int .i64 1))),
 mv 11 43] [5,9,10,11]
abbrev k108_9 : MC :=
 (.seq (.block 1 ((.seq (.reg [
 mv 13 11,
 vl 14 (.iaddr 1 (.t 9) (.t 11)),
 vl 15 (.load false 1 (.t 14)),
 mv 6 13,
 mv 7 15] [5,6,7,9,10,11]) k108_7))) k108_8)
abbrev k108_10 : MC :=
 (.seq (.cond (.t 12) (.skip) (.exit 0)) k108_9)
abbrev k108_11 : MC :=
 (.seq (.reg [
 vl 12 (.bin .lss .num (.t 11) (.t 10))] [5,9,10,11,12]) k108_10)
abbrev k108_12 : MC :=
 .block 0 (.loop k108_11)
abbrev k108_13 : MC :=
 (.seq (.reg [
 vl 2 (.mv (.c (.int .u64 0))),
 vl 3 (.mv (.c (.int .i64 0))),
 vl 4 (.mv (.c (.int .i64 5)))] [2,3,4]) (.ret))
abbrev k108_14 : MC :=
 (.seq ((.seq (.reg [
 mv 9 0,
 vl 10 (.len .sl (.t 9)),
 vl 11 (.mv (.c (.int .i64 0)))] [5,9,10,11]) k108_12)) k108_13)
abbrev k108_15 : MC :=
 (.seq (.reg [
 vl 5 (.mv (.c (.int .u64 0)))] [0,5]) k108_14)
abbrev k108 : MC :=
 (.seq (.reg [
 vl 2 (.mv (.c (.int .u64 0))),
 vl 3 (.mv (.c (.int .i64 0))),
 vl 4 (.mv (.c (.int .i64 0)))] [0]) k108_15)
theorem c108 : Tryz.f108.body.bind (mcOf Tryz.prog (List.contains [] ·) (List.getD [([],[0]),([],[0,5]),([],[5,9,10,11]),([],[5,9,10,11,12]),([],[5,6,7,9,10,11]),([],[5,6,7,9,10,11,17]),([],[5,6,7,8]),([],[5,6,7,8,22]),([],[2,3,4]),([],[2,3,4]),([],[5,6,7,9,10,11,34]),([],[2,3,4]),([],[5,9,10,11]),([],[5,9,10,11]),([],[2,3,4])] · ([],[])) 44) = some k108 := by kernel_rfl
theorem r108 : rvsOf Tryz.prog Tryz.f108.results.toList = some [.tmp 2,.tmp 3,.tmp 4] := by kernel_rfl
theorem vappend_calls {H0 H : AH} {v : V} {l : List UInt8} {n : Nat} (hacc : AccP H0 1 (byteCells l) v H) (hl : l.length < 100000000) (hn : n < 18446744073709551616) :
    ACalls Tryz.prog 90 [v,.int .u64 n] H (fun o H' => ∃ v',o = .ret v' ∧ AccP H0 1 (byteCells (l ++ vb n)) v' H' ∧ H.lec H') := by
  refine acalls Tryz.func90 c90 r90 (by simp [Tryz.ntmps90]) ?_
  repeat (first | refine am_seq ?_ | (refine am_reg ?_; simp -implicitDefEqProofs (disch := omega) only [go_sem]) | (refine am_drw ?_; simp -implicitDefEqProofs (disch := omega) only [go_sem]) | refine am_block ?_)
  refine am_loop (fun k a H' => ∃ (l' : List UInt8) (n' : Nat) (v' : V),k = n' ∧ a = [(0,v'),(1,.int .u64 n')] ∧ AccP H0 1 (byteCells l') v' H' ∧ l' ++ vb n' = l ++ vb n ∧ n' < 18446744073709551616 ∧ H.lec H') ?_ n ⟨l,n,v,rfl,rfl,hacc,rfl,hn,AH.lec_refl _⟩
  rintro k a H' ⟨l',n',v',rfl,rfl,hacc',he,hn',hl'⟩
  have hlen : l'.length < 100000010 := by
    have := congrArg List.length he
    have := vb_len10 hn
    have := vb_pos k
    simp only [List.length_append] at *
    omega
  repeat' (first|with_reducible refine go0 ?_|(with_reducible refine am_cnd ?_ ?_<;>intro hc<;>try (exfalso;omega))|((first|with_reducible (first|refine go1 ?_|refine vc_intro ?_|refine need_el ?_|refine vlen_a ?_|refine need_by ?_|refine need_lk ?_)|((with_reducible refine alloc_intro (fun ko hko=>?_))<;>(try have hne:=fresh_ne (by assumption) hko)<;>(try simp only [AH.put_none] at hko))|((with_reducible refine vapp_go ?_ (fun v2 H2 hacc hlec=>?_));· simp only [byteCells_length,List.length_cons,List.length_nil,List.length_map,List.length_append];omega)|done)<;>(try simp -implicitDefEqProofs (disch:=omega) only [go_sem])))
  · refine ⟨k / 128,by omega,l' ++ [UInt8.ofNat (k % 128 + 128)],k / 128,v2,rfl,?_,?_,?_,by omega,AH.lec_trans hl' hlec⟩
    · rw [shr7]
    · rw [byteCells_append]
      rw [or128] at hacc
      exact hacc
    · rw [vb_ge (by omega)] at he
      rw [← he]; simp
  · refine ⟨v2,rfl,?_,AH.lec_trans hl' hlec⟩
    rw [vb_lt (by omega)] at he
    rw [byte_cast (by omega)] at hacc
    rw [← he,byteCells_append]
    exact hacc
theorem end_calls {c : UInt8} {i : Nat} (H : AH) :
    ACalls Tryz.prog 123 [.int .u8 c.toNat,.int .i64 i] H (fun o H' => o = .ret (.int .i64 (if (c.toNat = 0 ∧ 0 < i) ∨ (i = 9 ∧ c.toNat ≠ 1) then 4 else 0)) ∧ H' = H) := by
  refine acalls Tryz.func123 c123 r123 (by simp [Tryz.ntmps123]) ?_
  repeat' (first|with_reducible refine go0 ?_|(with_reducible refine am_cnd ?_ ?_<;>intro hc<;>try (exfalso;omega))|((first|with_reducible (first|refine go1 ?_|refine vc_intro ?_|refine need_el ?_|refine vlen_a ?_|refine need_by ?_|refine need_lk ?_)|((with_reducible (first|apply gd_not|apply gd_of|apply gq_not|apply gq_of|apply pickB_of))<;>intro hc<;>(try simp -implicitDefEqProofs (disch:=omega) only [go_sem,hc])<;>(try simp only [reduceCtorEq,bD,beq_iff_eq] at hc)<;>(try (exfalso;omega)))|done)<;>(try simp -implicitDefEqProofs (disch:=omega) only [go_sem])))
  all_goals first | done | (simp_all; done) | (simp_all; omega) | (exfalso; omega) | skip
end Go.Proofs.YtkldmgnhbomknaaGreat.Msg
namespace Go.Proofs.YtkldmgnhbomknaaGreat.Msg
open Go.Vm
attribute [local go_sem] eq_self decide_true decide_false AH.put_ne
attribute [local go_sem_proc] Nat.reduceBEq Nat.reduceAdd Nat.reduceSub Nat.reduceMul Nat.reduceEqDiff Nat.reduceLeDiff Nat.reduceLT Int.reduceLE Int.reduceLT Int.reduceToNat Int.reduceAdd Int.reduceEq Int.reduceNeg
attribute [local go_sem] byteCells_get byteCells_length Int.toNat_natCast Option.map_some Int.natCast_nonneg decide_eq_true_eq decide_eq_false_iff_not
theorem read_calls {b : List UInt8} {t : Tok} (hl : b.length < 100000000) (H : AH) :
    ACalls Tryz.prog 108 [.sl 1 (byteCells b) t] H (fun o H' => o = .ret (.tuple [.int .u64 (readS b).1,.int .i64 (readS b).2.1,.int .i64 (readS b).2.2]) ∧ H' = H) := by
  refine acalls Tryz.func108 c108 r108 (by simp [Tryz.ntmps108]) ?_
  repeat (first | refine am_seq ?_ | (refine am_reg ?_; simp -implicitDefEqProofs (disch := omega) only [go_sem]) | (refine am_drw ?_; simp -implicitDefEqProofs (disch := omega) only [go_sem]) | refine am_block ?_)
  refine am_loop (fun k a H' => ∃ (i acc : Nat),i + k = b.length ∧ i ≤ 9 ∧ a = [(5,.int .u64 acc),(9,.sl 1 (byteCells b) t),(10,.int .i64 b.length),(11,.int .i64 i)] ∧ H' = H ∧ acc < 128 ^ i ∧ readS b = rl acc i (b.drop i)) ?_ b.length ⟨0,0,by omega,by omega,by simp,rfl,by simp,by simp [readS]⟩
  rintro k a H' ⟨i,acc,hi,hi9,rfl,rfl,hacc,he⟩
  by_cases hlt : i < b.length
  · rw [List.drop_eq_getElem_cons hlt,rl] at he
    have hc256 := u8_lt b[i]
    repeat' (first|with_reducible refine go0 ?_|(with_reducible refine am_cnd ?_ ?_<;>intro hc<;>try (exfalso;omega))|((first|with_reducible (first|refine go1 ?_|refine vc_intro ?_|refine need_el ?_|refine vlen_a ?_|refine need_by ?_|refine call_of (end_calls) ?_|refine qcall_of (end_calls) ?_|refine need_lk ?_)|done)<;>(try simp -implicitDefEqProofs (disch:=omega) only [go_sem,wrap_id,get_of_lt hlt,u64_id,u8_id])))
    · rename_i h2
      rw [if_pos (by omega)] at he
      split at hc
      · rename_i h3; rw [if_pos h3] at he ⊢; rw [he]; rfl
      · exact absurd rfl hc
    · rename_i h2
      rw [if_pos (by omega)] at he
      split at hc
      · cases hc
      · rename_i h3
        rw [if_neg h3] at he
        have hlt2 : b[i].toNat * 128 ^ i < 18446744073709551616 := by
          have h4 : 128 ^ i ≤ 128 ^ 9 := Nat.pow_le_pow_right (by omega) hi9
          by_cases h9 : i = 9
          · have : b[i].toNat = 1 := by
              apply Classical.byContradiction
              intro h5; exact h3 (.inr ⟨h9,h5⟩)
            rw [this]; omega
          · have h5 : 128 ^ i ≤ 128 ^ 8 := Nat.pow_le_pow_right (by omega) (by omega)
            have := Nat.mul_le_mul_right (128 ^ i) (show b[i].toNat ≤ 127 by omega)
            omega
        rw [he,orAdd hacc hi9 hlt2]
        simp
    · rename_i h2
      rw [if_neg (by omega),if_pos (by omega)] at he
      rw [he]; rfl
    · rename_i h2
      rw [if_neg (by omega),if_neg (by omega)] at he
      have h5 : 128 ^ i ≤ 128 ^ 8 := Nat.pow_le_pow_right (by omega) (by omega)
      have h6 := Nat.mul_le_mul_right (128 ^ i) (show b[i].toNat - 128 ≤ 127 by omega)
      have h7 : (b[i].toNat - 128) * 128 ^ i < 18446744073709551616 := by omega
      refine ⟨k - 1,by omega,i + 1,acc + (b[i].toNat - 128) * 128 ^ i,by omega,by omega,?_,?_,he⟩
      · rw [show ((b[i].toNat : Int) - 128) = ((b[i].toNat - 128 : Nat) : Int) by omega,orAdd hacc hi9 h7]
        simp
      · rw [Nat.pow_succ]; omega
  · repeat' (first|with_reducible refine go0 ?_|(with_reducible refine am_cnd ?_ ?_<;>intro hc<;>try (exfalso;omega))|((first|with_reducible (first|refine go1 ?_|refine vc_intro ?_|refine need_el ?_|refine vlen_a ?_|refine need_by ?_|refine need_lk ?_)|done)<;>(try simp -implicitDefEqProofs (disch:=omega) only [go_sem,wrap_id])))
    · rw [List.drop_eq_nil_of_le (by omega),rl] at he
      rw [he]; rfl
end Go.Proofs.YtkldmgnhbomknaaGreat.Msg
namespace Go.Proofs.YtkldmgnhbomknaaGreat.Msg
open Go.Vm
attribute [local go_sem] byteCells_get byteCells_length byteCells_take byteCells_drop bytes_cells List.drop_zero bytesOf_cells toNat_succ Nat.sub_zero Int.toNat_natCast Option.map_some Int.natCast_nonneg decide_eq_true_eq decide_eq_false_iff_not
end Go.Proofs.YtkldmgnhbomknaaGreat.Msg
namespace Go.Proofs.YtkldmgnhbomknaaGreat.Msg
open Go.Vm
attribute [local go_sem] eq_self decide_true decide_false AH.put_ne
attribute [local go_sem_proc] Nat.reduceBEq Nat.reduceAdd Nat.reduceSub Nat.reduceMul Nat.reduceEqDiff Nat.reduceLeDiff Nat.reduceLT Int.reduceLE Int.reduceLT Int.reduceToNat Int.reduceAdd Int.reduceEq Int.reduceNeg
attribute [local go_sem] byteCells_get byteCells_length byteCells_take byteCells_drop bytes_cells fldC fldsE_get fldsE_length List.drop_zero bytesOf_cells toNat_succ Nat.sub_zero Int.toNat_natCast Option.map_some Int.natCast_nonneg decide_eq_true_eq decide_eq_false_iff_not
/- (flange/message.Field).key -/
abbrev k91_0 : MC :=
 .cond (.t 9) (.reg [
 mv 10 3,
 vl 11 (.bin .add .num (.t 10) (.c (.int .u64 1))),
 mv 3 11] [3]) (.skip)
abbrev k91_1 : MC :=
 (.seq (.reg [
 mv 12 3,
 mv 2 12] [2]) (.ret))
abbrev k91_2 : MC :=
 (.seq ((.seq (.reg [
 vl 8 (.faddr 1 (.t 1)),
 vl 9 (.load false 1 (.t 8))] [3,9]) k91_0)) k91_1)
abbrev k91_3 : MC :=
 (.seq (.reg [
 vl 4 (.faddr 0 (.t 1)),
 vl 5 (.load false 1 (.t 4)),
 vl 6 (.bin .mul .num (.c (.int .i64 2)) (.t 5)),
 vl 7 (.i2i .u64 (.t 6)),
 mv 3 7] [1,3]) k91_2)
abbrev k91 : MC :=
 (.seq (.reg [
 ⟨some 1,none,.boxi (.t 0)⟩,
 vl 2 (.mv (.c (.int .u64 0)))] [1]) k91_3)
theorem c91 : Tryz.f91.body.bind (mcOf Tryz.prog (List.contains [1] ·) (List.getD [([],[1]),([],[1,3]),([],[3,9]),([],[3]),([],[2])] · ([],[])) 13) = some k91 := by kernel_rfl
theorem r91 : rvsOf Tryz.prog Tryz.f91.results.toList = some [.tmp 2] := by kernel_rfl
/- (flange/message.Field).right -/
abbrev k71_0 : MC :=
 (.seq (.reg [
 vl 3 (.faddr 0 (.t 1)),
 vl 4 (.load false 1 (.t 3)),
 vl 5 (.bin .geq .num (.t 4) (.c (.int .i64 1))),
 mv 6 5,
 ⟨some 7,(some (6,true)),.val (.faddr 0 (.t 1))⟩,
 ⟨some 8,(some (6,true)),.val (.load false 1 (.t 7))⟩,
 ⟨some 9,(some (6,true)),.val (.bin .leq .num (.t 8) (.c (.int .i64 1000)))⟩,
 vl 10 (.pick (.t 6) (.t 9) (.c (.bool false))),
 mv 11 10,
 ⟨some 12,(some (11,true)),.val (.faddr 1 (.t 1))⟩,
 ⟨some 13,(some (11,true)),.val (.load false 1 (.t 12))⟩,
 ⟨some 14,(some (11,true)),.val (.mv (.t 13))⟩,
 ⟨some 15,(some (14,true)),.val (.faddr 2 (.t 1))⟩,
 ⟨some 16,(some (14,true)),.val (.load false 1 (.t 15))⟩,
 ⟨some 17,(some (14,true)),.val (.bin .eql .num (.t 16) (.c (.int .u64 0)))⟩,
 ⟨some 18,(some (11,true)),.val (.pick (.t 14) (.t 17) (.c (.bool false)))⟩,
 ⟨some 19,(some (11,true)),.val (.mv (.t 18))⟩,
 ⟨some 20,(some (19,false)),.val (.faddr 1 (.t 1))⟩,
 ⟨some 21,(some (19,false)),.val (.load false 1 (.t 20))⟩,
 ⟨some 22,(some (19,false)),.val (.not (.t 21))⟩,
 ⟨some 23,(some (19,false)),.val (.mv (.t 22))⟩,
 ⟨some 24,(some (23,true)),.val (.faddr 3 (.t 1))⟩,
 ⟨some 25,(some (23,true)),.val (.load false 1 (.t 24))⟩,
 ⟨some 26,(some (23,true)),.val (.len .sl (.t 25))⟩,
 ⟨some 27,(some (23,true)),.val (.bin .eql .num (.t 26) (.c (.int .i64 0)))⟩,
 ⟨some 28,(some (19,false)),.val (.pick (.t 23) (.t 27) (.c (.bool false)))⟩,
 ⟨some 29,(some (11,true)),.val (.pick (.t 19) (.c (.bool true)) (.t 28))⟩,
 vl 30 (.pick (.t 11) (.t 29) (.c (.bool false))),
 mv 2 30] [2]) (.ret))
abbrev k71 : MC :=
 (.seq (.reg [
 ⟨some 1,none,.boxi (.t 0)⟩,
 vl 2 (.mv (.c (.bool false)))] [1]) k71_0)
theorem c71 : Tryz.f71.body.bind (mcOf Tryz.prog (List.contains [1] ·) (List.getD [([],[1]),([],[2])] · ([],[])) 31) = some k71 := by kernel_rfl
theorem r71 : rvsOf Tryz.prog Tryz.f71.results.toList = some [.tmp 2] := by kernel_rfl
/- (flange/message.Field).behind -/
abbrev k72_0 : MC :=
 (.seq (.reg [
 vl 5 (.faddr 0 (.t 2)),
 vl 6 (.load false 1 (.t 5)),
 vl 7 (.faddr 0 (.t 3)),
 vl 8 (.load false 1 (.t 7)),
 vl 9 (.bin .gtr .num (.t 6) (.t 8)),
 mv 10 9,
 ⟨some 11,(some (10,false)),.val (.faddr 0 (.t 2))⟩,
 ⟨some 12,(some (10,false)),.val (.load false 1 (.t 11))⟩,
 ⟨some 13,(some (10,false)),.val (.faddr 0 (.t 3))⟩,
 ⟨some 14,(some (10,false)),.val (.load false 1 (.t 13))⟩,
 ⟨some 15,(some (10,false)),.val (.bin .eql .num (.t 12) (.t 14))⟩,
 ⟨some 16,(some (10,false)),.val (.mv (.t 15))⟩,
 ⟨some 17,(some (16,true)),.val (.faddr 1 (.t 2))⟩,
 ⟨some 18,(some (16,true)),.val (.load false 1 (.t 17))⟩,
 ⟨some 19,(some (10,false)),.val (.pick (.t 16) (.t 18) (.c (.bool false)))⟩,
 ⟨some 20,(some (10,false)),.val (.mv (.t 19))⟩,
 ⟨some 21,(some (20,true)),.val (.faddr 1 (.t 3))⟩,
 ⟨some 22,(some (20,true)),.val (.load false 1 (.t 21))⟩,
 ⟨some 23,(some (10,false)),.val (.pick (.t 20) (.t 22) (.c (.bool false)))⟩,
 vl 24 (.pick (.t 10) (.c (.bool true)) (.t 23)),
 mv 4 24] [4]) (.ret))
abbrev k72 : MC :=
 (.seq (.reg [
 ⟨some 2,none,.boxi (.t 0)⟩,
 ⟨some 3,none,.boxi (.t 1)⟩,
 vl 4 (.mv (.c (.bool false)))] [2,3]) k72_0)
theorem c72 : Tryz.f72.body.bind (mcOf Tryz.prog (List.contains [2,3] ·) (List.getD [([],[2,3]),([],[4])] · ([],[])) 25) = some k72 := by kernel_rfl
theorem r72 : rvsOf Tryz.prog Tryz.f72.results.toList = some [.tmp 4] := by kernel_rfl
/- (flange/message.Field).lay -/
abbrev k73_0 : MC :=
 .cond (.t 11) ((.seq (.reg [
 mv 12 1,
 vl 13 (.faddr 2 (.t 2)),
 vl 14 (.load false 1 (.t 13)),
 ⟨some 15,none,.call 90 [(.t 12),(.t 14)]⟩,
 mv 4 15] [4]) (.ret))) (.skip)
abbrev k73_1 : MC :=
 (.seq (.drw [
 mv 16 1,
 vl 17 (.faddr 3 (.t 2)),
 vl 18 (.load false 1 (.t 17)),
 vl 19 (.len .sl (.t 18)),
 vl 20 (.i2i .u64 (.t 19)),
 vl 22 (.faddr 3 (.t 2)),
 vl 23 (.load false 1 (.t 22))] [
 ⟨some 21,none,.scall 90 [(.t 16),(.t 20)]⟩,
 ⟨some 24,none,.app 1 1 (.t 21) (.t 23)⟩,
 mv 4 24] [4]) (.ret))
abbrev k73_2 : MC :=
 (.seq ((.seq (.reg [
 vl 9 (.faddr 1 (.t 2)),
 vl 10 (.load false 1 (.t 9)),
 vl 11 (.not (.t 10))] [1,2,11]) k73_0)) k73_1)
abbrev k73_3 : MC :=
 (.seq (.reg [
 mv 5 1,
 vl 6 (.load true 4 (.t 2)),
 ⟨some 7,none,.call 91 [(.t 6)]⟩,
 ⟨some 8,none,.call 90 [(.t 5),(.t 7)]⟩,
 mv 1 8] [1,2]) k73_2)
abbrev k73 : MC :=
 (.seq (.reg [
 ⟨some 2,none,.boxi (.t 0)⟩,
 vl 4 (.mv (.c .nilSl))] [1,2]) k73_3)
theorem c73 : Tryz.f73.body.bind (mcOf Tryz.prog (List.contains [2] ·) (List.getD [([],[1,2]),([],[1,2]),([],[1,2,11]),([],[4]),([0,0,0,0,0,3,0,0,2,2],[4])] · ([],[])) 25) = some k73 := by kernel_rfl
theorem r73 : rvsOf Tryz.prog Tryz.f73.results.toList = some [.tmp 4] := by kernel_rfl
/- flange/message.Blob -/
abbrev k51_0 : MC :=
 (.seq (.reg [
 mv 5 0,
 mv 6 1,
 ⟨some 7,none,.call 68 [(.t 6)]⟩,
 ⟨some 8,none,.build [(.int .i64 0),(.bool false),(.int .u64 0),.nilSl] [(0,1,(.t 5)),(1,1,(.c (.bool true))),(3,1,(.t 7))]⟩,
 ⟨none,none,.store 4 (.t 4) (.t 8)⟩] [4]) (.ret))
abbrev k51 : MC :=
 (.seq (.reg [
 ⟨some 4,none,.zalloc [(.int .i64 0),(.bool false),(.int .u64 0),.nilSl]⟩] [0,1,4]) k51_0)
theorem c51 : Tryz.f51.body.bind (mcOf Tryz.prog (List.contains [] ·) (List.getD [([],[0,1,4]),([],[4])] · ([],[])) 9) = some k51 := by kernel_rfl
theorem r51 : rvsOf Tryz.prog Tryz.f51.results.toList = some [.cell 4 true 4] := by kernel_rfl
/- bytes.Clone -/
abbrev k68_0 : MC :=
 .cond (.t 4) ((.seq (.reg [
 vl 2 (.mv (.c .nilSl))] [2]) (.ret))) (.skip)
abbrev k68_1 : MC :=
 (.seq (.reg [
 ⟨some 5,none,.bslice 1 0 [] []⟩,
 mv 6 0,
 ⟨some 7,none,.app 1 1 (.t 5) (.t 6)⟩,
 mv 2 7] [2]) (.ret))
abbrev k68_2 : MC :=
 (.seq ((.seq (.reg [
 mv 3 0,
 ⟨some 4,none,.isnil false (.t 3)⟩] [0,4]) k68_0)) k68_1)
abbrev k68 : MC :=
 (.seq (.reg [
 vl 2 (.mv (.c .nilSl))] [0]) k68_2)
theorem c68 : Tryz.f68.body.bind (mcOf Tryz.prog (List.contains [] ·) (List.getD [([],[0]),([],[0,4]),([],[2]),([],[2])] · ([],[])) 8) = some k68 := by kernel_rfl
theorem r68 : rvsOf Tryz.prog Tryz.f68.results.toList = some [.tmp 2] := by kernel_rfl
theorem key_calls {f : Fld} (h : 1 ≤ f.tag ∧ f.tag ≤ 1000) (H : AH) : ACalls Tryz.prog 91 [.agg (fldC f)] H (fun o H' => o = .ret (.int .u64 (keyN f)) ∧ H' = H) := by
  refine acalls Tryz.func91 c91 r91 (by simp [Tryz.ntmps91]) ?_
  repeat' (first|with_reducible refine go0 ?_|(with_reducible refine am_cnd ?_ ?_<;>intro hc<;>try (exfalso;omega))|((first|with_reducible (first|refine go1 ?_|refine vc_intro ?_|refine need_el ?_|refine vlen_a ?_|refine need_by ?_|refine need_lk ?_)|((with_reducible refine alloc_intro (fun ko hko=>?_))<;>(try have hne:=fresh_ne (by assumption) hko)<;>(try simp only [AH.put_none] at hko))|done)<;>(try simp -implicitDefEqProofs (disch:=omega) only [go_sem,wrap_id,u64_id])))
  all_goals (simp only [keyN]; simp_all; try omega)
theorem fright_calls {f : Fld} (H : AH) : ACalls Tryz.prog 71 [.agg (fldC f)] H (fun o H' => o = .ret (.bool (rightF f)) ∧ H' = H) := by
  refine acalls Tryz.func71 c71 r71 (by simp [Tryz.ntmps71]) ?_
  repeat' (first|with_reducible refine go0 ?_|(with_reducible refine am_cnd ?_ ?_<;>intro hc<;>try (exfalso;omega))|((first|with_reducible (first|refine go1 ?_|refine vc_intro ?_|refine need_el ?_|refine vlen_a ?_|refine need_by ?_|refine need_lk ?_)|((with_reducible (first|apply gd_not|apply gd_of|apply gq_not|apply gq_of|apply pickB_of))<;>intro hc<;>(try simp -implicitDefEqProofs (disch:=omega) only [go_sem,hc])<;>(try simp only [reduceCtorEq,bD,beq_iff_eq] at hc)<;>(try (exfalso;omega)))|((with_reducible refine alloc_intro (fun ko hko=>?_))<;>(try have hne:=fresh_ne (by assumption) hko)<;>(try simp only [AH.put_none] at hko))|done)<;>(try simp -implicitDefEqProofs (disch:=omega) only [go_sem])))
  all_goals (simp_all [rightF]; try omega)
theorem behind_calls {f l : Fld} (H : AH) : ACalls Tryz.prog 72 [.agg (fldC f),.agg (fldC l)] H (fun o H' => o = .ret (.bool (behindF f l)) ∧ H' = H) := by
  refine acalls Tryz.func72 c72 r72 (by simp [Tryz.ntmps72]) ?_
  repeat' (first|with_reducible refine go0 ?_|(with_reducible refine am_cnd ?_ ?_<;>intro hc<;>try (exfalso;omega))|((first|with_reducible (first|refine go1 ?_|refine vc_intro ?_|refine need_el ?_|refine vlen_a ?_|refine need_by ?_|refine need_lk ?_)|((with_reducible (first|apply gd_not|apply gd_of|apply gq_not|apply gq_of|apply pickB_of))<;>intro hc<;>(try simp -implicitDefEqProofs (disch:=omega) only [go_sem,hc])<;>(try simp only [reduceCtorEq,bD,beq_iff_eq] at hc)<;>(try (exfalso;omega)))|((with_reducible refine alloc_intro (fun ko hko=>?_))<;>(try have hne:=fresh_ne (by assumption) hko)<;>(try simp only [AH.put_none] at hko))|done)<;>(try simp -implicitDefEqProofs (disch:=omega) only [go_sem])))
  all_goals (simp_all [behindF]; try omega)
theorem clone_calls {l : List UInt8} {t : Tok} (hl : l.length < 100000000) (H : AH) : ACalls Tryz.prog 68 [.sl 1 (byteCells l) t] H (fun o H' => o = .ret (.sl 1 (byteCells l) .no) ∧ H' = H) := by
  refine ACalls.drop ?_
  refine acalls Tryz.func68 c68 r68 (by simp [Tryz.ntmps68]) ?_
  repeat' (first|with_reducible refine go0 ?_|(with_reducible refine am_cnd ?_ ?_<;>intro hc<;>try (exfalso;omega))|((first|with_reducible (first|refine go1 ?_|refine vc_intro ?_|refine isnE_of (fun hc=>?_) (fun hc=>?_) (fun hc=>?_)|refine need_el ?_|refine vlen_a ?_|refine need_by ?_|refine need_lk ?_)|((with_reducible refine alloc_intro (fun ko hko=>?_))<;>(try have hne:=fresh_ne (by assumption) hko)<;>(try simp only [AH.put_none] at hko))|((with_reducible refine vapp_go ?_ (fun v2 H2 hacc hlec=>?_));· simp only [byteCells_length,List.length_cons,List.length_nil,List.length_map,List.length_append];omega)|done)<;>(try simp -implicitDefEqProofs (disch:=omega) only [go_sem,true_and,List.nil_append])))
  · have h : l = [] := by simpa [byteCells] using ‹byteCells l = []›
    subst h
    (refine drop_end (by (first | exact fun _ _ h => h | (intro s x h; first | exact no_sub _ h | exact nil_no _ h | exact AccP.sub (by assumption) _ _ h | (refine agg_sub rfl ?_ x h; repeat (first | exact .nil | refine .cons (fun _ h => h) ?_ | refine .cons (fun _ h => nil_no _ h) ?_ | refine .cons (fun _ h => no_sub _ h) ?_ | refine .cons (fun _ h => AccP.sub (by assumption) _ _ h) ?_)) | (refine tuple_sub ?_ x h; repeat (first | exact .nil | refine .cons (fun _ h => h) ?_ | refine .cons (fun _ h => nil_no _ h) ?_ | refine .cons (fun _ h => no_sub _ h) ?_ | refine .cons (fun _ h => AccP.sub (by assumption) _ _ h) ?_ | refine .cons (fun _ h => agg_sub rfl (by repeat (first | exact .nil | refine .cons (fun _ h => h) ?_ | refine .cons (fun _ h => nil_no _ h) ?_ | refine .cons (fun _ h => no_sub _ h) ?_ | refine .cons (fun _ h => AccP.sub (by assumption) _ _ h) ?_)) _ h) ?_))))) (by (repeat (first | exact AH.le_refl _ | assumption | exact AccP.le (by assumption) | refine AH.le_put ?_ (by first | assumption | exact none_of_le (by assumption) (by assumption) | exact And.right (by assumption) | exact And.right (And.right (by assumption))) _ | refine AH.le_trans ?_ (AccP.le (by assumption))))))
  all_goals (refine drop_end (by (first | exact fun _ _ h => h | (intro s x h; first | exact no_sub _ h | exact nil_no _ h | exact AccP.sub (by assumption) _ _ h | (refine agg_sub rfl ?_ x h; repeat (first | exact .nil | refine .cons (fun _ h => h) ?_ | refine .cons (fun _ h => nil_no _ h) ?_ | refine .cons (fun _ h => no_sub _ h) ?_ | refine .cons (fun _ h => AccP.sub (by assumption) _ _ h) ?_)) | (refine tuple_sub ?_ x h; repeat (first | exact .nil | refine .cons (fun _ h => h) ?_ | refine .cons (fun _ h => nil_no _ h) ?_ | refine .cons (fun _ h => no_sub _ h) ?_ | refine .cons (fun _ h => AccP.sub (by assumption) _ _ h) ?_ | refine .cons (fun _ h => agg_sub rfl (by repeat (first | exact .nil | refine .cons (fun _ h => h) ?_ | refine .cons (fun _ h => nil_no _ h) ?_ | refine .cons (fun _ h => no_sub _ h) ?_ | refine .cons (fun _ h => AccP.sub (by assumption) _ _ h) ?_)) _ h) ?_))))) (by (repeat (first | exact AH.le_refl _ | assumption | exact AccP.le (by assumption) | refine AH.le_put ?_ (by first | assumption | exact none_of_le (by assumption) (by assumption) | exact And.right (by assumption) | exact And.right (And.right (by assumption))) _ | refine AH.le_trans ?_ (AccP.le (by assumption))))))
theorem blob_calls {t : Int} {l : List UInt8} {k : Tok} (hl : l.length < 100000000) (H : AH) : ACalls Tryz.prog 51 [.int .i64 t,.sl 1 (byteCells l) k] H (fun o H' => o = .ret (.agg (fldC ⟨t,true,0,l⟩)) ∧ H' = H) := by
  refine ACalls.drop ?_
  refine acalls Tryz.func51 c51 r51 (by simp [Tryz.ntmps51]) ?_
  repeat' (first|with_reducible refine go0 ?_|(with_reducible refine am_cnd ?_ ?_<;>intro hc<;>try (exfalso;omega))|((first|with_reducible (first|refine go1 ?_|refine vc_intro ?_|refine need_el ?_|refine vlen_a ?_|refine need_by ?_|refine call_of (clone_calls (by omega)) ?_|refine qcall_of (clone_calls (by omega)) ?_|refine need_lk ?_)|((with_reducible refine alloc_intro (fun ko hko=>?_))<;>(try have hne:=fresh_ne (by assumption) hko)<;>(try simp only [AH.put_none] at hko))|done)<;>(try simp -implicitDefEqProofs (disch:=omega) only [go_sem])))
  (refine drop_end (by (first | exact fun _ _ h => h | (intro s x h; first | exact no_sub _ h | exact nil_no _ h | exact AccP.sub (by assumption) _ _ h | (refine agg_sub rfl ?_ x h; repeat (first | exact .nil | refine .cons (fun _ h => h) ?_ | refine .cons (fun _ h => nil_no _ h) ?_ | refine .cons (fun _ h => no_sub _ h) ?_ | refine .cons (fun _ h => AccP.sub (by assumption) _ _ h) ?_)) | (refine tuple_sub ?_ x h; repeat (first | exact .nil | refine .cons (fun _ h => h) ?_ | refine .cons (fun _ h => nil_no _ h) ?_ | refine .cons (fun _ h => no_sub _ h) ?_ | refine .cons (fun _ h => AccP.sub (by assumption) _ _ h) ?_ | refine .cons (fun _ h => agg_sub rfl (by repeat (first | exact .nil | refine .cons (fun _ h => h) ?_ | refine .cons (fun _ h => nil_no _ h) ?_ | refine .cons (fun _ h => no_sub _ h) ?_ | refine .cons (fun _ h => AccP.sub (by assumption) _ _ h) ?_)) _ h) ?_))))) (by (repeat (first | exact AH.le_refl _ | assumption | exact AccP.le (by assumption) | refine AH.le_put ?_ (by first | assumption | exact none_of_le (by assumption) (by assumption) | exact And.right (by assumption) | exact And.right (And.right (by assumption))) _ | refine AH.le_trans ?_ (AccP.le (by assumption))))))
theorem lay_calls {H0 H : AH} {v : V} {l : List UInt8} {f : Fld} (hacc : AccP H0 1 (byteCells l) v H) (hl : l.length < 50000000) (hf : f.n < 18446744073709551616 ∧ f.b.length < 10000000) (h : 1 ≤ f.tag ∧ f.tag ≤ 1000) :
    ACalls Tryz.prog 73 [.agg (fldC f),v] H (fun o H' => ∃ v',o = .ret v' ∧ AccP H0 1 (byteCells (l ++ layF f)) v' H' ∧ H.lec H') := by
  refine acalls Tryz.func73 c73 r73 (by simp [Tryz.ntmps73]) ?_
  have hk : keyN f < 18446744073709551616 := by simp only [keyN]; cases f.by_ <;> simp <;> omega
  have h1 := vb_len10 hk
  have h2 := vb_len10 (show f.b.length < 18446744073709551616 by omega)
  repeat' (first|with_reducible refine go0 ?_|(with_reducible refine am_cnd ?_ ?_<;>intro hc<;>try (exfalso;omega))|((first|with_reducible (first|refine go1 ?_|refine vc_intro ?_|refine need_el ?_|refine vlen_a ?_|refine need_by ?_|refine call_of (key_calls h) ?_|refine qcall_of (key_calls h) ?_|refine need_lk ?_)|((with_reducible refine alloc_intro (fun ko hko=>?_))<;>(try have hne:=fresh_ne (by assumption) hko)<;>(try have hnk:=fresh_ne hk hko)<;>(try simp only [AH.put_none] at hko))|((with_reducible refine vapp_go ?_ (fun v2 H2 hacc hlec=>?_));· simp only [byteCells_length,List.length_cons,List.length_nil,List.length_map,List.length_append];omega)|((with_reducible refine call_ex (vappend_calls (by assumption) (by first|omega|(simp only [List.length_append];omega)) (by omega)) (fun v H2 hr=>?_));obtain ⟨hacc,hlec⟩:=hr)|done)<;>(try simp -implicitDefEqProofs (disch:=omega) only [go_sem,u64_id])))
  · refine ⟨_,rfl,?_,by (repeat (first | assumption | exact AH.lec_refl _ | refine AH.lec_trans ?_ (by assumption)))⟩
    simpa [layF,hc] using hacc
  · refine ⟨_,rfl,?_,by (repeat (first | assumption | exact AH.lec_refl _ | refine AH.lec_trans ?_ (by assumption)))⟩
    simpa [layF,hc,byteCells_append] using hacc
end Go.Proofs.YtkldmgnhbomknaaGreat.Msg
