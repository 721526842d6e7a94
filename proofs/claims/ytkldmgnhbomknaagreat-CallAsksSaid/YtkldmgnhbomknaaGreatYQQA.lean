/- Contracts of functions of the given program. Conditions: as each theorem says. -/
import Derived.Test.YtkldmgnhbomknaaGreatQZWB
import Derived.Test.YtkldmgnhbomknaaGreatQZY3
import Derived.Test.YtkldmgnhbomknaaGreatVmV
set_option linter.unusedVariables false
set_option linter.unusedSimpArgs false
/- Requests: names, numbers, the writer. -/
namespace Go.Proofs.YtkldmgnhbomknaaGreat
open Go.Vm
attribute [local go_sem] eq_self decide_true decide_false AH.put_ne
attribute [local go_sem_proc] Nat.reduceBEq Nat.reduceAdd Nat.reduceSub Nat.reduceMul Nat.reduceEqDiff Nat.reduceLeDiff Nat.reduceLT Int.reduceLE Int.reduceLT Int.reduceToNat Int.reduceAdd Int.reduceEq Int.reduceNeg
attribute [local go_sem] vE_length byteCells_length byteCells_get bytes_cells bytesOf_cells fldC fldsE_get fldsE_length List.drop_zero toNat_succ Nat.sub_zero Int.toNat_natCast Option.map_some Int.natCast_nonneg decide_eq_true_eq decide_eq_false_iff_not
/- flange/flangeref17.lettered -/
abbrev k54_0 : MC :=
 (.seq (.reg [
 mv 5 0,
 vl 6 (.bin .geq .num (.t 5) (.c (.int .u8 97))),
 mv 7 6,
 ⟨some 8,(some (7,true)),.val (.mv (.t 0))⟩,
 ⟨some 9,(some (7,true)),.val (.bin .leq .num (.t 8) (.c (.int .u8 122)))⟩,
 vl 10 (.pick (.t 7) (.t 9) (.c (.bool false))),
 mv 11 10,
 ⟨some 12,(some (11,false)),.val (.mv (.t 1))⟩,
 ⟨some 13,(some (11,false)),.val (.bin .gtr .num (.t 12) (.c (.int .i64 0)))⟩,
 ⟨some 14,(some (11,false)),.val (.mv (.t 13))⟩,
 ⟨some 15,(some (14,true)),.val (.mv (.t 0))⟩,
 ⟨some 16,(some (14,true)),.val (.bin .geq .num (.t 15) (.c (.int .u8 48)))⟩,
 ⟨some 17,(some (11,false)),.val (.pick (.t 14) (.t 16) (.c (.bool false)))⟩,
 ⟨some 18,(some (11,false)),.val (.mv (.t 17))⟩,
 ⟨some 19,(some (18,true)),.val (.mv (.t 0))⟩,
 ⟨some 20,(some (18,true)),.val (.bin .leq .num (.t 19) (.c (.int .u8 57)))⟩,
 ⟨some 21,(some (11,false)),.val (.pick (.t 18) (.t 20) (.c (.bool false)))⟩,
 vl 22 (.pick (.t 11) (.c (.bool true)) (.t 21)),
 mv 4 22] [4]) (.ret))
abbrev k54 : MC :=
 (.seq (.reg [
 vl 4 (.mv (.c (.bool false)))] [0,1]) k54_0)
theorem c54 : Tryz.f54.body.bind (mcOf Tryz.prog (List.contains [] ·) (List.getD [([],[0,1]),([],[4])] · ([],[])) 23) = some k54 := by kernel_rfl
theorem r54 : rvsOf Tryz.prog Tryz.f54.results.toList = some [.tmp 4] := by kernel_rfl
/- flange/flangeref17.Named -/
abbrev k23_0 : MC :=
 .cond (.t 7) (.skip) (.exit 0)
abbrev k23_1 : MC :=
 .cond (.t 15) ((.seq (.reg [
 vl 2 (.mv (.c (.bool false)))] [2]) (.ret))) (.skip)
abbrev k23_2 : MC :=
 .reg [
 mv 8 3,
 vl 9 (.bin .add .num (.t 8) (.c (.int .i64 1))),
 mv 3 9] [0,3]
abbrev k23_3 : MC :=
 (.seq (.block 1 ((.seq (.reg [
 mv 10 0,
 mv 11 3,
 vl 12 (.idx (.t 10) (.t 11)),
 mv 13 3,
 ⟨some 14,none,.call 54 [(.t 12),(.t 13)]⟩,
 vl 15 (.not (.t 14))] [0,3,15]) k23_1))) k23_2)
abbrev k23_4 : MC :=
 (.seq ((.seq (.reg [
 mv 4 3,
 mv 5 0,
 vl 6 (.len .str (.t 5)),
 vl 7 (.bin .lss .num (.t 4) (.t 6))] [0,3,7]) k23_0)) k23_3)
abbrev k23_5 : MC :=
 .block 0 (.loop k23_4)
abbrev k23_6 : MC :=
 (.seq (.reg [
 mv 16 0,
 vl 17 (.len .str (.t 16)),
 vl 18 (.bin .gtr .num (.t 17) (.c (.int .i64 0))),
 mv 19 18,
 ⟨some 20,(some (19,true)),.val (.mv (.t 0))⟩,
 ⟨some 21,(some (19,true)),.val (.len .str (.t 20))⟩,
 ⟨some 22,(some (19,true)),.val (.bin .leq .num (.t 21) (.c (.int .i64 20)))⟩,
 vl 23 (.pick (.t 19) (.t 22) (.c (.bool false))),
 mv 2 23] [2]) (.ret))
abbrev k23_7 : MC :=
 (.seq ((.seq (.reg [
 vl 3 (.mv (.c (.int .i64 0)))] [0,3]) k23_5)) k23_6)
abbrev k23 : MC :=
 (.seq (.reg [
 vl 2 (.mv (.c (.bool false)))] [0]) k23_7)
theorem c23 : Tryz.f23.body.bind (mcOf Tryz.prog (List.contains [] ·) (List.getD [([],[0]),([],[0,3]),([],[0,3,7]),([],[0,3]),([],[0,3,15]),([],[2]),([],[2])] · ([],[])) 24) = some k23 := by kernel_rfl
theorem r23 : rvsOf Tryz.prog Tryz.f23.results.toList = some [.tmp 2] := by kernel_rfl
/- flange/kind.Named -/
abbrev k49_0 : MC :=
 .cond (.t 31) ((.seq (.reg [
 vl 2 (.mv (.c (.bool false)))] [2]) (.ret))) (.skip)
abbrev k49_1 : MC :=
 (.seq (.reg [
 mv 13 4,
 vl 14 (.bin .geq .num (.t 13) (.c (.int .u8 97))),
 mv 15 14,
 ⟨some 16,(some (15,true)),.val (.mv (.t 4))⟩,
 ⟨some 17,(some (15,true)),.val (.bin .leq .num (.t 16) (.c (.int .u8 122)))⟩,
 vl 18 (.pick (.t 15) (.t 17) (.c (.bool false))),
 mv 19 18,
 ⟨some 20,(some (19,false)),.val (.mv (.t 3))⟩,
 ⟨some 21,(some (19,false)),.val (.bin .gtr .num (.t 20) (.c (.int .i64 0)))⟩,
 ⟨some 22,(some (19,false)),.val (.mv (.t 21))⟩,
 ⟨some 23,(some (22,true)),.val (.mv (.t 4))⟩,
 ⟨some 24,(some (22,true)),.val (.bin .geq .num (.t 23) (.c (.int .u8 48)))⟩,
 ⟨some 25,(some (19,false)),.val (.pick (.t 22) (.t 24) (.c (.bool false)))⟩,
 ⟨some 26,(some (19,false)),.val (.mv (.t 25))⟩,
 ⟨some 27,(some (26,true)),.val (.mv (.t 4))⟩,
 ⟨some 28,(some (26,true)),.val (.bin .leq .num (.t 27) (.c (.int .u8 57)))⟩,
 ⟨some 29,(some (19,false)),.val (.pick (.t 26) (.t 28) (.c (.bool false)))⟩,
 vl 30 (.pick (.t 19) (.c (.bool true)) (.t 29)),
 vl 31 (.not (.t 30))] [0,6,7,31]) k49_0)
abbrev k49_2 : MC :=
 (.seq (.reg [
 mv 10 0,
 mv 11 3,
 vl 12 (.idx (.t 10) (.t 11)),
 mv 4 12] [0,3,4,6,7]) k49_1)
abbrev k49_3 : MC :=
 .reg [
 vl 32 (.bin .add .num (.t 7) (.c (.int .i64 1))),
 mv 7 32] [0,6,7]
abbrev k49_4 : MC :=
 (.seq (.block 1 ((.seq (.reg [
 mv 9 7,
 mv 3 9] [0,3,6,7]) k49_2))) k49_3)
abbrev k49_5 : MC :=
 (.seq (.cond (.t 8) (.skip) (.exit 0)) k49_4)
abbrev k49_6 : MC :=
 (.seq (.reg [
 vl 8 (.bin .lss .num (.t 7) (.t 6))] [0,6,7,8]) k49_5)
abbrev k49_7 : MC :=
 .block 0 (.loop k49_6)
abbrev k49_8 : MC :=
 (.seq (.reg [
 mv 33 0,
 vl 34 (.bin .neq .num (.t 33) (.c (.str []))),
 mv 35 34,
 ⟨some 36,(some (35,true)),.val (.mv (.t 0))⟩,
 ⟨some 37,(some (35,true)),.val (.len .str (.t 36))⟩,
 ⟨some 38,(some (35,true)),.val (.bin .leq .num (.t 37) (.c (.int .i64 20)))⟩,
 vl 39 (.pick (.t 35) (.t 38) (.c (.bool false))),
 mv 2 39] [2]) (.ret))
abbrev k49_9 : MC :=
 (.seq ((.seq (.reg [
 mv 5 0,
 vl 6 (.len .str (.t 5)),
 vl 7 (.mv (.c (.int .i64 0)))] [0,6,7]) k49_7)) k49_8)
abbrev k49 : MC :=
 (.seq (.reg [
 vl 2 (.mv (.c (.bool false)))] [0]) k49_9)
theorem c49 : Tryz.f49.body.bind (mcOf Tryz.prog (List.contains [] ·) (List.getD [([],[0]),([],[0,6,7]),([],[0,6,7,8]),([],[0,3,6,7]),([],[0,3,4,6,7]),([],[0,6,7,31]),([],[2]),([],[0,6,7]),([],[2])] · ([],[])) 40) = some k49 := by kernel_rfl
theorem r49 : rvsOf Tryz.prog Tryz.f49.results.toList = some [.tmp 2] := by kernel_rfl
/- flange/flangeref22.text -/
abbrev k25_0 : MC :=
 (.seq (.reg [
 mv 5 0,
 mv 6 1,
 ⟨some 7,none,.s2b (.t 6)⟩,
 ⟨some 8,none,.build [(.int .i64 0),(.bool false),(.int .u64 0),.nilSl] [(0,1,(.t 5)),(1,1,(.c (.bool true))),(3,1,(.t 7))]⟩,
 ⟨none,none,.store 4 (.t 4) (.t 8)⟩] [4]) (.ret))
abbrev k25 : MC :=
 (.seq (.reg [
 ⟨some 4,none,.zalloc [(.int .i64 0),(.bool false),(.int .u64 0),.nilSl]⟩] [0,1,4]) k25_0)
theorem c25 : Tryz.f25.body.bind (mcOf Tryz.prog (List.contains [] ·) (List.getD [([],[0,1,4]),([],[4])] · ([],[])) 9) = some k25 := by kernel_rfl
theorem r25 : rvsOf Tryz.prog Tryz.f25.results.toList = some [.cell 4 true 4] := by kernel_rfl
/- bytes.Equal -/
abbrev k31_0 : MC :=
 (.seq (.reg [
 mv 5 0,
 vl 6 (.b2s (.t 5)),
 mv 7 1,
 vl 8 (.b2s (.t 7)),
 vl 9 (.bin .eql .num (.t 6) (.t 8)),
 mv 4 9] [4]) (.ret))
abbrev k31 : MC :=
 (.seq (.reg [
 vl 4 (.mv (.c (.bool false)))] [0,1]) k31_0)
theorem c31 : Tryz.f31.body.bind (mcOf Tryz.prog (List.contains [] ·) (List.getD [([],[0,1]),([],[4])] · ([],[])) 10) = some k31 := by kernel_rfl
theorem r31 : rvsOf Tryz.prog Tryz.f31.results.toList = some [.tmp 4] := by kernel_rfl
/- flange/call.Name -/
abbrev k14_0 : MC :=
 .cond (.t 8) ((.seq (.reg [
 vl 2 (.mv (.c (.str [])))] [2]) (.ret))) (.skip)
abbrev k14_1 : MC :=
 (.seq (.reg [
 ⟨some 9,none,.build [(.str []),(.str []),(.str []),(.str []),(.str []),(.str []),(.str []),(.str [])] [(0,1,(.c (.str []))),(1,1,(.c (.str [115,99,104,101,109,97]))),(2,1,(.c (.str [118,97,108,105,100,97,116,101]))),(3,1,(.c (.str [112,108,97,110]))),(4,1,(.c (.str [97,112,112,108,121]))),(5,1,(.c (.str [114,101,97,100]))),(6,1,(.c (.str [105,109,112,111,114,116]))),(7,1,(.c (.str [117,112,103,114,97,100,101])))]⟩,
 mv 10 0,
 vl 11 (.aidx false 1 8 (.t 9) (.t 10)),
 mv 2 11] [2]) (.ret))
abbrev k14_2 : MC :=
 (.seq ((.seq (.reg [
 mv 3 0,
 vl 4 (.bin .lss .num (.t 3) (.c (.int .i64 1))),
 mv 5 4,
 ⟨some 6,(some (5,false)),.val (.mv (.t 0))⟩,
 ⟨some 7,(some (5,false)),.val (.bin .geq .num (.t 6) (.c (.int .i64 8)))⟩,
 vl 8 (.pick (.t 5) (.c (.bool true)) (.t 7))] [0,8]) k14_0)) k14_1)
abbrev k14 : MC :=
 (.seq (.reg [
 vl 2 (.mv (.c (.str [])))] [0]) k14_2)
theorem c14 : Tryz.f14.body.bind (mcOf Tryz.prog (List.contains [] ·) (List.getD [([],[0]),([],[0,8]),([],[2]),([],[2])] · ([],[])) 12) = some k14 := by kernel_rfl
theorem r14 : rvsOf Tryz.prog Tryz.f14.results.toList = some [.tmp 2] := by kernel_rfl
/- (*flange/call.failure).fail -/
abbrev k48_0 : MC :=
 .cond (.t 8) (.reg [
 mv 9 0,
 mv 10 1,
 vl 11 (.nilc (.t 9)),
 vl 12 (.faddr 0 (.t 11)),
 ⟨none,none,.store 1 (.t 12) (.t 10)⟩] []) (.skip)
abbrev k48 : MC :=
 (.seq (.reg [
 mv 4 0,
 vl 5 (.nilc (.t 4)),
 vl 6 (.faddr 0 (.t 5)),
 vl 7 (.load false 1 (.t 6)),
 vl 8 (.bin .eql .num (.t 7) (.c (.int .i64 0)))] [0,1,8]) k48_0)
theorem c48 : Tryz.f48.body.bind (mcOf Tryz.prog (List.contains [] ·) (List.getD [([],[0,1,8]),([],[])] · ([],[])) 13) = some k48 := by kernel_rfl
theorem r48 : rvsOf Tryz.prog Tryz.f48.results.toList = some [] := by kernel_rfl
/- (*flange/call.failure).when -/
abbrev k17_0 : MC :=
 .cond (.t 6) (.reg [
 mv 7 0,
 mv 8 2,
 ⟨some 9,none,.call 48 [(.t 7),(.t 8)]⟩] []) (.skip)
abbrev k17 : MC :=
 (.seq (.reg [
 mv 6 1] [0,2,6]) k17_0)
theorem c17 : Tryz.f17.body.bind (mcOf Tryz.prog (List.contains [] ·) (List.getD [([],[0,2,6]),([],[])] · ([],[])) 10) = some k17 := by kernel_rfl
theorem r17 : rvsOf Tryz.prog Tryz.f17.results.toList = some [] := by kernel_rfl
def letB (c : UInt8) (i : Nat) : Bool := (decide (97 ≤ c.toNat) && decide (c.toNat ≤ 122)) || (decide (0 < i) && decide (48 ≤ c.toNat) && decide (c.toNat ≤ 57))
def letsB : Nat → List UInt8 → Bool
  | _,[] => true
  | i,c :: l => letB c i && letsB (i + 1) l
def namedB (s : List UInt8) : Bool := letsB 0 s && decide (s ≠ []) && decide (s.length ≤ 20)
theorem letsB_drop (s : List UInt8) (i : Nat) (h : i < s.length) : letsB i (s.drop i) = (letB s[i] i && letsB (i + 1) (s.drop (i + 1))) := by
  rw [List.drop_eq_getElem_cons h,letsB]
theorem letB_iff (c : UInt8) (i : Nat) : letB c i = true ↔ ((97 ≤ c.toNat ∧ c.toNat ≤ 122) ∨ (0 < i ∧ 48 ≤ c.toNat ∧ c.toNat ≤ 57)) := by
  simp only [letB,Bool.or_eq_true,Bool.and_eq_true,decide_eq_true_eq,and_assoc]
theorem named_end {s : List UInt8} : (decide (s ≠ []) && decide (s.length ≤ 20)) = (decide (0 < s.length) && decide (s.length ≤ 20)) := by
  cases s <;> simp
theorem lettered_calls {c : UInt8} {i : Nat} (H : AH) : ACalls Tryz.prog 54 [.int .u8 c.toNat,.int .i64 i] H (fun o H' => o = .ret (.bool (letB c i)) ∧ H' = H) := by
  refine ACalls.drop ?_
  refine acalls Tryz.func54 c54 r54 (by simp [Tryz.ntmps54]) ?_
  repeat' (first|with_reducible refine go0 ?_|(with_reducible refine am_cnd ?_ ?_<;>intro hc<;>try (exfalso;omega))|((first|with_reducible (first|refine go1 ?_|refine vc_intro ?_|refine need_el ?_|refine vlen_a ?_|refine need_by ?_|refine need_lk ?_)|((with_reducible (first|apply gd_not|apply gd_of|apply gq_not|apply gq_of|apply pickB_of))<;>intro hc<;>(try simp -implicitDefEqProofs (disch:=omega) only [go_sem,hc])<;>(try simp only [reduceCtorEq,bD,beq_iff_eq] at hc)<;>(try (exfalso;omega)))|done)<;>(try simp -implicitDefEqProofs (disch:=omega) only [go_sem])))
  all_goals refine end_eq (congrArg V.bool ?_) (AH.le_refl _)
  all_goals first | (simp_all; done) | (rw [Bool.eq_iff_iff]; simp only [letB_iff,Bool.and_eq_true,decide_eq_true_eq,Bool.false_eq_true,eq_self,true_iff,false_iff,iff_true,iff_false,not_and,not_or]; omega) | (simp_all; omega)
theorem rnamed_calls {s : List UInt8} (hs : s.length < 1000000000) (H : AH) : ACalls Tryz.prog 23 [.str s] H (fun o H' => o = .ret (.bool (namedB s)) ∧ H' = H) := by
  refine ACalls.drop ?_
  refine acalls Tryz.func23 c23 r23 (by simp [Tryz.ntmps23]) ?_
  repeat' (first|with_reducible refine go0 ?_|(with_reducible refine am_cnd ?_ ?_<;>intro hc<;>try (exfalso;omega))|((first|with_reducible (first|refine go1 ?_|refine vc_intro ?_|refine need_el ?_|refine vlen_a ?_|refine need_by ?_|refine need_lk ?_)|((with_reducible (first|apply gd_not|apply gd_of|apply gq_not|apply gq_of|apply pickB_of))<;>intro hc<;>(try simp -implicitDefEqProofs (disch:=omega) only [go_sem,hc])<;>(try simp only [reduceCtorEq,bD,beq_iff_eq] at hc)<;>(try (exfalso;omega)))|done)<;>(try simp -implicitDefEqProofs (disch:=omega) only [go_sem])))
  refine am_loop (fun n a H' => ∃ i : Nat,i + n = s.length ∧ a = [(0,.str s),(3,.int .i64 i)] ∧ H' = H ∧ letsB 0 s = letsB i (s.drop i)) ?_ s.length ⟨0,by omega,rfl,rfl,rfl⟩
  rintro n a H' ⟨i,hi,rfl,rfl,hl⟩
  by_cases hlt : i < s.length
  · rw [letsB_drop s i hlt] at hl
    have hlc := fun H => lettered_calls (c := s[i]) (i := i) H
    cases hb : letB s[i] i with
    | true =>
      rw [hb] at hlc hl
      rw [Bool.true_and] at hl
      repeat' (first|with_reducible refine go0 ?_|(with_reducible refine am_cnd ?_ ?_<;>intro hc<;>try (exfalso;omega))|((first|with_reducible (first|refine go1 ?_|refine vc_intro ?_|refine need_el ?_|refine vlen_a ?_|refine need_by ?_|refine call_of (hlc) ?_|refine qcall_of (hlc) ?_|refine need_lk ?_)|((with_reducible (first|apply gd_not|apply gd_of|apply gq_not|apply gq_of|apply pickB_of))<;>intro hc<;>(try simp -implicitDefEqProofs (disch:=omega) only [go_sem,hc,wrap_id,get_of_lt hlt,Bool.not_true])<;>(try simp only [reduceCtorEq,bD,beq_iff_eq] at hc)<;>(try (exfalso;omega)))|done)<;>(try simp -implicitDefEqProofs (disch:=omega) only [go_sem,wrap_id,get_of_lt hlt,Bool.not_true])))
      all_goals exact ⟨n - 1,by omega,i + 1,by omega,rfl,hl⟩
    | false =>
      rw [hb] at hlc hl
      rw [Bool.false_and] at hl
      rw [namedB,hl]
      repeat' (first|with_reducible refine go0 ?_|(with_reducible refine am_cnd ?_ ?_<;>intro hc<;>try (exfalso;omega))|((first|with_reducible (first|refine go1 ?_|refine vc_intro ?_|refine need_el ?_|refine vlen_a ?_|refine need_by ?_|refine call_of (hlc) ?_|refine qcall_of (hlc) ?_|refine need_lk ?_)|((with_reducible (first|apply gd_not|apply gd_of|apply gq_not|apply gq_of|apply pickB_of))<;>intro hc<;>(try simp -implicitDefEqProofs (disch:=omega) only [go_sem,hc,wrap_id,get_of_lt hlt,Bool.not_false])<;>(try simp only [reduceCtorEq,bD,beq_iff_eq] at hc)<;>(try (exfalso;omega)))|done)<;>(try simp -implicitDefEqProofs (disch:=omega) only [go_sem,wrap_id,get_of_lt hlt,Bool.not_false])))
      all_goals exact end_same
  · rw [List.drop_eq_nil_of_le (by omega)] at hl
    have hl : letsB 0 s = true := hl
    rw [namedB,hl,Bool.true_and,named_end]
    repeat' (first|with_reducible refine go0 ?_|(with_reducible refine am_cnd ?_ ?_<;>intro hc<;>try (exfalso;omega))|((first|with_reducible (first|refine go1 ?_|refine vc_intro ?_|refine need_el ?_|refine vlen_a ?_|refine need_by ?_|refine need_lk ?_)|((with_reducible (first|apply gd_not|apply gd_of|apply gq_not|apply gq_of|apply pickB_of))<;>intro hc<;>(try simp -implicitDefEqProofs (disch:=omega) only [go_sem,hc,wrap_id])<;>(try simp only [reduceCtorEq,bD,beq_iff_eq] at hc)<;>(try (exfalso;omega)))|done)<;>(try simp -implicitDefEqProofs (disch:=omega) only [go_sem,wrap_id])))
    all_goals refine end_eq (congrArg V.bool ?_) (AH.le_refl _)
    all_goals first | (simp_all; done) | (rw [Bool.eq_iff_iff]; simp only [letB_iff,Bool.and_eq_true,decide_eq_true_eq,Bool.false_eq_true,eq_self,true_iff,false_iff,iff_true,iff_false,not_and,not_or]; omega) | (simp_all; omega)
theorem named_calls {s : List UInt8} (hs : s.length < 1000000000) (H : AH) : ACalls Tryz.prog 49 [.str s] H (fun o H' => o = .ret (.bool (namedB s)) ∧ H' = H) := by
  refine ACalls.drop ?_
  refine acalls Tryz.func49 c49 r49 (by simp [Tryz.ntmps49]) ?_
  repeat' (first|with_reducible refine go0 ?_|(with_reducible refine am_cnd ?_ ?_<;>intro hc<;>try (exfalso;omega))|((first|with_reducible (first|refine go1 ?_|refine vc_intro ?_|refine need_el ?_|refine vlen_a ?_|refine need_by ?_|refine need_lk ?_)|((with_reducible (first|apply gd_not|apply gd_of|apply gq_not|apply gq_of|apply pickB_of))<;>intro hc<;>(try simp -implicitDefEqProofs (disch:=omega) only [go_sem,hc])<;>(try simp only [reduceCtorEq,bD,beq_iff_eq] at hc)<;>(try (exfalso;omega)))|done)<;>(try simp -implicitDefEqProofs (disch:=omega) only [go_sem])))
  refine am_loop (fun n a H' => ∃ i : Nat,i + n = s.length ∧ a = [(0,.str s),(6,.int .i64 s.length),(7,.int .i64 i)] ∧ H' = H ∧ letsB 0 s = letsB i (s.drop i)) ?_ s.length ⟨0,by omega,rfl,rfl,rfl⟩
  rintro n a H' ⟨i,hi,rfl,rfl,hl⟩
  by_cases hlt : i < s.length
  · rw [letsB_drop s i hlt] at hl
    have hget := get_of_lt hlt
    have hiff := letB_iff s[i] i
    generalize s[i] = c at *
    cases hb : letB c i with
    | true =>
      rw [hb] at hl hiff
      rw [Bool.true_and] at hl
      have hiff := hiff.1 rfl
      repeat' (first|with_reducible refine go0 ?_|(with_reducible refine am_cnd ?_ ?_<;>intro hc<;>try (exfalso;omega))|((first|with_reducible (first|refine go1 ?_|refine vc_intro ?_|refine need_el ?_|refine vlen_a ?_|refine need_by ?_|refine need_lk ?_)|((with_reducible (first|apply gd_not|apply gd_of|apply gq_not|apply gq_of|apply pickB_of))<;>intro hc<;>(try simp -implicitDefEqProofs (disch:=omega) only [go_sem,hc,wrap_id,hget,Bool.not_true])<;>(try simp only [reduceCtorEq,bD,beq_iff_eq] at hc)<;>(try (exfalso;omega)))|done)<;>(try simp -implicitDefEqProofs (disch:=omega) only [go_sem,wrap_id,hget,Bool.not_true])))
      all_goals exact ⟨n - 1,by omega,i + 1,by omega,rfl,hl⟩
    | false =>
      rw [hb] at hl hiff
      rw [Bool.false_and] at hl
      have hiff : ¬ _ := fun h => Bool.false_ne_true (hiff.2 h)
      rw [namedB,hl]
      repeat' (first|with_reducible refine go0 ?_|(with_reducible refine am_cnd ?_ ?_<;>intro hc<;>try (exfalso;omega))|((first|with_reducible (first|refine go1 ?_|refine vc_intro ?_|refine need_el ?_|refine vlen_a ?_|refine need_by ?_|refine need_lk ?_)|((with_reducible (first|apply gd_not|apply gd_of|apply gq_not|apply gq_of|apply pickB_of))<;>intro hc<;>(try simp -implicitDefEqProofs (disch:=omega) only [go_sem,hc,wrap_id,hget,Bool.not_false])<;>(try simp only [reduceCtorEq,bD,beq_iff_eq] at hc)<;>(try (exfalso;omega)))|done)<;>(try simp -implicitDefEqProofs (disch:=omega) only [go_sem,wrap_id,hget,Bool.not_false])))
      all_goals exact end_same
  · rw [List.drop_eq_nil_of_le (by omega)] at hl
    have hl : letsB 0 s = true := hl
    rw [namedB,hl,Bool.true_and]
    repeat' (first|with_reducible refine go0 ?_|(with_reducible refine am_cnd ?_ ?_<;>intro hc<;>try (exfalso;omega))|((first|with_reducible (first|refine go1 ?_|refine vc_intro ?_|refine need_el ?_|refine vlen_a ?_|refine need_by ?_|refine need_lk ?_)|((with_reducible (first|apply gd_not|apply gd_of|apply gq_not|apply gq_of|apply pickB_of))<;>intro hc<;>(try simp -implicitDefEqProofs (disch:=omega) only [go_sem,hc,wrap_id])<;>(try simp only [reduceCtorEq,bD,beq_iff_eq] at hc)<;>(try (exfalso;omega)))|done)<;>(try simp -implicitDefEqProofs (disch:=omega) only [go_sem,wrap_id])))
    all_goals refine end_eq (congrArg V.bool ?_) (AH.le_refl _)
    all_goals first | (simp_all; done) | (rw [Bool.eq_iff_iff]; simp only [letB_iff,Bool.and_eq_true,decide_eq_true_eq,Bool.false_eq_true,eq_self,true_iff,false_iff,iff_true,iff_false,not_and,not_or]; omega) | (simp_all; omega)
theorem rtext_calls {t : Int} {s : List UInt8} (hs : s.length < 1000000000) (H : AH) : ACalls Tryz.prog 25 [.int .i64 t,.str s] H (fun o H' => o = .ret (.agg (fldC ⟨t,true,0,s⟩)) ∧ H' = H) := by
  refine ACalls.drop ?_
  refine acalls Tryz.func25 c25 r25 (by simp [Tryz.ntmps25]) ?_
  repeat' (first|with_reducible refine go0 ?_|(with_reducible refine am_cnd ?_ ?_<;>intro hc<;>try (exfalso;omega))|((first|with_reducible (first|refine go1 ?_|refine vc_intro ?_|refine need_el ?_|refine vlen_a ?_|refine need_by ?_|refine need_lk ?_)|((with_reducible refine alloc_intro (fun ko hko=>?_))<;>(try have hne:=fresh_ne (by assumption) hko)<;>(try simp only [AH.put_none] at hko))|done)<;>(try simp -implicitDefEqProofs (disch:=omega) only [go_sem])))
  all_goals exact drop_end (fun _ _ h => h) (AH.le_put (AH.le_refl _) hko _)
theorem beq_calls {s t : List UInt8} {k k2 : Tok} (H : AH) : ACalls Tryz.prog 31 [.sl 1 (byteCells s) k,.sl 1 (byteCells t) k2] H (fun o H' => o = .ret (.bool (decide (s = t))) ∧ H' = H) := by
  refine ACalls.drop ?_
  refine acalls Tryz.func31 c31 r31 (by simp [Tryz.ntmps31]) ?_
  repeat' (first|with_reducible refine go0 ?_|(with_reducible refine am_cnd ?_ ?_<;>intro hc<;>try (exfalso;omega))|((first|with_reducible (first|refine go1 ?_|refine vc_intro ?_|refine need_el ?_|refine vlen_a ?_|refine need_by ?_|refine need_lk ?_)|done)<;>(try simp -implicitDefEqProofs (disch:=omega) only [go_sem])))
  all_goals (refine drop_end (by (first | exact fun _ _ h => h | (intro s x h; first | exact no_sub _ h | exact nil_no _ h | exact AccP.sub (by assumption) _ _ h | (refine agg_sub rfl ?_ x h; repeat (first | exact .nil | refine .cons (fun _ h => h) ?_ | refine .cons (fun _ h => nil_no _ h) ?_ | refine .cons (fun _ h => no_sub _ h) ?_ | refine .cons (fun _ h => AccP.sub (by assumption) _ _ h) ?_)) | (refine tuple_sub ?_ x h; repeat (first | exact .nil | refine .cons (fun _ h => h) ?_ | refine .cons (fun _ h => nil_no _ h) ?_ | refine .cons (fun _ h => no_sub _ h) ?_ | refine .cons (fun _ h => AccP.sub (by assumption) _ _ h) ?_ | refine .cons (fun _ h => agg_sub rfl (by repeat (first | exact .nil | refine .cons (fun _ h => h) ?_ | refine .cons (fun _ h => nil_no _ h) ?_ | refine .cons (fun _ h => no_sub _ h) ?_ | refine .cons (fun _ h => AccP.sub (by assumption) _ _ h) ?_)) _ h) ?_))))) (by (repeat (first | exact AH.le_refl _ | assumption | exact AccP.le (by assumption) | refine AH.le_put ?_ (by first | assumption | exact none_of_le (by assumption) (by assumption) | exact And.right (by assumption) | exact And.right (And.right (by assumption))) _ | refine AH.le_trans ?_ (AccP.le (by assumption))))))
def nameS (n : Int) : List UInt8 := if n = 1 then [115,99,104,101,109,97] else if n = 2 then [118,97,108,105,100,97,116,101] else if n = 3 then [112,108,97,110] else if n = 4 then [97,112,112,108,121] else if n = 5 then [114,101,97,100] else if n = 6 then [105,109,112,111,114,116] else if n = 7 then [117,112,103,114,97,100,101] else []
theorem name_calls {n : Int} (H : AH) : ACalls Tryz.prog 14 [.int .i64 n] H (fun o H' => o = .ret (.str (nameS n)) ∧ H' = H) := by
  refine ACalls.drop ?_
  refine acalls Tryz.func14 c14 r14 (by simp [Tryz.ntmps14]) ?_
  by_cases h : 1 ≤ n ∧ n ≤ 7
  · obtain rfl | rfl | rfl | rfl | rfl | rfl | rfl : n = 1 ∨ n = 2 ∨ n = 3 ∨ n = 4 ∨ n = 5 ∨ n = 6 ∨ n = 7 := by omega
    all_goals repeat' (first|with_reducible refine go0 ?_|(with_reducible refine am_cnd ?_ ?_<;>intro hc<;>try (exfalso;omega))|((first|with_reducible (first|refine go1 ?_|refine vc_intro ?_|refine need_el ?_|refine vlen_a ?_|refine need_by ?_|refine need_lk ?_)|((with_reducible (first|apply gd_not|apply gd_of|apply gq_not|apply gq_of|apply pickB_of))<;>intro hc<;>(try simp -implicitDefEqProofs (disch:=omega) only [go_sem,hc])<;>(try simp only [reduceCtorEq,bD,beq_iff_eq] at hc)<;>(try (exfalso;omega)))|done)<;>(try simp -implicitDefEqProofs (disch:=omega) only [go_sem])))
    all_goals exact end_same
  · have e : nameS n = [] := by unfold nameS; repeat (first | rfl | (rw [if_neg (by omega)]))
    rw [e]
    by_cases h1 : n < 1
    · repeat' (first|with_reducible refine go0 ?_|(with_reducible refine am_cnd ?_ ?_<;>intro hc<;>try (exfalso;omega))|((first|with_reducible (first|refine go1 ?_|refine vc_intro ?_|refine need_el ?_|refine vlen_a ?_|refine need_by ?_|refine need_lk ?_)|((with_reducible (first|apply gd_not|apply gd_of|apply gq_not|apply gq_of|apply pickB_of))<;>intro hc<;>(try simp -implicitDefEqProofs (disch:=omega) only [go_sem,hc,h1])<;>(try simp only [reduceCtorEq,bD,beq_iff_eq] at hc)<;>(try (exfalso;omega)))|done)<;>(try simp -implicitDefEqProofs (disch:=omega) only [go_sem,h1])))
      all_goals exact end_same
    · have h2 : (8 : Int) ≤ n := by omega
      repeat' (first|with_reducible refine go0 ?_|(with_reducible refine am_cnd ?_ ?_<;>intro hc<;>try (exfalso;omega))|((first|with_reducible (first|refine go1 ?_|refine vc_intro ?_|refine need_el ?_|refine vlen_a ?_|refine need_by ?_|refine need_lk ?_)|((with_reducible (first|apply gd_not|apply gd_of|apply gq_not|apply gq_of|apply pickB_of))<;>intro hc<;>(try simp -implicitDefEqProofs (disch:=omega) only [go_sem,hc,h1,h2])<;>(try simp only [reduceCtorEq,bD,beq_iff_eq] at hc)<;>(try (exfalso;omega)))|done)<;>(try simp -implicitDefEqProofs (disch:=omega) only [go_sem,h1,h2])))
      all_goals exact end_same
end Go.Proofs.YtkldmgnhbomknaaGreat
/- Requests: the writer. -/
namespace Go.Proofs.YtkldmgnhbomknaaGreat
open Go.Vm
attribute [local go_sem] eq_self decide_true decide_false AH.put_ne
attribute [local go_sem_proc] Nat.reduceBEq Nat.reduceAdd Nat.reduceSub Nat.reduceMul Nat.reduceEqDiff Nat.reduceLeDiff Nat.reduceLT Int.reduceLE Int.reduceLT Int.reduceToNat Int.reduceAdd Int.reduceEq Int.reduceNeg
attribute [local go_sem] vE_length byteCells_length byteCells_get bytes_cells bytesOf_cells fldC fldsE_get fldsE_length List.drop_zero toNat_succ Nat.sub_zero Int.toNat_natCast Option.map_some Int.natCast_nonneg decide_eq_true_eq decide_eq_false_iff_not
/- (*flange/call.writer).number -/
abbrev k19 : MC :=
 .drw [
 mv 6 0,
 mv 7 0,
 vl 8 (.nilc (.t 7)),
 vl 9 (.faddr 1 (.t 8)),
 vl 10 (.load false 1 (.t 9)),
 mv 11 1,
 mv 12 2,
 vl 13 (.i2i .u64 (.t 12)),
 ⟨some 14,none,.call 50 [(.t 11),(.t 13)]⟩,
 ⟨some 15,none,.bslice 4 1 [(.int .i64 0),(.bool false),(.int .u64 0),.nilSl] [(0,4,(.t 14))]⟩,
 vl 17 (.nilc (.t 6)),
 vl 18 (.faddr 1 (.t 17))] [
 ⟨some 16,none,.app 4 48 (.t 10) (.t 15)⟩,
 ⟨none,none,.store 1 (.t 18) (.t 16)⟩] []
theorem c19 : Tryz.f19.body.bind (mcOf Tryz.prog (List.contains [] ·) (List.getD [([0,0,0,0,0,0,0,0,0,0,2,0,0,2],[])] · ([],[])) 19) = some k19 := by kernel_rfl
theorem r19 : rvsOf Tryz.prog Tryz.f19.results.toList = some [] := by kernel_rfl
/- (*flange/call.writer).bytes -/
abbrev k20 : MC :=
 .drw [
 mv 6 0,
 mv 7 0,
 vl 8 (.nilc (.t 7)),
 vl 9 (.faddr 1 (.t 8)),
 vl 10 (.load false 1 (.t 9)),
 mv 11 1,
 mv 12 2,
 ⟨some 13,none,.call 51 [(.t 11),(.t 12)]⟩,
 ⟨some 14,none,.bslice 4 1 [(.int .i64 0),(.bool false),(.int .u64 0),.nilSl] [(0,4,(.t 13))]⟩,
 vl 16 (.nilc (.t 6)),
 vl 17 (.faddr 1 (.t 16))] [
 ⟨some 15,none,.app 4 48 (.t 10) (.t 14)⟩,
 ⟨none,none,.store 1 (.t 17) (.t 15)⟩] []
theorem c20 : Tryz.f20.body.bind (mcOf Tryz.prog (List.contains [] ·) (List.getD [([0,0,0,0,0,0,0,0,0,2,0,0,2],[])] · ([],[])) 18) = some k20 := by kernel_rfl
theorem r20 : rvsOf Tryz.prog Tryz.f20.results.toList = some [] := by kernel_rfl
/- (*flange/call.writer).value -/
abbrev k21_0 : MC :=
 .reg [
 mv 19 0,
 mv 20 1,
 mv 21 6,
 ⟨some 22,none,.call 20 [(.t 19),(.t 20),(.t 21)]⟩] []
abbrev k21_1 : MC :=
 (.seq (.reg [
 mv 13 0,
 vl 14 (.nilc (.t 13)),
 vl 15 (.faddr 0 (.t 14)),
 mv 16 7,
 vl 17 (.bin .neq .num (.t 16) (.c (.int .i64 0))),
 ⟨some 18,none,.call 17 [(.t 15),(.t 17),(.c (.int .i64 3))]⟩] [0,1,6]) k21_0)
abbrev k21_2 : MC :=
 (.seq (.reg [
 vl 9 (.load true 1 (.t 5)),
 ⟨some 10,none,.call 52 [(.t 9)]⟩,
 mv 8 10,
 vl 11 (.ext (.t 8) 0),
 vl 12 (.ext (.t 8) 1),
 mv 6 11,
 mv 7 12] [0,1,6,7]) k21_1)
abbrev k21 : MC :=
 (.seq (.reg [
 ⟨some 5,none,.boxi (.t 2)⟩] [0,1,5]) k21_2)
theorem c21 : Tryz.f21.body.bind (mcOf Tryz.prog (List.contains [5] ·) (List.getD [([],[0,1,5]),([],[0,1,6,7]),([],[0,1,6]),([],[])] · ([],[])) 23) = some k21 := by kernel_rfl
theorem r21 : rvsOf Tryz.prog Tryz.f21.results.toList = some [] := by kernel_rfl
/- (*flange/call.writer).done -/
abbrev k22_0 : MC :=
 .cond (.t 11) ((.seq (.drw [
 mv 12 0,
 vl 13 (.nilc (.t 12)),
 vl 14 (.faddr 0 (.t 13)),
 vl 15 (.faddr 0 (.t 14)),
 vl 16 (.load false 1 (.t 15)),
 vl 2 (.mv (.c .nilSl)),
 mv 3 16] [] [2,3]) (.ret))) (.skip)
abbrev k22_1 : MC :=
 .cond (.t 26) ((.seq (.reg [
 vl 2 (.mv (.c .nilSl)),
 vl 3 (.mv (.c (.int .i64 3)))] [2,3]) (.ret))) (.skip)
abbrev k22_2 : MC :=
 (.seq (.reg [
 mv 27 4,
 mv 2 27,
 vl 3 (.mv (.c (.int .i64 0)))] [2,3]) (.ret))
abbrev k22_3 : MC :=
 (.seq ((.seq (.reg [
 mv 25 5,
 vl 26 (.bin .neq .num (.t 25) (.c (.int .i64 0)))] [4,26]) k22_1)) k22_2)
abbrev k22_4 : MC :=
 (.seq (.reg [
 mv 18 0,
 vl 19 (.nilc (.t 18)),
 vl 20 (.faddr 1 (.t 19)),
 vl 21 (.load false 1 (.t 20)),
 ⟨some 22,none,.call 53 [(.t 21)]⟩,
 mv 17 22,
 vl 23 (.ext (.t 17) 0),
 vl 24 (.ext (.t 17) 1),
 mv 4 23,
 mv 5 24] [4,5]) k22_3)
abbrev k22_5 : MC :=
 (.seq ((.seq (.reg [
 mv 6 0,
 vl 7 (.nilc (.t 6)),
 vl 8 (.faddr 0 (.t 7)),
 vl 9 (.faddr 0 (.t 8)),
 vl 10 (.load false 1 (.t 9)),
 vl 11 (.bin .neq .num (.t 10) (.c (.int .i64 0)))] [0,11]) k22_0)) k22_4)
abbrev k22 : MC :=
 (.seq (.reg [
 vl 2 (.mv (.c .nilSl)),
 vl 3 (.mv (.c (.int .i64 0)))] [0]) k22_5)
theorem c22 : Tryz.f22.body.bind (mcOf Tryz.prog (List.contains [] ·) (List.getD [([],[0]),([],[0,11]),([0,0,0,0,0,0,0],[2,3]),([],[4,5]),([],[4,26]),([],[2,3]),([],[2,3])] · ([],[])) 28) = some k22 := by kernel_rfl
theorem r22 : rvsOf Tryz.prog Tryz.f22.results.toList = some [.tmp 2,.tmp 3] := by kernel_rfl
def un (n : Int) : Nat := (IntKind.u64.wrap n).toNat
theorem wrap_un (n : Int) : IntKind.u64.wrap n = (un n : Int) := by
  have h := u64_wrap n
  unfold un; omega
theorem cfail_calls {H0 H : AH} {kp : Nat} {e x : Int} {l : List Fld} (h0 : H0 kp = none) (hp : Pk H0 kp e l H) : ACalls Tryz.prog 48 [.ptr kp 0,.int .i64 x] H (fun o H' => ∃ v,o = .ret v ∧ Pk H0 kp (if e = 0 then x else e) l H') := by
  obtain ⟨v,hk,hacc⟩ := hp
  refine acalls Tryz.func48 c48 r48 (by simp [Tryz.ntmps48]) ?_
  by_cases he : e = 0
  · rw [if_pos he]
    repeat' (first|with_reducible refine go0 ?_|(with_reducible refine am_cnd ?_ ?_<;>intro hc<;>try (exfalso;omega))|((first|with_reducible (first|refine go1 ?_|refine vc_intro ?_|refine need_el ?_|refine vlen_a ?_|refine need_by ?_|refine need_lk ?_)|done)<;>(try simp -implicitDefEqProofs (disch:=omega) only [go_sem,he])))
    all_goals exact ⟨_,rfl,v,AH.put_same _ _ _,AccP.turn hacc h0 hk _⟩
  · rw [if_neg he]
    repeat' (first|with_reducible refine go0 ?_|(with_reducible refine am_cnd ?_ ?_<;>intro hc<;>try (exfalso;omega))|((first|with_reducible (first|refine go1 ?_|refine vc_intro ?_|refine need_el ?_|refine vlen_a ?_|refine need_by ?_|refine need_lk ?_)|done)<;>(try simp -implicitDefEqProofs (disch:=omega) only [go_sem,he])))
    all_goals exact ⟨_,rfl,v,hk,hacc⟩
theorem when_calls {H0 H : AH} {kp : Nat} {e x : Int} {b : Bool} {l : List Fld} (h0 : H0 kp = none) (hp : Pk H0 kp e l H) : ACalls Tryz.prog 17 [.ptr kp 0,.bool b,.int .i64 x] H (fun o H' => ∃ v,o = .ret v ∧ Pk H0 kp (if b = true then (if e = 0 then x else e) else e) l H') := by
  refine acalls Tryz.func17 c17 r17 (by simp [Tryz.ntmps17]) ?_
  cases b
  · repeat' (first|with_reducible refine go0 ?_|(with_reducible refine am_cnd ?_ ?_<;>intro hc<;>try (exfalso;omega))|((first|with_reducible (first|refine go1 ?_|refine vc_intro ?_|refine need_el ?_|refine vlen_a ?_|refine need_by ?_|refine need_lk ?_)|done)<;>(try simp -implicitDefEqProofs (disch:=omega) only [go_sem])))
    all_goals exact ⟨_,rfl,hp⟩
  · repeat' (first|(((with_reducible refine call_ex (cfail_calls h0 hp) (fun w H2 hr=>?_));(try simp -implicitDefEqProofs (disch:=omega) only [go_sem])))|with_reducible refine go0 ?_|(with_reducible refine am_cnd ?_ ?_<;>intro hc<;>try (exfalso;omega))|((first|with_reducible (first|refine go1 ?_|refine vc_intro ?_|refine need_el ?_|refine vlen_a ?_|refine need_by ?_|refine need_lk ?_)|done)<;>(try simp -implicitDefEqProofs (disch:=omega) only [go_sem])))
    all_goals exact ⟨_,rfl,hr⟩
theorem when_no {H : AH} {k : Nat} {x : Int} : ACalls Tryz.prog 17 [.ptr k 0,.bool false,.int .i64 x] H (fun o H' => o = .ret unitV ∧ H' = H) := by
  refine acalls Tryz.func17 c17 r17 (by simp [Tryz.ntmps17]) ?_
  repeat' (first|with_reducible refine go0 ?_|(with_reducible refine am_cnd ?_ ?_<;>intro hc<;>try (exfalso;omega))|((first|with_reducible (first|refine go1 ?_|refine vc_intro ?_|refine need_el ?_|refine vlen_a ?_|refine need_by ?_|refine need_lk ?_)|done)<;>(try simp -implicitDefEqProofs (disch:=omega) only [go_sem])))
  all_goals first | rfl | exact ⟨rfl,rfl⟩
theorem wnum_calls {H0 H : AH} {kp : Nat} {e n t : Int} {l : List Fld} (h0 : H0 kp = none) (hp : Pk H0 kp e l H) (hl : l.length < 1000000000000) :
    ACalls Tryz.prog 19 [.ptr kp 0,.int .i64 t,.int .i64 n] H (fun o H' => ∃ v,o = .ret v ∧ Pk H0 kp e (l ++ [⟨t,false,un n,[]⟩]) H') := by
  obtain ⟨v,hk,hacc⟩ := hp
  have hnc := fun G => num_calls (t := t) (n := un n) G
  simp only [fldC] at hnc
  have hw := wrap_un n
  refine acalls Tryz.func19 c19 r19 (by simp [Tryz.ntmps19]) ?_
  repeat' (first|((with_reducible refine pk_app (f:=⟨t,false,un n,[]⟩) h0 hk hacc hl (fun H2 hp w=>?_)))|with_reducible refine go0 ?_|(with_reducible refine am_cnd ?_ ?_<;>intro hc<;>try (exfalso;omega))|((first|with_reducible (first|refine go1 ?_|refine vc_intro ?_|refine need_el ?_|refine vlen_a ?_|refine need_by ?_|refine call_of (hnc) ?_|refine qcall_of (hnc) ?_|refine need_lk ?_)|((with_reducible refine alloc_intro (fun ko hko=>?_))<;>(try have hne:=fresh_ne (by assumption) hko)<;>(try have hnk:=fresh_ne hk hko)<;>(try simp only [AH.put_none] at hko))|((with_reducible refine vapp_go ?_ (fun v2 H2 hacc hlec=>?_));· simp only [byteCells_length,List.length_cons,List.length_nil,List.length_map,List.length_append,vE_length,fldsE_length,strE_len,rvE_length];omega)|done)<;>(try simp -implicitDefEqProofs (disch:=omega) only [go_sem,hw])))
  all_goals exact ⟨_,rfl,hp⟩
theorem wbytes_calls {H0 H : AH} {kp : Nat} {e t : Int} {b : List UInt8} {k : Tok} {l : List Fld} (h0 : H0 kp = none) (hp : Pk H0 kp e l H) (hb : b.length < 100000000) (hl : l.length < 1000000000000) :
    ACalls Tryz.prog 20 [.ptr kp 0,.int .i64 t,.sl 1 (byteCells b) k] H (fun o H' => ∃ v,o = .ret v ∧ Pk H0 kp e (l ++ [⟨t,true,0,b⟩]) H') := by
  obtain ⟨v,hk,hacc⟩ := hp
  have hnc := fun G => Msg.blob_calls (t := t) (l := b) (k := k) hb G
  simp only [fldC] at hnc
  refine acalls Tryz.func20 c20 r20 (by simp [Tryz.ntmps20]) ?_
  repeat' (first|((with_reducible refine pk_app (f:=⟨t,true,0,b⟩) h0 hk hacc hl (fun H2 hp w=>?_)))|with_reducible refine go0 ?_|(with_reducible refine am_cnd ?_ ?_<;>intro hc<;>try (exfalso;omega))|((first|with_reducible (first|refine go1 ?_|refine vc_intro ?_|refine need_el ?_|refine vlen_a ?_|refine need_by ?_|refine call_of (hnc) ?_|refine qcall_of (hnc) ?_|refine need_lk ?_)|((with_reducible refine alloc_intro (fun ko hko=>?_))<;>(try have hne:=fresh_ne (by assumption) hko)<;>(try have hnk:=fresh_ne hk hko)<;>(try simp only [AH.put_none] at hko))|((with_reducible refine vapp_go ?_ (fun v2 H2 hacc hlec=>?_));· simp only [byteCells_length,List.length_cons,List.length_nil,List.length_map,List.length_append,vE_length,fldsE_length,strE_len,rvE_length];omega)|done)<;>(try simp -implicitDefEqProofs (disch:=omega) only [go_sem])))
  all_goals exact ⟨_,rfl,hp⟩
theorem wvalue_calls {H0 H : AH} {kp g : Nat} {e t : Int} {v : Vl} {m : Rv} {l : List Fld} (h0 : H0 kp = none) (hp : Pk H0 kp e l H) (hg : H0 g = some .nodr) (hs : Sm v m) (ho : v.Ok) (hr : Rg m) (hl : l.length < 1000000000000) :
    ACalls Tryz.prog 21 [.ptr kp 0,.int .i64 t,.agg [vV v]] H (fun o H' => ∃ w,o = .ret w ∧ Pk H0 kp (if (encM m).2 = 0 then e else if e = 0 then 3 else e) (l ++ [⟨t,true,0,(encM m).1⟩]) H') := by
  have ec := enc_ok m hr v hs ho g H (hp.le _ _ hg)
  have hlen := encM_len m
  generalize encM m = x at *
  by_cases hx : x.2 = 0
  · have wc := fun (G : AH) (hp : Pk H0 kp e l G) => when_calls (b := false) (x := 3) h0 hp
    have bc := fun (G : AH) (hp : Pk H0 kp e l G) => wbytes_calls (t := t) (b := x.1) (k := .no) h0 hp (by omega) hl
    rw [if_pos hx]
    simp only [Bool.false_eq_true,if_false] at wc
    refine acalls Tryz.func21 c21 r21 (by simp [Tryz.ntmps21]) ?_
    repeat' (first|(((with_reducible refine call_ex (bc _ hp2) (fun w H3 hp3=>?_));(try simp -implicitDefEqProofs (disch:=omega) only [go_sem])))|(((with_reducible refine call_ex (wc _ hp) (fun w H2 hp2=>?_));(try simp -implicitDefEqProofs (disch:=omega) only [go_sem])))|with_reducible refine go0 ?_|(with_reducible refine am_cnd ?_ ?_<;>intro hc<;>try (exfalso;omega))|((first|with_reducible (first|refine go1 ?_|refine vc_intro ?_|refine need_el ?_|refine vlen_a ?_|refine need_by ?_|refine call_turn (ec) ?_|refine need_lk ?_)|((with_reducible refine alloc_intro (fun ko hko=>?_))<;>(try have hne:=fresh_ne (by assumption) hko)<;>(try simp only [AH.put_none] at hko))|done)<;>(try simp -implicitDefEqProofs (disch:=omega) only [go_sem,hx])))
    all_goals exact ⟨_,rfl,hp3⟩
  · have wc := fun (G : AH) (hp : Pk H0 kp e l G) => when_calls (b := true) (x := 3) h0 hp
    have bc := fun (G : AH) (hp : Pk H0 kp (if e = 0 then 3 else e) l G) => wbytes_calls (t := t) (b := x.1) (k := .no) h0 hp (by omega) hl
    rw [if_neg hx]
    simp only [if_true] at wc
    refine acalls Tryz.func21 c21 r21 (by simp [Tryz.ntmps21]) ?_
    repeat' (first|(((with_reducible refine call_ex (bc _ hp2) (fun w H3 hp3=>?_));(try simp -implicitDefEqProofs (disch:=omega) only [go_sem])))|(((with_reducible refine call_ex (wc _ hp) (fun w H2 hp2=>?_));(try simp -implicitDefEqProofs (disch:=omega) only [go_sem])))|with_reducible refine go0 ?_|(with_reducible refine am_cnd ?_ ?_<;>intro hc<;>try (exfalso;omega))|((first|with_reducible (first|refine go1 ?_|refine vc_intro ?_|refine need_el ?_|refine vlen_a ?_|refine need_by ?_|refine call_turn (ec) ?_|refine need_lk ?_)|((with_reducible refine alloc_intro (fun ko hko=>?_))<;>(try have hne:=fresh_ne (by assumption) hko)<;>(try simp only [AH.put_none] at hko))|done)<;>(try simp -implicitDefEqProofs (disch:=omega) only [go_sem,hx,Bool.not_false])))
    all_goals exact ⟨_,rfl,hp3⟩
def doneS (e : Int) (l : List Fld) : List UInt8 × Int := if e ≠ 0 then ([],e) else if (Vm.encS l).2 ≠ 0 then ([],3) else ((Vm.encS l).1,0)
theorem wdone_calls {H0 H : AH} {kp : Nat} {e : Int} {l : List Fld} (hp : Pk H0 kp e l H) (hl : l.length < 100000000) (ho : ∀ f ∈ l,f.n < 18446744073709551616 ∧ f.b.length < 10000000) :
    ACalls Tryz.prog 22 [.ptr kp 0] H (fun o H' => o = .ret (.tuple [.sl 1 (byteCells (doneS e l).1) .no,.int .i64 (doneS e l).2]) ∧ H' = H) := by
  obtain ⟨v,hk,hacc⟩ := hp
  have hac : ∀ G,ACalls Tryz.prog 53 [v] G (fun o H' => o = .ret (.tuple [.sl 1 (byteCells (Vm.encS l).1) .no,.int .i64 (Vm.encS l).2]) ∧ H' = G) := fun G => ACalls.sub (fun s => .cons (AccP.sub hacc s) .nil) (Msg.encode_calls (l := l) (t := .no) hl ho G)
  refine ACalls.drop ?_
  refine acalls Tryz.func22 c22 r22 (by simp [Tryz.ntmps22]) ?_
  unfold doneS
  by_cases he : e = 0
  · subst he
    rw [if_neg (by simp)]
    generalize Vm.encS l = z at *
    by_cases hz : z.2 = 0
    · rw [if_neg (by simp [hz])]
      repeat' (first|with_reducible refine go0 ?_|(with_reducible refine am_cnd ?_ ?_<;>intro hc<;>try (exfalso;omega))|((first|with_reducible (first|refine go1 ?_|refine vc_intro ?_|refine need_el ?_|refine vlen_a ?_|refine need_by ?_|refine call_of (hac) ?_|refine qcall_of (hac) ?_|refine need_lk ?_)|done)<;>(try simp -implicitDefEqProofs (disch:=omega) only [go_sem,hz])))
      all_goals exact drop_end (by (first | exact fun _ _ h => h | (intro s x h; first | exact no_sub _ h | exact nil_no _ h | exact AccP.sub (by assumption) _ _ h | (refine agg_sub rfl ?_ x h; repeat (first | exact .nil | refine .cons (fun _ h => h) ?_ | refine .cons (fun _ h => nil_no _ h) ?_ | refine .cons (fun _ h => no_sub _ h) ?_ | refine .cons (fun _ h => AccP.sub (by assumption) _ _ h) ?_)) | (refine tuple_sub ?_ x h; repeat (first | exact .nil | refine .cons (fun _ h => h) ?_ | refine .cons (fun _ h => nil_no _ h) ?_ | refine .cons (fun _ h => no_sub _ h) ?_ | refine .cons (fun _ h => AccP.sub (by assumption) _ _ h) ?_ | refine .cons (fun _ h => agg_sub rfl (by repeat (first | exact .nil | refine .cons (fun _ h => h) ?_ | refine .cons (fun _ h => nil_no _ h) ?_ | refine .cons (fun _ h => no_sub _ h) ?_ | refine .cons (fun _ h => AccP.sub (by assumption) _ _ h) ?_)) _ h) ?_))))) (AH.le_refl _)
    · rw [if_pos hz]
      repeat' (first|with_reducible refine go0 ?_|(with_reducible refine am_cnd ?_ ?_<;>intro hc<;>try (exfalso;omega))|((first|with_reducible (first|refine go1 ?_|refine vc_intro ?_|refine need_el ?_|refine vlen_a ?_|refine need_by ?_|refine call_of (hac) ?_|refine qcall_of (hac) ?_|refine need_lk ?_)|done)<;>(try simp -implicitDefEqProofs (disch:=omega) only [go_sem,hz])))
      all_goals exact drop_end (by (first | exact fun _ _ h => h | (intro s x h; first | exact no_sub _ h | exact nil_no _ h | exact AccP.sub (by assumption) _ _ h | (refine agg_sub rfl ?_ x h; repeat (first | exact .nil | refine .cons (fun _ h => h) ?_ | refine .cons (fun _ h => nil_no _ h) ?_ | refine .cons (fun _ h => no_sub _ h) ?_ | refine .cons (fun _ h => AccP.sub (by assumption) _ _ h) ?_)) | (refine tuple_sub ?_ x h; repeat (first | exact .nil | refine .cons (fun _ h => h) ?_ | refine .cons (fun _ h => nil_no _ h) ?_ | refine .cons (fun _ h => no_sub _ h) ?_ | refine .cons (fun _ h => AccP.sub (by assumption) _ _ h) ?_ | refine .cons (fun _ h => agg_sub rfl (by repeat (first | exact .nil | refine .cons (fun _ h => h) ?_ | refine .cons (fun _ h => nil_no _ h) ?_ | refine .cons (fun _ h => no_sub _ h) ?_ | refine .cons (fun _ h => AccP.sub (by assumption) _ _ h) ?_)) _ h) ?_))))) (AH.le_refl _)
  · rw [if_pos he]
    repeat' (first|with_reducible refine go0 ?_|(with_reducible refine am_cnd ?_ ?_<;>intro hc<;>try (exfalso;omega))|((first|with_reducible (first|refine go1 ?_|refine vc_intro ?_|refine need_el ?_|refine vlen_a ?_|refine need_by ?_|refine call_of (hac) ?_|refine qcall_of (hac) ?_|refine need_lk ?_)|done)<;>(try simp -implicitDefEqProofs (disch:=omega) only [go_sem,he])))
    all_goals exact drop_end (by (first | exact fun _ _ h => h | (intro s x h; first | exact no_sub _ h | exact nil_no _ h | exact AccP.sub (by assumption) _ _ h | (refine agg_sub rfl ?_ x h; repeat (first | exact .nil | refine .cons (fun _ h => h) ?_ | refine .cons (fun _ h => nil_no _ h) ?_ | refine .cons (fun _ h => no_sub _ h) ?_ | refine .cons (fun _ h => AccP.sub (by assumption) _ _ h) ?_)) | (refine tuple_sub ?_ x h; repeat (first | exact .nil | refine .cons (fun _ h => h) ?_ | refine .cons (fun _ h => nil_no _ h) ?_ | refine .cons (fun _ h => no_sub _ h) ?_ | refine .cons (fun _ h => AccP.sub (by assumption) _ _ h) ?_ | refine .cons (fun _ h => agg_sub rfl (by repeat (first | exact .nil | refine .cons (fun _ h => h) ?_ | refine .cons (fun _ h => nil_no _ h) ?_ | refine .cons (fun _ h => no_sub _ h) ?_ | refine .cons (fun _ h => AccP.sub (by assumption) _ _ h) ?_)) _ h) ?_))))) (AH.le_refl _)
end Go.Proofs.YtkldmgnhbomknaaGreat
